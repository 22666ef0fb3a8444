/- The types of this program, as a table for the abstract machine. Printed by wip/tables.py. -/
import Derived.Test.YtjgpiclllehgmaaGreatRows
import Derived.Test.YtjgpiclllehgmaaGreatM4
set_option linter.unusedSimpArgs false
set_option linter.unusedVariables false
namespace Go.Proofs.YtjgpiclllehgmaaGreat.Vm
open Go Go.Proofs
set_option maxRecDepth 100000
def ti1:Option TI:=some {k:=.func,agg:=false,size:=1,bytes:=8,zero:=some (.nilFunc)}
theorem Zsd:Zx Tryz.prog 1=ti1:=by kernel_rfl
def ti3:Option TI:=some {k:=.int .i64,agg:=false,size:=1,bytes:=8,zero:=some (.int .i64 0)}
theorem Zsc:Zx Tryz.prog 3=ti3:=by kernel_rfl
theorem Zsa:Tryz.prog.underlying 3=some (.int .i64):=by kernel_rfl
def ti4:Option TI:=some {k:=.bool,agg:=false,size:=1,bytes:=1,zero:=some (.bool false)}
theorem Zsb:Zx Tryz.prog 4=ti4:=by kernel_rfl
theorem Zr9:Tryz.prog.underlying 4=some (.bool):=by kernel_rfl
def Ztn:Option TI:=some {k:=.slice 113 2 32,agg:=false,size:=1,bytes:=24,zero:=some (.slice none 0 0)}
theorem ZpT:Zx Tryz.prog 22=Ztn:=by kernel_rfl
theorem Zpu:Tryz.prog.underlying 22=some (.slice 113):=by kernel_rfl
def Ztm:Option TI:=some {k:=.slice 118 3 40,agg:=false,size:=1,bytes:=24,zero:=some (.slice none 0 0)}
theorem ZpS:Zx Tryz.prog 23=Ztm:=by kernel_rfl
theorem Zpt:Tryz.prog.underlying 23=some (.slice 118):=by kernel_rfl
def Ztl:Option TI:=some {k:=.struct [some (0,1,false),some (1,1,false),some (2,1,false),some (3,1,false),some (4,1,false)],agg:=true,size:=5,bytes:=88,zero:=some (.agg #[.slice none 0 0,.slice none 0 0,.slice none 0 0,.int .i64 0,.int .i64 0])}
theorem ZpR:Zx Tryz.prog 25=Ztl:=by kernel_rfl
def Ztk:Option TI:=some {k:=.slice 121 2 16,agg:=false,size:=1,bytes:=24,zero:=some (.slice none 0 0)}
theorem ZpQ:Zx Tryz.prog 26=Ztk:=by kernel_rfl
theorem Zps:Tryz.prog.underlying 26=some (.slice 121):=by kernel_rfl
def Ztj:Option TI:=some {k:=.slice 32 4 32,agg:=false,size:=1,bytes:=24,zero:=some (.slice none 0 0)}
theorem ZpP:Zx Tryz.prog 27=Ztj:=by kernel_rfl
theorem Zpr:Tryz.prog.underlying 27=some (.slice 32):=by kernel_rfl
def Zti:Option TI:=some {k:=.slice 35 3 40,agg:=false,size:=1,bytes:=24,zero:=some (.slice none 0 0)}
theorem ZpO:Zx Tryz.prog 28=Zti:=by kernel_rfl
theorem Zpq:Tryz.prog.underlying 28=some (.slice 35):=by kernel_rfl
def Zth:Option TI:=some {k:=.struct [some (0,5,true),some (5,1,false),some (6,1,false),some (7,1,false)],agg:=true,size:=8,bytes:=160,zero:=some (.agg #[.slice none 0 0,.slice none 0 0,.slice none 0 0,.int .i64 0,.int .i64 0,.slice none 0 0,.slice none 0 0,.slice none 0 0])}
theorem ZpN:Zx Tryz.prog 30=Zth:=by kernel_rfl
def Ztg:Option TI:=some {k:=.struct [some (0,1,false),some (1,1,false),some (2,1,false),some (3,1,false)],agg:=true,size:=4,bytes:=32,zero:=some (.agg #[.int .i64 0,.int .i64 0,.int .i64 0,.int .i64 0])}
theorem ZpM:Zx Tryz.prog 32=Ztg:=by kernel_rfl
theorem ZlR:Jz Tryz.prog 32 4=true:=by decide+kernel
def Ztf:Option TI:=some {k:=.slice 3 1 8,agg:=false,size:=1,bytes:=24,zero:=some (.slice none 0 0)}
theorem ZpL:Zx Tryz.prog 33=Ztf:=by kernel_rfl
theorem Zpp:Tryz.prog.underlying 33=some (.slice 3):=by kernel_rfl
def Zte:Option TI:=some {k:=.struct [some (0,1,false),some (1,1,false),some (2,1,false)],agg:=true,size:=3,bytes:=40,zero:=some (.agg #[.int .i64 0,.int .i64 0,.slice none 0 0])}
theorem ZpK:Zx Tryz.prog 35=Zte:=by kernel_rfl
def Ztd:Option TI:=some {k:=.ptr,agg:=false,size:=1,bytes:=8,zero:=some (.pointer none)}
theorem ZpJ:Zx Tryz.prog 38=Ztd:=by kernel_rfl
def Ztc:Option TI:=some {k:=.slice 30 8 160,agg:=false,size:=1,bytes:=24,zero:=some (.slice none 0 0)}
theorem ZpI:Zx Tryz.prog 42=Ztc:=by kernel_rfl
theorem Zpo:Tryz.prog.underlying 42=some (.slice 30):=by kernel_rfl
def Ztb:Option TI:=some {k:=.slice 57 2 16,agg:=false,size:=1,bytes:=24,zero:=some (.slice none 0 0)}
theorem ZpH:Zx Tryz.prog 44=Ztb:=by kernel_rfl
theorem Zpn:Tryz.prog.underlying 44=some (.slice 57):=by kernel_rfl
def Zta:Option TI:=some {k:=.int .i64,agg:=false,size:=1,bytes:=8,zero:=some (.int .i64 0)}
theorem ZpG:Zx Tryz.prog 45=Zta:=by kernel_rfl
theorem Zpm:Tryz.prog.underlying 45=some (.int .i64):=by kernel_rfl
def Zs9:Option TI:=some {k:=.slice 55 1 24,agg:=false,size:=1,bytes:=24,zero:=some (.slice none 0 0)}
theorem ZpF:Zx Tryz.prog 52=Zs9:=by kernel_rfl
theorem Zpl:Tryz.prog.underlying 52=some (.slice 55):=by kernel_rfl
def Zs8:Option TI:=some {k:=.slice 60 3 24,agg:=false,size:=1,bytes:=24,zero:=some (.slice none 0 0)}
theorem ZpE:Zx Tryz.prog 55=Zs8:=by kernel_rfl
theorem Zpk:Tryz.prog.underlying 55=some (.slice 60):=by kernel_rfl
def Zs7:Option TI:=some {k:=.struct [some (0,1,false),some (1,1,false)],agg:=true,size:=2,bytes:=16,zero:=some (.agg #[.int .i64 0,.int .i64 0])}
theorem ZpD:Zx Tryz.prog 57=Zs7:=by kernel_rfl
theorem ZlQ:Jz Tryz.prog 57 2=true:=by decide+kernel
def Zs6:Option TI:=some {k:=.struct [some (0,1,false),some (1,1,false),some (2,1,false)],agg:=true,size:=3,bytes:=24,zero:=some (.agg #[.int .i64 0,.int .i64 0,.int .i64 0])}
theorem ZpC:Zx Tryz.prog 60=Zs6:=by kernel_rfl
theorem ZlP:Jz Tryz.prog 60 3=true:=by decide+kernel
def Zs5:Option TI:=some {k:=.slice 163 3 24,agg:=false,size:=1,bytes:=24,zero:=some (.slice none 0 0)}
theorem ZpB:Zx Tryz.prog 64=Zs5:=by kernel_rfl
theorem Zpj:Tryz.prog.underlying 64=some (.slice 163):=by kernel_rfl
def Zs4:Option TI:=some {k:=.struct [some (0,1,false),some (1,1,false),some (2,1,false),some (3,1,false)],agg:=true,size:=4,bytes:=48,zero:=some (.agg #[.int .i64 0,.int .i64 0,.int .i64 0,.slice none 0 0])}
theorem ZpA:Zx Tryz.prog 66=Zs4:=by kernel_rfl
def Zs3:Option TI:=some {k:=.slice 66 4 48,agg:=false,size:=1,bytes:=24,zero:=some (.slice none 0 0)}
theorem Zpz:Zx Tryz.prog 68=Zs3:=by kernel_rfl
theorem Zpi:Tryz.prog.underlying 68=some (.slice 66):=by kernel_rfl
def Zs2:Option TI:=some {k:=.func,agg:=false,size:=1,bytes:=8,zero:=some (.nilFunc)}
theorem Zpy:Zx Tryz.prog 85=Zs2:=by kernel_rfl
def Zs1:Option TI:=some {k:=.slice 33 1 24,agg:=false,size:=1,bytes:=24,zero:=some (.slice none 0 0)}
theorem Zpx:Zx Tryz.prog 86=Zs1:=by kernel_rfl
theorem Zph:Tryz.prog.underlying 86=some (.slice 33):=by kernel_rfl
def Zs0:Option TI:=some {k:=.struct [some (0,1,false),some (1,1,false),some (2,1,false)],agg:=true,size:=3,bytes:=72,zero:=some (.agg #[.slice none 0 0,.slice none 0 0,.slice none 0 0])}
theorem Zpw:Zx Tryz.prog 88=Zs0:=by kernel_rfl
def ZsZ:Option TI:=some {k:=.slice 88 3 72,agg:=false,size:=1,bytes:=24,zero:=some (.slice none 0 0)}
theorem Zpv:Zx Tryz.prog 96=ZsZ:=by kernel_rfl
theorem Zpg:Tryz.prog.underlying 96=some (.slice 88):=by kernel_rfl
def ZrO:Option TI:=some {k:=.slice 4 1 1,agg:=false,size:=1,bytes:=24,zero:=some (.slice none 0 0)}
theorem ZnE:Zx Tryz.prog 103=ZrO:=by kernel_rfl
theorem ZmI:Tryz.prog.underlying 103=some (.slice 4):=by kernel_rfl
def ZrN:Option TI:=some {k:=.int .u64,agg:=false,size:=1,bytes:=8,zero:=some (.int .u64 0)}
theorem ZnD:Zx Tryz.prog 107=ZrN:=by kernel_rfl
theorem ZmH:Tryz.prog.underlying 107=some (.int .u64):=by kernel_rfl
def ZrM:Option TI:=some {k:=.struct [some (0,1,false)],agg:=true,size:=1,bytes:=8,zero:=some (.agg #[.int .u64 0])}
theorem ZnC:Zx Tryz.prog 109=ZrM:=by kernel_rfl
theorem Zki:Jz Tryz.prog 109 1=true:=by decide+kernel
def ZrL:Option TI:=some {k:=.int .u64,agg:=false,size:=1,bytes:=8,zero:=some (.int .u64 0)}
theorem ZnB:Zx Tryz.prog 110=ZrL:=by kernel_rfl
theorem ZmG:Tryz.prog.underlying 110=some (.int .u64):=by kernel_rfl
def ZrK:Option TI:=some {k:=.slice 199 2 16,agg:=false,size:=1,bytes:=24,zero:=some (.slice none 0 0)}
theorem ZnA:Zx Tryz.prog 111=ZrK:=by kernel_rfl
theorem ZmF:Tryz.prog.underlying 111=some (.slice 199):=by kernel_rfl
def ZrJ:Option TI:=some {k:=.struct [some (0,1,false),some (1,1,false)],agg:=true,size:=2,bytes:=32,zero:=some (.agg #[.int .i64 0,.slice none 0 0])}
theorem Znz:Zx Tryz.prog 113=ZrJ:=by kernel_rfl
def ZrI:Option TI:=some {k:=.slice 196 4 32,agg:=false,size:=1,bytes:=24,zero:=some (.slice none 0 0)}
theorem Zny:Zx Tryz.prog 116=ZrI:=by kernel_rfl
theorem ZmE:Tryz.prog.underlying 116=some (.slice 196):=by kernel_rfl
def ZrH:Option TI:=some {k:=.struct [some (0,1,false),some (1,1,false),some (2,1,false)],agg:=true,size:=3,bytes:=40,zero:=some (.agg #[.int .i64 0,.int .i64 0,.slice none 0 0])}
theorem Znx:Zx Tryz.prog 118=ZrH:=by kernel_rfl
def ZrG:Option TI:=some {k:=.struct [some (0,1,false),some (1,1,false)],agg:=true,size:=2,bytes:=16,zero:=some (.agg #[.int .i64 0,.int .i64 0])}
theorem Znw:Zx Tryz.prog 121=ZrG:=by kernel_rfl
theorem Zkh:Jz Tryz.prog 121 2=true:=by decide+kernel
def ZrF:Option TI:=some {k:=.ptr,agg:=false,size:=1,bytes:=8,zero:=some (.pointer none)}
theorem Znv:Zx Tryz.prog 128=ZrF:=by kernel_rfl
def ZrE:Option TI:=some {k:=.struct [some (0,8,true),some (8,1,false)],agg:=true,size:=9,bytes:=184,zero:=some (.agg #[.slice none 0 0,.slice none 0 0,.slice none 0 0,.int .i64 0,.int .i64 0,.slice none 0 0,.slice none 0 0,.slice none 0 0,.slice none 0 0])}
theorem Znu:Zx Tryz.prog 133=ZrE:=by kernel_rfl
def ZrD:Option TI:=some {k:=.slice 143 3 24,agg:=false,size:=1,bytes:=24,zero:=some (.slice none 0 0)}
theorem Znt:Zx Tryz.prog 134=ZrD:=by kernel_rfl
theorem ZmD:Tryz.prog.underlying 134=some (.slice 143):=by kernel_rfl
def ZrC:Option TI:=some {k:=.func,agg:=false,size:=1,bytes:=8,zero:=some (.nilFunc)}
theorem Zns:Zx Tryz.prog 135=ZrC:=by kernel_rfl
def ZrB:Option TI:=some {k:=.func,agg:=false,size:=1,bytes:=8,zero:=some (.nilFunc)}
theorem Znr:Zx Tryz.prog 136=ZrB:=by kernel_rfl
def ZrA:Option TI:=some {k:=.array 6 1,agg:=true,size:=6,bytes:=48,zero:=some (.agg #[.int .i64 0,.int .i64 0,.int .i64 0,.int .i64 0,.int .i64 0,.int .i64 0])}
theorem Znq:Zx Tryz.prog 139=ZrA:=by kernel_rfl
theorem ZmC:Tryz.prog.underlying 139=some (.array 6 3):=by kernel_rfl
theorem Zkg:Jz Tryz.prog 139 6=true:=by decide+kernel
def Zrz:Option TI:=some {k:=.map,agg:=false,size:=1,bytes:=8,zero:=some (.map none)}
theorem Znp:Zx Tryz.prog 140=Zrz:=by kernel_rfl
theorem ZmB:Tryz.prog.underlying 140=some (.map 147 145):=by kernel_rfl
def Zry:Option TI:=some {k:=.func,agg:=false,size:=1,bytes:=8,zero:=some (.nilFunc)}
theorem Zno:Zx Tryz.prog 141=Zry:=by kernel_rfl
def Zrx:Option TI:=some {k:=.struct [some (0,2,true),some (2,1,false)],agg:=true,size:=3,bytes:=24,zero:=some (.agg #[.int .i64 0,.int .i64 0,.bool false])}
theorem Znn:Zx Tryz.prog 143=Zrx:=by kernel_rfl
def Zrw:Option TI:=some {k:=.struct [some (0,1,false),some (1,1,false),some (2,1,false)],agg:=true,size:=3,bytes:=24,zero:=some (.agg #[.int .i64 0,.int .i64 0,.int .i64 0])}
theorem Znm:Zx Tryz.prog 145=Zrw:=by kernel_rfl
theorem Zkf:Jz Tryz.prog 145 3=true:=by decide+kernel
def Zrv:Option TI:=some {k:=.struct [some (0,1,false),some (1,1,false)],agg:=true,size:=2,bytes:=16,zero:=some (.agg #[.int .i64 0,.int .i64 0])}
theorem Znl:Zx Tryz.prog 147=Zrv:=by kernel_rfl
theorem Zke:Jz Tryz.prog 147 2=true:=by decide+kernel
def Zru:Option TI:=some {k:=.slice 151 3 72,agg:=false,size:=1,bytes:=24,zero:=some (.slice none 0 0)}
theorem Znk:Zx Tryz.prog 148=Zru:=by kernel_rfl
theorem ZmA:Tryz.prog.underlying 148=some (.slice 151):=by kernel_rfl
def Zrt:Option TI:=some {k:=.struct [some (0,1,false),some (1,1,false),some (2,1,false)],agg:=true,size:=3,bytes:=72,zero:=some (.agg #[.slice none 0 0,.slice none 0 0,.slice none 0 0])}
theorem Znj:Zx Tryz.prog 151=Zrt:=by kernel_rfl
def Zrs:Option TI:=some {k:=.struct [some (0,1,false),some (1,1,false),some (2,1,false)],agg:=true,size:=3,bytes:=24,zero:=some (.agg #[.int .i64 0,.int .i64 0,.int .i64 0])}
theorem Zni:Zx Tryz.prog 163=Zrs:=by kernel_rfl
theorem Zkd:Jz Tryz.prog 163 3=true:=by decide+kernel
def Zrr:Option TI:=some {k:=.map,agg:=false,size:=1,bytes:=8,zero:=some (.map none)}
theorem Znh:Zx Tryz.prog 176=Zrr:=by kernel_rfl
theorem Zmz:Tryz.prog.underlying 176=some (.map 139 140):=by kernel_rfl
def Zrq:Option TI:=some {k:=.array 4 1,agg:=true,size:=4,bytes:=4,zero:=some (.agg #[.bool false,.bool false,.bool false,.bool false])}
theorem Zng:Zx Tryz.prog 177=Zrq:=by kernel_rfl
theorem Zmy:Tryz.prog.underlying 177=some (.array 4 4):=by kernel_rfl
def Zrp:Option TI:=some {k:=.func,agg:=false,size:=1,bytes:=8,zero:=some (.nilFunc)}
theorem Znf:Zx Tryz.prog 183=Zrp:=by kernel_rfl
def Zro:Option TI:=some {k:=.func,agg:=false,size:=1,bytes:=8,zero:=some (.nilFunc)}
theorem Zne:Zx Tryz.prog 189=Zro:=by kernel_rfl
def Zrn:Option TI:=some {k:=.struct [some (0,1,false),some (1,1,false),some (2,1,false),some (3,1,false)],agg:=true,size:=4,bytes:=32,zero:=some (.agg #[.int .i64 0,.int .i64 0,.int .i64 0,.int .i64 0])}
theorem Znd:Zx Tryz.prog 196=Zrn:=by kernel_rfl
theorem Zkc:Jz Tryz.prog 196 4=true:=by decide+kernel
def Zrm:Option TI:=some {k:=.struct [some (0,1,false),some (1,1,false)],agg:=true,size:=2,bytes:=16,zero:=some (.agg #[.int .i64 0,.int .i64 0])}
theorem Znc:Zx Tryz.prog 199=Zrm:=by kernel_rfl
theorem Zkb:Jz Tryz.prog 199 2=true:=by decide+kernel
def Zrl:Option TI:=some {k:=.func,agg:=false,size:=1,bytes:=8,zero:=some (.nilFunc)}
theorem Znb:Zx Tryz.prog 201=Zrl:=by kernel_rfl
def Zrk:Option TI:=some {k:=.func,agg:=false,size:=1,bytes:=8,zero:=some (.nilFunc)}
theorem Zna:Zx Tryz.prog 206=Zrk:=by kernel_rfl
def Zrj:Option TI:=some {k:=.func,agg:=false,size:=1,bytes:=8,zero:=some (.nilFunc)}
theorem Zm9:Zx Tryz.prog 207=Zrj:=by kernel_rfl
def Zri:Option TI:=some {k:=.func,agg:=false,size:=1,bytes:=8,zero:=some (.nilFunc)}
theorem Zm8:Zx Tryz.prog 208=Zri:=by kernel_rfl
def Zrh:Option TI:=some {k:=.ptr,agg:=false,size:=1,bytes:=8,zero:=some (.pointer none)}
theorem Zm7:Zx Tryz.prog 211=Zrh:=by kernel_rfl
def Zrg:Option TI:=some {k:=.func,agg:=false,size:=1,bytes:=8,zero:=some (.nilFunc)}
theorem Zm6:Zx Tryz.prog 219=Zrg:=by kernel_rfl
def Zrf:Option TI:=some {k:=.struct [some (0,3,true),some (3,1,false),some (4,1,false)],agg:=true,size:=5,bytes:=72,zero:=some (.agg #[.int .i64 0,.int .i64 0,.slice none 0 0,.int .i64 0,.slice none 0 0])}
theorem Zm5:Zx Tryz.prog 223=Zrf:=by kernel_rfl
def Zre:Option TI:=some {k:=.other,agg:=false,size:=1,bytes:=8,zero:=some (.chan none)}
theorem Zm4:Zx Tryz.prog 226=Zre:=by kernel_rfl
def Zrd:Option TI:=some {k:=.ptr,agg:=false,size:=1,bytes:=8,zero:=some (.pointer none)}
theorem Zm3:Zx Tryz.prog 230=Zrd:=by kernel_rfl
def Zrc:Option TI:=some {k:=.array 6 1,agg:=true,size:=6,bytes:=6,zero:=some (.agg #[.bool false,.bool false,.bool false,.bool false,.bool false,.bool false])}
theorem Zm2:Zx Tryz.prog 236=Zrc:=by kernel_rfl
theorem Zmx:Tryz.prog.underlying 236=some (.array 6 4):=by kernel_rfl
def Zrb:Option TI:=some {k:=.slice 23 1 24,agg:=false,size:=1,bytes:=24,zero:=some (.slice none 0 0)}
theorem Zm1:Zx Tryz.prog 241=Zrb:=by kernel_rfl
theorem Zmw:Tryz.prog.underlying 241=some (.slice 23):=by kernel_rfl
def Zra:Option TI:=some {k:=.func,agg:=false,size:=1,bytes:=8,zero:=some (.nilFunc)}
theorem Zm0:Zx Tryz.prog 244=Zra:=by kernel_rfl
def Zq9:Option TI:=some {k:=.map,agg:=false,size:=1,bytes:=8,zero:=some (.map none)}
theorem ZmZ:Zx Tryz.prog 245=Zq9:=by kernel_rfl
theorem Zmv:Tryz.prog.underlying 245=some (.map 147 3):=by kernel_rfl
def Zq8:Option TI:=some {k:=.func,agg:=false,size:=1,bytes:=8,zero:=some (.nilFunc)}
theorem ZmY:Zx Tryz.prog 246=Zq8:=by kernel_rfl
def Zq7:Option TI:=some {k:=.func,agg:=false,size:=1,bytes:=8,zero:=some (.nilFunc)}
theorem ZmX:Zx Tryz.prog 248=Zq7:=by kernel_rfl
def Zq6:Option TI:=some {k:=.array 3 2,agg:=true,size:=6,bytes:=48,zero:=some (.agg #[.int .i64 0,.int .i64 0,.int .i64 0,.int .i64 0,.int .i64 0,.int .i64 0])}
theorem ZmW:Zx Tryz.prog 252=Zq6:=by kernel_rfl
theorem Zmu:Tryz.prog.underlying 252=some (.array 3 199):=by kernel_rfl
theorem Zka:Jz Tryz.prog 252 6=true:=by decide+kernel
def Zq5:Option TI:=some {k:=.struct [some (0,1,false),some (1,1,false),some (2,6,true)],agg:=true,size:=8,bytes:=64,zero:=some (.agg #[.int .i64 0,.int .i64 0,.int .i64 0,.int .i64 0,.int .i64 0,.int .i64 0,.int .i64 0,.int .i64 0])}
theorem ZmV:Zx Tryz.prog 254=Zq5:=by kernel_rfl
theorem Zj9:Jz Tryz.prog 254 8=true:=by decide+kernel
def Zq4:Option TI:=some {k:=.slice 267 3 24,agg:=false,size:=1,bytes:=24,zero:=some (.slice none 0 0)}
theorem ZmU:Zx Tryz.prog 255=Zq4:=by kernel_rfl
theorem Zmt:Tryz.prog.underlying 255=some (.slice 267):=by kernel_rfl
def Zq3:Option TI:=some {k:=.int .i64,agg:=false,size:=1,bytes:=8,zero:=some (.int .i64 0)}
theorem ZmT:Zx Tryz.prog 259=Zq3:=by kernel_rfl
theorem Zms:Tryz.prog.underlying 259=some (.int .i64):=by kernel_rfl
def Zq2:Option TI:=some {k:=.map,agg:=false,size:=1,bytes:=8,zero:=some (.map none)}
theorem ZmS:Zx Tryz.prog 262=Zq2:=by kernel_rfl
theorem Zmr:Tryz.prog.underlying 262=some (.map 3 4):=by kernel_rfl
def Zq1:Option TI:=some {k:=.struct [some (0,1,false),some (1,1,false),some (2,1,false)],agg:=true,size:=3,bytes:=24,zero:=some (.agg #[.int .i64 0,.int .i64 0,.int .i64 0])}
theorem ZmR:Zx Tryz.prog 267=Zq1:=by kernel_rfl
theorem Zj8:Jz Tryz.prog 267 3=true:=by decide+kernel
def Zq0:Option TI:=some {k:=.slice 272 3 24,agg:=false,size:=1,bytes:=24,zero:=some (.slice none 0 0)}
theorem ZmQ:Zx Tryz.prog 269=Zq0:=by kernel_rfl
theorem Zmq:Tryz.prog.underlying 269=some (.slice 272):=by kernel_rfl
def ZqZ:Option TI:=some {k:=.struct [some (0,1,false),some (1,1,false),some (2,1,false)],agg:=true,size:=3,bytes:=24,zero:=some (.agg #[.int .i64 0,.int .i64 0,.int .i64 0])}
theorem ZmP:Zx Tryz.prog 272=ZqZ:=by kernel_rfl
theorem Zj7:Jz Tryz.prog 272 3=true:=by decide+kernel
def ZqY:Option TI:=some {k:=.func,agg:=false,size:=1,bytes:=8,zero:=some (.nilFunc)}
theorem ZmO:Zx Tryz.prog 274=ZqY:=by kernel_rfl
def Ztp (t : TypeId) : Option TI :=
  bif Z4 t 134 then
   bif Z4 t 57 then
    bif Z4 t 30 then
     bif Z4 t 23 then
      bif Z4 t 3 then
       bif Z4 t 1 then
        bif ZC t 1 then ti1 else none
       else
        bif ZC t 3 then ti3 else none
      else
       bif Z4 t 4 then
        bif ZC t 4 then ti4 else none
       else
        bif Z4 t 22 then
         bif ZC t 22 then Ztn else none
        else
         bif ZC t 23 then Ztm else none
     else
      bif Z4 t 26 then
       bif Z4 t 25 then
        bif ZC t 25 then Ztl else none
       else
        bif ZC t 26 then Ztk else none
      else
       bif Z4 t 27 then
        bif ZC t 27 then Ztj else none
       else
        bif Z4 t 28 then
         bif ZC t 28 then Zti else none
        else
         bif ZC t 30 then Zth else none
    else
     bif Z4 t 42 then
      bif Z4 t 33 then
       bif Z4 t 32 then
        bif ZC t 32 then Ztg else none
       else
        bif ZC t 33 then Ztf else none
      else
       bif Z4 t 35 then
        bif ZC t 35 then Zte else none
       else
        bif Z4 t 38 then
         bif ZC t 38 then Ztd else none
        else
         bif ZC t 42 then Ztc else none
     else
      bif Z4 t 45 then
       bif Z4 t 44 then
        bif ZC t 44 then Ztb else none
       else
        bif ZC t 45 then Zta else none
      else
       bif Z4 t 52 then
        bif ZC t 52 then Zs9 else none
       else
        bif Z4 t 55 then
         bif ZC t 55 then Zs8 else none
        else
         bif ZC t 57 then Zs7 else none
   else
    bif Z4 t 107 then
     bif Z4 t 85 then
      bif Z4 t 64 then
       bif Z4 t 60 then
        bif ZC t 60 then Zs6 else none
       else
        bif ZC t 64 then Zs5 else none
      else
       bif Z4 t 66 then
        bif ZC t 66 then Zs4 else none
       else
        bif Z4 t 68 then
         bif ZC t 68 then Zs3 else none
        else
         bif ZC t 85 then Zs2 else none
     else
      bif Z4 t 88 then
       bif Z4 t 86 then
        bif ZC t 86 then Zs1 else none
       else
        bif ZC t 88 then Zs0 else none
      else
       bif Z4 t 96 then
        bif ZC t 96 then ZsZ else none
       else
        bif Z4 t 103 then
         bif ZC t 103 then ZrO else none
        else
         bif ZC t 107 then ZrN else none
    else
     bif Z4 t 116 then
      bif Z4 t 110 then
       bif Z4 t 109 then
        bif ZC t 109 then ZrM else none
       else
        bif ZC t 110 then ZrL else none
      else
       bif Z4 t 111 then
        bif ZC t 111 then ZrK else none
       else
        bif Z4 t 113 then
         bif ZC t 113 then ZrJ else none
        else
         bif ZC t 116 then ZrI else none
     else
      bif Z4 t 121 then
       bif Z4 t 118 then
        bif ZC t 118 then ZrH else none
       else
        bif ZC t 121 then ZrG else none
      else
       bif Z4 t 128 then
        bif ZC t 128 then ZrF else none
       else
        bif Z4 t 133 then
         bif ZC t 133 then ZrE else none
        else
         bif ZC t 134 then ZrD else none
  else
   bif Z4 t 207 then
    bif Z4 t 151 then
     bif Z4 t 141 then
      bif Z4 t 136 then
       bif Z4 t 135 then
        bif ZC t 135 then ZrC else none
       else
        bif ZC t 136 then ZrB else none
      else
       bif Z4 t 139 then
        bif ZC t 139 then ZrA else none
       else
        bif Z4 t 140 then
         bif ZC t 140 then Zrz else none
        else
         bif ZC t 141 then Zry else none
     else
      bif Z4 t 145 then
       bif Z4 t 143 then
        bif ZC t 143 then Zrx else none
       else
        bif ZC t 145 then Zrw else none
      else
       bif Z4 t 147 then
        bif ZC t 147 then Zrv else none
       else
        bif Z4 t 148 then
         bif ZC t 148 then Zru else none
        else
         bif ZC t 151 then Zrt else none
    else
     bif Z4 t 189 then
      bif Z4 t 176 then
       bif Z4 t 163 then
        bif ZC t 163 then Zrs else none
       else
        bif ZC t 176 then Zrr else none
      else
       bif Z4 t 177 then
        bif ZC t 177 then Zrq else none
       else
        bif Z4 t 183 then
         bif ZC t 183 then Zrp else none
        else
         bif ZC t 189 then Zro else none
     else
      bif Z4 t 199 then
       bif Z4 t 196 then
        bif ZC t 196 then Zrn else none
       else
        bif ZC t 199 then Zrm else none
      else
       bif Z4 t 201 then
        bif ZC t 201 then Zrl else none
       else
        bif Z4 t 206 then
         bif ZC t 206 then Zrk else none
        else
         bif ZC t 207 then Zrj else none
   else
    bif Z4 t 245 then
     bif Z4 t 226 then
      bif Z4 t 211 then
       bif Z4 t 208 then
        bif ZC t 208 then Zri else none
       else
        bif ZC t 211 then Zrh else none
      else
       bif Z4 t 219 then
        bif ZC t 219 then Zrg else none
       else
        bif Z4 t 223 then
         bif ZC t 223 then Zrf else none
        else
         bif ZC t 226 then Zre else none
     else
      bif Z4 t 236 then
       bif Z4 t 230 then
        bif ZC t 230 then Zrd else none
       else
        bif ZC t 236 then Zrc else none
      else
       bif Z4 t 241 then
        bif ZC t 241 then Zrb else none
       else
        bif Z4 t 244 then
         bif ZC t 244 then Zra else none
        else
         bif ZC t 245 then Zq9 else none
    else
     bif Z4 t 255 then
      bif Z4 t 248 then
       bif Z4 t 246 then
        bif ZC t 246 then Zq8 else none
       else
        bif ZC t 248 then Zq7 else none
      else
       bif Z4 t 252 then
        bif ZC t 252 then Zq6 else none
       else
        bif Z4 t 254 then
         bif ZC t 254 then Zq5 else none
        else
         bif ZC t 255 then Zq4 else none
     else
      bif Z4 t 267 then
       bif Z4 t 259 then
        bif ZC t 259 then Zq3 else none
       else
        bif Z4 t 262 then
         bif ZC t 262 then Zq2 else none
        else
         bif ZC t 267 then Zq1 else none
      else
       bif Z4 t 269 then
        bif ZC t 269 then Zq0 else none
       else
        bif Z4 t 272 then
         bif ZC t 272 then ZqZ else none
        else
         bif ZC t 274 then ZqY else none
def Zto (t : TypeId) : Option TypeDesc :=
  bif Z4 t 103 then
   bif Z4 t 42 then
    bif Z4 t 23 then
     bif Z4 t 4 then
      bif Z4 t 3 then
       bif ZC t 3 then some (.int .i64) else none
      else
       bif ZC t 4 then some (.bool) else none
     else
      bif Z4 t 22 then
       bif ZC t 22 then some (.slice 113) else none
      else
       bif ZC t 23 then some (.slice 118) else none
    else
     bif Z4 t 27 then
      bif Z4 t 26 then
       bif ZC t 26 then some (.slice 121) else none
      else
       bif ZC t 27 then some (.slice 32) else none
     else
      bif Z4 t 28 then
       bif ZC t 28 then some (.slice 35) else none
      else
       bif Z4 t 33 then
        bif ZC t 33 then some (.slice 3) else none
       else
        bif ZC t 42 then some (.slice 30) else none
   else
    bif Z4 t 55 then
     bif Z4 t 45 then
      bif Z4 t 44 then
       bif ZC t 44 then some (.slice 57) else none
      else
       bif ZC t 45 then some (.int .i64) else none
     else
      bif Z4 t 52 then
       bif ZC t 52 then some (.slice 55) else none
      else
       bif ZC t 55 then some (.slice 60) else none
    else
     bif Z4 t 68 then
      bif Z4 t 64 then
       bif ZC t 64 then some (.slice 163) else none
      else
       bif ZC t 68 then some (.slice 66) else none
     else
      bif Z4 t 86 then
       bif ZC t 86 then some (.slice 33) else none
      else
       bif Z4 t 96 then
        bif ZC t 96 then some (.slice 88) else none
       else
        bif ZC t 103 then some (.slice 4) else none
  else
   bif Z4 t 176 then
    bif Z4 t 116 then
     bif Z4 t 110 then
      bif Z4 t 107 then
       bif ZC t 107 then some (.int .u64) else none
      else
       bif ZC t 110 then some (.int .u64) else none
     else
      bif Z4 t 111 then
       bif ZC t 111 then some (.slice 199) else none
      else
       bif ZC t 116 then some (.slice 196) else none
    else
     bif Z4 t 139 then
      bif Z4 t 134 then
       bif ZC t 134 then some (.slice 143) else none
      else
       bif ZC t 139 then some (.array 6 3) else none
     else
      bif Z4 t 140 then
       bif ZC t 140 then some (.map 147 145) else none
      else
       bif Z4 t 148 then
        bif ZC t 148 then some (.slice 151) else none
       else
        bif ZC t 176 then some (.map 139 140) else none
   else
    bif Z4 t 245 then
     bif Z4 t 236 then
      bif Z4 t 177 then
       bif ZC t 177 then some (.array 4 4) else none
      else
       bif ZC t 236 then some (.array 6 4) else none
     else
      bif Z4 t 241 then
       bif ZC t 241 then some (.slice 23) else none
      else
       bif ZC t 245 then some (.map 147 3) else none
    else
     bif Z4 t 255 then
      bif Z4 t 252 then
       bif ZC t 252 then some (.array 3 199) else none
      else
       bif ZC t 255 then some (.slice 267) else none
     else
      bif Z4 t 259 then
       bif ZC t 259 then some (.int .i64) else none
      else
       bif Z4 t 262 then
        bif ZC t 262 then some (.map 3 4) else none
       else
        bif ZC t 269 then some (.slice 272) else none
def Ztq (t : TypeId) (n : Nat) : Bool :=
  bif Z4 t 145 then
   bif Z4 t 60 then
    bif Z4 t 32 then
     bif ZC t 32 then ZC n 4 else false
    else
     bif Z4 t 57 then
      bif ZC t 57 then ZC n 2 else false
     else
      bif ZC t 60 then ZC n 3 else false
   else
    bif Z4 t 121 then
     bif Z4 t 109 then
      bif ZC t 109 then ZC n 1 else false
     else
      bif ZC t 121 then ZC n 2 else false
    else
     bif Z4 t 139 then
      bif ZC t 139 then ZC n 6 else false
     else
      bif ZC t 145 then ZC n 3 else false
  else
   bif Z4 t 199 then
    bif Z4 t 163 then
     bif Z4 t 147 then
      bif ZC t 147 then ZC n 2 else false
     else
      bif ZC t 163 then ZC n 3 else false
    else
     bif Z4 t 196 then
      bif ZC t 196 then ZC n 4 else false
     else
      bif ZC t 199 then ZC n 2 else false
   else
    bif Z4 t 254 then
     bif Z4 t 252 then
      bif ZC t 252 then ZC n 6 else false
     else
      bif ZC t 254 then ZC n 8 else false
    else
     bif Z4 t 267 then
      bif ZC t 267 then ZC n 3 else false
     else
      bif ZC t 272 then ZC n 3 else false
def tb:Tb:={ti:=Ztp,un:=Zto,eqs:=Ztq}
theorem Zm {α:Type} {b:Bool} {x y:α} {r:α} {C:Prop} (hx:x=r→C) (hy:y=r→C):(bif b then x else y)=r→C:=fun h=>by
 cases b
 ·exact hy h
 ·exact hx h
theorem Zty {α:Type} {f:Nat→Option α} {t k:Nat} {e:Option α} {i:α} (hk:f k=e):(bif ZC t k then e else none)=some i→f t=some i:=fun h=>by
 cases hb:ZC t k
 ·rw[hb]at h;cases h
 ·rw[hb]at h
  rw[Zz hb]
  exact hk.trans h
theorem Ztx {t k n m:Nat} {C:Nat→Nat→Prop} (hk:C k m):(bif ZC t k then ZC n m else false)=true→C t n:=fun h=>by
 cases hb:ZC t k
 ·rw[hb]at h;cases h
 ·rw[hb]at h
  rw[Zz hb,Zz h]
  exact hk
theorem Xn {t k:Nat} {e:Option TI} {i:TI} (hk:Zx Tryz.prog k=e):(bif ZC t k then e else none)=some i→Zx Tryz.prog t=some i:=Zty hk
theorem lkU {t k:Nat} {e:Option TypeDesc} {i:TypeDesc} (hk:Tryz.prog.underlying k=e):(bif ZC t k then e else none)=some i→Tryz.prog.underlying t=some i:=Zty hk
theorem lkE {t k n m:Nat} (hk:Jz Tryz.prog k m=true):(bif ZC t k then ZC n m else false)=true→Jz Tryz.prog t n=true:=Ztx (C:=fun t n=>Jz Tryz.prog t n=true) hk
theorem ZbI (t:TypeId) (i:TI):Ztp t=some i→Zx Tryz.prog t=some i:=
 (Zm (Zm (Zm (Zm (Zm (Zm (Xn Zsd) (Xn Zsc)) (Zm (Xn Zsb) (Zm (Xn ZpT) (Xn ZpS)))) (Zm (Zm (Xn ZpR) (Xn ZpQ)) (Zm (Xn ZpP) (Zm (Xn ZpO) (Xn ZpN))))) (Zm (Zm (Zm (Xn ZpM) (Xn ZpL)) (Zm (Xn ZpK) (Zm (Xn ZpJ) (Xn ZpI)))) (Zm (Zm (Xn ZpH) (Xn ZpG)) (Zm (Xn ZpF) (Zm (Xn ZpE) (Xn ZpD)))))) (Zm (Zm (Zm (Zm (Xn ZpC) (Xn ZpB)) (Zm (Xn ZpA) (Zm (Xn Zpz) (Xn Zpy)))) (Zm (Zm (Xn Zpx) (Xn Zpw)) (Zm (Xn Zpv) (Zm (Xn ZnE) (Xn ZnD))))) (Zm (Zm (Zm (Xn ZnC) (Xn ZnB)) (Zm (Xn ZnA) (Zm (Xn Znz) (Xn Zny)))) (Zm (Zm (Xn Znx) (Xn Znw)) (Zm (Xn Znv) (Zm (Xn Znu) (Xn Znt))))))) (Zm (Zm (Zm (Zm (Zm (Xn Zns) (Xn Znr)) (Zm (Xn Znq) (Zm (Xn Znp) (Xn Zno)))) (Zm (Zm (Xn Znn) (Xn Znm)) (Zm (Xn Znl) (Zm (Xn Znk) (Xn Znj))))) (Zm (Zm (Zm (Xn Zni) (Xn Znh)) (Zm (Xn Zng) (Zm (Xn Znf) (Xn Zne)))) (Zm (Zm (Xn Znd) (Xn Znc)) (Zm (Xn Znb) (Zm (Xn Zna) (Xn Zm9)))))) (Zm (Zm (Zm (Zm (Xn Zm8) (Xn Zm7)) (Zm (Xn Zm6) (Zm (Xn Zm5) (Xn Zm4)))) (Zm (Zm (Xn Zm3) (Xn Zm2)) (Zm (Xn Zm1) (Zm (Xn Zm0) (Xn ZmZ))))) (Zm (Zm (Zm (Xn ZmY) (Xn ZmX)) (Zm (Xn ZmW) (Zm (Xn ZmV) (Xn ZmU)))) (Zm (Zm (Xn ZmT) (Zm (Xn ZmS) (Xn ZmR))) (Zm (Xn ZmQ) (Zm (Xn ZmP) (Xn ZmO))))))))
theorem ZbH (t:TypeId) (d:TypeDesc):Zto t=some d→Tryz.prog.underlying t=some d:=
 (Zm (Zm (Zm (Zm (Zm (lkU Zsa) (lkU Zr9)) (Zm (lkU Zpu) (lkU Zpt))) (Zm (Zm (lkU Zps) (lkU Zpr)) (Zm (lkU Zpq) (Zm (lkU Zpp) (lkU Zpo))))) (Zm (Zm (Zm (lkU Zpn) (lkU Zpm)) (Zm (lkU Zpl) (lkU Zpk))) (Zm (Zm (lkU Zpj) (lkU Zpi)) (Zm (lkU Zph) (Zm (lkU Zpg) (lkU ZmI)))))) (Zm (Zm (Zm (Zm (lkU ZmH) (lkU ZmG)) (Zm (lkU ZmF) (lkU ZmE))) (Zm (Zm (lkU ZmD) (lkU ZmC)) (Zm (lkU ZmB) (Zm (lkU ZmA) (lkU Zmz))))) (Zm (Zm (Zm (lkU Zmy) (lkU Zmx)) (Zm (lkU Zmw) (lkU Zmv))) (Zm (Zm (lkU Zmu) (lkU Zmt)) (Zm (lkU Zms) (Zm (lkU Zmr) (lkU Zmq)))))))
theorem ZbJ (t n:Nat):Ztq t n=true→Jz Tryz.prog t n=true:=
 (Zm (Zm (Zm (lkE ZlR) (Zm (lkE ZlQ) (lkE ZlP))) (Zm (Zm (lkE Zki) (lkE Zkh)) (Zm (lkE Zkg) (lkE Zkf)))) (Zm (Zm (Zm (lkE Zke) (lkE Zkd)) (Zm (lkE Zkc) (lkE Zkb))) (Zm (Zm (lkE Zka) (lkE Zj9)) (Zm (lkE Zj8) (lkE Zj7)))))
theorem hT:tb.Of ((fun _=>Tryz.prog:Unit→Program) ()):=⟨ZbI,ZbH,ZbJ⟩
theorem hm:((fun _=>Tryz.prog:Unit→Program) ()).follows .mixedOrders=true:=by decide+kernel
def tbF (kp rs:Bool):Tb:={tb with kp,rs}
theorem hTF (kp rs:Bool):(tbF kp rs).Of ((fun _=>Tryz.prog:Unit→Program) ()):=⟨ZbI,ZbH,ZbJ⟩
end Go.Proofs.YtjgpiclllehgmaaGreat.Vm
