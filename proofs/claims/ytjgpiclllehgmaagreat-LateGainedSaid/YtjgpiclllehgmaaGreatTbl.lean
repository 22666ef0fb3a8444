/- The types of this program, as a table for the abstract machine. Printed by wip/tables.py. -/
import Derived.Test.YtjgpiclllehgmaaGreatRows
import Derived.Test.YtjgpiclllehgmaaGreatM4
set_option linter.unusedSimpArgs false
set_option linter.unusedVariables false
namespace Go.Proofs.YtjgpiclllehgmaaGreat.Vm
open Go Go.Proofs
set_option maxRecDepth 100000
def ti1:Option TI:=some {k:=.func,agg:=false,size:=1,bytes:=8,zero:=some (.nilFunc)}
theorem Zsf:Zz Tryz.prog 1=ti1:=by kernel_rfl
def ti3:Option TI:=some {k:=.int .i64,agg:=false,size:=1,bytes:=8,zero:=some (.int .i64 0)}
theorem Zse:Zz Tryz.prog 3=ti3:=by kernel_rfl
theorem Zsc:Tryz.prog.underlying 3=some (.int .i64):=by kernel_rfl
def ti4:Option TI:=some {k:=.bool,agg:=false,size:=1,bytes:=1,zero:=some (.bool false)}
theorem Zsd:Zz Tryz.prog 4=ti4:=by kernel_rfl
theorem Zsb:Tryz.prog.underlying 4=some (.bool):=by kernel_rfl
def Ztp:Option TI:=some {k:=.slice 113 2 32,agg:=false,size:=1,bytes:=24,zero:=some (.slice none 0 0)}
theorem ZpS:Zz Tryz.prog 22=Ztp:=by kernel_rfl
theorem Zpt:Tryz.prog.underlying 22=some (.slice 113):=by kernel_rfl
def Zto:Option TI:=some {k:=.slice 118 3 40,agg:=false,size:=1,bytes:=24,zero:=some (.slice none 0 0)}
theorem ZpR:Zz Tryz.prog 23=Zto:=by kernel_rfl
theorem Zps:Tryz.prog.underlying 23=some (.slice 118):=by kernel_rfl
def Ztn:Option TI:=some {k:=.struct [some (0,1,false),some (1,1,false),some (2,1,false),some (3,1,false),some (4,1,false)],agg:=true,size:=5,bytes:=88,zero:=some (.agg #[.slice none 0 0,.slice none 0 0,.slice none 0 0,.int .i64 0,.int .i64 0])}
theorem ZpQ:Zz Tryz.prog 25=Ztn:=by kernel_rfl
def Ztm:Option TI:=some {k:=.slice 121 2 16,agg:=false,size:=1,bytes:=24,zero:=some (.slice none 0 0)}
theorem ZpP:Zz Tryz.prog 26=Ztm:=by kernel_rfl
theorem Zpr:Tryz.prog.underlying 26=some (.slice 121):=by kernel_rfl
def Ztl:Option TI:=some {k:=.slice 32 4 32,agg:=false,size:=1,bytes:=24,zero:=some (.slice none 0 0)}
theorem ZpO:Zz Tryz.prog 27=Ztl:=by kernel_rfl
theorem Zpq:Tryz.prog.underlying 27=some (.slice 32):=by kernel_rfl
def Ztk:Option TI:=some {k:=.slice 35 3 40,agg:=false,size:=1,bytes:=24,zero:=some (.slice none 0 0)}
theorem ZpN:Zz Tryz.prog 28=Ztk:=by kernel_rfl
theorem Zpp:Tryz.prog.underlying 28=some (.slice 35):=by kernel_rfl
def Ztj:Option TI:=some {k:=.struct [some (0,5,true),some (5,1,false),some (6,1,false),some (7,1,false)],agg:=true,size:=8,bytes:=160,zero:=some (.agg #[.slice none 0 0,.slice none 0 0,.slice none 0 0,.int .i64 0,.int .i64 0,.slice none 0 0,.slice none 0 0,.slice none 0 0])}
theorem ZpM:Zz Tryz.prog 30=Ztj:=by kernel_rfl
def Zti:Option TI:=some {k:=.struct [some (0,1,false),some (1,1,false),some (2,1,false),some (3,1,false)],agg:=true,size:=4,bytes:=32,zero:=some (.agg #[.int .i64 0,.int .i64 0,.int .i64 0,.int .i64 0])}
theorem ZpL:Zz Tryz.prog 32=Zti:=by kernel_rfl
theorem ZlQ:JB Tryz.prog 32 4=true:=by decide+kernel
def Zth:Option TI:=some {k:=.slice 3 1 8,agg:=false,size:=1,bytes:=24,zero:=some (.slice none 0 0)}
theorem ZpK:Zz Tryz.prog 33=Zth:=by kernel_rfl
theorem Zpo:Tryz.prog.underlying 33=some (.slice 3):=by kernel_rfl
def Ztg:Option TI:=some {k:=.struct [some (0,1,false),some (1,1,false),some (2,1,false)],agg:=true,size:=3,bytes:=40,zero:=some (.agg #[.int .i64 0,.int .i64 0,.slice none 0 0])}
theorem ZpJ:Zz Tryz.prog 35=Ztg:=by kernel_rfl
def Ztf:Option TI:=some {k:=.ptr,agg:=false,size:=1,bytes:=8,zero:=some (.pointer none)}
theorem ZpI:Zz Tryz.prog 38=Ztf:=by kernel_rfl
def Zte:Option TI:=some {k:=.slice 30 8 160,agg:=false,size:=1,bytes:=24,zero:=some (.slice none 0 0)}
theorem ZpH:Zz Tryz.prog 42=Zte:=by kernel_rfl
theorem Zpn:Tryz.prog.underlying 42=some (.slice 30):=by kernel_rfl
def Ztd:Option TI:=some {k:=.slice 57 2 16,agg:=false,size:=1,bytes:=24,zero:=some (.slice none 0 0)}
theorem ZpG:Zz Tryz.prog 44=Ztd:=by kernel_rfl
theorem Zpm:Tryz.prog.underlying 44=some (.slice 57):=by kernel_rfl
def Ztc:Option TI:=some {k:=.int .i64,agg:=false,size:=1,bytes:=8,zero:=some (.int .i64 0)}
theorem ZpF:Zz Tryz.prog 45=Ztc:=by kernel_rfl
theorem Zpl:Tryz.prog.underlying 45=some (.int .i64):=by kernel_rfl
def Ztb:Option TI:=some {k:=.slice 55 1 24,agg:=false,size:=1,bytes:=24,zero:=some (.slice none 0 0)}
theorem ZpE:Zz Tryz.prog 52=Ztb:=by kernel_rfl
theorem Zpk:Tryz.prog.underlying 52=some (.slice 55):=by kernel_rfl
def Zta:Option TI:=some {k:=.slice 60 3 24,agg:=false,size:=1,bytes:=24,zero:=some (.slice none 0 0)}
theorem ZpD:Zz Tryz.prog 55=Zta:=by kernel_rfl
theorem Zpj:Tryz.prog.underlying 55=some (.slice 60):=by kernel_rfl
def Zs9:Option TI:=some {k:=.struct [some (0,1,false),some (1,1,false)],agg:=true,size:=2,bytes:=16,zero:=some (.agg #[.int .i64 0,.int .i64 0])}
theorem ZpC:Zz Tryz.prog 57=Zs9:=by kernel_rfl
theorem ZlP:JB Tryz.prog 57 2=true:=by decide+kernel
def Zs8:Option TI:=some {k:=.struct [some (0,1,false),some (1,1,false),some (2,1,false)],agg:=true,size:=3,bytes:=24,zero:=some (.agg #[.int .i64 0,.int .i64 0,.int .i64 0])}
theorem ZpB:Zz Tryz.prog 60=Zs8:=by kernel_rfl
theorem ZlO:JB Tryz.prog 60 3=true:=by decide+kernel
def Zs7:Option TI:=some {k:=.slice 163 3 24,agg:=false,size:=1,bytes:=24,zero:=some (.slice none 0 0)}
theorem ZpA:Zz Tryz.prog 64=Zs7:=by kernel_rfl
theorem Zpi:Tryz.prog.underlying 64=some (.slice 163):=by kernel_rfl
def Zs6:Option TI:=some {k:=.struct [some (0,1,false),some (1,1,false),some (2,1,false),some (3,1,false)],agg:=true,size:=4,bytes:=48,zero:=some (.agg #[.int .i64 0,.int .i64 0,.int .i64 0,.slice none 0 0])}
theorem Zpz:Zz Tryz.prog 66=Zs6:=by kernel_rfl
def Zs5:Option TI:=some {k:=.slice 66 4 48,agg:=false,size:=1,bytes:=24,zero:=some (.slice none 0 0)}
theorem Zpy:Zz Tryz.prog 68=Zs5:=by kernel_rfl
theorem Zph:Tryz.prog.underlying 68=some (.slice 66):=by kernel_rfl
def Zs4:Option TI:=some {k:=.func,agg:=false,size:=1,bytes:=8,zero:=some (.nilFunc)}
theorem Zpx:Zz Tryz.prog 85=Zs4:=by kernel_rfl
def Zs3:Option TI:=some {k:=.slice 33 1 24,agg:=false,size:=1,bytes:=24,zero:=some (.slice none 0 0)}
theorem Zpw:Zz Tryz.prog 86=Zs3:=by kernel_rfl
theorem Zpg:Tryz.prog.underlying 86=some (.slice 33):=by kernel_rfl
def Zs2:Option TI:=some {k:=.struct [some (0,1,false),some (1,1,false),some (2,1,false)],agg:=true,size:=3,bytes:=72,zero:=some (.agg #[.slice none 0 0,.slice none 0 0,.slice none 0 0])}
theorem Zpv:Zz Tryz.prog 88=Zs2:=by kernel_rfl
def Zs1:Option TI:=some {k:=.slice 88 3 72,agg:=false,size:=1,bytes:=24,zero:=some (.slice none 0 0)}
theorem Zpu:Zz Tryz.prog 96=Zs1:=by kernel_rfl
theorem Zpf:Tryz.prog.underlying 96=some (.slice 88):=by kernel_rfl
def ZrQ:Option TI:=some {k:=.slice 4 1 1,agg:=false,size:=1,bytes:=24,zero:=some (.slice none 0 0)}
theorem ZnA:Zz Tryz.prog 103=ZrQ:=by kernel_rfl
theorem ZmE:Tryz.prog.underlying 103=some (.slice 4):=by kernel_rfl
def ZrP:Option TI:=some {k:=.int .u64,agg:=false,size:=1,bytes:=8,zero:=some (.int .u64 0)}
theorem Znz:Zz Tryz.prog 107=ZrP:=by kernel_rfl
theorem ZmD:Tryz.prog.underlying 107=some (.int .u64):=by kernel_rfl
def ZrO:Option TI:=some {k:=.struct [some (0,1,false)],agg:=true,size:=1,bytes:=8,zero:=some (.agg #[.int .u64 0])}
theorem Zny:Zz Tryz.prog 109=ZrO:=by kernel_rfl
theorem Zkg:JB Tryz.prog 109 1=true:=by decide+kernel
def ZrN:Option TI:=some {k:=.int .u64,agg:=false,size:=1,bytes:=8,zero:=some (.int .u64 0)}
theorem Znx:Zz Tryz.prog 110=ZrN:=by kernel_rfl
theorem ZmC:Tryz.prog.underlying 110=some (.int .u64):=by kernel_rfl
def ZrM:Option TI:=some {k:=.slice 199 2 16,agg:=false,size:=1,bytes:=24,zero:=some (.slice none 0 0)}
theorem Znw:Zz Tryz.prog 111=ZrM:=by kernel_rfl
theorem ZmB:Tryz.prog.underlying 111=some (.slice 199):=by kernel_rfl
def ZrL:Option TI:=some {k:=.struct [some (0,1,false),some (1,1,false)],agg:=true,size:=2,bytes:=32,zero:=some (.agg #[.int .i64 0,.slice none 0 0])}
theorem Znv:Zz Tryz.prog 113=ZrL:=by kernel_rfl
def ZrK:Option TI:=some {k:=.slice 196 4 32,agg:=false,size:=1,bytes:=24,zero:=some (.slice none 0 0)}
theorem Znu:Zz Tryz.prog 116=ZrK:=by kernel_rfl
theorem ZmA:Tryz.prog.underlying 116=some (.slice 196):=by kernel_rfl
def ZrJ:Option TI:=some {k:=.struct [some (0,1,false),some (1,1,false),some (2,1,false)],agg:=true,size:=3,bytes:=40,zero:=some (.agg #[.int .i64 0,.int .i64 0,.slice none 0 0])}
theorem Znt:Zz Tryz.prog 118=ZrJ:=by kernel_rfl
def ZrI:Option TI:=some {k:=.struct [some (0,1,false),some (1,1,false)],agg:=true,size:=2,bytes:=16,zero:=some (.agg #[.int .i64 0,.int .i64 0])}
theorem Zns:Zz Tryz.prog 121=ZrI:=by kernel_rfl
theorem Zkf:JB Tryz.prog 121 2=true:=by decide+kernel
def ZrH:Option TI:=some {k:=.ptr,agg:=false,size:=1,bytes:=8,zero:=some (.pointer none)}
theorem Znr:Zz Tryz.prog 128=ZrH:=by kernel_rfl
def ZrG:Option TI:=some {k:=.struct [some (0,8,true),some (8,1,false)],agg:=true,size:=9,bytes:=184,zero:=some (.agg #[.slice none 0 0,.slice none 0 0,.slice none 0 0,.int .i64 0,.int .i64 0,.slice none 0 0,.slice none 0 0,.slice none 0 0,.slice none 0 0])}
theorem Znq:Zz Tryz.prog 133=ZrG:=by kernel_rfl
def ZrF:Option TI:=some {k:=.slice 143 3 24,agg:=false,size:=1,bytes:=24,zero:=some (.slice none 0 0)}
theorem Znp:Zz Tryz.prog 134=ZrF:=by kernel_rfl
theorem Zmz:Tryz.prog.underlying 134=some (.slice 143):=by kernel_rfl
def ZrE:Option TI:=some {k:=.func,agg:=false,size:=1,bytes:=8,zero:=some (.nilFunc)}
theorem Zno:Zz Tryz.prog 135=ZrE:=by kernel_rfl
def ZrD:Option TI:=some {k:=.func,agg:=false,size:=1,bytes:=8,zero:=some (.nilFunc)}
theorem Znn:Zz Tryz.prog 136=ZrD:=by kernel_rfl
def ZrC:Option TI:=some {k:=.array 6 1,agg:=true,size:=6,bytes:=48,zero:=some (.agg #[.int .i64 0,.int .i64 0,.int .i64 0,.int .i64 0,.int .i64 0,.int .i64 0])}
theorem Znm:Zz Tryz.prog 139=ZrC:=by kernel_rfl
theorem Zmy:Tryz.prog.underlying 139=some (.array 6 3):=by kernel_rfl
theorem Zke:JB Tryz.prog 139 6=true:=by decide+kernel
def ZrB:Option TI:=some {k:=.map,agg:=false,size:=1,bytes:=8,zero:=some (.map none)}
theorem Znl:Zz Tryz.prog 140=ZrB:=by kernel_rfl
theorem Zmx:Tryz.prog.underlying 140=some (.map 147 145):=by kernel_rfl
def ZrA:Option TI:=some {k:=.func,agg:=false,size:=1,bytes:=8,zero:=some (.nilFunc)}
theorem Znk:Zz Tryz.prog 141=ZrA:=by kernel_rfl
def Zrz:Option TI:=some {k:=.struct [some (0,2,true),some (2,1,false)],agg:=true,size:=3,bytes:=24,zero:=some (.agg #[.int .i64 0,.int .i64 0,.bool false])}
theorem Znj:Zz Tryz.prog 143=Zrz:=by kernel_rfl
def Zry:Option TI:=some {k:=.struct [some (0,1,false),some (1,1,false),some (2,1,false)],agg:=true,size:=3,bytes:=24,zero:=some (.agg #[.int .i64 0,.int .i64 0,.int .i64 0])}
theorem Zni:Zz Tryz.prog 145=Zry:=by kernel_rfl
theorem Zkd:JB Tryz.prog 145 3=true:=by decide+kernel
def Zrx:Option TI:=some {k:=.struct [some (0,1,false),some (1,1,false)],agg:=true,size:=2,bytes:=16,zero:=some (.agg #[.int .i64 0,.int .i64 0])}
theorem Znh:Zz Tryz.prog 147=Zrx:=by kernel_rfl
theorem Zkc:JB Tryz.prog 147 2=true:=by decide+kernel
def Zrw:Option TI:=some {k:=.slice 151 3 72,agg:=false,size:=1,bytes:=24,zero:=some (.slice none 0 0)}
theorem Zng:Zz Tryz.prog 148=Zrw:=by kernel_rfl
theorem Zmw:Tryz.prog.underlying 148=some (.slice 151):=by kernel_rfl
def Zrv:Option TI:=some {k:=.struct [some (0,1,false),some (1,1,false),some (2,1,false)],agg:=true,size:=3,bytes:=72,zero:=some (.agg #[.slice none 0 0,.slice none 0 0,.slice none 0 0])}
theorem Znf:Zz Tryz.prog 151=Zrv:=by kernel_rfl
def Zru:Option TI:=some {k:=.struct [some (0,1,false),some (1,1,false),some (2,1,false)],agg:=true,size:=3,bytes:=24,zero:=some (.agg #[.int .i64 0,.int .i64 0,.int .i64 0])}
theorem Zne:Zz Tryz.prog 163=Zru:=by kernel_rfl
theorem Zkb:JB Tryz.prog 163 3=true:=by decide+kernel
def Zrt:Option TI:=some {k:=.map,agg:=false,size:=1,bytes:=8,zero:=some (.map none)}
theorem Znd:Zz Tryz.prog 176=Zrt:=by kernel_rfl
theorem Zmv:Tryz.prog.underlying 176=some (.map 139 140):=by kernel_rfl
def Zrs:Option TI:=some {k:=.array 4 1,agg:=true,size:=4,bytes:=4,zero:=some (.agg #[.bool false,.bool false,.bool false,.bool false])}
theorem Znc:Zz Tryz.prog 177=Zrs:=by kernel_rfl
theorem Zmu:Tryz.prog.underlying 177=some (.array 4 4):=by kernel_rfl
def Zrr:Option TI:=some {k:=.func,agg:=false,size:=1,bytes:=8,zero:=some (.nilFunc)}
theorem Znb:Zz Tryz.prog 183=Zrr:=by kernel_rfl
def Zrq:Option TI:=some {k:=.func,agg:=false,size:=1,bytes:=8,zero:=some (.nilFunc)}
theorem Zna:Zz Tryz.prog 189=Zrq:=by kernel_rfl
def Zrp:Option TI:=some {k:=.struct [some (0,1,false),some (1,1,false),some (2,1,false),some (3,1,false)],agg:=true,size:=4,bytes:=32,zero:=some (.agg #[.int .i64 0,.int .i64 0,.int .i64 0,.int .i64 0])}
theorem Zm9:Zz Tryz.prog 196=Zrp:=by kernel_rfl
theorem Zka:JB Tryz.prog 196 4=true:=by decide+kernel
def Zro:Option TI:=some {k:=.struct [some (0,1,false),some (1,1,false)],agg:=true,size:=2,bytes:=16,zero:=some (.agg #[.int .i64 0,.int .i64 0])}
theorem Zm8:Zz Tryz.prog 199=Zro:=by kernel_rfl
theorem Zj9:JB Tryz.prog 199 2=true:=by decide+kernel
def Zrn:Option TI:=some {k:=.func,agg:=false,size:=1,bytes:=8,zero:=some (.nilFunc)}
theorem Zm7:Zz Tryz.prog 201=Zrn:=by kernel_rfl
def Zrm:Option TI:=some {k:=.func,agg:=false,size:=1,bytes:=8,zero:=some (.nilFunc)}
theorem Zm6:Zz Tryz.prog 206=Zrm:=by kernel_rfl
def Zrl:Option TI:=some {k:=.func,agg:=false,size:=1,bytes:=8,zero:=some (.nilFunc)}
theorem Zm5:Zz Tryz.prog 207=Zrl:=by kernel_rfl
def Zrk:Option TI:=some {k:=.func,agg:=false,size:=1,bytes:=8,zero:=some (.nilFunc)}
theorem Zm4:Zz Tryz.prog 208=Zrk:=by kernel_rfl
def Zrj:Option TI:=some {k:=.ptr,agg:=false,size:=1,bytes:=8,zero:=some (.pointer none)}
theorem Zm3:Zz Tryz.prog 211=Zrj:=by kernel_rfl
def Zri:Option TI:=some {k:=.func,agg:=false,size:=1,bytes:=8,zero:=some (.nilFunc)}
theorem Zm2:Zz Tryz.prog 219=Zri:=by kernel_rfl
def Zrh:Option TI:=some {k:=.struct [some (0,3,true),some (3,1,false),some (4,1,false)],agg:=true,size:=5,bytes:=72,zero:=some (.agg #[.int .i64 0,.int .i64 0,.slice none 0 0,.int .i64 0,.slice none 0 0])}
theorem Zm1:Zz Tryz.prog 223=Zrh:=by kernel_rfl
def Zrg:Option TI:=some {k:=.other,agg:=false,size:=1,bytes:=8,zero:=some (.chan none)}
theorem Zm0:Zz Tryz.prog 226=Zrg:=by kernel_rfl
def Zrf:Option TI:=some {k:=.ptr,agg:=false,size:=1,bytes:=8,zero:=some (.pointer none)}
theorem ZmZ:Zz Tryz.prog 230=Zrf:=by kernel_rfl
def Zre:Option TI:=some {k:=.array 6 1,agg:=true,size:=6,bytes:=6,zero:=some (.agg #[.bool false,.bool false,.bool false,.bool false,.bool false,.bool false])}
theorem ZmY:Zz Tryz.prog 236=Zre:=by kernel_rfl
theorem Zmt:Tryz.prog.underlying 236=some (.array 6 4):=by kernel_rfl
def Zrd:Option TI:=some {k:=.slice 23 1 24,agg:=false,size:=1,bytes:=24,zero:=some (.slice none 0 0)}
theorem ZmX:Zz Tryz.prog 241=Zrd:=by kernel_rfl
theorem Zms:Tryz.prog.underlying 241=some (.slice 23):=by kernel_rfl
def Zrc:Option TI:=some {k:=.func,agg:=false,size:=1,bytes:=8,zero:=some (.nilFunc)}
theorem ZmW:Zz Tryz.prog 244=Zrc:=by kernel_rfl
def Zrb:Option TI:=some {k:=.map,agg:=false,size:=1,bytes:=8,zero:=some (.map none)}
theorem ZmV:Zz Tryz.prog 245=Zrb:=by kernel_rfl
theorem Zmr:Tryz.prog.underlying 245=some (.map 147 3):=by kernel_rfl
def Zra:Option TI:=some {k:=.func,agg:=false,size:=1,bytes:=8,zero:=some (.nilFunc)}
theorem ZmU:Zz Tryz.prog 246=Zra:=by kernel_rfl
def Zq9:Option TI:=some {k:=.func,agg:=false,size:=1,bytes:=8,zero:=some (.nilFunc)}
theorem ZmT:Zz Tryz.prog 248=Zq9:=by kernel_rfl
def Zq8:Option TI:=some {k:=.array 3 2,agg:=true,size:=6,bytes:=48,zero:=some (.agg #[.int .i64 0,.int .i64 0,.int .i64 0,.int .i64 0,.int .i64 0,.int .i64 0])}
theorem ZmS:Zz Tryz.prog 252=Zq8:=by kernel_rfl
theorem Zmq:Tryz.prog.underlying 252=some (.array 3 199):=by kernel_rfl
theorem Zj8:JB Tryz.prog 252 6=true:=by decide+kernel
def Zq7:Option TI:=some {k:=.struct [some (0,1,false),some (1,1,false),some (2,6,true)],agg:=true,size:=8,bytes:=64,zero:=some (.agg #[.int .i64 0,.int .i64 0,.int .i64 0,.int .i64 0,.int .i64 0,.int .i64 0,.int .i64 0,.int .i64 0])}
theorem ZmR:Zz Tryz.prog 254=Zq7:=by kernel_rfl
theorem Zj7:JB Tryz.prog 254 8=true:=by decide+kernel
def Zq6:Option TI:=some {k:=.slice 267 3 24,agg:=false,size:=1,bytes:=24,zero:=some (.slice none 0 0)}
theorem ZmQ:Zz Tryz.prog 255=Zq6:=by kernel_rfl
theorem Zmp:Tryz.prog.underlying 255=some (.slice 267):=by kernel_rfl
def Zq5:Option TI:=some {k:=.int .i64,agg:=false,size:=1,bytes:=8,zero:=some (.int .i64 0)}
theorem ZmP:Zz Tryz.prog 259=Zq5:=by kernel_rfl
theorem Zmo:Tryz.prog.underlying 259=some (.int .i64):=by kernel_rfl
def Zq4:Option TI:=some {k:=.map,agg:=false,size:=1,bytes:=8,zero:=some (.map none)}
theorem ZmO:Zz Tryz.prog 262=Zq4:=by kernel_rfl
theorem Zmn:Tryz.prog.underlying 262=some (.map 3 4):=by kernel_rfl
def Zq3:Option TI:=some {k:=.struct [some (0,1,false),some (1,1,false),some (2,1,false)],agg:=true,size:=3,bytes:=24,zero:=some (.agg #[.int .i64 0,.int .i64 0,.int .i64 0])}
theorem ZmN:Zz Tryz.prog 267=Zq3:=by kernel_rfl
theorem Zj6:JB Tryz.prog 267 3=true:=by decide+kernel
def Zq2:Option TI:=some {k:=.slice 272 3 24,agg:=false,size:=1,bytes:=24,zero:=some (.slice none 0 0)}
theorem ZmM:Zz Tryz.prog 269=Zq2:=by kernel_rfl
theorem Zmm:Tryz.prog.underlying 269=some (.slice 272):=by kernel_rfl
def Zq1:Option TI:=some {k:=.struct [some (0,1,false),some (1,1,false),some (2,1,false)],agg:=true,size:=3,bytes:=24,zero:=some (.agg #[.int .i64 0,.int .i64 0,.int .i64 0])}
theorem ZmL:Zz Tryz.prog 272=Zq1:=by kernel_rfl
theorem Zj5:JB Tryz.prog 272 3=true:=by decide+kernel
def Zq0:Option TI:=some {k:=.func,agg:=false,size:=1,bytes:=8,zero:=some (.nilFunc)}
theorem ZmK:Zz Tryz.prog 274=Zq0:=by kernel_rfl
def Ztr (t : TypeId) : Option TI :=
  bif Z7 t 134 then
   bif Z7 t 57 then
    bif Z7 t 30 then
     bif Z7 t 23 then
      bif Z7 t 3 then
       bif Z7 t 1 then
        bif ZC t 1 then ti1 else none
       else
        bif ZC t 3 then ti3 else none
      else
       bif Z7 t 4 then
        bif ZC t 4 then ti4 else none
       else
        bif Z7 t 22 then
         bif ZC t 22 then Ztp else none
        else
         bif ZC t 23 then Zto else none
     else
      bif Z7 t 26 then
       bif Z7 t 25 then
        bif ZC t 25 then Ztn else none
       else
        bif ZC t 26 then Ztm else none
      else
       bif Z7 t 27 then
        bif ZC t 27 then Ztl else none
       else
        bif Z7 t 28 then
         bif ZC t 28 then Ztk else none
        else
         bif ZC t 30 then Ztj else none
    else
     bif Z7 t 42 then
      bif Z7 t 33 then
       bif Z7 t 32 then
        bif ZC t 32 then Zti else none
       else
        bif ZC t 33 then Zth else none
      else
       bif Z7 t 35 then
        bif ZC t 35 then Ztg else none
       else
        bif Z7 t 38 then
         bif ZC t 38 then Ztf else none
        else
         bif ZC t 42 then Zte else none
     else
      bif Z7 t 45 then
       bif Z7 t 44 then
        bif ZC t 44 then Ztd else none
       else
        bif ZC t 45 then Ztc else none
      else
       bif Z7 t 52 then
        bif ZC t 52 then Ztb else none
       else
        bif Z7 t 55 then
         bif ZC t 55 then Zta else none
        else
         bif ZC t 57 then Zs9 else none
   else
    bif Z7 t 107 then
     bif Z7 t 85 then
      bif Z7 t 64 then
       bif Z7 t 60 then
        bif ZC t 60 then Zs8 else none
       else
        bif ZC t 64 then Zs7 else none
      else
       bif Z7 t 66 then
        bif ZC t 66 then Zs6 else none
       else
        bif Z7 t 68 then
         bif ZC t 68 then Zs5 else none
        else
         bif ZC t 85 then Zs4 else none
     else
      bif Z7 t 88 then
       bif Z7 t 86 then
        bif ZC t 86 then Zs3 else none
       else
        bif ZC t 88 then Zs2 else none
      else
       bif Z7 t 96 then
        bif ZC t 96 then Zs1 else none
       else
        bif Z7 t 103 then
         bif ZC t 103 then ZrQ else none
        else
         bif ZC t 107 then ZrP else none
    else
     bif Z7 t 116 then
      bif Z7 t 110 then
       bif Z7 t 109 then
        bif ZC t 109 then ZrO else none
       else
        bif ZC t 110 then ZrN else none
      else
       bif Z7 t 111 then
        bif ZC t 111 then ZrM else none
       else
        bif Z7 t 113 then
         bif ZC t 113 then ZrL else none
        else
         bif ZC t 116 then ZrK else none
     else
      bif Z7 t 121 then
       bif Z7 t 118 then
        bif ZC t 118 then ZrJ else none
       else
        bif ZC t 121 then ZrI else none
      else
       bif Z7 t 128 then
        bif ZC t 128 then ZrH else none
       else
        bif Z7 t 133 then
         bif ZC t 133 then ZrG else none
        else
         bif ZC t 134 then ZrF else none
  else
   bif Z7 t 207 then
    bif Z7 t 151 then
     bif Z7 t 141 then
      bif Z7 t 136 then
       bif Z7 t 135 then
        bif ZC t 135 then ZrE else none
       else
        bif ZC t 136 then ZrD else none
      else
       bif Z7 t 139 then
        bif ZC t 139 then ZrC else none
       else
        bif Z7 t 140 then
         bif ZC t 140 then ZrB else none
        else
         bif ZC t 141 then ZrA else none
     else
      bif Z7 t 145 then
       bif Z7 t 143 then
        bif ZC t 143 then Zrz else none
       else
        bif ZC t 145 then Zry else none
      else
       bif Z7 t 147 then
        bif ZC t 147 then Zrx else none
       else
        bif Z7 t 148 then
         bif ZC t 148 then Zrw else none
        else
         bif ZC t 151 then Zrv else none
    else
     bif Z7 t 189 then
      bif Z7 t 176 then
       bif Z7 t 163 then
        bif ZC t 163 then Zru else none
       else
        bif ZC t 176 then Zrt else none
      else
       bif Z7 t 177 then
        bif ZC t 177 then Zrs else none
       else
        bif Z7 t 183 then
         bif ZC t 183 then Zrr else none
        else
         bif ZC t 189 then Zrq else none
     else
      bif Z7 t 199 then
       bif Z7 t 196 then
        bif ZC t 196 then Zrp else none
       else
        bif ZC t 199 then Zro else none
      else
       bif Z7 t 201 then
        bif ZC t 201 then Zrn else none
       else
        bif Z7 t 206 then
         bif ZC t 206 then Zrm else none
        else
         bif ZC t 207 then Zrl else none
   else
    bif Z7 t 245 then
     bif Z7 t 226 then
      bif Z7 t 211 then
       bif Z7 t 208 then
        bif ZC t 208 then Zrk else none
       else
        bif ZC t 211 then Zrj else none
      else
       bif Z7 t 219 then
        bif ZC t 219 then Zri else none
       else
        bif Z7 t 223 then
         bif ZC t 223 then Zrh else none
        else
         bif ZC t 226 then Zrg else none
     else
      bif Z7 t 236 then
       bif Z7 t 230 then
        bif ZC t 230 then Zrf else none
       else
        bif ZC t 236 then Zre else none
      else
       bif Z7 t 241 then
        bif ZC t 241 then Zrd else none
       else
        bif Z7 t 244 then
         bif ZC t 244 then Zrc else none
        else
         bif ZC t 245 then Zrb else none
    else
     bif Z7 t 255 then
      bif Z7 t 248 then
       bif Z7 t 246 then
        bif ZC t 246 then Zra else none
       else
        bif ZC t 248 then Zq9 else none
      else
       bif Z7 t 252 then
        bif ZC t 252 then Zq8 else none
       else
        bif Z7 t 254 then
         bif ZC t 254 then Zq7 else none
        else
         bif ZC t 255 then Zq6 else none
     else
      bif Z7 t 267 then
       bif Z7 t 259 then
        bif ZC t 259 then Zq5 else none
       else
        bif Z7 t 262 then
         bif ZC t 262 then Zq4 else none
        else
         bif ZC t 267 then Zq3 else none
      else
       bif Z7 t 269 then
        bif ZC t 269 then Zq2 else none
       else
        bif Z7 t 272 then
         bif ZC t 272 then Zq1 else none
        else
         bif ZC t 274 then Zq0 else none
def Ztq (t : TypeId) : Option TypeDesc :=
  bif Z7 t 103 then
   bif Z7 t 42 then
    bif Z7 t 23 then
     bif Z7 t 4 then
      bif Z7 t 3 then
       bif ZC t 3 then some (.int .i64) else none
      else
       bif ZC t 4 then some (.bool) else none
     else
      bif Z7 t 22 then
       bif ZC t 22 then some (.slice 113) else none
      else
       bif ZC t 23 then some (.slice 118) else none
    else
     bif Z7 t 27 then
      bif Z7 t 26 then
       bif ZC t 26 then some (.slice 121) else none
      else
       bif ZC t 27 then some (.slice 32) else none
     else
      bif Z7 t 28 then
       bif ZC t 28 then some (.slice 35) else none
      else
       bif Z7 t 33 then
        bif ZC t 33 then some (.slice 3) else none
       else
        bif ZC t 42 then some (.slice 30) else none
   else
    bif Z7 t 55 then
     bif Z7 t 45 then
      bif Z7 t 44 then
       bif ZC t 44 then some (.slice 57) else none
      else
       bif ZC t 45 then some (.int .i64) else none
     else
      bif Z7 t 52 then
       bif ZC t 52 then some (.slice 55) else none
      else
       bif ZC t 55 then some (.slice 60) else none
    else
     bif Z7 t 68 then
      bif Z7 t 64 then
       bif ZC t 64 then some (.slice 163) else none
      else
       bif ZC t 68 then some (.slice 66) else none
     else
      bif Z7 t 86 then
       bif ZC t 86 then some (.slice 33) else none
      else
       bif Z7 t 96 then
        bif ZC t 96 then some (.slice 88) else none
       else
        bif ZC t 103 then some (.slice 4) else none
  else
   bif Z7 t 176 then
    bif Z7 t 116 then
     bif Z7 t 110 then
      bif Z7 t 107 then
       bif ZC t 107 then some (.int .u64) else none
      else
       bif ZC t 110 then some (.int .u64) else none
     else
      bif Z7 t 111 then
       bif ZC t 111 then some (.slice 199) else none
      else
       bif ZC t 116 then some (.slice 196) else none
    else
     bif Z7 t 139 then
      bif Z7 t 134 then
       bif ZC t 134 then some (.slice 143) else none
      else
       bif ZC t 139 then some (.array 6 3) else none
     else
      bif Z7 t 140 then
       bif ZC t 140 then some (.map 147 145) else none
      else
       bif Z7 t 148 then
        bif ZC t 148 then some (.slice 151) else none
       else
        bif ZC t 176 then some (.map 139 140) else none
   else
    bif Z7 t 245 then
     bif Z7 t 236 then
      bif Z7 t 177 then
       bif ZC t 177 then some (.array 4 4) else none
      else
       bif ZC t 236 then some (.array 6 4) else none
     else
      bif Z7 t 241 then
       bif ZC t 241 then some (.slice 23) else none
      else
       bif ZC t 245 then some (.map 147 3) else none
    else
     bif Z7 t 255 then
      bif Z7 t 252 then
       bif ZC t 252 then some (.array 3 199) else none
      else
       bif ZC t 255 then some (.slice 267) else none
     else
      bif Z7 t 259 then
       bif ZC t 259 then some (.int .i64) else none
      else
       bif Z7 t 262 then
        bif ZC t 262 then some (.map 3 4) else none
       else
        bif ZC t 269 then some (.slice 272) else none
def Zts (t : TypeId) (n : Nat) : Bool :=
  bif Z7 t 145 then
   bif Z7 t 60 then
    bif Z7 t 32 then
     bif ZC t 32 then ZC n 4 else false
    else
     bif Z7 t 57 then
      bif ZC t 57 then ZC n 2 else false
     else
      bif ZC t 60 then ZC n 3 else false
   else
    bif Z7 t 121 then
     bif Z7 t 109 then
      bif ZC t 109 then ZC n 1 else false
     else
      bif ZC t 121 then ZC n 2 else false
    else
     bif Z7 t 139 then
      bif ZC t 139 then ZC n 6 else false
     else
      bif ZC t 145 then ZC n 3 else false
  else
   bif Z7 t 199 then
    bif Z7 t 163 then
     bif Z7 t 147 then
      bif ZC t 147 then ZC n 2 else false
     else
      bif ZC t 163 then ZC n 3 else false
    else
     bif Z7 t 196 then
      bif ZC t 196 then ZC n 4 else false
     else
      bif ZC t 199 then ZC n 2 else false
   else
    bif Z7 t 254 then
     bif Z7 t 252 then
      bif ZC t 252 then ZC n 6 else false
     else
      bif ZC t 254 then ZC n 8 else false
    else
     bif Z7 t 267 then
      bif ZC t 267 then ZC n 3 else false
     else
      bif ZC t 272 then ZC n 3 else false
def tb:Tb:={ti:=Ztr,un:=Ztq,eqs:=Zts}
theorem Zm {α:Type} {b:Bool} {x y:α} {r:α} {C:Prop} (hx:x=r→C) (hy:y=r→C):(bif b then x else y)=r→C:=fun h=>by
 cases b
 ·exact hy h
 ·exact hx h
theorem ZtA {α:Type} {f:Nat→Option α} {t k:Nat} {e:Option α} {i:α} (hk:f k=e):(bif ZC t k then e else none)=some i→f t=some i:=fun h=>by
 cases hb:ZC t k
 ·rw[hb]at h;cases h
 ·rw[hb]at h
  rw[ZA hb]
  exact hk.trans h
theorem Ztz {t k n m:Nat} {C:Nat→Nat→Prop} (hk:C k m):(bif ZC t k then ZC n m else false)=true→C t n:=fun h=>by
 cases hb:ZC t k
 ·rw[hb]at h;cases h
 ·rw[hb]at h
  rw[ZA hb,ZA h]
  exact hk
theorem Xu {t k:Nat} {e:Option TI} {i:TI} (hk:Zz Tryz.prog k=e):(bif ZC t k then e else none)=some i→Zz Tryz.prog t=some i:=ZtA hk
theorem lkU {t k:Nat} {e:Option TypeDesc} {i:TypeDesc} (hk:Tryz.prog.underlying k=e):(bif ZC t k then e else none)=some i→Tryz.prog.underlying t=some i:=ZtA hk
theorem lkE {t k n m:Nat} (hk:JB Tryz.prog k m=true):(bif ZC t k then ZC n m else false)=true→JB Tryz.prog t n=true:=Ztz (C:=fun t n=>JB Tryz.prog t n=true) hk
theorem ZbF (t:TypeId) (i:TI):Ztr t=some i→Zz Tryz.prog t=some i:=
 (Zm (Zm (Zm (Zm (Zm (Zm (Xu Zsf) (Xu Zse)) (Zm (Xu Zsd) (Zm (Xu ZpS) (Xu ZpR)))) (Zm (Zm (Xu ZpQ) (Xu ZpP)) (Zm (Xu ZpO) (Zm (Xu ZpN) (Xu ZpM))))) (Zm (Zm (Zm (Xu ZpL) (Xu ZpK)) (Zm (Xu ZpJ) (Zm (Xu ZpI) (Xu ZpH)))) (Zm (Zm (Xu ZpG) (Xu ZpF)) (Zm (Xu ZpE) (Zm (Xu ZpD) (Xu ZpC)))))) (Zm (Zm (Zm (Zm (Xu ZpB) (Xu ZpA)) (Zm (Xu Zpz) (Zm (Xu Zpy) (Xu Zpx)))) (Zm (Zm (Xu Zpw) (Xu Zpv)) (Zm (Xu Zpu) (Zm (Xu ZnA) (Xu Znz))))) (Zm (Zm (Zm (Xu Zny) (Xu Znx)) (Zm (Xu Znw) (Zm (Xu Znv) (Xu Znu)))) (Zm (Zm (Xu Znt) (Xu Zns)) (Zm (Xu Znr) (Zm (Xu Znq) (Xu Znp))))))) (Zm (Zm (Zm (Zm (Zm (Xu Zno) (Xu Znn)) (Zm (Xu Znm) (Zm (Xu Znl) (Xu Znk)))) (Zm (Zm (Xu Znj) (Xu Zni)) (Zm (Xu Znh) (Zm (Xu Zng) (Xu Znf))))) (Zm (Zm (Zm (Xu Zne) (Xu Znd)) (Zm (Xu Znc) (Zm (Xu Znb) (Xu Zna)))) (Zm (Zm (Xu Zm9) (Xu Zm8)) (Zm (Xu Zm7) (Zm (Xu Zm6) (Xu Zm5)))))) (Zm (Zm (Zm (Zm (Xu Zm4) (Xu Zm3)) (Zm (Xu Zm2) (Zm (Xu Zm1) (Xu Zm0)))) (Zm (Zm (Xu ZmZ) (Xu ZmY)) (Zm (Xu ZmX) (Zm (Xu ZmW) (Xu ZmV))))) (Zm (Zm (Zm (Xu ZmU) (Xu ZmT)) (Zm (Xu ZmS) (Zm (Xu ZmR) (Xu ZmQ)))) (Zm (Zm (Xu ZmP) (Zm (Xu ZmO) (Xu ZmN))) (Zm (Xu ZmM) (Zm (Xu ZmL) (Xu ZmK))))))))
theorem ZbE (t:TypeId) (d:TypeDesc):Ztq t=some d→Tryz.prog.underlying t=some d:=
 (Zm (Zm (Zm (Zm (Zm (lkU Zsc) (lkU Zsb)) (Zm (lkU Zpt) (lkU Zps))) (Zm (Zm (lkU Zpr) (lkU Zpq)) (Zm (lkU Zpp) (Zm (lkU Zpo) (lkU Zpn))))) (Zm (Zm (Zm (lkU Zpm) (lkU Zpl)) (Zm (lkU Zpk) (lkU Zpj))) (Zm (Zm (lkU Zpi) (lkU Zph)) (Zm (lkU Zpg) (Zm (lkU Zpf) (lkU ZmE)))))) (Zm (Zm (Zm (Zm (lkU ZmD) (lkU ZmC)) (Zm (lkU ZmB) (lkU ZmA))) (Zm (Zm (lkU Zmz) (lkU Zmy)) (Zm (lkU Zmx) (Zm (lkU Zmw) (lkU Zmv))))) (Zm (Zm (Zm (lkU Zmu) (lkU Zmt)) (Zm (lkU Zms) (lkU Zmr))) (Zm (Zm (lkU Zmq) (lkU Zmp)) (Zm (lkU Zmo) (Zm (lkU Zmn) (lkU Zmm)))))))
theorem ZbG (t n:Nat):Zts t n=true→JB Tryz.prog t n=true:=
 (Zm (Zm (Zm (lkE ZlQ) (Zm (lkE ZlP) (lkE ZlO))) (Zm (Zm (lkE Zkg) (lkE Zkf)) (Zm (lkE Zke) (lkE Zkd)))) (Zm (Zm (Zm (lkE Zkc) (lkE Zkb)) (Zm (lkE Zka) (lkE Zj9))) (Zm (Zm (lkE Zj8) (lkE Zj7)) (Zm (lkE Zj6) (lkE Zj5)))))
theorem hT:tb.Of ((fun _=>Tryz.prog:Unit→Program) ()):=⟨ZbF,ZbE,ZbG⟩
theorem hm:((fun _=>Tryz.prog:Unit→Program) ()).follows .mixedOrders=true:=by decide+kernel
def tbF (kp rs:Bool):Tb:={tb with kp,rs}
theorem hTF (kp rs:Bool):(tbF kp rs).Of ((fun _=>Tryz.prog:Unit→Program) ()):=⟨ZbF,ZbE,ZbG⟩
end Go.Proofs.YtjgpiclllehgmaaGreat.Vm
