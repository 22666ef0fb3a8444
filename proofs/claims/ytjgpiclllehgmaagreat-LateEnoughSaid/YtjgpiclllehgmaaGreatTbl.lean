/- The types of this program, as a table for the abstract machine. Printed by wip/tables.py. -/
import Derived.Test.YtjgpiclllehgmaaGreatRows
import Derived.Test.YtjgpiclllehgmaaGreatM4
set_option linter.unusedSimpArgs false
set_option linter.unusedVariables false
namespace Go.Proofs.YtjgpiclllehgmaaGreat.Vm
open Go Go.Proofs
set_option maxRecDepth 100000
def ti1:Option TI:=some {k:=.func,agg:=false,size:=1,bytes:=8,zero:=some (.nilFunc)}
theorem Zsn:ZA Tryz.prog 1=ti1:=by kernel_rfl
def ti3:Option TI:=some {k:=.int .i64,agg:=false,size:=1,bytes:=8,zero:=some (.int .i64 0)}
theorem Zsm:ZA Tryz.prog 3=ti3:=by kernel_rfl
theorem Zsk:Tryz.prog.underlying 3=some (.int .i64):=by kernel_rfl
def ti4:Option TI:=some {k:=.bool,agg:=false,size:=1,bytes:=1,zero:=some (.bool false)}
theorem Zsl:ZA Tryz.prog 4=ti4:=by kernel_rfl
theorem Zsj:Tryz.prog.underlying 4=some (.bool):=by kernel_rfl
def Ztx:Option TI:=some {k:=.slice 113 2 32,agg:=false,size:=1,bytes:=24,zero:=some (.slice none 0 0)}
theorem Zp2:ZA Tryz.prog 22=Ztx:=by kernel_rfl
theorem ZpD:Tryz.prog.underlying 22=some (.slice 113):=by kernel_rfl
def Ztw:Option TI:=some {k:=.slice 118 3 40,agg:=false,size:=1,bytes:=24,zero:=some (.slice none 0 0)}
theorem Zp1:ZA Tryz.prog 23=Ztw:=by kernel_rfl
theorem ZpC:Tryz.prog.underlying 23=some (.slice 118):=by kernel_rfl
def Ztv:Option TI:=some {k:=.struct [some (0,1,false),some (1,1,false),some (2,1,false),some (3,1,false),some (4,1,false)],agg:=true,size:=5,bytes:=88,zero:=some (.agg #[.slice none 0 0,.slice none 0 0,.slice none 0 0,.int .i64 0,.int .i64 0])}
theorem Zp0:ZA Tryz.prog 25=Ztv:=by kernel_rfl
def Ztu:Option TI:=some {k:=.slice 121 2 16,agg:=false,size:=1,bytes:=24,zero:=some (.slice none 0 0)}
theorem ZpZ:ZA Tryz.prog 26=Ztu:=by kernel_rfl
theorem ZpB:Tryz.prog.underlying 26=some (.slice 121):=by kernel_rfl
def Ztt:Option TI:=some {k:=.slice 32 4 32,agg:=false,size:=1,bytes:=24,zero:=some (.slice none 0 0)}
theorem ZpY:ZA Tryz.prog 27=Ztt:=by kernel_rfl
theorem ZpA:Tryz.prog.underlying 27=some (.slice 32):=by kernel_rfl
def Zts:Option TI:=some {k:=.slice 35 3 40,agg:=false,size:=1,bytes:=24,zero:=some (.slice none 0 0)}
theorem ZpX:ZA Tryz.prog 28=Zts:=by kernel_rfl
theorem Zpz:Tryz.prog.underlying 28=some (.slice 35):=by kernel_rfl
def Ztr:Option TI:=some {k:=.struct [some (0,5,true),some (5,1,false),some (6,1,false),some (7,1,false)],agg:=true,size:=8,bytes:=160,zero:=some (.agg #[.slice none 0 0,.slice none 0 0,.slice none 0 0,.int .i64 0,.int .i64 0,.slice none 0 0,.slice none 0 0,.slice none 0 0])}
theorem ZpW:ZA Tryz.prog 30=Ztr:=by kernel_rfl
def Ztq:Option TI:=some {k:=.struct [some (0,1,false),some (1,1,false),some (2,1,false),some (3,1,false)],agg:=true,size:=4,bytes:=32,zero:=some (.agg #[.int .i64 0,.int .i64 0,.int .i64 0,.int .i64 0])}
theorem ZpV:ZA Tryz.prog 32=Ztq:=by kernel_rfl
theorem ZlY:JF Tryz.prog 32 4=true:=by decide+kernel
def Ztp:Option TI:=some {k:=.slice 3 1 8,agg:=false,size:=1,bytes:=24,zero:=some (.slice none 0 0)}
theorem ZpU:ZA Tryz.prog 33=Ztp:=by kernel_rfl
theorem Zpy:Tryz.prog.underlying 33=some (.slice 3):=by kernel_rfl
def Zto:Option TI:=some {k:=.struct [some (0,1,false),some (1,1,false),some (2,1,false)],agg:=true,size:=3,bytes:=40,zero:=some (.agg #[.int .i64 0,.int .i64 0,.slice none 0 0])}
theorem ZpT:ZA Tryz.prog 35=Zto:=by kernel_rfl
def Ztn:Option TI:=some {k:=.ptr,agg:=false,size:=1,bytes:=8,zero:=some (.pointer none)}
theorem ZpS:ZA Tryz.prog 38=Ztn:=by kernel_rfl
def Ztm:Option TI:=some {k:=.slice 30 8 160,agg:=false,size:=1,bytes:=24,zero:=some (.slice none 0 0)}
theorem ZpR:ZA Tryz.prog 42=Ztm:=by kernel_rfl
theorem Zpx:Tryz.prog.underlying 42=some (.slice 30):=by kernel_rfl
def Ztl:Option TI:=some {k:=.slice 57 2 16,agg:=false,size:=1,bytes:=24,zero:=some (.slice none 0 0)}
theorem ZpQ:ZA Tryz.prog 44=Ztl:=by kernel_rfl
theorem Zpw:Tryz.prog.underlying 44=some (.slice 57):=by kernel_rfl
def Ztk:Option TI:=some {k:=.int .i64,agg:=false,size:=1,bytes:=8,zero:=some (.int .i64 0)}
theorem ZpP:ZA Tryz.prog 45=Ztk:=by kernel_rfl
theorem Zpv:Tryz.prog.underlying 45=some (.int .i64):=by kernel_rfl
def Ztj:Option TI:=some {k:=.slice 55 1 24,agg:=false,size:=1,bytes:=24,zero:=some (.slice none 0 0)}
theorem ZpO:ZA Tryz.prog 52=Ztj:=by kernel_rfl
theorem Zpu:Tryz.prog.underlying 52=some (.slice 55):=by kernel_rfl
def Zti:Option TI:=some {k:=.slice 60 3 24,agg:=false,size:=1,bytes:=24,zero:=some (.slice none 0 0)}
theorem ZpN:ZA Tryz.prog 55=Zti:=by kernel_rfl
theorem Zpt:Tryz.prog.underlying 55=some (.slice 60):=by kernel_rfl
def Zth:Option TI:=some {k:=.struct [some (0,1,false),some (1,1,false)],agg:=true,size:=2,bytes:=16,zero:=some (.agg #[.int .i64 0,.int .i64 0])}
theorem ZpM:ZA Tryz.prog 57=Zth:=by kernel_rfl
theorem ZlX:JF Tryz.prog 57 2=true:=by decide+kernel
def Ztg:Option TI:=some {k:=.struct [some (0,1,false),some (1,1,false),some (2,1,false)],agg:=true,size:=3,bytes:=24,zero:=some (.agg #[.int .i64 0,.int .i64 0,.int .i64 0])}
theorem ZpL:ZA Tryz.prog 60=Ztg:=by kernel_rfl
theorem ZlW:JF Tryz.prog 60 3=true:=by decide+kernel
def Ztf:Option TI:=some {k:=.slice 163 3 24,agg:=false,size:=1,bytes:=24,zero:=some (.slice none 0 0)}
theorem ZpK:ZA Tryz.prog 64=Ztf:=by kernel_rfl
theorem Zps:Tryz.prog.underlying 64=some (.slice 163):=by kernel_rfl
def Zte:Option TI:=some {k:=.struct [some (0,1,false),some (1,1,false),some (2,1,false),some (3,1,false)],agg:=true,size:=4,bytes:=48,zero:=some (.agg #[.int .i64 0,.int .i64 0,.int .i64 0,.slice none 0 0])}
theorem ZpJ:ZA Tryz.prog 66=Zte:=by kernel_rfl
def Ztd:Option TI:=some {k:=.slice 66 4 48,agg:=false,size:=1,bytes:=24,zero:=some (.slice none 0 0)}
theorem ZpI:ZA Tryz.prog 68=Ztd:=by kernel_rfl
theorem Zpr:Tryz.prog.underlying 68=some (.slice 66):=by kernel_rfl
def Ztc:Option TI:=some {k:=.func,agg:=false,size:=1,bytes:=8,zero:=some (.nilFunc)}
theorem ZpH:ZA Tryz.prog 85=Ztc:=by kernel_rfl
def Ztb:Option TI:=some {k:=.slice 33 1 24,agg:=false,size:=1,bytes:=24,zero:=some (.slice none 0 0)}
theorem ZpG:ZA Tryz.prog 86=Ztb:=by kernel_rfl
theorem Zpq:Tryz.prog.underlying 86=some (.slice 33):=by kernel_rfl
def Zta:Option TI:=some {k:=.struct [some (0,1,false),some (1,1,false),some (2,1,false)],agg:=true,size:=3,bytes:=72,zero:=some (.agg #[.slice none 0 0,.slice none 0 0,.slice none 0 0])}
theorem ZpF:ZA Tryz.prog 88=Zta:=by kernel_rfl
def Zs9:Option TI:=some {k:=.slice 88 3 72,agg:=false,size:=1,bytes:=24,zero:=some (.slice none 0 0)}
theorem ZpE:ZA Tryz.prog 96=Zs9:=by kernel_rfl
theorem Zpp:Tryz.prog.underlying 96=some (.slice 88):=by kernel_rfl
def ZrY:Option TI:=some {k:=.slice 4 1 1,agg:=false,size:=1,bytes:=24,zero:=some (.slice none 0 0)}
theorem ZnL:ZA Tryz.prog 103=ZrY:=by kernel_rfl
theorem ZmP:Tryz.prog.underlying 103=some (.slice 4):=by kernel_rfl
def ZrX:Option TI:=some {k:=.int .u64,agg:=false,size:=1,bytes:=8,zero:=some (.int .u64 0)}
theorem ZnK:ZA Tryz.prog 107=ZrX:=by kernel_rfl
theorem ZmO:Tryz.prog.underlying 107=some (.int .u64):=by kernel_rfl
def ZrW:Option TI:=some {k:=.struct [some (0,1,false)],agg:=true,size:=1,bytes:=8,zero:=some (.agg #[.int .u64 0])}
theorem ZnJ:ZA Tryz.prog 109=ZrW:=by kernel_rfl
theorem Zkn:JF Tryz.prog 109 1=true:=by decide+kernel
def ZrV:Option TI:=some {k:=.int .u64,agg:=false,size:=1,bytes:=8,zero:=some (.int .u64 0)}
theorem ZnI:ZA Tryz.prog 110=ZrV:=by kernel_rfl
theorem ZmN:Tryz.prog.underlying 110=some (.int .u64):=by kernel_rfl
def ZrU:Option TI:=some {k:=.slice 199 2 16,agg:=false,size:=1,bytes:=24,zero:=some (.slice none 0 0)}
theorem ZnH:ZA Tryz.prog 111=ZrU:=by kernel_rfl
theorem ZmM:Tryz.prog.underlying 111=some (.slice 199):=by kernel_rfl
def ZrT:Option TI:=some {k:=.struct [some (0,1,false),some (1,1,false)],agg:=true,size:=2,bytes:=32,zero:=some (.agg #[.int .i64 0,.slice none 0 0])}
theorem ZnG:ZA Tryz.prog 113=ZrT:=by kernel_rfl
def ZrS:Option TI:=some {k:=.slice 196 4 32,agg:=false,size:=1,bytes:=24,zero:=some (.slice none 0 0)}
theorem ZnF:ZA Tryz.prog 116=ZrS:=by kernel_rfl
theorem ZmL:Tryz.prog.underlying 116=some (.slice 196):=by kernel_rfl
def ZrR:Option TI:=some {k:=.struct [some (0,1,false),some (1,1,false),some (2,1,false)],agg:=true,size:=3,bytes:=40,zero:=some (.agg #[.int .i64 0,.int .i64 0,.slice none 0 0])}
theorem ZnE:ZA Tryz.prog 118=ZrR:=by kernel_rfl
def ZrQ:Option TI:=some {k:=.struct [some (0,1,false),some (1,1,false)],agg:=true,size:=2,bytes:=16,zero:=some (.agg #[.int .i64 0,.int .i64 0])}
theorem ZnD:ZA Tryz.prog 121=ZrQ:=by kernel_rfl
theorem Zkm:JF Tryz.prog 121 2=true:=by decide+kernel
def ZrP:Option TI:=some {k:=.ptr,agg:=false,size:=1,bytes:=8,zero:=some (.pointer none)}
theorem ZnC:ZA Tryz.prog 128=ZrP:=by kernel_rfl
def ZrO:Option TI:=some {k:=.struct [some (0,8,true),some (8,1,false)],agg:=true,size:=9,bytes:=184,zero:=some (.agg #[.slice none 0 0,.slice none 0 0,.slice none 0 0,.int .i64 0,.int .i64 0,.slice none 0 0,.slice none 0 0,.slice none 0 0,.slice none 0 0])}
theorem ZnB:ZA Tryz.prog 133=ZrO:=by kernel_rfl
def ZrN:Option TI:=some {k:=.slice 143 3 24,agg:=false,size:=1,bytes:=24,zero:=some (.slice none 0 0)}
theorem ZnA:ZA Tryz.prog 134=ZrN:=by kernel_rfl
theorem ZmK:Tryz.prog.underlying 134=some (.slice 143):=by kernel_rfl
def ZrM:Option TI:=some {k:=.func,agg:=false,size:=1,bytes:=8,zero:=some (.nilFunc)}
theorem Znz:ZA Tryz.prog 135=ZrM:=by kernel_rfl
def ZrL:Option TI:=some {k:=.func,agg:=false,size:=1,bytes:=8,zero:=some (.nilFunc)}
theorem Zny:ZA Tryz.prog 136=ZrL:=by kernel_rfl
def ZrK:Option TI:=some {k:=.array 6 1,agg:=true,size:=6,bytes:=48,zero:=some (.agg #[.int .i64 0,.int .i64 0,.int .i64 0,.int .i64 0,.int .i64 0,.int .i64 0])}
theorem Znx:ZA Tryz.prog 139=ZrK:=by kernel_rfl
theorem ZmJ:Tryz.prog.underlying 139=some (.array 6 3):=by kernel_rfl
theorem Zkl:JF Tryz.prog 139 6=true:=by decide+kernel
def ZrJ:Option TI:=some {k:=.map,agg:=false,size:=1,bytes:=8,zero:=some (.map none)}
theorem Znw:ZA Tryz.prog 140=ZrJ:=by kernel_rfl
theorem ZmI:Tryz.prog.underlying 140=some (.map 147 145):=by kernel_rfl
def ZrI:Option TI:=some {k:=.func,agg:=false,size:=1,bytes:=8,zero:=some (.nilFunc)}
theorem Znv:ZA Tryz.prog 141=ZrI:=by kernel_rfl
def ZrH:Option TI:=some {k:=.struct [some (0,2,true),some (2,1,false)],agg:=true,size:=3,bytes:=24,zero:=some (.agg #[.int .i64 0,.int .i64 0,.bool false])}
theorem Znu:ZA Tryz.prog 143=ZrH:=by kernel_rfl
def ZrG:Option TI:=some {k:=.struct [some (0,1,false),some (1,1,false),some (2,1,false)],agg:=true,size:=3,bytes:=24,zero:=some (.agg #[.int .i64 0,.int .i64 0,.int .i64 0])}
theorem Znt:ZA Tryz.prog 145=ZrG:=by kernel_rfl
theorem Zkk:JF Tryz.prog 145 3=true:=by decide+kernel
def ZrF:Option TI:=some {k:=.struct [some (0,1,false),some (1,1,false)],agg:=true,size:=2,bytes:=16,zero:=some (.agg #[.int .i64 0,.int .i64 0])}
theorem Zns:ZA Tryz.prog 147=ZrF:=by kernel_rfl
theorem Zkj:JF Tryz.prog 147 2=true:=by decide+kernel
def ZrE:Option TI:=some {k:=.slice 151 3 72,agg:=false,size:=1,bytes:=24,zero:=some (.slice none 0 0)}
theorem Znr:ZA Tryz.prog 148=ZrE:=by kernel_rfl
theorem ZmH:Tryz.prog.underlying 148=some (.slice 151):=by kernel_rfl
def ZrD:Option TI:=some {k:=.struct [some (0,1,false),some (1,1,false),some (2,1,false)],agg:=true,size:=3,bytes:=72,zero:=some (.agg #[.slice none 0 0,.slice none 0 0,.slice none 0 0])}
theorem Znq:ZA Tryz.prog 151=ZrD:=by kernel_rfl
def ZrC:Option TI:=some {k:=.struct [some (0,1,false),some (1,1,false),some (2,1,false)],agg:=true,size:=3,bytes:=24,zero:=some (.agg #[.int .i64 0,.int .i64 0,.int .i64 0])}
theorem Znp:ZA Tryz.prog 163=ZrC:=by kernel_rfl
theorem Zki:JF Tryz.prog 163 3=true:=by decide+kernel
def ZrB:Option TI:=some {k:=.map,agg:=false,size:=1,bytes:=8,zero:=some (.map none)}
theorem Zno:ZA Tryz.prog 176=ZrB:=by kernel_rfl
theorem ZmG:Tryz.prog.underlying 176=some (.map 139 140):=by kernel_rfl
def ZrA:Option TI:=some {k:=.array 4 1,agg:=true,size:=4,bytes:=4,zero:=some (.agg #[.bool false,.bool false,.bool false,.bool false])}
theorem Znn:ZA Tryz.prog 177=ZrA:=by kernel_rfl
theorem ZmF:Tryz.prog.underlying 177=some (.array 4 4):=by kernel_rfl
def Zrz:Option TI:=some {k:=.func,agg:=false,size:=1,bytes:=8,zero:=some (.nilFunc)}
theorem Znm:ZA Tryz.prog 183=Zrz:=by kernel_rfl
def Zry:Option TI:=some {k:=.func,agg:=false,size:=1,bytes:=8,zero:=some (.nilFunc)}
theorem Znl:ZA Tryz.prog 189=Zry:=by kernel_rfl
def Zrx:Option TI:=some {k:=.struct [some (0,1,false),some (1,1,false),some (2,1,false),some (3,1,false)],agg:=true,size:=4,bytes:=32,zero:=some (.agg #[.int .i64 0,.int .i64 0,.int .i64 0,.int .i64 0])}
theorem Znk:ZA Tryz.prog 196=Zrx:=by kernel_rfl
theorem Zkh:JF Tryz.prog 196 4=true:=by decide+kernel
def Zrw:Option TI:=some {k:=.struct [some (0,1,false),some (1,1,false)],agg:=true,size:=2,bytes:=16,zero:=some (.agg #[.int .i64 0,.int .i64 0])}
theorem Znj:ZA Tryz.prog 199=Zrw:=by kernel_rfl
theorem Zkg:JF Tryz.prog 199 2=true:=by decide+kernel
def Zrv:Option TI:=some {k:=.func,agg:=false,size:=1,bytes:=8,zero:=some (.nilFunc)}
theorem Zni:ZA Tryz.prog 201=Zrv:=by kernel_rfl
def Zru:Option TI:=some {k:=.func,agg:=false,size:=1,bytes:=8,zero:=some (.nilFunc)}
theorem Znh:ZA Tryz.prog 206=Zru:=by kernel_rfl
def Zrt:Option TI:=some {k:=.func,agg:=false,size:=1,bytes:=8,zero:=some (.nilFunc)}
theorem Zng:ZA Tryz.prog 207=Zrt:=by kernel_rfl
def Zrs:Option TI:=some {k:=.func,agg:=false,size:=1,bytes:=8,zero:=some (.nilFunc)}
theorem Znf:ZA Tryz.prog 208=Zrs:=by kernel_rfl
def Zrr:Option TI:=some {k:=.ptr,agg:=false,size:=1,bytes:=8,zero:=some (.pointer none)}
theorem Zne:ZA Tryz.prog 211=Zrr:=by kernel_rfl
def Zrq:Option TI:=some {k:=.func,agg:=false,size:=1,bytes:=8,zero:=some (.nilFunc)}
theorem Znd:ZA Tryz.prog 219=Zrq:=by kernel_rfl
def Zrp:Option TI:=some {k:=.struct [some (0,3,true),some (3,1,false),some (4,1,false)],agg:=true,size:=5,bytes:=72,zero:=some (.agg #[.int .i64 0,.int .i64 0,.slice none 0 0,.int .i64 0,.slice none 0 0])}
theorem Znc:ZA Tryz.prog 223=Zrp:=by kernel_rfl
def Zro:Option TI:=some {k:=.other,agg:=false,size:=1,bytes:=8,zero:=some (.chan none)}
theorem Znb:ZA Tryz.prog 226=Zro:=by kernel_rfl
def Zrn:Option TI:=some {k:=.ptr,agg:=false,size:=1,bytes:=8,zero:=some (.pointer none)}
theorem Zna:ZA Tryz.prog 230=Zrn:=by kernel_rfl
def Zrm:Option TI:=some {k:=.array 6 1,agg:=true,size:=6,bytes:=6,zero:=some (.agg #[.bool false,.bool false,.bool false,.bool false,.bool false,.bool false])}
theorem Zm9:ZA Tryz.prog 236=Zrm:=by kernel_rfl
theorem ZmE:Tryz.prog.underlying 236=some (.array 6 4):=by kernel_rfl
def Zrl:Option TI:=some {k:=.slice 23 1 24,agg:=false,size:=1,bytes:=24,zero:=some (.slice none 0 0)}
theorem Zm8:ZA Tryz.prog 241=Zrl:=by kernel_rfl
theorem ZmD:Tryz.prog.underlying 241=some (.slice 23):=by kernel_rfl
def Zrk:Option TI:=some {k:=.func,agg:=false,size:=1,bytes:=8,zero:=some (.nilFunc)}
theorem Zm7:ZA Tryz.prog 244=Zrk:=by kernel_rfl
def Zrj:Option TI:=some {k:=.map,agg:=false,size:=1,bytes:=8,zero:=some (.map none)}
theorem Zm6:ZA Tryz.prog 245=Zrj:=by kernel_rfl
theorem ZmC:Tryz.prog.underlying 245=some (.map 147 3):=by kernel_rfl
def Zri:Option TI:=some {k:=.func,agg:=false,size:=1,bytes:=8,zero:=some (.nilFunc)}
theorem Zm5:ZA Tryz.prog 246=Zri:=by kernel_rfl
def Zrh:Option TI:=some {k:=.func,agg:=false,size:=1,bytes:=8,zero:=some (.nilFunc)}
theorem Zm4:ZA Tryz.prog 248=Zrh:=by kernel_rfl
def Zrg:Option TI:=some {k:=.array 3 2,agg:=true,size:=6,bytes:=48,zero:=some (.agg #[.int .i64 0,.int .i64 0,.int .i64 0,.int .i64 0,.int .i64 0,.int .i64 0])}
theorem Zm3:ZA Tryz.prog 252=Zrg:=by kernel_rfl
theorem ZmB:Tryz.prog.underlying 252=some (.array 3 199):=by kernel_rfl
theorem Zkf:JF Tryz.prog 252 6=true:=by decide+kernel
def Zrf:Option TI:=some {k:=.struct [some (0,1,false),some (1,1,false),some (2,6,true)],agg:=true,size:=8,bytes:=64,zero:=some (.agg #[.int .i64 0,.int .i64 0,.int .i64 0,.int .i64 0,.int .i64 0,.int .i64 0,.int .i64 0,.int .i64 0])}
theorem Zm2:ZA Tryz.prog 254=Zrf:=by kernel_rfl
theorem Zke:JF Tryz.prog 254 8=true:=by decide+kernel
def Zre:Option TI:=some {k:=.slice 267 3 24,agg:=false,size:=1,bytes:=24,zero:=some (.slice none 0 0)}
theorem Zm1:ZA Tryz.prog 255=Zre:=by kernel_rfl
theorem ZmA:Tryz.prog.underlying 255=some (.slice 267):=by kernel_rfl
def Zrd:Option TI:=some {k:=.int .i64,agg:=false,size:=1,bytes:=8,zero:=some (.int .i64 0)}
theorem Zm0:ZA Tryz.prog 259=Zrd:=by kernel_rfl
theorem Zmz:Tryz.prog.underlying 259=some (.int .i64):=by kernel_rfl
def Zrc:Option TI:=some {k:=.map,agg:=false,size:=1,bytes:=8,zero:=some (.map none)}
theorem ZmZ:ZA Tryz.prog 262=Zrc:=by kernel_rfl
theorem Zmy:Tryz.prog.underlying 262=some (.map 3 4):=by kernel_rfl
def Zrb:Option TI:=some {k:=.struct [some (0,1,false),some (1,1,false),some (2,1,false)],agg:=true,size:=3,bytes:=24,zero:=some (.agg #[.int .i64 0,.int .i64 0,.int .i64 0])}
theorem ZmY:ZA Tryz.prog 267=Zrb:=by kernel_rfl
theorem Zkd:JF Tryz.prog 267 3=true:=by decide+kernel
def Zra:Option TI:=some {k:=.slice 272 3 24,agg:=false,size:=1,bytes:=24,zero:=some (.slice none 0 0)}
theorem ZmX:ZA Tryz.prog 269=Zra:=by kernel_rfl
theorem Zmx:Tryz.prog.underlying 269=some (.slice 272):=by kernel_rfl
def Zq9:Option TI:=some {k:=.struct [some (0,1,false),some (1,1,false),some (2,1,false)],agg:=true,size:=3,bytes:=24,zero:=some (.agg #[.int .i64 0,.int .i64 0,.int .i64 0])}
theorem ZmW:ZA Tryz.prog 272=Zq9:=by kernel_rfl
theorem Zkc:JF Tryz.prog 272 3=true:=by decide+kernel
def Zq8:Option TI:=some {k:=.func,agg:=false,size:=1,bytes:=8,zero:=some (.nilFunc)}
theorem ZmV:ZA Tryz.prog 274=Zq8:=by kernel_rfl
def Ztz (t : TypeId) : Option TI :=
  bif Z4 t 134 then
   bif Z4 t 57 then
    bif Z4 t 30 then
     bif Z4 t 23 then
      bif Z4 t 3 then
       bif Z4 t 1 then
        bif ZE t 1 then ti1 else none
       else
        bif ZE t 3 then ti3 else none
      else
       bif Z4 t 4 then
        bif ZE t 4 then ti4 else none
       else
        bif Z4 t 22 then
         bif ZE t 22 then Ztx else none
        else
         bif ZE t 23 then Ztw else none
     else
      bif Z4 t 26 then
       bif Z4 t 25 then
        bif ZE t 25 then Ztv else none
       else
        bif ZE t 26 then Ztu else none
      else
       bif Z4 t 27 then
        bif ZE t 27 then Ztt else none
       else
        bif Z4 t 28 then
         bif ZE t 28 then Zts else none
        else
         bif ZE t 30 then Ztr else none
    else
     bif Z4 t 42 then
      bif Z4 t 33 then
       bif Z4 t 32 then
        bif ZE t 32 then Ztq else none
       else
        bif ZE t 33 then Ztp else none
      else
       bif Z4 t 35 then
        bif ZE t 35 then Zto else none
       else
        bif Z4 t 38 then
         bif ZE t 38 then Ztn else none
        else
         bif ZE t 42 then Ztm else none
     else
      bif Z4 t 45 then
       bif Z4 t 44 then
        bif ZE t 44 then Ztl else none
       else
        bif ZE t 45 then Ztk else none
      else
       bif Z4 t 52 then
        bif ZE t 52 then Ztj else none
       else
        bif Z4 t 55 then
         bif ZE t 55 then Zti else none
        else
         bif ZE t 57 then Zth else none
   else
    bif Z4 t 107 then
     bif Z4 t 85 then
      bif Z4 t 64 then
       bif Z4 t 60 then
        bif ZE t 60 then Ztg else none
       else
        bif ZE t 64 then Ztf else none
      else
       bif Z4 t 66 then
        bif ZE t 66 then Zte else none
       else
        bif Z4 t 68 then
         bif ZE t 68 then Ztd else none
        else
         bif ZE t 85 then Ztc else none
     else
      bif Z4 t 88 then
       bif Z4 t 86 then
        bif ZE t 86 then Ztb else none
       else
        bif ZE t 88 then Zta else none
      else
       bif Z4 t 96 then
        bif ZE t 96 then Zs9 else none
       else
        bif Z4 t 103 then
         bif ZE t 103 then ZrY else none
        else
         bif ZE t 107 then ZrX else none
    else
     bif Z4 t 116 then
      bif Z4 t 110 then
       bif Z4 t 109 then
        bif ZE t 109 then ZrW else none
       else
        bif ZE t 110 then ZrV else none
      else
       bif Z4 t 111 then
        bif ZE t 111 then ZrU else none
       else
        bif Z4 t 113 then
         bif ZE t 113 then ZrT else none
        else
         bif ZE t 116 then ZrS else none
     else
      bif Z4 t 121 then
       bif Z4 t 118 then
        bif ZE t 118 then ZrR else none
       else
        bif ZE t 121 then ZrQ else none
      else
       bif Z4 t 128 then
        bif ZE t 128 then ZrP else none
       else
        bif Z4 t 133 then
         bif ZE t 133 then ZrO else none
        else
         bif ZE t 134 then ZrN else none
  else
   bif Z4 t 207 then
    bif Z4 t 151 then
     bif Z4 t 141 then
      bif Z4 t 136 then
       bif Z4 t 135 then
        bif ZE t 135 then ZrM else none
       else
        bif ZE t 136 then ZrL else none
      else
       bif Z4 t 139 then
        bif ZE t 139 then ZrK else none
       else
        bif Z4 t 140 then
         bif ZE t 140 then ZrJ else none
        else
         bif ZE t 141 then ZrI else none
     else
      bif Z4 t 145 then
       bif Z4 t 143 then
        bif ZE t 143 then ZrH else none
       else
        bif ZE t 145 then ZrG else none
      else
       bif Z4 t 147 then
        bif ZE t 147 then ZrF else none
       else
        bif Z4 t 148 then
         bif ZE t 148 then ZrE else none
        else
         bif ZE t 151 then ZrD else none
    else
     bif Z4 t 189 then
      bif Z4 t 176 then
       bif Z4 t 163 then
        bif ZE t 163 then ZrC else none
       else
        bif ZE t 176 then ZrB else none
      else
       bif Z4 t 177 then
        bif ZE t 177 then ZrA else none
       else
        bif Z4 t 183 then
         bif ZE t 183 then Zrz else none
        else
         bif ZE t 189 then Zry else none
     else
      bif Z4 t 199 then
       bif Z4 t 196 then
        bif ZE t 196 then Zrx else none
       else
        bif ZE t 199 then Zrw else none
      else
       bif Z4 t 201 then
        bif ZE t 201 then Zrv else none
       else
        bif Z4 t 206 then
         bif ZE t 206 then Zru else none
        else
         bif ZE t 207 then Zrt else none
   else
    bif Z4 t 245 then
     bif Z4 t 226 then
      bif Z4 t 211 then
       bif Z4 t 208 then
        bif ZE t 208 then Zrs else none
       else
        bif ZE t 211 then Zrr else none
      else
       bif Z4 t 219 then
        bif ZE t 219 then Zrq else none
       else
        bif Z4 t 223 then
         bif ZE t 223 then Zrp else none
        else
         bif ZE t 226 then Zro else none
     else
      bif Z4 t 236 then
       bif Z4 t 230 then
        bif ZE t 230 then Zrn else none
       else
        bif ZE t 236 then Zrm else none
      else
       bif Z4 t 241 then
        bif ZE t 241 then Zrl else none
       else
        bif Z4 t 244 then
         bif ZE t 244 then Zrk else none
        else
         bif ZE t 245 then Zrj else none
    else
     bif Z4 t 255 then
      bif Z4 t 248 then
       bif Z4 t 246 then
        bif ZE t 246 then Zri else none
       else
        bif ZE t 248 then Zrh else none
      else
       bif Z4 t 252 then
        bif ZE t 252 then Zrg else none
       else
        bif Z4 t 254 then
         bif ZE t 254 then Zrf else none
        else
         bif ZE t 255 then Zre else none
     else
      bif Z4 t 267 then
       bif Z4 t 259 then
        bif ZE t 259 then Zrd else none
       else
        bif Z4 t 262 then
         bif ZE t 262 then Zrc else none
        else
         bif ZE t 267 then Zrb else none
      else
       bif Z4 t 269 then
        bif ZE t 269 then Zra else none
       else
        bif Z4 t 272 then
         bif ZE t 272 then Zq9 else none
        else
         bif ZE t 274 then Zq8 else none
def Zty (t : TypeId) : Option TypeDesc :=
  bif Z4 t 103 then
   bif Z4 t 42 then
    bif Z4 t 23 then
     bif Z4 t 4 then
      bif Z4 t 3 then
       bif ZE t 3 then some (.int .i64) else none
      else
       bif ZE t 4 then some (.bool) else none
     else
      bif Z4 t 22 then
       bif ZE t 22 then some (.slice 113) else none
      else
       bif ZE t 23 then some (.slice 118) else none
    else
     bif Z4 t 27 then
      bif Z4 t 26 then
       bif ZE t 26 then some (.slice 121) else none
      else
       bif ZE t 27 then some (.slice 32) else none
     else
      bif Z4 t 28 then
       bif ZE t 28 then some (.slice 35) else none
      else
       bif Z4 t 33 then
        bif ZE t 33 then some (.slice 3) else none
       else
        bif ZE t 42 then some (.slice 30) else none
   else
    bif Z4 t 55 then
     bif Z4 t 45 then
      bif Z4 t 44 then
       bif ZE t 44 then some (.slice 57) else none
      else
       bif ZE t 45 then some (.int .i64) else none
     else
      bif Z4 t 52 then
       bif ZE t 52 then some (.slice 55) else none
      else
       bif ZE t 55 then some (.slice 60) else none
    else
     bif Z4 t 68 then
      bif Z4 t 64 then
       bif ZE t 64 then some (.slice 163) else none
      else
       bif ZE t 68 then some (.slice 66) else none
     else
      bif Z4 t 86 then
       bif ZE t 86 then some (.slice 33) else none
      else
       bif Z4 t 96 then
        bif ZE t 96 then some (.slice 88) else none
       else
        bif ZE t 103 then some (.slice 4) else none
  else
   bif Z4 t 176 then
    bif Z4 t 116 then
     bif Z4 t 110 then
      bif Z4 t 107 then
       bif ZE t 107 then some (.int .u64) else none
      else
       bif ZE t 110 then some (.int .u64) else none
     else
      bif Z4 t 111 then
       bif ZE t 111 then some (.slice 199) else none
      else
       bif ZE t 116 then some (.slice 196) else none
    else
     bif Z4 t 139 then
      bif Z4 t 134 then
       bif ZE t 134 then some (.slice 143) else none
      else
       bif ZE t 139 then some (.array 6 3) else none
     else
      bif Z4 t 140 then
       bif ZE t 140 then some (.map 147 145) else none
      else
       bif Z4 t 148 then
        bif ZE t 148 then some (.slice 151) else none
       else
        bif ZE t 176 then some (.map 139 140) else none
   else
    bif Z4 t 245 then
     bif Z4 t 236 then
      bif Z4 t 177 then
       bif ZE t 177 then some (.array 4 4) else none
      else
       bif ZE t 236 then some (.array 6 4) else none
     else
      bif Z4 t 241 then
       bif ZE t 241 then some (.slice 23) else none
      else
       bif ZE t 245 then some (.map 147 3) else none
    else
     bif Z4 t 255 then
      bif Z4 t 252 then
       bif ZE t 252 then some (.array 3 199) else none
      else
       bif ZE t 255 then some (.slice 267) else none
     else
      bif Z4 t 259 then
       bif ZE t 259 then some (.int .i64) else none
      else
       bif Z4 t 262 then
        bif ZE t 262 then some (.map 3 4) else none
       else
        bif ZE t 269 then some (.slice 272) else none
def ZtA (t : TypeId) (n : Nat) : Bool :=
  bif Z4 t 145 then
   bif Z4 t 60 then
    bif Z4 t 32 then
     bif ZE t 32 then ZE n 4 else false
    else
     bif Z4 t 57 then
      bif ZE t 57 then ZE n 2 else false
     else
      bif ZE t 60 then ZE n 3 else false
   else
    bif Z4 t 121 then
     bif Z4 t 109 then
      bif ZE t 109 then ZE n 1 else false
     else
      bif ZE t 121 then ZE n 2 else false
    else
     bif Z4 t 139 then
      bif ZE t 139 then ZE n 6 else false
     else
      bif ZE t 145 then ZE n 3 else false
  else
   bif Z4 t 199 then
    bif Z4 t 163 then
     bif Z4 t 147 then
      bif ZE t 147 then ZE n 2 else false
     else
      bif ZE t 163 then ZE n 3 else false
    else
     bif Z4 t 196 then
      bif ZE t 196 then ZE n 4 else false
     else
      bif ZE t 199 then ZE n 2 else false
   else
    bif Z4 t 254 then
     bif Z4 t 252 then
      bif ZE t 252 then ZE n 6 else false
     else
      bif ZE t 254 then ZE n 8 else false
    else
     bif Z4 t 267 then
      bif ZE t 267 then ZE n 3 else false
     else
      bif ZE t 272 then ZE n 3 else false
def tb:Tb:={ti:=Ztz,un:=Zty,eqs:=ZtA}
theorem Zo {α:Type} {b:Bool} {x y:α} {r:α} {C:Prop} (hx:x=r→C) (hy:y=r→C):(bif b then x else y)=r→C:=fun h=>by
 cases b
 ·exact hy h
 ·exact hx h
theorem ZtI {α:Type} {f:Nat→Option α} {t k:Nat} {e:Option α} {i:α} (hk:f k=e):(bif ZE t k then e else none)=some i→f t=some i:=fun h=>by
 cases hb:ZE t k
 ·rw[hb]at h;cases h
 ·rw[hb]at h
  rw[ZB hb]
  exact hk.trans h
theorem ZtH {t k n m:Nat} {C:Nat→Nat→Prop} (hk:C k m):(bif ZE t k then ZE n m else false)=true→C t n:=fun h=>by
 cases hb:ZE t k
 ·rw[hb]at h;cases h
 ·rw[hb]at h
  rw[ZB hb,ZB h]
  exact hk
theorem Xo {t k:Nat} {e:Option TI} {i:TI} (hk:ZA Tryz.prog k=e):(bif ZE t k then e else none)=some i→ZA Tryz.prog t=some i:=ZtI hk
theorem lkU {t k:Nat} {e:Option TypeDesc} {i:TypeDesc} (hk:Tryz.prog.underlying k=e):(bif ZE t k then e else none)=some i→Tryz.prog.underlying t=some i:=ZtI hk
theorem lkE {t k n m:Nat} (hk:JF Tryz.prog k m=true):(bif ZE t k then ZE n m else false)=true→JF Tryz.prog t n=true:=ZtH (C:=fun t n=>JF Tryz.prog t n=true) hk
theorem ZbK (t:TypeId) (i:TI):Ztz t=some i→ZA Tryz.prog t=some i:=
 (Zo (Zo (Zo (Zo (Zo (Zo (Xo Zsn) (Xo Zsm)) (Zo (Xo Zsl) (Zo (Xo Zp2) (Xo Zp1)))) (Zo (Zo (Xo Zp0) (Xo ZpZ)) (Zo (Xo ZpY) (Zo (Xo ZpX) (Xo ZpW))))) (Zo (Zo (Zo (Xo ZpV) (Xo ZpU)) (Zo (Xo ZpT) (Zo (Xo ZpS) (Xo ZpR)))) (Zo (Zo (Xo ZpQ) (Xo ZpP)) (Zo (Xo ZpO) (Zo (Xo ZpN) (Xo ZpM)))))) (Zo (Zo (Zo (Zo (Xo ZpL) (Xo ZpK)) (Zo (Xo ZpJ) (Zo (Xo ZpI) (Xo ZpH)))) (Zo (Zo (Xo ZpG) (Xo ZpF)) (Zo (Xo ZpE) (Zo (Xo ZnL) (Xo ZnK))))) (Zo (Zo (Zo (Xo ZnJ) (Xo ZnI)) (Zo (Xo ZnH) (Zo (Xo ZnG) (Xo ZnF)))) (Zo (Zo (Xo ZnE) (Xo ZnD)) (Zo (Xo ZnC) (Zo (Xo ZnB) (Xo ZnA))))))) (Zo (Zo (Zo (Zo (Zo (Xo Znz) (Xo Zny)) (Zo (Xo Znx) (Zo (Xo Znw) (Xo Znv)))) (Zo (Zo (Xo Znu) (Xo Znt)) (Zo (Xo Zns) (Zo (Xo Znr) (Xo Znq))))) (Zo (Zo (Zo (Xo Znp) (Xo Zno)) (Zo (Xo Znn) (Zo (Xo Znm) (Xo Znl)))) (Zo (Zo (Xo Znk) (Xo Znj)) (Zo (Xo Zni) (Zo (Xo Znh) (Xo Zng)))))) (Zo (Zo (Zo (Zo (Xo Znf) (Xo Zne)) (Zo (Xo Znd) (Zo (Xo Znc) (Xo Znb)))) (Zo (Zo (Xo Zna) (Xo Zm9)) (Zo (Xo Zm8) (Zo (Xo Zm7) (Xo Zm6))))) (Zo (Zo (Zo (Xo Zm5) (Xo Zm4)) (Zo (Xo Zm3) (Zo (Xo Zm2) (Xo Zm1)))) (Zo (Zo (Xo Zm0) (Zo (Xo ZmZ) (Xo ZmY))) (Zo (Xo ZmX) (Zo (Xo ZmW) (Xo ZmV))))))))
theorem ZbJ (t:TypeId) (d:TypeDesc):Zty t=some d→Tryz.prog.underlying t=some d:=
 (Zo (Zo (Zo (Zo (Zo (lkU Zsk) (lkU Zsj)) (Zo (lkU ZpD) (lkU ZpC))) (Zo (Zo (lkU ZpB) (lkU ZpA)) (Zo (lkU Zpz) (Zo (lkU Zpy) (lkU Zpx))))) (Zo (Zo (Zo (lkU Zpw) (lkU Zpv)) (Zo (lkU Zpu) (lkU Zpt))) (Zo (Zo (lkU Zps) (lkU Zpr)) (Zo (lkU Zpq) (Zo (lkU Zpp) (lkU ZmP)))))) (Zo (Zo (Zo (Zo (lkU ZmO) (lkU ZmN)) (Zo (lkU ZmM) (lkU ZmL))) (Zo (Zo (lkU ZmK) (lkU ZmJ)) (Zo (lkU ZmI) (Zo (lkU ZmH) (lkU ZmG))))) (Zo (Zo (Zo (lkU ZmF) (lkU ZmE)) (Zo (lkU ZmD) (lkU ZmC))) (Zo (Zo (lkU ZmB) (lkU ZmA)) (Zo (lkU Zmz) (Zo (lkU Zmy) (lkU Zmx)))))))
theorem ZbL (t n:Nat):ZtA t n=true→JF Tryz.prog t n=true:=
 (Zo (Zo (Zo (lkE ZlY) (Zo (lkE ZlX) (lkE ZlW))) (Zo (Zo (lkE Zkn) (lkE Zkm)) (Zo (lkE Zkl) (lkE Zkk)))) (Zo (Zo (Zo (lkE Zkj) (lkE Zki)) (Zo (lkE Zkh) (lkE Zkg))) (Zo (Zo (lkE Zkf) (lkE Zke)) (Zo (lkE Zkd) (lkE Zkc)))))
theorem hT:tb.Of ((fun _=>Tryz.prog:Unit→Program) ()):=⟨ZbK,ZbJ,ZbL⟩
theorem hm:((fun _=>Tryz.prog:Unit→Program) ()).follows .mixedOrders=true:=by decide+kernel
def tbF (kp rs:Bool):Tb:={tb with kp,rs}
theorem hTF (kp rs:Bool):(tbF kp rs).Of ((fun _=>Tryz.prog:Unit→Program) ()):=⟨ZbK,ZbJ,ZbL⟩
end Go.Proofs.YtjgpiclllehgmaaGreat.Vm
