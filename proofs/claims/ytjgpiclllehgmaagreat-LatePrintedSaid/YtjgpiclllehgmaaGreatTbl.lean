/- The types of this program, as a table for the abstract machine. Printed by wip/tables.py. -/
import Derived.Test.YtjgpiclllehgmaaGreatRows
import Derived.Test.YtjgpiclllehgmaaGreatM4
set_option linter.unusedSimpArgs false
set_option linter.unusedVariables false
namespace Go.Proofs.YtjgpiclllehgmaaGreat.Vm
open Go Go.Proofs
set_option maxRecDepth 100000
def ti1:Option TI:=some {k:=.func,agg:=false,size:=1,bytes:=8,zero:=some (.nilFunc)}
theorem Zsz:Zy Tryz.prog 1=ti1:=by kernel_rfl
def ti3:Option TI:=some {k:=.int .i64,agg:=false,size:=1,bytes:=8,zero:=some (.int .i64 0)}
theorem Zsy:Zy Tryz.prog 3=ti3:=by kernel_rfl
theorem Zsw:Tryz.prog.underlying 3=some (.int .i64):=by kernel_rfl
def ti4:Option TI:=some {k:=.bool,agg:=false,size:=1,bytes:=1,zero:=some (.bool false)}
theorem Zsx:Zy Tryz.prog 4=ti4:=by kernel_rfl
theorem Zsv:Tryz.prog.underlying 4=some (.bool):=by kernel_rfl
def ZtI:Option TI:=some {k:=.slice 113 2 32,agg:=false,size:=1,bytes:=24,zero:=some (.slice none 0 0)}
theorem Zqb:Zy Tryz.prog 22=ZtI:=by kernel_rfl
theorem ZpM:Tryz.prog.underlying 22=some (.slice 113):=by kernel_rfl
def ZtH:Option TI:=some {k:=.slice 118 3 40,agg:=false,size:=1,bytes:=24,zero:=some (.slice none 0 0)}
theorem Zqa:Zy Tryz.prog 23=ZtH:=by kernel_rfl
theorem ZpL:Tryz.prog.underlying 23=some (.slice 118):=by kernel_rfl
def ZtG:Option TI:=some {k:=.struct [some (0,1,false),some (1,1,false),some (2,1,false),some (3,1,false),some (4,1,false)],agg:=true,size:=5,bytes:=88,zero:=some (.agg #[.slice none 0 0,.slice none 0 0,.slice none 0 0,.int .i64 0,.int .i64 0])}
theorem Zp9:Zy Tryz.prog 25=ZtG:=by kernel_rfl
def ZtF:Option TI:=some {k:=.slice 121 2 16,agg:=false,size:=1,bytes:=24,zero:=some (.slice none 0 0)}
theorem Zp8:Zy Tryz.prog 26=ZtF:=by kernel_rfl
theorem ZpK:Tryz.prog.underlying 26=some (.slice 121):=by kernel_rfl
def ZtE:Option TI:=some {k:=.slice 32 4 32,agg:=false,size:=1,bytes:=24,zero:=some (.slice none 0 0)}
theorem Zp7:Zy Tryz.prog 27=ZtE:=by kernel_rfl
theorem ZpJ:Tryz.prog.underlying 27=some (.slice 32):=by kernel_rfl
def ZtD:Option TI:=some {k:=.slice 35 3 40,agg:=false,size:=1,bytes:=24,zero:=some (.slice none 0 0)}
theorem Zp6:Zy Tryz.prog 28=ZtD:=by kernel_rfl
theorem ZpI:Tryz.prog.underlying 28=some (.slice 35):=by kernel_rfl
def ZtC:Option TI:=some {k:=.struct [some (0,5,true),some (5,1,false),some (6,1,false),some (7,1,false)],agg:=true,size:=8,bytes:=160,zero:=some (.agg #[.slice none 0 0,.slice none 0 0,.slice none 0 0,.int .i64 0,.int .i64 0,.slice none 0 0,.slice none 0 0,.slice none 0 0])}
theorem Zp5:Zy Tryz.prog 30=ZtC:=by kernel_rfl
def ZtB:Option TI:=some {k:=.struct [some (0,1,false),some (1,1,false),some (2,1,false),some (3,1,false)],agg:=true,size:=4,bytes:=32,zero:=some (.agg #[.int .i64 0,.int .i64 0,.int .i64 0,.int .i64 0])}
theorem Zp4:Zy Tryz.prog 32=ZtB:=by kernel_rfl
theorem Zl2:Jz Tryz.prog 32 4=true:=by decide+kernel
def ZtA:Option TI:=some {k:=.slice 3 1 8,agg:=false,size:=1,bytes:=24,zero:=some (.slice none 0 0)}
theorem Zp3:Zy Tryz.prog 33=ZtA:=by kernel_rfl
theorem ZpH:Tryz.prog.underlying 33=some (.slice 3):=by kernel_rfl
def Ztz:Option TI:=some {k:=.struct [some (0,1,false),some (1,1,false),some (2,1,false)],agg:=true,size:=3,bytes:=40,zero:=some (.agg #[.int .i64 0,.int .i64 0,.slice none 0 0])}
theorem Zp2:Zy Tryz.prog 35=Ztz:=by kernel_rfl
def Zty:Option TI:=some {k:=.ptr,agg:=false,size:=1,bytes:=8,zero:=some (.pointer none)}
theorem Zp1:Zy Tryz.prog 38=Zty:=by kernel_rfl
def Ztx:Option TI:=some {k:=.slice 30 8 160,agg:=false,size:=1,bytes:=24,zero:=some (.slice none 0 0)}
theorem Zp0:Zy Tryz.prog 42=Ztx:=by kernel_rfl
theorem ZpG:Tryz.prog.underlying 42=some (.slice 30):=by kernel_rfl
def Ztw:Option TI:=some {k:=.slice 57 2 16,agg:=false,size:=1,bytes:=24,zero:=some (.slice none 0 0)}
theorem ZpZ:Zy Tryz.prog 44=Ztw:=by kernel_rfl
theorem ZpF:Tryz.prog.underlying 44=some (.slice 57):=by kernel_rfl
def Ztv:Option TI:=some {k:=.int .i64,agg:=false,size:=1,bytes:=8,zero:=some (.int .i64 0)}
theorem ZpY:Zy Tryz.prog 45=Ztv:=by kernel_rfl
theorem ZpE:Tryz.prog.underlying 45=some (.int .i64):=by kernel_rfl
def Ztu:Option TI:=some {k:=.slice 55 1 24,agg:=false,size:=1,bytes:=24,zero:=some (.slice none 0 0)}
theorem ZpX:Zy Tryz.prog 52=Ztu:=by kernel_rfl
theorem ZpD:Tryz.prog.underlying 52=some (.slice 55):=by kernel_rfl
def Ztt:Option TI:=some {k:=.slice 60 3 24,agg:=false,size:=1,bytes:=24,zero:=some (.slice none 0 0)}
theorem ZpW:Zy Tryz.prog 55=Ztt:=by kernel_rfl
theorem ZpC:Tryz.prog.underlying 55=some (.slice 60):=by kernel_rfl
def Zts:Option TI:=some {k:=.struct [some (0,1,false),some (1,1,false)],agg:=true,size:=2,bytes:=16,zero:=some (.agg #[.int .i64 0,.int .i64 0])}
theorem ZpV:Zy Tryz.prog 57=Zts:=by kernel_rfl
theorem Zl1:Jz Tryz.prog 57 2=true:=by decide+kernel
def Ztr:Option TI:=some {k:=.struct [some (0,1,false),some (1,1,false),some (2,1,false)],agg:=true,size:=3,bytes:=24,zero:=some (.agg #[.int .i64 0,.int .i64 0,.int .i64 0])}
theorem ZpU:Zy Tryz.prog 60=Ztr:=by kernel_rfl
theorem Zl0:Jz Tryz.prog 60 3=true:=by decide+kernel
def Ztq:Option TI:=some {k:=.slice 163 3 24,agg:=false,size:=1,bytes:=24,zero:=some (.slice none 0 0)}
theorem ZpT:Zy Tryz.prog 64=Ztq:=by kernel_rfl
theorem ZpB:Tryz.prog.underlying 64=some (.slice 163):=by kernel_rfl
def Ztp:Option TI:=some {k:=.struct [some (0,1,false),some (1,1,false),some (2,1,false),some (3,1,false)],agg:=true,size:=4,bytes:=48,zero:=some (.agg #[.int .i64 0,.int .i64 0,.int .i64 0,.slice none 0 0])}
theorem ZpS:Zy Tryz.prog 66=Ztp:=by kernel_rfl
def Zto:Option TI:=some {k:=.slice 66 4 48,agg:=false,size:=1,bytes:=24,zero:=some (.slice none 0 0)}
theorem ZpR:Zy Tryz.prog 68=Zto:=by kernel_rfl
theorem ZpA:Tryz.prog.underlying 68=some (.slice 66):=by kernel_rfl
def Ztn:Option TI:=some {k:=.func,agg:=false,size:=1,bytes:=8,zero:=some (.nilFunc)}
theorem ZpQ:Zy Tryz.prog 85=Ztn:=by kernel_rfl
def Ztm:Option TI:=some {k:=.slice 33 1 24,agg:=false,size:=1,bytes:=24,zero:=some (.slice none 0 0)}
theorem ZpP:Zy Tryz.prog 86=Ztm:=by kernel_rfl
theorem Zpz:Tryz.prog.underlying 86=some (.slice 33):=by kernel_rfl
def Ztl:Option TI:=some {k:=.struct [some (0,1,false),some (1,1,false),some (2,1,false)],agg:=true,size:=3,bytes:=72,zero:=some (.agg #[.slice none 0 0,.slice none 0 0,.slice none 0 0])}
theorem ZpO:Zy Tryz.prog 88=Ztl:=by kernel_rfl
def Ztk:Option TI:=some {k:=.slice 88 3 72,agg:=false,size:=1,bytes:=24,zero:=some (.slice none 0 0)}
theorem ZpN:Zy Tryz.prog 96=Ztk:=by kernel_rfl
theorem Zpy:Tryz.prog.underlying 96=some (.slice 88):=by kernel_rfl
def Zsa:Option TI:=some {k:=.slice 4 1 1,agg:=false,size:=1,bytes:=24,zero:=some (.slice none 0 0)}
theorem ZnP:Zy Tryz.prog 103=Zsa:=by kernel_rfl
theorem ZmS:Tryz.prog.underlying 103=some (.slice 4):=by kernel_rfl
def Zr9:Option TI:=some {k:=.int .u64,agg:=false,size:=1,bytes:=8,zero:=some (.int .u64 0)}
theorem ZnO:Zy Tryz.prog 107=Zr9:=by kernel_rfl
theorem ZmR:Tryz.prog.underlying 107=some (.int .u64):=by kernel_rfl
def Zr8:Option TI:=some {k:=.struct [some (0,1,false)],agg:=true,size:=1,bytes:=8,zero:=some (.agg #[.int .u64 0])}
theorem ZnN:Zy Tryz.prog 109=Zr8:=by kernel_rfl
theorem Zkn:Jz Tryz.prog 109 1=true:=by decide+kernel
def Zr7:Option TI:=some {k:=.int .u64,agg:=false,size:=1,bytes:=8,zero:=some (.int .u64 0)}
theorem ZnM:Zy Tryz.prog 110=Zr7:=by kernel_rfl
theorem ZmQ:Tryz.prog.underlying 110=some (.int .u64):=by kernel_rfl
def Zr6:Option TI:=some {k:=.slice 199 2 16,agg:=false,size:=1,bytes:=24,zero:=some (.slice none 0 0)}
theorem ZnL:Zy Tryz.prog 111=Zr6:=by kernel_rfl
theorem ZmP:Tryz.prog.underlying 111=some (.slice 199):=by kernel_rfl
def Zr5:Option TI:=some {k:=.struct [some (0,1,false),some (1,1,false)],agg:=true,size:=2,bytes:=32,zero:=some (.agg #[.int .i64 0,.slice none 0 0])}
theorem ZnK:Zy Tryz.prog 113=Zr5:=by kernel_rfl
def Zr4:Option TI:=some {k:=.slice 196 4 32,agg:=false,size:=1,bytes:=24,zero:=some (.slice none 0 0)}
theorem ZnJ:Zy Tryz.prog 116=Zr4:=by kernel_rfl
theorem ZmO:Tryz.prog.underlying 116=some (.slice 196):=by kernel_rfl
def Zr3:Option TI:=some {k:=.struct [some (0,1,false),some (1,1,false),some (2,1,false)],agg:=true,size:=3,bytes:=40,zero:=some (.agg #[.int .i64 0,.int .i64 0,.slice none 0 0])}
theorem ZnI:Zy Tryz.prog 118=Zr3:=by kernel_rfl
def Zr2:Option TI:=some {k:=.struct [some (0,1,false),some (1,1,false)],agg:=true,size:=2,bytes:=16,zero:=some (.agg #[.int .i64 0,.int .i64 0])}
theorem ZnH:Zy Tryz.prog 121=Zr2:=by kernel_rfl
theorem Zkm:Jz Tryz.prog 121 2=true:=by decide+kernel
def Zr1:Option TI:=some {k:=.ptr,agg:=false,size:=1,bytes:=8,zero:=some (.pointer none)}
theorem ZnG:Zy Tryz.prog 128=Zr1:=by kernel_rfl
def Zr0:Option TI:=some {k:=.struct [some (0,8,true),some (8,1,false)],agg:=true,size:=9,bytes:=184,zero:=some (.agg #[.slice none 0 0,.slice none 0 0,.slice none 0 0,.int .i64 0,.int .i64 0,.slice none 0 0,.slice none 0 0,.slice none 0 0,.slice none 0 0])}
theorem ZnF:Zy Tryz.prog 133=Zr0:=by kernel_rfl
def ZrZ:Option TI:=some {k:=.slice 143 3 24,agg:=false,size:=1,bytes:=24,zero:=some (.slice none 0 0)}
theorem ZnE:Zy Tryz.prog 134=ZrZ:=by kernel_rfl
theorem ZmN:Tryz.prog.underlying 134=some (.slice 143):=by kernel_rfl
def ZrY:Option TI:=some {k:=.func,agg:=false,size:=1,bytes:=8,zero:=some (.nilFunc)}
theorem ZnD:Zy Tryz.prog 135=ZrY:=by kernel_rfl
def ZrX:Option TI:=some {k:=.func,agg:=false,size:=1,bytes:=8,zero:=some (.nilFunc)}
theorem ZnC:Zy Tryz.prog 136=ZrX:=by kernel_rfl
def ZrW:Option TI:=some {k:=.array 6 1,agg:=true,size:=6,bytes:=48,zero:=some (.agg #[.int .i64 0,.int .i64 0,.int .i64 0,.int .i64 0,.int .i64 0,.int .i64 0])}
theorem ZnB:Zy Tryz.prog 139=ZrW:=by kernel_rfl
theorem ZmM:Tryz.prog.underlying 139=some (.array 6 3):=by kernel_rfl
theorem Zkl:Jz Tryz.prog 139 6=true:=by decide+kernel
def ZrV:Option TI:=some {k:=.map,agg:=false,size:=1,bytes:=8,zero:=some (.map none)}
theorem ZnA:Zy Tryz.prog 140=ZrV:=by kernel_rfl
theorem ZmL:Tryz.prog.underlying 140=some (.map 147 145):=by kernel_rfl
def ZrU:Option TI:=some {k:=.func,agg:=false,size:=1,bytes:=8,zero:=some (.nilFunc)}
theorem Znz:Zy Tryz.prog 141=ZrU:=by kernel_rfl
def ZrT:Option TI:=some {k:=.struct [some (0,2,true),some (2,1,false)],agg:=true,size:=3,bytes:=24,zero:=some (.agg #[.int .i64 0,.int .i64 0,.bool false])}
theorem Zny:Zy Tryz.prog 143=ZrT:=by kernel_rfl
def ZrS:Option TI:=some {k:=.struct [some (0,1,false),some (1,1,false),some (2,1,false)],agg:=true,size:=3,bytes:=24,zero:=some (.agg #[.int .i64 0,.int .i64 0,.int .i64 0])}
theorem Znx:Zy Tryz.prog 145=ZrS:=by kernel_rfl
theorem Zkk:Jz Tryz.prog 145 3=true:=by decide+kernel
def ZrR:Option TI:=some {k:=.struct [some (0,1,false),some (1,1,false)],agg:=true,size:=2,bytes:=16,zero:=some (.agg #[.int .i64 0,.int .i64 0])}
theorem Znw:Zy Tryz.prog 147=ZrR:=by kernel_rfl
theorem Zkj:Jz Tryz.prog 147 2=true:=by decide+kernel
def ZrQ:Option TI:=some {k:=.slice 151 3 72,agg:=false,size:=1,bytes:=24,zero:=some (.slice none 0 0)}
theorem Znv:Zy Tryz.prog 148=ZrQ:=by kernel_rfl
theorem ZmK:Tryz.prog.underlying 148=some (.slice 151):=by kernel_rfl
def ZrP:Option TI:=some {k:=.struct [some (0,1,false),some (1,1,false),some (2,1,false)],agg:=true,size:=3,bytes:=72,zero:=some (.agg #[.slice none 0 0,.slice none 0 0,.slice none 0 0])}
theorem Znu:Zy Tryz.prog 151=ZrP:=by kernel_rfl
def ZrO:Option TI:=some {k:=.struct [some (0,1,false),some (1,1,false),some (2,1,false)],agg:=true,size:=3,bytes:=24,zero:=some (.agg #[.int .i64 0,.int .i64 0,.int .i64 0])}
theorem Znt:Zy Tryz.prog 163=ZrO:=by kernel_rfl
theorem Zki:Jz Tryz.prog 163 3=true:=by decide+kernel
def ZrN:Option TI:=some {k:=.map,agg:=false,size:=1,bytes:=8,zero:=some (.map none)}
theorem Zns:Zy Tryz.prog 176=ZrN:=by kernel_rfl
theorem ZmJ:Tryz.prog.underlying 176=some (.map 139 140):=by kernel_rfl
def ZrM:Option TI:=some {k:=.array 4 1,agg:=true,size:=4,bytes:=4,zero:=some (.agg #[.bool false,.bool false,.bool false,.bool false])}
theorem Znr:Zy Tryz.prog 177=ZrM:=by kernel_rfl
theorem ZmI:Tryz.prog.underlying 177=some (.array 4 4):=by kernel_rfl
def ZrL:Option TI:=some {k:=.func,agg:=false,size:=1,bytes:=8,zero:=some (.nilFunc)}
theorem Znq:Zy Tryz.prog 183=ZrL:=by kernel_rfl
def ZrK:Option TI:=some {k:=.func,agg:=false,size:=1,bytes:=8,zero:=some (.nilFunc)}
theorem Znp:Zy Tryz.prog 189=ZrK:=by kernel_rfl
def ZrJ:Option TI:=some {k:=.struct [some (0,1,false),some (1,1,false),some (2,1,false),some (3,1,false)],agg:=true,size:=4,bytes:=32,zero:=some (.agg #[.int .i64 0,.int .i64 0,.int .i64 0,.int .i64 0])}
theorem Zno:Zy Tryz.prog 196=ZrJ:=by kernel_rfl
theorem Zkh:Jz Tryz.prog 196 4=true:=by decide+kernel
def ZrI:Option TI:=some {k:=.struct [some (0,1,false),some (1,1,false)],agg:=true,size:=2,bytes:=16,zero:=some (.agg #[.int .i64 0,.int .i64 0])}
theorem Znn:Zy Tryz.prog 199=ZrI:=by kernel_rfl
theorem Zkg:Jz Tryz.prog 199 2=true:=by decide+kernel
def ZrH:Option TI:=some {k:=.func,agg:=false,size:=1,bytes:=8,zero:=some (.nilFunc)}
theorem Znm:Zy Tryz.prog 201=ZrH:=by kernel_rfl
def ZrG:Option TI:=some {k:=.func,agg:=false,size:=1,bytes:=8,zero:=some (.nilFunc)}
theorem Znl:Zy Tryz.prog 206=ZrG:=by kernel_rfl
def ZrF:Option TI:=some {k:=.func,agg:=false,size:=1,bytes:=8,zero:=some (.nilFunc)}
theorem Znk:Zy Tryz.prog 207=ZrF:=by kernel_rfl
def ZrE:Option TI:=some {k:=.func,agg:=false,size:=1,bytes:=8,zero:=some (.nilFunc)}
theorem Znj:Zy Tryz.prog 208=ZrE:=by kernel_rfl
def ZrD:Option TI:=some {k:=.ptr,agg:=false,size:=1,bytes:=8,zero:=some (.pointer none)}
theorem Zni:Zy Tryz.prog 211=ZrD:=by kernel_rfl
def ZrC:Option TI:=some {k:=.func,agg:=false,size:=1,bytes:=8,zero:=some (.nilFunc)}
theorem Znh:Zy Tryz.prog 219=ZrC:=by kernel_rfl
def ZrB:Option TI:=some {k:=.struct [some (0,3,true),some (3,1,false),some (4,1,false)],agg:=true,size:=5,bytes:=72,zero:=some (.agg #[.int .i64 0,.int .i64 0,.slice none 0 0,.int .i64 0,.slice none 0 0])}
theorem Zng:Zy Tryz.prog 223=ZrB:=by kernel_rfl
def ZrA:Option TI:=some {k:=.other,agg:=false,size:=1,bytes:=8,zero:=some (.chan none)}
theorem Znf:Zy Tryz.prog 226=ZrA:=by kernel_rfl
def Zrz:Option TI:=some {k:=.ptr,agg:=false,size:=1,bytes:=8,zero:=some (.pointer none)}
theorem Zne:Zy Tryz.prog 230=Zrz:=by kernel_rfl
def Zry:Option TI:=some {k:=.array 6 1,agg:=true,size:=6,bytes:=6,zero:=some (.agg #[.bool false,.bool false,.bool false,.bool false,.bool false,.bool false])}
theorem Znd:Zy Tryz.prog 236=Zry:=by kernel_rfl
theorem ZmH:Tryz.prog.underlying 236=some (.array 6 4):=by kernel_rfl
def Zrx:Option TI:=some {k:=.slice 23 1 24,agg:=false,size:=1,bytes:=24,zero:=some (.slice none 0 0)}
theorem Znc:Zy Tryz.prog 241=Zrx:=by kernel_rfl
theorem ZmG:Tryz.prog.underlying 241=some (.slice 23):=by kernel_rfl
def Zrw:Option TI:=some {k:=.func,agg:=false,size:=1,bytes:=8,zero:=some (.nilFunc)}
theorem Znb:Zy Tryz.prog 244=Zrw:=by kernel_rfl
def Zrv:Option TI:=some {k:=.map,agg:=false,size:=1,bytes:=8,zero:=some (.map none)}
theorem Zna:Zy Tryz.prog 245=Zrv:=by kernel_rfl
theorem ZmF:Tryz.prog.underlying 245=some (.map 147 3):=by kernel_rfl
def Zru:Option TI:=some {k:=.func,agg:=false,size:=1,bytes:=8,zero:=some (.nilFunc)}
theorem Zm9:Zy Tryz.prog 246=Zru:=by kernel_rfl
def Zrt:Option TI:=some {k:=.func,agg:=false,size:=1,bytes:=8,zero:=some (.nilFunc)}
theorem Zm8:Zy Tryz.prog 248=Zrt:=by kernel_rfl
def Zrs:Option TI:=some {k:=.array 3 2,agg:=true,size:=6,bytes:=48,zero:=some (.agg #[.int .i64 0,.int .i64 0,.int .i64 0,.int .i64 0,.int .i64 0,.int .i64 0])}
theorem Zm7:Zy Tryz.prog 252=Zrs:=by kernel_rfl
theorem ZmE:Tryz.prog.underlying 252=some (.array 3 199):=by kernel_rfl
theorem Zkf:Jz Tryz.prog 252 6=true:=by decide+kernel
def Zrr:Option TI:=some {k:=.struct [some (0,1,false),some (1,1,false),some (2,6,true)],agg:=true,size:=8,bytes:=64,zero:=some (.agg #[.int .i64 0,.int .i64 0,.int .i64 0,.int .i64 0,.int .i64 0,.int .i64 0,.int .i64 0,.int .i64 0])}
theorem Zm6:Zy Tryz.prog 254=Zrr:=by kernel_rfl
theorem Zke:Jz Tryz.prog 254 8=true:=by decide+kernel
def Zrq:Option TI:=some {k:=.slice 267 3 24,agg:=false,size:=1,bytes:=24,zero:=some (.slice none 0 0)}
theorem Zm5:Zy Tryz.prog 255=Zrq:=by kernel_rfl
theorem ZmD:Tryz.prog.underlying 255=some (.slice 267):=by kernel_rfl
def Zrp:Option TI:=some {k:=.int .i64,agg:=false,size:=1,bytes:=8,zero:=some (.int .i64 0)}
theorem Zm4:Zy Tryz.prog 259=Zrp:=by kernel_rfl
theorem ZmC:Tryz.prog.underlying 259=some (.int .i64):=by kernel_rfl
def Zro:Option TI:=some {k:=.map,agg:=false,size:=1,bytes:=8,zero:=some (.map none)}
theorem Zm3:Zy Tryz.prog 262=Zro:=by kernel_rfl
theorem ZmB:Tryz.prog.underlying 262=some (.map 3 4):=by kernel_rfl
def Zrn:Option TI:=some {k:=.struct [some (0,1,false),some (1,1,false),some (2,1,false)],agg:=true,size:=3,bytes:=24,zero:=some (.agg #[.int .i64 0,.int .i64 0,.int .i64 0])}
theorem Zm2:Zy Tryz.prog 267=Zrn:=by kernel_rfl
theorem Zkd:Jz Tryz.prog 267 3=true:=by decide+kernel
def Zrm:Option TI:=some {k:=.slice 272 3 24,agg:=false,size:=1,bytes:=24,zero:=some (.slice none 0 0)}
theorem Zm1:Zy Tryz.prog 269=Zrm:=by kernel_rfl
theorem ZmA:Tryz.prog.underlying 269=some (.slice 272):=by kernel_rfl
def Zrl:Option TI:=some {k:=.struct [some (0,1,false),some (1,1,false),some (2,1,false)],agg:=true,size:=3,bytes:=24,zero:=some (.agg #[.int .i64 0,.int .i64 0,.int .i64 0])}
theorem Zm0:Zy Tryz.prog 272=Zrl:=by kernel_rfl
theorem Zkc:Jz Tryz.prog 272 3=true:=by decide+kernel
def Zrk:Option TI:=some {k:=.func,agg:=false,size:=1,bytes:=8,zero:=some (.nilFunc)}
theorem ZmZ:Zy Tryz.prog 274=Zrk:=by kernel_rfl
def ZtK (t : TypeId) : Option TI :=
  bif Z5 t 134 then
   bif Z5 t 57 then
    bif Z5 t 30 then
     bif Z5 t 23 then
      bif Z5 t 3 then
       bif Z5 t 1 then
        bif ZC t 1 then ti1 else none
       else
        bif ZC t 3 then ti3 else none
      else
       bif Z5 t 4 then
        bif ZC t 4 then ti4 else none
       else
        bif Z5 t 22 then
         bif ZC t 22 then ZtI else none
        else
         bif ZC t 23 then ZtH else none
     else
      bif Z5 t 26 then
       bif Z5 t 25 then
        bif ZC t 25 then ZtG else none
       else
        bif ZC t 26 then ZtF else none
      else
       bif Z5 t 27 then
        bif ZC t 27 then ZtE else none
       else
        bif Z5 t 28 then
         bif ZC t 28 then ZtD else none
        else
         bif ZC t 30 then ZtC else none
    else
     bif Z5 t 42 then
      bif Z5 t 33 then
       bif Z5 t 32 then
        bif ZC t 32 then ZtB else none
       else
        bif ZC t 33 then ZtA else none
      else
       bif Z5 t 35 then
        bif ZC t 35 then Ztz else none
       else
        bif Z5 t 38 then
         bif ZC t 38 then Zty else none
        else
         bif ZC t 42 then Ztx else none
     else
      bif Z5 t 45 then
       bif Z5 t 44 then
        bif ZC t 44 then Ztw else none
       else
        bif ZC t 45 then Ztv else none
      else
       bif Z5 t 52 then
        bif ZC t 52 then Ztu else none
       else
        bif Z5 t 55 then
         bif ZC t 55 then Ztt else none
        else
         bif ZC t 57 then Zts else none
   else
    bif Z5 t 107 then
     bif Z5 t 85 then
      bif Z5 t 64 then
       bif Z5 t 60 then
        bif ZC t 60 then Ztr else none
       else
        bif ZC t 64 then Ztq else none
      else
       bif Z5 t 66 then
        bif ZC t 66 then Ztp else none
       else
        bif Z5 t 68 then
         bif ZC t 68 then Zto else none
        else
         bif ZC t 85 then Ztn else none
     else
      bif Z5 t 88 then
       bif Z5 t 86 then
        bif ZC t 86 then Ztm else none
       else
        bif ZC t 88 then Ztl else none
      else
       bif Z5 t 96 then
        bif ZC t 96 then Ztk else none
       else
        bif Z5 t 103 then
         bif ZC t 103 then Zsa else none
        else
         bif ZC t 107 then Zr9 else none
    else
     bif Z5 t 116 then
      bif Z5 t 110 then
       bif Z5 t 109 then
        bif ZC t 109 then Zr8 else none
       else
        bif ZC t 110 then Zr7 else none
      else
       bif Z5 t 111 then
        bif ZC t 111 then Zr6 else none
       else
        bif Z5 t 113 then
         bif ZC t 113 then Zr5 else none
        else
         bif ZC t 116 then Zr4 else none
     else
      bif Z5 t 121 then
       bif Z5 t 118 then
        bif ZC t 118 then Zr3 else none
       else
        bif ZC t 121 then Zr2 else none
      else
       bif Z5 t 128 then
        bif ZC t 128 then Zr1 else none
       else
        bif Z5 t 133 then
         bif ZC t 133 then Zr0 else none
        else
         bif ZC t 134 then ZrZ else none
  else
   bif Z5 t 207 then
    bif Z5 t 151 then
     bif Z5 t 141 then
      bif Z5 t 136 then
       bif Z5 t 135 then
        bif ZC t 135 then ZrY else none
       else
        bif ZC t 136 then ZrX else none
      else
       bif Z5 t 139 then
        bif ZC t 139 then ZrW else none
       else
        bif Z5 t 140 then
         bif ZC t 140 then ZrV else none
        else
         bif ZC t 141 then ZrU else none
     else
      bif Z5 t 145 then
       bif Z5 t 143 then
        bif ZC t 143 then ZrT else none
       else
        bif ZC t 145 then ZrS else none
      else
       bif Z5 t 147 then
        bif ZC t 147 then ZrR else none
       else
        bif Z5 t 148 then
         bif ZC t 148 then ZrQ else none
        else
         bif ZC t 151 then ZrP else none
    else
     bif Z5 t 189 then
      bif Z5 t 176 then
       bif Z5 t 163 then
        bif ZC t 163 then ZrO else none
       else
        bif ZC t 176 then ZrN else none
      else
       bif Z5 t 177 then
        bif ZC t 177 then ZrM else none
       else
        bif Z5 t 183 then
         bif ZC t 183 then ZrL else none
        else
         bif ZC t 189 then ZrK else none
     else
      bif Z5 t 199 then
       bif Z5 t 196 then
        bif ZC t 196 then ZrJ else none
       else
        bif ZC t 199 then ZrI else none
      else
       bif Z5 t 201 then
        bif ZC t 201 then ZrH else none
       else
        bif Z5 t 206 then
         bif ZC t 206 then ZrG else none
        else
         bif ZC t 207 then ZrF else none
   else
    bif Z5 t 245 then
     bif Z5 t 226 then
      bif Z5 t 211 then
       bif Z5 t 208 then
        bif ZC t 208 then ZrE else none
       else
        bif ZC t 211 then ZrD else none
      else
       bif Z5 t 219 then
        bif ZC t 219 then ZrC else none
       else
        bif Z5 t 223 then
         bif ZC t 223 then ZrB else none
        else
         bif ZC t 226 then ZrA else none
     else
      bif Z5 t 236 then
       bif Z5 t 230 then
        bif ZC t 230 then Zrz else none
       else
        bif ZC t 236 then Zry else none
      else
       bif Z5 t 241 then
        bif ZC t 241 then Zrx else none
       else
        bif Z5 t 244 then
         bif ZC t 244 then Zrw else none
        else
         bif ZC t 245 then Zrv else none
    else
     bif Z5 t 255 then
      bif Z5 t 248 then
       bif Z5 t 246 then
        bif ZC t 246 then Zru else none
       else
        bif ZC t 248 then Zrt else none
      else
       bif Z5 t 252 then
        bif ZC t 252 then Zrs else none
       else
        bif Z5 t 254 then
         bif ZC t 254 then Zrr else none
        else
         bif ZC t 255 then Zrq else none
     else
      bif Z5 t 267 then
       bif Z5 t 259 then
        bif ZC t 259 then Zrp else none
       else
        bif Z5 t 262 then
         bif ZC t 262 then Zro else none
        else
         bif ZC t 267 then Zrn else none
      else
       bif Z5 t 269 then
        bif ZC t 269 then Zrm else none
       else
        bif Z5 t 272 then
         bif ZC t 272 then Zrl else none
        else
         bif ZC t 274 then Zrk else none
def ZtJ (t : TypeId) : Option TypeDesc :=
  bif Z5 t 103 then
   bif Z5 t 42 then
    bif Z5 t 23 then
     bif Z5 t 4 then
      bif Z5 t 3 then
       bif ZC t 3 then some (.int .i64) else none
      else
       bif ZC t 4 then some (.bool) else none
     else
      bif Z5 t 22 then
       bif ZC t 22 then some (.slice 113) else none
      else
       bif ZC t 23 then some (.slice 118) else none
    else
     bif Z5 t 27 then
      bif Z5 t 26 then
       bif ZC t 26 then some (.slice 121) else none
      else
       bif ZC t 27 then some (.slice 32) else none
     else
      bif Z5 t 28 then
       bif ZC t 28 then some (.slice 35) else none
      else
       bif Z5 t 33 then
        bif ZC t 33 then some (.slice 3) else none
       else
        bif ZC t 42 then some (.slice 30) else none
   else
    bif Z5 t 55 then
     bif Z5 t 45 then
      bif Z5 t 44 then
       bif ZC t 44 then some (.slice 57) else none
      else
       bif ZC t 45 then some (.int .i64) else none
     else
      bif Z5 t 52 then
       bif ZC t 52 then some (.slice 55) else none
      else
       bif ZC t 55 then some (.slice 60) else none
    else
     bif Z5 t 68 then
      bif Z5 t 64 then
       bif ZC t 64 then some (.slice 163) else none
      else
       bif ZC t 68 then some (.slice 66) else none
     else
      bif Z5 t 86 then
       bif ZC t 86 then some (.slice 33) else none
      else
       bif Z5 t 96 then
        bif ZC t 96 then some (.slice 88) else none
       else
        bif ZC t 103 then some (.slice 4) else none
  else
   bif Z5 t 176 then
    bif Z5 t 116 then
     bif Z5 t 110 then
      bif Z5 t 107 then
       bif ZC t 107 then some (.int .u64) else none
      else
       bif ZC t 110 then some (.int .u64) else none
     else
      bif Z5 t 111 then
       bif ZC t 111 then some (.slice 199) else none
      else
       bif ZC t 116 then some (.slice 196) else none
    else
     bif Z5 t 139 then
      bif Z5 t 134 then
       bif ZC t 134 then some (.slice 143) else none
      else
       bif ZC t 139 then some (.array 6 3) else none
     else
      bif Z5 t 140 then
       bif ZC t 140 then some (.map 147 145) else none
      else
       bif Z5 t 148 then
        bif ZC t 148 then some (.slice 151) else none
       else
        bif ZC t 176 then some (.map 139 140) else none
   else
    bif Z5 t 245 then
     bif Z5 t 236 then
      bif Z5 t 177 then
       bif ZC t 177 then some (.array 4 4) else none
      else
       bif ZC t 236 then some (.array 6 4) else none
     else
      bif Z5 t 241 then
       bif ZC t 241 then some (.slice 23) else none
      else
       bif ZC t 245 then some (.map 147 3) else none
    else
     bif Z5 t 255 then
      bif Z5 t 252 then
       bif ZC t 252 then some (.array 3 199) else none
      else
       bif ZC t 255 then some (.slice 267) else none
     else
      bif Z5 t 259 then
       bif ZC t 259 then some (.int .i64) else none
      else
       bif Z5 t 262 then
        bif ZC t 262 then some (.map 3 4) else none
       else
        bif ZC t 269 then some (.slice 272) else none
def ZtL (t : TypeId) (n : Nat) : Bool :=
  bif Z5 t 145 then
   bif Z5 t 60 then
    bif Z5 t 32 then
     bif ZC t 32 then ZC n 4 else false
    else
     bif Z5 t 57 then
      bif ZC t 57 then ZC n 2 else false
     else
      bif ZC t 60 then ZC n 3 else false
   else
    bif Z5 t 121 then
     bif Z5 t 109 then
      bif ZC t 109 then ZC n 1 else false
     else
      bif ZC t 121 then ZC n 2 else false
    else
     bif Z5 t 139 then
      bif ZC t 139 then ZC n 6 else false
     else
      bif ZC t 145 then ZC n 3 else false
  else
   bif Z5 t 199 then
    bif Z5 t 163 then
     bif Z5 t 147 then
      bif ZC t 147 then ZC n 2 else false
     else
      bif ZC t 163 then ZC n 3 else false
    else
     bif Z5 t 196 then
      bif ZC t 196 then ZC n 4 else false
     else
      bif ZC t 199 then ZC n 2 else false
   else
    bif Z5 t 254 then
     bif Z5 t 252 then
      bif ZC t 252 then ZC n 6 else false
     else
      bif ZC t 254 then ZC n 8 else false
    else
     bif Z5 t 267 then
      bif ZC t 267 then ZC n 3 else false
     else
      bif ZC t 272 then ZC n 3 else false
def tb:Tb:={ti:=ZtK,un:=ZtJ,eqs:=ZtL}
theorem Zp {α:Type} {b:Bool} {x y:α} {r:α} {C:Prop} (hx:x=r→C) (hy:y=r→C):(bif b then x else y)=r→C:=fun h=>by
 cases b
 ·exact hy h
 ·exact hx h
theorem ZtU {α:Type} {f:Nat→Option α} {t k:Nat} {e:Option α} {i:α} (hk:f k=e):(bif ZC t k then e else none)=some i→f t=some i:=fun h=>by
 cases hb:ZC t k
 ·rw[hb]at h;cases h
 ·rw[hb]at h
  rw[Zz hb]
  exact hk.trans h
theorem ZtT {t k n m:Nat} {C:Nat→Nat→Prop} (hk:C k m):(bif ZC t k then ZC n m else false)=true→C t n:=fun h=>by
 cases hb:ZC t k
 ·rw[hb]at h;cases h
 ·rw[hb]at h
  rw[Zz hb,Zz h]
  exact hk
theorem Xk {t k:Nat} {e:Option TI} {i:TI} (hk:Zy Tryz.prog k=e):(bif ZC t k then e else none)=some i→Zy Tryz.prog t=some i:=ZtU hk
theorem lkU {t k:Nat} {e:Option TypeDesc} {i:TypeDesc} (hk:Tryz.prog.underlying k=e):(bif ZC t k then e else none)=some i→Tryz.prog.underlying t=some i:=ZtU hk
theorem lkE {t k n m:Nat} (hk:Jz Tryz.prog k m=true):(bif ZC t k then ZC n m else false)=true→Jz Tryz.prog t n=true:=ZtT (C:=fun t n=>Jz Tryz.prog t n=true) hk
theorem ZbK (t:TypeId) (i:TI):ZtK t=some i→Zy Tryz.prog t=some i:=
 (Zp (Zp (Zp (Zp (Zp (Zp (Xk Zsz) (Xk Zsy)) (Zp (Xk Zsx) (Zp (Xk Zqb) (Xk Zqa)))) (Zp (Zp (Xk Zp9) (Xk Zp8)) (Zp (Xk Zp7) (Zp (Xk Zp6) (Xk Zp5))))) (Zp (Zp (Zp (Xk Zp4) (Xk Zp3)) (Zp (Xk Zp2) (Zp (Xk Zp1) (Xk Zp0)))) (Zp (Zp (Xk ZpZ) (Xk ZpY)) (Zp (Xk ZpX) (Zp (Xk ZpW) (Xk ZpV)))))) (Zp (Zp (Zp (Zp (Xk ZpU) (Xk ZpT)) (Zp (Xk ZpS) (Zp (Xk ZpR) (Xk ZpQ)))) (Zp (Zp (Xk ZpP) (Xk ZpO)) (Zp (Xk ZpN) (Zp (Xk ZnP) (Xk ZnO))))) (Zp (Zp (Zp (Xk ZnN) (Xk ZnM)) (Zp (Xk ZnL) (Zp (Xk ZnK) (Xk ZnJ)))) (Zp (Zp (Xk ZnI) (Xk ZnH)) (Zp (Xk ZnG) (Zp (Xk ZnF) (Xk ZnE))))))) (Zp (Zp (Zp (Zp (Zp (Xk ZnD) (Xk ZnC)) (Zp (Xk ZnB) (Zp (Xk ZnA) (Xk Znz)))) (Zp (Zp (Xk Zny) (Xk Znx)) (Zp (Xk Znw) (Zp (Xk Znv) (Xk Znu))))) (Zp (Zp (Zp (Xk Znt) (Xk Zns)) (Zp (Xk Znr) (Zp (Xk Znq) (Xk Znp)))) (Zp (Zp (Xk Zno) (Xk Znn)) (Zp (Xk Znm) (Zp (Xk Znl) (Xk Znk)))))) (Zp (Zp (Zp (Zp (Xk Znj) (Xk Zni)) (Zp (Xk Znh) (Zp (Xk Zng) (Xk Znf)))) (Zp (Zp (Xk Zne) (Xk Znd)) (Zp (Xk Znc) (Zp (Xk Znb) (Xk Zna))))) (Zp (Zp (Zp (Xk Zm9) (Xk Zm8)) (Zp (Xk Zm7) (Zp (Xk Zm6) (Xk Zm5)))) (Zp (Zp (Xk Zm4) (Zp (Xk Zm3) (Xk Zm2))) (Zp (Xk Zm1) (Zp (Xk Zm0) (Xk ZmZ))))))))
theorem ZbJ (t:TypeId) (d:TypeDesc):ZtJ t=some d→Tryz.prog.underlying t=some d:=
 (Zp (Zp (Zp (Zp (Zp (lkU Zsw) (lkU Zsv)) (Zp (lkU ZpM) (lkU ZpL))) (Zp (Zp (lkU ZpK) (lkU ZpJ)) (Zp (lkU ZpI) (Zp (lkU ZpH) (lkU ZpG))))) (Zp (Zp (Zp (lkU ZpF) (lkU ZpE)) (Zp (lkU ZpD) (lkU ZpC))) (Zp (Zp (lkU ZpB) (lkU ZpA)) (Zp (lkU Zpz) (Zp (lkU Zpy) (lkU ZmS)))))) (Zp (Zp (Zp (Zp (lkU ZmR) (lkU ZmQ)) (Zp (lkU ZmP) (lkU ZmO))) (Zp (Zp (lkU ZmN) (lkU ZmM)) (Zp (lkU ZmL) (Zp (lkU ZmK) (lkU ZmJ))))) (Zp (Zp (Zp (lkU ZmI) (lkU ZmH)) (Zp (lkU ZmG) (lkU ZmF))) (Zp (Zp (lkU ZmE) (lkU ZmD)) (Zp (lkU ZmC) (Zp (lkU ZmB) (lkU ZmA)))))))
theorem ZbL (t n:Nat):ZtL t n=true→Jz Tryz.prog t n=true:=
 (Zp (Zp (Zp (lkE Zl2) (Zp (lkE Zl1) (lkE Zl0))) (Zp (Zp (lkE Zkn) (lkE Zkm)) (Zp (lkE Zkl) (lkE Zkk)))) (Zp (Zp (Zp (lkE Zkj) (lkE Zki)) (Zp (lkE Zkh) (lkE Zkg))) (Zp (Zp (lkE Zkf) (lkE Zke)) (Zp (lkE Zkd) (lkE Zkc)))))
theorem hT:tb.Of ((fun _=>Tryz.prog:Unit→Program) ()):=⟨ZbK,ZbJ,ZbL⟩
theorem hm:((fun _=>Tryz.prog:Unit→Program) ()).follows .mixedOrders=true:=by decide+kernel
def tbF (kp rs:Bool):Tb:={tb with kp,rs}
theorem hTF (kp rs:Bool):(tbF kp rs).Of ((fun _=>Tryz.prog:Unit→Program) ()):=⟨ZbK,ZbJ,ZbL⟩
end Go.Proofs.YtjgpiclllehgmaaGreat.Vm
