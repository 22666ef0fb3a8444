/- The types of this program, as a table for the abstract machine. Printed by wip/tables.py. -/
import Derived.Test.YtjgpiclllehgmaaGreatRows
import Derived.Test.YtjgpiclllehgmaaGreatM4
set_option linter.unusedSimpArgs false
set_option linter.unusedVariables false
namespace Go.Proofs.YtjgpiclllehgmaaGreat.Vm
open Go Go.Proofs
set_option maxRecDepth 100000
def ti1:Option TI:=some {k:=.func,agg:=false,size:=1,bytes:=8,zero:=some (.nilFunc)}
theorem ZsS:ZC Tryz.prog 1=ti1:=by kernel_rfl
def ti3:Option TI:=some {k:=.int .i64,agg:=false,size:=1,bytes:=8,zero:=some (.int .i64 0)}
theorem ZsR:ZC Tryz.prog 3=ti3:=by kernel_rfl
theorem ZsP:Tryz.prog.underlying 3=some (.int .i64):=by kernel_rfl
def ti4:Option TI:=some {k:=.bool,agg:=false,size:=1,bytes:=1,zero:=some (.bool false)}
theorem ZsQ:ZC Tryz.prog 4=ti4:=by kernel_rfl
theorem ZsO:Tryz.prog.underlying 4=some (.bool):=by kernel_rfl
def Zt3:Option TI:=some {k:=.slice 113 2 32,agg:=false,size:=1,bytes:=24,zero:=some (.slice none 0 0)}
theorem Zqy:ZC Tryz.prog 22=Zt3:=by kernel_rfl
theorem Zp9:Tryz.prog.underlying 22=some (.slice 113):=by kernel_rfl
def Zt2:Option TI:=some {k:=.slice 118 3 40,agg:=false,size:=1,bytes:=24,zero:=some (.slice none 0 0)}
theorem Zqx:ZC Tryz.prog 23=Zt2:=by kernel_rfl
theorem Zp8:Tryz.prog.underlying 23=some (.slice 118):=by kernel_rfl
def Zt1:Option TI:=some {k:=.struct [some (0,1,false),some (1,1,false),some (2,1,false),some (3,1,false),some (4,1,false)],agg:=true,size:=5,bytes:=88,zero:=some (.agg #[.slice none 0 0,.slice none 0 0,.slice none 0 0,.int .i64 0,.int .i64 0])}
theorem Zqw:ZC Tryz.prog 25=Zt1:=by kernel_rfl
def Zt0:Option TI:=some {k:=.slice 121 2 16,agg:=false,size:=1,bytes:=24,zero:=some (.slice none 0 0)}
theorem Zqv:ZC Tryz.prog 26=Zt0:=by kernel_rfl
theorem Zp7:Tryz.prog.underlying 26=some (.slice 121):=by kernel_rfl
def ZtZ:Option TI:=some {k:=.slice 32 4 32,agg:=false,size:=1,bytes:=24,zero:=some (.slice none 0 0)}
theorem Zqu:ZC Tryz.prog 27=ZtZ:=by kernel_rfl
theorem Zp6:Tryz.prog.underlying 27=some (.slice 32):=by kernel_rfl
def ZtY:Option TI:=some {k:=.slice 35 3 40,agg:=false,size:=1,bytes:=24,zero:=some (.slice none 0 0)}
theorem Zqt:ZC Tryz.prog 28=ZtY:=by kernel_rfl
theorem Zp5:Tryz.prog.underlying 28=some (.slice 35):=by kernel_rfl
def ZtX:Option TI:=some {k:=.struct [some (0,5,true),some (5,1,false),some (6,1,false),some (7,1,false)],agg:=true,size:=8,bytes:=160,zero:=some (.agg #[.slice none 0 0,.slice none 0 0,.slice none 0 0,.int .i64 0,.int .i64 0,.slice none 0 0,.slice none 0 0,.slice none 0 0])}
theorem Zqs:ZC Tryz.prog 30=ZtX:=by kernel_rfl
def ZtW:Option TI:=some {k:=.struct [some (0,1,false),some (1,1,false),some (2,1,false),some (3,1,false)],agg:=true,size:=4,bytes:=32,zero:=some (.agg #[.int .i64 0,.int .i64 0,.int .i64 0,.int .i64 0])}
theorem Zqr:ZC Tryz.prog 32=ZtW:=by kernel_rfl
theorem Zmp:JH Tryz.prog 32 4=true:=by decide+kernel
def ZtV:Option TI:=some {k:=.slice 3 1 8,agg:=false,size:=1,bytes:=24,zero:=some (.slice none 0 0)}
theorem Zqq:ZC Tryz.prog 33=ZtV:=by kernel_rfl
theorem Zp4:Tryz.prog.underlying 33=some (.slice 3):=by kernel_rfl
def ZtU:Option TI:=some {k:=.struct [some (0,1,false),some (1,1,false),some (2,1,false)],agg:=true,size:=3,bytes:=40,zero:=some (.agg #[.int .i64 0,.int .i64 0,.slice none 0 0])}
theorem Zqp:ZC Tryz.prog 35=ZtU:=by kernel_rfl
def ZtT:Option TI:=some {k:=.ptr,agg:=false,size:=1,bytes:=8,zero:=some (.pointer none)}
theorem Zqo:ZC Tryz.prog 38=ZtT:=by kernel_rfl
def ZtS:Option TI:=some {k:=.slice 30 8 160,agg:=false,size:=1,bytes:=24,zero:=some (.slice none 0 0)}
theorem Zqn:ZC Tryz.prog 42=ZtS:=by kernel_rfl
theorem Zp3:Tryz.prog.underlying 42=some (.slice 30):=by kernel_rfl
def ZtR:Option TI:=some {k:=.slice 57 2 16,agg:=false,size:=1,bytes:=24,zero:=some (.slice none 0 0)}
theorem Zqm:ZC Tryz.prog 44=ZtR:=by kernel_rfl
theorem Zp2:Tryz.prog.underlying 44=some (.slice 57):=by kernel_rfl
def ZtQ:Option TI:=some {k:=.int .i64,agg:=false,size:=1,bytes:=8,zero:=some (.int .i64 0)}
theorem Zql:ZC Tryz.prog 45=ZtQ:=by kernel_rfl
theorem Zp1:Tryz.prog.underlying 45=some (.int .i64):=by kernel_rfl
def ZtP:Option TI:=some {k:=.slice 55 1 24,agg:=false,size:=1,bytes:=24,zero:=some (.slice none 0 0)}
theorem Zqk:ZC Tryz.prog 52=ZtP:=by kernel_rfl
theorem Zp0:Tryz.prog.underlying 52=some (.slice 55):=by kernel_rfl
def ZtO:Option TI:=some {k:=.slice 60 3 24,agg:=false,size:=1,bytes:=24,zero:=some (.slice none 0 0)}
theorem Zqj:ZC Tryz.prog 55=ZtO:=by kernel_rfl
theorem ZpZ:Tryz.prog.underlying 55=some (.slice 60):=by kernel_rfl
def ZtN:Option TI:=some {k:=.struct [some (0,1,false),some (1,1,false)],agg:=true,size:=2,bytes:=16,zero:=some (.agg #[.int .i64 0,.int .i64 0])}
theorem Zqi:ZC Tryz.prog 57=ZtN:=by kernel_rfl
theorem Zmo:JH Tryz.prog 57 2=true:=by decide+kernel
def ZtM:Option TI:=some {k:=.struct [some (0,1,false),some (1,1,false),some (2,1,false)],agg:=true,size:=3,bytes:=24,zero:=some (.agg #[.int .i64 0,.int .i64 0,.int .i64 0])}
theorem Zqh:ZC Tryz.prog 60=ZtM:=by kernel_rfl
theorem Zmn:JH Tryz.prog 60 3=true:=by decide+kernel
def ZtL:Option TI:=some {k:=.slice 163 3 24,agg:=false,size:=1,bytes:=24,zero:=some (.slice none 0 0)}
theorem Zqg:ZC Tryz.prog 64=ZtL:=by kernel_rfl
theorem ZpY:Tryz.prog.underlying 64=some (.slice 163):=by kernel_rfl
def ZtK:Option TI:=some {k:=.struct [some (0,1,false),some (1,1,false),some (2,1,false),some (3,1,false)],agg:=true,size:=4,bytes:=48,zero:=some (.agg #[.int .i64 0,.int .i64 0,.int .i64 0,.slice none 0 0])}
theorem Zqf:ZC Tryz.prog 66=ZtK:=by kernel_rfl
def ZtJ:Option TI:=some {k:=.slice 66 4 48,agg:=false,size:=1,bytes:=24,zero:=some (.slice none 0 0)}
theorem Zqe:ZC Tryz.prog 68=ZtJ:=by kernel_rfl
theorem ZpX:Tryz.prog.underlying 68=some (.slice 66):=by kernel_rfl
def ZtI:Option TI:=some {k:=.func,agg:=false,size:=1,bytes:=8,zero:=some (.nilFunc)}
theorem Zqd:ZC Tryz.prog 85=ZtI:=by kernel_rfl
def ZtH:Option TI:=some {k:=.slice 33 1 24,agg:=false,size:=1,bytes:=24,zero:=some (.slice none 0 0)}
theorem Zqc:ZC Tryz.prog 86=ZtH:=by kernel_rfl
theorem ZpW:Tryz.prog.underlying 86=some (.slice 33):=by kernel_rfl
def ZtG:Option TI:=some {k:=.struct [some (0,1,false),some (1,1,false),some (2,1,false)],agg:=true,size:=3,bytes:=72,zero:=some (.agg #[.slice none 0 0,.slice none 0 0,.slice none 0 0])}
theorem Zqb:ZC Tryz.prog 88=ZtG:=by kernel_rfl
def ZtF:Option TI:=some {k:=.slice 88 3 72,agg:=false,size:=1,bytes:=24,zero:=some (.slice none 0 0)}
theorem Zqa:ZC Tryz.prog 96=ZtF:=by kernel_rfl
theorem ZpV:Tryz.prog.underlying 96=some (.slice 88):=by kernel_rfl
def Zsu:Option TI:=some {k:=.slice 4 1 1,agg:=false,size:=1,bytes:=24,zero:=some (.slice none 0 0)}
theorem Zoc:ZC Tryz.prog 103=Zsu:=by kernel_rfl
theorem Zng:Tryz.prog.underlying 103=some (.slice 4):=by kernel_rfl
def Zst:Option TI:=some {k:=.int .u64,agg:=false,size:=1,bytes:=8,zero:=some (.int .u64 0)}
theorem Zob:ZC Tryz.prog 107=Zst:=by kernel_rfl
theorem Znf:Tryz.prog.underlying 107=some (.int .u64):=by kernel_rfl
def Zss:Option TI:=some {k:=.struct [some (0,1,false)],agg:=true,size:=1,bytes:=8,zero:=some (.agg #[.int .u64 0])}
theorem Zoa:ZC Tryz.prog 109=Zss:=by kernel_rfl
theorem ZkJ:JH Tryz.prog 109 1=true:=by decide+kernel
def Zsr:Option TI:=some {k:=.int .u64,agg:=false,size:=1,bytes:=8,zero:=some (.int .u64 0)}
theorem Zn9:ZC Tryz.prog 110=Zsr:=by kernel_rfl
theorem Zne:Tryz.prog.underlying 110=some (.int .u64):=by kernel_rfl
def Zsq:Option TI:=some {k:=.slice 199 2 16,agg:=false,size:=1,bytes:=24,zero:=some (.slice none 0 0)}
theorem Zn8:ZC Tryz.prog 111=Zsq:=by kernel_rfl
theorem Znd:Tryz.prog.underlying 111=some (.slice 199):=by kernel_rfl
def Zsp:Option TI:=some {k:=.struct [some (0,1,false),some (1,1,false)],agg:=true,size:=2,bytes:=32,zero:=some (.agg #[.int .i64 0,.slice none 0 0])}
theorem Zn7:ZC Tryz.prog 113=Zsp:=by kernel_rfl
def Zso:Option TI:=some {k:=.slice 196 4 32,agg:=false,size:=1,bytes:=24,zero:=some (.slice none 0 0)}
theorem Zn6:ZC Tryz.prog 116=Zso:=by kernel_rfl
theorem Znc:Tryz.prog.underlying 116=some (.slice 196):=by kernel_rfl
def Zsn:Option TI:=some {k:=.struct [some (0,1,false),some (1,1,false),some (2,1,false)],agg:=true,size:=3,bytes:=40,zero:=some (.agg #[.int .i64 0,.int .i64 0,.slice none 0 0])}
theorem Zn5:ZC Tryz.prog 118=Zsn:=by kernel_rfl
def Zsm:Option TI:=some {k:=.struct [some (0,1,false),some (1,1,false)],agg:=true,size:=2,bytes:=16,zero:=some (.agg #[.int .i64 0,.int .i64 0])}
theorem Zn4:ZC Tryz.prog 121=Zsm:=by kernel_rfl
theorem ZkI:JH Tryz.prog 121 2=true:=by decide+kernel
def Zsl:Option TI:=some {k:=.ptr,agg:=false,size:=1,bytes:=8,zero:=some (.pointer none)}
theorem Zn3:ZC Tryz.prog 128=Zsl:=by kernel_rfl
def Zsk:Option TI:=some {k:=.struct [some (0,8,true),some (8,1,false)],agg:=true,size:=9,bytes:=184,zero:=some (.agg #[.slice none 0 0,.slice none 0 0,.slice none 0 0,.int .i64 0,.int .i64 0,.slice none 0 0,.slice none 0 0,.slice none 0 0,.slice none 0 0])}
theorem Zn2:ZC Tryz.prog 133=Zsk:=by kernel_rfl
def Zsj:Option TI:=some {k:=.slice 143 3 24,agg:=false,size:=1,bytes:=24,zero:=some (.slice none 0 0)}
theorem Zn1:ZC Tryz.prog 134=Zsj:=by kernel_rfl
theorem Znb:Tryz.prog.underlying 134=some (.slice 143):=by kernel_rfl
def Zsi:Option TI:=some {k:=.func,agg:=false,size:=1,bytes:=8,zero:=some (.nilFunc)}
theorem Zn0:ZC Tryz.prog 135=Zsi:=by kernel_rfl
def Zsh:Option TI:=some {k:=.func,agg:=false,size:=1,bytes:=8,zero:=some (.nilFunc)}
theorem ZnZ:ZC Tryz.prog 136=Zsh:=by kernel_rfl
def Zsg:Option TI:=some {k:=.array 6 1,agg:=true,size:=6,bytes:=48,zero:=some (.agg #[.int .i64 0,.int .i64 0,.int .i64 0,.int .i64 0,.int .i64 0,.int .i64 0])}
theorem ZnY:ZC Tryz.prog 139=Zsg:=by kernel_rfl
theorem Zna:Tryz.prog.underlying 139=some (.array 6 3):=by kernel_rfl
theorem ZkH:JH Tryz.prog 139 6=true:=by decide+kernel
def Zsf:Option TI:=some {k:=.map,agg:=false,size:=1,bytes:=8,zero:=some (.map none)}
theorem ZnX:ZC Tryz.prog 140=Zsf:=by kernel_rfl
theorem Zm9:Tryz.prog.underlying 140=some (.map 147 145):=by kernel_rfl
def Zse:Option TI:=some {k:=.func,agg:=false,size:=1,bytes:=8,zero:=some (.nilFunc)}
theorem ZnW:ZC Tryz.prog 141=Zse:=by kernel_rfl
def Zsd:Option TI:=some {k:=.struct [some (0,2,true),some (2,1,false)],agg:=true,size:=3,bytes:=24,zero:=some (.agg #[.int .i64 0,.int .i64 0,.bool false])}
theorem ZnV:ZC Tryz.prog 143=Zsd:=by kernel_rfl
def Zsc:Option TI:=some {k:=.struct [some (0,1,false),some (1,1,false),some (2,1,false)],agg:=true,size:=3,bytes:=24,zero:=some (.agg #[.int .i64 0,.int .i64 0,.int .i64 0])}
theorem ZnU:ZC Tryz.prog 145=Zsc:=by kernel_rfl
theorem ZkG:JH Tryz.prog 145 3=true:=by decide+kernel
def Zsb:Option TI:=some {k:=.struct [some (0,1,false),some (1,1,false)],agg:=true,size:=2,bytes:=16,zero:=some (.agg #[.int .i64 0,.int .i64 0])}
theorem ZnT:ZC Tryz.prog 147=Zsb:=by kernel_rfl
theorem ZkF:JH Tryz.prog 147 2=true:=by decide+kernel
def Zsa:Option TI:=some {k:=.slice 151 3 72,agg:=false,size:=1,bytes:=24,zero:=some (.slice none 0 0)}
theorem ZnS:ZC Tryz.prog 148=Zsa:=by kernel_rfl
theorem Zm8:Tryz.prog.underlying 148=some (.slice 151):=by kernel_rfl
def Zr9:Option TI:=some {k:=.struct [some (0,1,false),some (1,1,false),some (2,1,false)],agg:=true,size:=3,bytes:=72,zero:=some (.agg #[.slice none 0 0,.slice none 0 0,.slice none 0 0])}
theorem ZnR:ZC Tryz.prog 151=Zr9:=by kernel_rfl
def Zr8:Option TI:=some {k:=.struct [some (0,1,false),some (1,1,false),some (2,1,false)],agg:=true,size:=3,bytes:=24,zero:=some (.agg #[.int .i64 0,.int .i64 0,.int .i64 0])}
theorem ZnQ:ZC Tryz.prog 163=Zr8:=by kernel_rfl
theorem ZkE:JH Tryz.prog 163 3=true:=by decide+kernel
def Zr7:Option TI:=some {k:=.map,agg:=false,size:=1,bytes:=8,zero:=some (.map none)}
theorem ZnP:ZC Tryz.prog 176=Zr7:=by kernel_rfl
theorem Zm7:Tryz.prog.underlying 176=some (.map 139 140):=by kernel_rfl
def Zr6:Option TI:=some {k:=.array 4 1,agg:=true,size:=4,bytes:=4,zero:=some (.agg #[.bool false,.bool false,.bool false,.bool false])}
theorem ZnO:ZC Tryz.prog 177=Zr6:=by kernel_rfl
theorem Zm6:Tryz.prog.underlying 177=some (.array 4 4):=by kernel_rfl
def Zr5:Option TI:=some {k:=.func,agg:=false,size:=1,bytes:=8,zero:=some (.nilFunc)}
theorem ZnN:ZC Tryz.prog 183=Zr5:=by kernel_rfl
def Zr4:Option TI:=some {k:=.func,agg:=false,size:=1,bytes:=8,zero:=some (.nilFunc)}
theorem ZnM:ZC Tryz.prog 189=Zr4:=by kernel_rfl
def Zr3:Option TI:=some {k:=.struct [some (0,1,false),some (1,1,false),some (2,1,false),some (3,1,false)],agg:=true,size:=4,bytes:=32,zero:=some (.agg #[.int .i64 0,.int .i64 0,.int .i64 0,.int .i64 0])}
theorem ZnL:ZC Tryz.prog 196=Zr3:=by kernel_rfl
theorem ZkD:JH Tryz.prog 196 4=true:=by decide+kernel
def Zr2:Option TI:=some {k:=.struct [some (0,1,false),some (1,1,false)],agg:=true,size:=2,bytes:=16,zero:=some (.agg #[.int .i64 0,.int .i64 0])}
theorem ZnK:ZC Tryz.prog 199=Zr2:=by kernel_rfl
theorem ZkC:JH Tryz.prog 199 2=true:=by decide+kernel
def Zr1:Option TI:=some {k:=.func,agg:=false,size:=1,bytes:=8,zero:=some (.nilFunc)}
theorem ZnJ:ZC Tryz.prog 201=Zr1:=by kernel_rfl
def Zr0:Option TI:=some {k:=.func,agg:=false,size:=1,bytes:=8,zero:=some (.nilFunc)}
theorem ZnI:ZC Tryz.prog 206=Zr0:=by kernel_rfl
def ZrZ:Option TI:=some {k:=.func,agg:=false,size:=1,bytes:=8,zero:=some (.nilFunc)}
theorem ZnH:ZC Tryz.prog 207=ZrZ:=by kernel_rfl
def ZrY:Option TI:=some {k:=.func,agg:=false,size:=1,bytes:=8,zero:=some (.nilFunc)}
theorem ZnG:ZC Tryz.prog 208=ZrY:=by kernel_rfl
def ZrX:Option TI:=some {k:=.ptr,agg:=false,size:=1,bytes:=8,zero:=some (.pointer none)}
theorem ZnF:ZC Tryz.prog 211=ZrX:=by kernel_rfl
def ZrW:Option TI:=some {k:=.func,agg:=false,size:=1,bytes:=8,zero:=some (.nilFunc)}
theorem ZnE:ZC Tryz.prog 219=ZrW:=by kernel_rfl
def ZrV:Option TI:=some {k:=.struct [some (0,3,true),some (3,1,false),some (4,1,false)],agg:=true,size:=5,bytes:=72,zero:=some (.agg #[.int .i64 0,.int .i64 0,.slice none 0 0,.int .i64 0,.slice none 0 0])}
theorem ZnD:ZC Tryz.prog 223=ZrV:=by kernel_rfl
def ZrU:Option TI:=some {k:=.other,agg:=false,size:=1,bytes:=8,zero:=some (.chan none)}
theorem ZnC:ZC Tryz.prog 226=ZrU:=by kernel_rfl
def ZrT:Option TI:=some {k:=.ptr,agg:=false,size:=1,bytes:=8,zero:=some (.pointer none)}
theorem ZnB:ZC Tryz.prog 230=ZrT:=by kernel_rfl
def ZrS:Option TI:=some {k:=.array 6 1,agg:=true,size:=6,bytes:=6,zero:=some (.agg #[.bool false,.bool false,.bool false,.bool false,.bool false,.bool false])}
theorem ZnA:ZC Tryz.prog 236=ZrS:=by kernel_rfl
theorem Zm5:Tryz.prog.underlying 236=some (.array 6 4):=by kernel_rfl
def ZrR:Option TI:=some {k:=.slice 23 1 24,agg:=false,size:=1,bytes:=24,zero:=some (.slice none 0 0)}
theorem Znz:ZC Tryz.prog 241=ZrR:=by kernel_rfl
theorem Zm4:Tryz.prog.underlying 241=some (.slice 23):=by kernel_rfl
def ZrQ:Option TI:=some {k:=.func,agg:=false,size:=1,bytes:=8,zero:=some (.nilFunc)}
theorem Zny:ZC Tryz.prog 244=ZrQ:=by kernel_rfl
def ZrP:Option TI:=some {k:=.map,agg:=false,size:=1,bytes:=8,zero:=some (.map none)}
theorem Znx:ZC Tryz.prog 245=ZrP:=by kernel_rfl
theorem Zm3:Tryz.prog.underlying 245=some (.map 147 3):=by kernel_rfl
def ZrO:Option TI:=some {k:=.func,agg:=false,size:=1,bytes:=8,zero:=some (.nilFunc)}
theorem Znw:ZC Tryz.prog 246=ZrO:=by kernel_rfl
def ZrN:Option TI:=some {k:=.func,agg:=false,size:=1,bytes:=8,zero:=some (.nilFunc)}
theorem Znv:ZC Tryz.prog 248=ZrN:=by kernel_rfl
def ZrM:Option TI:=some {k:=.array 3 2,agg:=true,size:=6,bytes:=48,zero:=some (.agg #[.int .i64 0,.int .i64 0,.int .i64 0,.int .i64 0,.int .i64 0,.int .i64 0])}
theorem Znu:ZC Tryz.prog 252=ZrM:=by kernel_rfl
theorem Zm2:Tryz.prog.underlying 252=some (.array 3 199):=by kernel_rfl
theorem ZkB:JH Tryz.prog 252 6=true:=by decide+kernel
def ZrL:Option TI:=some {k:=.struct [some (0,1,false),some (1,1,false),some (2,6,true)],agg:=true,size:=8,bytes:=64,zero:=some (.agg #[.int .i64 0,.int .i64 0,.int .i64 0,.int .i64 0,.int .i64 0,.int .i64 0,.int .i64 0,.int .i64 0])}
theorem Znt:ZC Tryz.prog 254=ZrL:=by kernel_rfl
theorem ZkA:JH Tryz.prog 254 8=true:=by decide+kernel
def ZrK:Option TI:=some {k:=.slice 267 3 24,agg:=false,size:=1,bytes:=24,zero:=some (.slice none 0 0)}
theorem Zns:ZC Tryz.prog 255=ZrK:=by kernel_rfl
theorem Zm1:Tryz.prog.underlying 255=some (.slice 267):=by kernel_rfl
def ZrJ:Option TI:=some {k:=.int .i64,agg:=false,size:=1,bytes:=8,zero:=some (.int .i64 0)}
theorem Znr:ZC Tryz.prog 259=ZrJ:=by kernel_rfl
theorem Zm0:Tryz.prog.underlying 259=some (.int .i64):=by kernel_rfl
def ZrI:Option TI:=some {k:=.map,agg:=false,size:=1,bytes:=8,zero:=some (.map none)}
theorem Znq:ZC Tryz.prog 262=ZrI:=by kernel_rfl
theorem ZmZ:Tryz.prog.underlying 262=some (.map 3 4):=by kernel_rfl
def ZrH:Option TI:=some {k:=.struct [some (0,1,false),some (1,1,false),some (2,1,false)],agg:=true,size:=3,bytes:=24,zero:=some (.agg #[.int .i64 0,.int .i64 0,.int .i64 0])}
theorem Znp:ZC Tryz.prog 267=ZrH:=by kernel_rfl
theorem Zkz:JH Tryz.prog 267 3=true:=by decide+kernel
def ZrG:Option TI:=some {k:=.slice 272 3 24,agg:=false,size:=1,bytes:=24,zero:=some (.slice none 0 0)}
theorem Zno:ZC Tryz.prog 269=ZrG:=by kernel_rfl
theorem ZmY:Tryz.prog.underlying 269=some (.slice 272):=by kernel_rfl
def ZrF:Option TI:=some {k:=.struct [some (0,1,false),some (1,1,false),some (2,1,false)],agg:=true,size:=3,bytes:=24,zero:=some (.agg #[.int .i64 0,.int .i64 0,.int .i64 0])}
theorem Znn:ZC Tryz.prog 272=ZrF:=by kernel_rfl
theorem Zky:JH Tryz.prog 272 3=true:=by decide+kernel
def ZrE:Option TI:=some {k:=.func,agg:=false,size:=1,bytes:=8,zero:=some (.nilFunc)}
theorem Znm:ZC Tryz.prog 274=ZrE:=by kernel_rfl
def Zt5 (t : TypeId) : Option TI :=
  bif Z8 t 134 then
   bif Z8 t 57 then
    bif Z8 t 30 then
     bif Z8 t 23 then
      bif Z8 t 3 then
       bif Z8 t 1 then
        bif ZG t 1 then ti1 else none
       else
        bif ZG t 3 then ti3 else none
      else
       bif Z8 t 4 then
        bif ZG t 4 then ti4 else none
       else
        bif Z8 t 22 then
         bif ZG t 22 then Zt3 else none
        else
         bif ZG t 23 then Zt2 else none
     else
      bif Z8 t 26 then
       bif Z8 t 25 then
        bif ZG t 25 then Zt1 else none
       else
        bif ZG t 26 then Zt0 else none
      else
       bif Z8 t 27 then
        bif ZG t 27 then ZtZ else none
       else
        bif Z8 t 28 then
         bif ZG t 28 then ZtY else none
        else
         bif ZG t 30 then ZtX else none
    else
     bif Z8 t 42 then
      bif Z8 t 33 then
       bif Z8 t 32 then
        bif ZG t 32 then ZtW else none
       else
        bif ZG t 33 then ZtV else none
      else
       bif Z8 t 35 then
        bif ZG t 35 then ZtU else none
       else
        bif Z8 t 38 then
         bif ZG t 38 then ZtT else none
        else
         bif ZG t 42 then ZtS else none
     else
      bif Z8 t 45 then
       bif Z8 t 44 then
        bif ZG t 44 then ZtR else none
       else
        bif ZG t 45 then ZtQ else none
      else
       bif Z8 t 52 then
        bif ZG t 52 then ZtP else none
       else
        bif Z8 t 55 then
         bif ZG t 55 then ZtO else none
        else
         bif ZG t 57 then ZtN else none
   else
    bif Z8 t 107 then
     bif Z8 t 85 then
      bif Z8 t 64 then
       bif Z8 t 60 then
        bif ZG t 60 then ZtM else none
       else
        bif ZG t 64 then ZtL else none
      else
       bif Z8 t 66 then
        bif ZG t 66 then ZtK else none
       else
        bif Z8 t 68 then
         bif ZG t 68 then ZtJ else none
        else
         bif ZG t 85 then ZtI else none
     else
      bif Z8 t 88 then
       bif Z8 t 86 then
        bif ZG t 86 then ZtH else none
       else
        bif ZG t 88 then ZtG else none
      else
       bif Z8 t 96 then
        bif ZG t 96 then ZtF else none
       else
        bif Z8 t 103 then
         bif ZG t 103 then Zsu else none
        else
         bif ZG t 107 then Zst else none
    else
     bif Z8 t 116 then
      bif Z8 t 110 then
       bif Z8 t 109 then
        bif ZG t 109 then Zss else none
       else
        bif ZG t 110 then Zsr else none
      else
       bif Z8 t 111 then
        bif ZG t 111 then Zsq else none
       else
        bif Z8 t 113 then
         bif ZG t 113 then Zsp else none
        else
         bif ZG t 116 then Zso else none
     else
      bif Z8 t 121 then
       bif Z8 t 118 then
        bif ZG t 118 then Zsn else none
       else
        bif ZG t 121 then Zsm else none
      else
       bif Z8 t 128 then
        bif ZG t 128 then Zsl else none
       else
        bif Z8 t 133 then
         bif ZG t 133 then Zsk else none
        else
         bif ZG t 134 then Zsj else none
  else
   bif Z8 t 207 then
    bif Z8 t 151 then
     bif Z8 t 141 then
      bif Z8 t 136 then
       bif Z8 t 135 then
        bif ZG t 135 then Zsi else none
       else
        bif ZG t 136 then Zsh else none
      else
       bif Z8 t 139 then
        bif ZG t 139 then Zsg else none
       else
        bif Z8 t 140 then
         bif ZG t 140 then Zsf else none
        else
         bif ZG t 141 then Zse else none
     else
      bif Z8 t 145 then
       bif Z8 t 143 then
        bif ZG t 143 then Zsd else none
       else
        bif ZG t 145 then Zsc else none
      else
       bif Z8 t 147 then
        bif ZG t 147 then Zsb else none
       else
        bif Z8 t 148 then
         bif ZG t 148 then Zsa else none
        else
         bif ZG t 151 then Zr9 else none
    else
     bif Z8 t 189 then
      bif Z8 t 176 then
       bif Z8 t 163 then
        bif ZG t 163 then Zr8 else none
       else
        bif ZG t 176 then Zr7 else none
      else
       bif Z8 t 177 then
        bif ZG t 177 then Zr6 else none
       else
        bif Z8 t 183 then
         bif ZG t 183 then Zr5 else none
        else
         bif ZG t 189 then Zr4 else none
     else
      bif Z8 t 199 then
       bif Z8 t 196 then
        bif ZG t 196 then Zr3 else none
       else
        bif ZG t 199 then Zr2 else none
      else
       bif Z8 t 201 then
        bif ZG t 201 then Zr1 else none
       else
        bif Z8 t 206 then
         bif ZG t 206 then Zr0 else none
        else
         bif ZG t 207 then ZrZ else none
   else
    bif Z8 t 245 then
     bif Z8 t 226 then
      bif Z8 t 211 then
       bif Z8 t 208 then
        bif ZG t 208 then ZrY else none
       else
        bif ZG t 211 then ZrX else none
      else
       bif Z8 t 219 then
        bif ZG t 219 then ZrW else none
       else
        bif Z8 t 223 then
         bif ZG t 223 then ZrV else none
        else
         bif ZG t 226 then ZrU else none
     else
      bif Z8 t 236 then
       bif Z8 t 230 then
        bif ZG t 230 then ZrT else none
       else
        bif ZG t 236 then ZrS else none
      else
       bif Z8 t 241 then
        bif ZG t 241 then ZrR else none
       else
        bif Z8 t 244 then
         bif ZG t 244 then ZrQ else none
        else
         bif ZG t 245 then ZrP else none
    else
     bif Z8 t 255 then
      bif Z8 t 248 then
       bif Z8 t 246 then
        bif ZG t 246 then ZrO else none
       else
        bif ZG t 248 then ZrN else none
      else
       bif Z8 t 252 then
        bif ZG t 252 then ZrM else none
       else
        bif Z8 t 254 then
         bif ZG t 254 then ZrL else none
        else
         bif ZG t 255 then ZrK else none
     else
      bif Z8 t 267 then
       bif Z8 t 259 then
        bif ZG t 259 then ZrJ else none
       else
        bif Z8 t 262 then
         bif ZG t 262 then ZrI else none
        else
         bif ZG t 267 then ZrH else none
      else
       bif Z8 t 269 then
        bif ZG t 269 then ZrG else none
       else
        bif Z8 t 272 then
         bif ZG t 272 then ZrF else none
        else
         bif ZG t 274 then ZrE else none
def Zt4 (t : TypeId) : Option TypeDesc :=
  bif Z8 t 103 then
   bif Z8 t 42 then
    bif Z8 t 23 then
     bif Z8 t 4 then
      bif Z8 t 3 then
       bif ZG t 3 then some (.int .i64) else none
      else
       bif ZG t 4 then some (.bool) else none
     else
      bif Z8 t 22 then
       bif ZG t 22 then some (.slice 113) else none
      else
       bif ZG t 23 then some (.slice 118) else none
    else
     bif Z8 t 27 then
      bif Z8 t 26 then
       bif ZG t 26 then some (.slice 121) else none
      else
       bif ZG t 27 then some (.slice 32) else none
     else
      bif Z8 t 28 then
       bif ZG t 28 then some (.slice 35) else none
      else
       bif Z8 t 33 then
        bif ZG t 33 then some (.slice 3) else none
       else
        bif ZG t 42 then some (.slice 30) else none
   else
    bif Z8 t 55 then
     bif Z8 t 45 then
      bif Z8 t 44 then
       bif ZG t 44 then some (.slice 57) else none
      else
       bif ZG t 45 then some (.int .i64) else none
     else
      bif Z8 t 52 then
       bif ZG t 52 then some (.slice 55) else none
      else
       bif ZG t 55 then some (.slice 60) else none
    else
     bif Z8 t 68 then
      bif Z8 t 64 then
       bif ZG t 64 then some (.slice 163) else none
      else
       bif ZG t 68 then some (.slice 66) else none
     else
      bif Z8 t 86 then
       bif ZG t 86 then some (.slice 33) else none
      else
       bif Z8 t 96 then
        bif ZG t 96 then some (.slice 88) else none
       else
        bif ZG t 103 then some (.slice 4) else none
  else
   bif Z8 t 176 then
    bif Z8 t 116 then
     bif Z8 t 110 then
      bif Z8 t 107 then
       bif ZG t 107 then some (.int .u64) else none
      else
       bif ZG t 110 then some (.int .u64) else none
     else
      bif Z8 t 111 then
       bif ZG t 111 then some (.slice 199) else none
      else
       bif ZG t 116 then some (.slice 196) else none
    else
     bif Z8 t 139 then
      bif Z8 t 134 then
       bif ZG t 134 then some (.slice 143) else none
      else
       bif ZG t 139 then some (.array 6 3) else none
     else
      bif Z8 t 140 then
       bif ZG t 140 then some (.map 147 145) else none
      else
       bif Z8 t 148 then
        bif ZG t 148 then some (.slice 151) else none
       else
        bif ZG t 176 then some (.map 139 140) else none
   else
    bif Z8 t 245 then
     bif Z8 t 236 then
      bif Z8 t 177 then
       bif ZG t 177 then some (.array 4 4) else none
      else
       bif ZG t 236 then some (.array 6 4) else none
     else
      bif Z8 t 241 then
       bif ZG t 241 then some (.slice 23) else none
      else
       bif ZG t 245 then some (.map 147 3) else none
    else
     bif Z8 t 255 then
      bif Z8 t 252 then
       bif ZG t 252 then some (.array 3 199) else none
      else
       bif ZG t 255 then some (.slice 267) else none
     else
      bif Z8 t 259 then
       bif ZG t 259 then some (.int .i64) else none
      else
       bif Z8 t 262 then
        bif ZG t 262 then some (.map 3 4) else none
       else
        bif ZG t 269 then some (.slice 272) else none
def Zt6 (t : TypeId) (n : Nat) : Bool :=
  bif Z8 t 145 then
   bif Z8 t 60 then
    bif Z8 t 32 then
     bif ZG t 32 then ZG n 4 else false
    else
     bif Z8 t 57 then
      bif ZG t 57 then ZG n 2 else false
     else
      bif ZG t 60 then ZG n 3 else false
   else
    bif Z8 t 121 then
     bif Z8 t 109 then
      bif ZG t 109 then ZG n 1 else false
     else
      bif ZG t 121 then ZG n 2 else false
    else
     bif Z8 t 139 then
      bif ZG t 139 then ZG n 6 else false
     else
      bif ZG t 145 then ZG n 3 else false
  else
   bif Z8 t 199 then
    bif Z8 t 163 then
     bif Z8 t 147 then
      bif ZG t 147 then ZG n 2 else false
     else
      bif ZG t 163 then ZG n 3 else false
    else
     bif Z8 t 196 then
      bif ZG t 196 then ZG n 4 else false
     else
      bif ZG t 199 then ZG n 2 else false
   else
    bif Z8 t 254 then
     bif Z8 t 252 then
      bif ZG t 252 then ZG n 6 else false
     else
      bif ZG t 254 then ZG n 8 else false
    else
     bif Z8 t 267 then
      bif ZG t 267 then ZG n 3 else false
     else
      bif ZG t 272 then ZG n 3 else false
def tb:Tb:={ti:=Zt5,un:=Zt4,eqs:=Zt6}
theorem Zq {α:Type} {b:Bool} {x y:α} {r:α} {C:Prop} (hx:x=r→C) (hy:y=r→C):(bif b then x else y)=r→C:=fun h=>by
 cases b
 ·exact hy h
 ·exact hx h
theorem Zuf {α:Type} {f:Nat→Option α} {t k:Nat} {e:Option α} {i:α} (hk:f k=e):(bif ZG t k then e else none)=some i→f t=some i:=fun h=>by
 cases hb:ZG t k
 ·rw[hb]at h;cases h
 ·rw[hb]at h
  rw[ZD hb]
  exact hk.trans h
theorem Zue {t k n m:Nat} {C:Nat→Nat→Prop} (hk:C k m):(bif ZG t k then ZG n m else false)=true→C t n:=fun h=>by
 cases hb:ZG t k
 ·rw[hb]at h;cases h
 ·rw[hb]at h
  rw[ZD hb,ZD h]
  exact hk
theorem Xp {t k:Nat} {e:Option TI} {i:TI} (hk:ZC Tryz.prog k=e):(bif ZG t k then e else none)=some i→ZC Tryz.prog t=some i:=Zuf hk
theorem lkU {t k:Nat} {e:Option TypeDesc} {i:TypeDesc} (hk:Tryz.prog.underlying k=e):(bif ZG t k then e else none)=some i→Tryz.prog.underlying t=some i:=Zuf hk
theorem lkE {t k n m:Nat} (hk:JH Tryz.prog k m=true):(bif ZG t k then ZG n m else false)=true→JH Tryz.prog t n=true:=Zue (C:=fun t n=>JH Tryz.prog t n=true) hk
theorem ZbS (t:TypeId) (i:TI):Zt5 t=some i→ZC Tryz.prog t=some i:=
 (Zq (Zq (Zq (Zq (Zq (Zq (Xp ZsS) (Xp ZsR)) (Zq (Xp ZsQ) (Zq (Xp Zqy) (Xp Zqx)))) (Zq (Zq (Xp Zqw) (Xp Zqv)) (Zq (Xp Zqu) (Zq (Xp Zqt) (Xp Zqs))))) (Zq (Zq (Zq (Xp Zqr) (Xp Zqq)) (Zq (Xp Zqp) (Zq (Xp Zqo) (Xp Zqn)))) (Zq (Zq (Xp Zqm) (Xp Zql)) (Zq (Xp Zqk) (Zq (Xp Zqj) (Xp Zqi)))))) (Zq (Zq (Zq (Zq (Xp Zqh) (Xp Zqg)) (Zq (Xp Zqf) (Zq (Xp Zqe) (Xp Zqd)))) (Zq (Zq (Xp Zqc) (Xp Zqb)) (Zq (Xp Zqa) (Zq (Xp Zoc) (Xp Zob))))) (Zq (Zq (Zq (Xp Zoa) (Xp Zn9)) (Zq (Xp Zn8) (Zq (Xp Zn7) (Xp Zn6)))) (Zq (Zq (Xp Zn5) (Xp Zn4)) (Zq (Xp Zn3) (Zq (Xp Zn2) (Xp Zn1))))))) (Zq (Zq (Zq (Zq (Zq (Xp Zn0) (Xp ZnZ)) (Zq (Xp ZnY) (Zq (Xp ZnX) (Xp ZnW)))) (Zq (Zq (Xp ZnV) (Xp ZnU)) (Zq (Xp ZnT) (Zq (Xp ZnS) (Xp ZnR))))) (Zq (Zq (Zq (Xp ZnQ) (Xp ZnP)) (Zq (Xp ZnO) (Zq (Xp ZnN) (Xp ZnM)))) (Zq (Zq (Xp ZnL) (Xp ZnK)) (Zq (Xp ZnJ) (Zq (Xp ZnI) (Xp ZnH)))))) (Zq (Zq (Zq (Zq (Xp ZnG) (Xp ZnF)) (Zq (Xp ZnE) (Zq (Xp ZnD) (Xp ZnC)))) (Zq (Zq (Xp ZnB) (Xp ZnA)) (Zq (Xp Znz) (Zq (Xp Zny) (Xp Znx))))) (Zq (Zq (Zq (Xp Znw) (Xp Znv)) (Zq (Xp Znu) (Zq (Xp Znt) (Xp Zns)))) (Zq (Zq (Xp Znr) (Zq (Xp Znq) (Xp Znp))) (Zq (Xp Zno) (Zq (Xp Znn) (Xp Znm))))))))
theorem ZbR (t:TypeId) (d:TypeDesc):Zt4 t=some d→Tryz.prog.underlying t=some d:=
 (Zq (Zq (Zq (Zq (Zq (lkU ZsP) (lkU ZsO)) (Zq (lkU Zp9) (lkU Zp8))) (Zq (Zq (lkU Zp7) (lkU Zp6)) (Zq (lkU Zp5) (Zq (lkU Zp4) (lkU Zp3))))) (Zq (Zq (Zq (lkU Zp2) (lkU Zp1)) (Zq (lkU Zp0) (lkU ZpZ))) (Zq (Zq (lkU ZpY) (lkU ZpX)) (Zq (lkU ZpW) (Zq (lkU ZpV) (lkU Zng)))))) (Zq (Zq (Zq (Zq (lkU Znf) (lkU Zne)) (Zq (lkU Znd) (lkU Znc))) (Zq (Zq (lkU Znb) (lkU Zna)) (Zq (lkU Zm9) (Zq (lkU Zm8) (lkU Zm7))))) (Zq (Zq (Zq (lkU Zm6) (lkU Zm5)) (Zq (lkU Zm4) (lkU Zm3))) (Zq (Zq (lkU Zm2) (lkU Zm1)) (Zq (lkU Zm0) (Zq (lkU ZmZ) (lkU ZmY)))))))
theorem ZbT (t n:Nat):Zt6 t n=true→JH Tryz.prog t n=true:=
 (Zq (Zq (Zq (lkE Zmp) (Zq (lkE Zmo) (lkE Zmn))) (Zq (Zq (lkE ZkJ) (lkE ZkI)) (Zq (lkE ZkH) (lkE ZkG)))) (Zq (Zq (Zq (lkE ZkF) (lkE ZkE)) (Zq (lkE ZkD) (lkE ZkC))) (Zq (Zq (lkE ZkB) (lkE ZkA)) (Zq (lkE Zkz) (lkE Zky)))))
theorem hT:tb.Of ((fun _=>Tryz.prog:Unit→Program) ()):=⟨ZbS,ZbR,ZbT⟩
theorem hm:((fun _=>Tryz.prog:Unit→Program) ()).follows .mixedOrders=true:=by decide+kernel
def tbF (kp rs:Bool):Tb:={tb with kp,rs}
theorem hTF (kp rs:Bool):(tbF kp rs).Of ((fun _=>Tryz.prog:Unit→Program) ()):=⟨ZbS,ZbR,ZbT⟩
end Go.Proofs.YtjgpiclllehgmaaGreat.Vm
