/- Lemmas. -/
import Derived.Test.YtjgpiclllehgmaaGreatRows
import Derived.Test.YtjgpiclllehgmaaGreatM4
set_option linter.all false
open Go.Proofs.Tryz renaming prog->aB
namespace Go.Proofs.YtjgpiclllehgmaaGreat
namespace Vm
open Go Go.Proofs
set_option maxRecDepth 100000
def ti1:Option TI:=some {k:=.func,agg:=false,size:=1,bytes:=8,zero:=some (.nilFunc)}
theorem ZuG:ZC aB 1=ti1:=by kernel_rfl
def ti3:Option TI:=some {k:=.int .i64,agg:=false,size:=1,bytes:=8,zero:=some (.int .i64 0)}
theorem ZuF:ZC aB 3=ti3:=by kernel_rfl
theorem ZuD:aB.underlying 3=some (.int .i64):=by kernel_rfl
def ti4:Option TI:=some {k:=.bool,agg:=false,size:=1,bytes:=1,zero:=some (.bool false)}
theorem ZuE:ZC aB 4=ti4:=by kernel_rfl
theorem ZuC:aB.underlying 4=some (.bool):=by kernel_rfl
def Zv6:Option TI:=some {k:=.slice 113 2 32,agg:=false,size:=1,bytes:=24,zero:=some (.slice none 0 0)}
theorem Zr7:ZC aB 22=Zv6:=by kernel_rfl
theorem ZrG:aB.underlying 22=some (.slice 113):=by kernel_rfl
def Zv5:Option TI:=some {k:=.slice 118 3 40,agg:=false,size:=1,bytes:=24,zero:=some (.slice none 0 0)}
theorem Zr6:ZC aB 23=Zv5:=by kernel_rfl
theorem ZrF:aB.underlying 23=some (.slice 118):=by kernel_rfl
def Zv4:Option TI:=some {k:=.struct [some (0,1,false),some (1,1,false),some (2,1,false),some (3,1,false),some (4,1,false)],agg:=true,size:=5,bytes:=88,zero:=some (.agg #[.slice none 0 0,.slice none 0 0,.slice none 0 0,.int .i64 0,.int .i64 0])}
theorem Zr5:ZC aB 25=Zv4:=by kernel_rfl
def Zv3:Option TI:=some {k:=.slice 121 2 16,agg:=false,size:=1,bytes:=24,zero:=some (.slice none 0 0)}
theorem Zr4:ZC aB 26=Zv3:=by kernel_rfl
theorem ZrE:aB.underlying 26=some (.slice 121):=by kernel_rfl
def Zv2:Option TI:=some {k:=.slice 32 4 32,agg:=false,size:=1,bytes:=24,zero:=some (.slice none 0 0)}
theorem Zr3:ZC aB 27=Zv2:=by kernel_rfl
theorem ZrD:aB.underlying 27=some (.slice 32):=by kernel_rfl
def Zv1:Option TI:=some {k:=.slice 35 3 40,agg:=false,size:=1,bytes:=24,zero:=some (.slice none 0 0)}
theorem Zr2:ZC aB 28=Zv1:=by kernel_rfl
theorem ZrC:aB.underlying 28=some (.slice 35):=by kernel_rfl
def Zv0:Option TI:=some {k:=.struct [some (0,5,true),some (5,1,false),some (6,1,false),some (7,1,false)],agg:=true,size:=8,bytes:=160,zero:=some (.agg #[.slice none 0 0,.slice none 0 0,.slice none 0 0,.int .i64 0,.int .i64 0,.slice none 0 0,.slice none 0 0,.slice none 0 0])}
theorem Zr1:ZC aB 30=Zv0:=by kernel_rfl
def ZvZ:Option TI:=some {k:=.struct [some (0,1,false),some (1,1,false),some (2,1,false),some (3,1,false)],agg:=true,size:=4,bytes:=32,zero:=some (.agg #[.int .i64 0,.int .i64 0,.int .i64 0,.int .i64 0])}
theorem Zr0:ZC aB 32=ZvZ:=by kernel_rfl
theorem ZnM:J9 aB 32 4=true:=by decide+kernel
def ZvY:Option TI:=some {k:=.slice 3 1 8,agg:=false,size:=1,bytes:=24,zero:=some (.slice none 0 0)}
theorem ZrZ:ZC aB 33=ZvY:=by kernel_rfl
theorem ZrB:aB.underlying 33=some (.slice 3):=by kernel_rfl
def ZvX:Option TI:=some {k:=.struct [some (0,1,false),some (1,1,false),some (2,1,false)],agg:=true,size:=3,bytes:=40,zero:=some (.agg #[.int .i64 0,.int .i64 0,.slice none 0 0])}
theorem ZrY:ZC aB 35=ZvX:=by kernel_rfl
def ZvW:Option TI:=some {k:=.ptr,agg:=false,size:=1,bytes:=8,zero:=some (.pointer none)}
theorem ZrX:ZC aB 38=ZvW:=by kernel_rfl
def ZvV:Option TI:=some {k:=.slice 30 8 160,agg:=false,size:=1,bytes:=24,zero:=some (.slice none 0 0)}
theorem ZrW:ZC aB 42=ZvV:=by kernel_rfl
theorem ZrA:aB.underlying 42=some (.slice 30):=by kernel_rfl
def ZvU:Option TI:=some {k:=.slice 57 2 16,agg:=false,size:=1,bytes:=24,zero:=some (.slice none 0 0)}
theorem ZrV:ZC aB 44=ZvU:=by kernel_rfl
theorem Zrz:aB.underlying 44=some (.slice 57):=by kernel_rfl
def ZvT:Option TI:=some {k:=.int .i64,agg:=false,size:=1,bytes:=8,zero:=some (.int .i64 0)}
theorem ZrU:ZC aB 45=ZvT:=by kernel_rfl
theorem Zry:aB.underlying 45=some (.int .i64):=by kernel_rfl
def ZvS:Option TI:=some {k:=.slice 55 1 24,agg:=false,size:=1,bytes:=24,zero:=some (.slice none 0 0)}
theorem ZrT:ZC aB 52=ZvS:=by kernel_rfl
theorem Zrx:aB.underlying 52=some (.slice 55):=by kernel_rfl
def ZvR:Option TI:=some {k:=.slice 60 3 24,agg:=false,size:=1,bytes:=24,zero:=some (.slice none 0 0)}
theorem ZrS:ZC aB 55=ZvR:=by kernel_rfl
theorem Zrw:aB.underlying 55=some (.slice 60):=by kernel_rfl
def ZvQ:Option TI:=some {k:=.struct [some (0,1,false),some (1,1,false)],agg:=true,size:=2,bytes:=16,zero:=some (.agg #[.int .i64 0,.int .i64 0])}
theorem ZrR:ZC aB 57=ZvQ:=by kernel_rfl
theorem ZnL:J9 aB 57 2=true:=by decide+kernel
def ZvP:Option TI:=some {k:=.struct [some (0,1,false),some (1,1,false),some (2,1,false)],agg:=true,size:=3,bytes:=24,zero:=some (.agg #[.int .i64 0,.int .i64 0,.int .i64 0])}
theorem ZrQ:ZC aB 60=ZvP:=by kernel_rfl
theorem ZnK:J9 aB 60 3=true:=by decide+kernel
def ZvO:Option TI:=some {k:=.slice 163 3 24,agg:=false,size:=1,bytes:=24,zero:=some (.slice none 0 0)}
theorem ZrP:ZC aB 64=ZvO:=by kernel_rfl
theorem Zrv:aB.underlying 64=some (.slice 163):=by kernel_rfl
def ZvN:Option TI:=some {k:=.struct [some (0,1,false),some (1,1,false),some (2,1,false),some (3,1,false)],agg:=true,size:=4,bytes:=48,zero:=some (.agg #[.int .i64 0,.int .i64 0,.int .i64 0,.slice none 0 0])}
theorem ZrO:ZC aB 66=ZvN:=by kernel_rfl
def ZvM:Option TI:=some {k:=.slice 66 4 48,agg:=false,size:=1,bytes:=24,zero:=some (.slice none 0 0)}
theorem ZrN:ZC aB 68=ZvM:=by kernel_rfl
theorem Zru:aB.underlying 68=some (.slice 66):=by kernel_rfl
def ZvL:Option TI:=some {k:=.func,agg:=false,size:=1,bytes:=8,zero:=some (.nilFunc)}
theorem ZrM:ZC aB 85=ZvL:=by kernel_rfl
def ZvK:Option TI:=some {k:=.slice 33 1 24,agg:=false,size:=1,bytes:=24,zero:=some (.slice none 0 0)}
theorem ZrL:ZC aB 86=ZvK:=by kernel_rfl
theorem Zrt:aB.underlying 86=some (.slice 33):=by kernel_rfl
def ZvJ:Option TI:=some {k:=.struct [some (0,1,false),some (1,1,false),some (2,1,false)],agg:=true,size:=3,bytes:=72,zero:=some (.agg #[.slice none 0 0,.slice none 0 0,.slice none 0 0])}
theorem ZrK:ZC aB 88=ZvJ:=by kernel_rfl
def ZvI:Option TI:=some {k:=.slice 88 3 72,agg:=false,size:=1,bytes:=24,zero:=some (.slice none 0 0)}
theorem ZrJ:ZC aB 96=ZvI:=by kernel_rfl
theorem Zrs:aB.underlying 96=some (.slice 88):=by kernel_rfl
def Zua:Option TI:=some {k:=.slice 4 1 1,agg:=false,size:=1,bytes:=24,zero:=some (.slice none 0 0)}
theorem ZpE:ZC aB 103=Zua:=by kernel_rfl
theorem ZoH:aB.underlying 103=some (.slice 4):=by kernel_rfl
def Zt9:Option TI:=some {k:=.int .u64,agg:=false,size:=1,bytes:=8,zero:=some (.int .u64 0)}
theorem ZpD:ZC aB 107=Zt9:=by kernel_rfl
theorem ZoG:aB.underlying 107=some (.int .u64):=by kernel_rfl
def Zt8:Option TI:=some {k:=.struct [some (0,1,false)],agg:=true,size:=1,bytes:=8,zero:=some (.agg #[.int .u64 0])}
theorem ZpC:ZC aB 109=Zt8:=by kernel_rfl
theorem ZlR:J9 aB 109 1=true:=by decide+kernel
def Zt7:Option TI:=some {k:=.int .u64,agg:=false,size:=1,bytes:=8,zero:=some (.int .u64 0)}
theorem ZpB:ZC aB 110=Zt7:=by kernel_rfl
theorem ZoF:aB.underlying 110=some (.int .u64):=by kernel_rfl
def Zt6:Option TI:=some {k:=.slice 199 2 16,agg:=false,size:=1,bytes:=24,zero:=some (.slice none 0 0)}
theorem ZpA:ZC aB 111=Zt6:=by kernel_rfl
theorem ZoE:aB.underlying 111=some (.slice 199):=by kernel_rfl
def Zt5:Option TI:=some {k:=.struct [some (0,1,false),some (1,1,false)],agg:=true,size:=2,bytes:=32,zero:=some (.agg #[.int .i64 0,.slice none 0 0])}
theorem Zpz:ZC aB 113=Zt5:=by kernel_rfl
def Zt4:Option TI:=some {k:=.slice 196 4 32,agg:=false,size:=1,bytes:=24,zero:=some (.slice none 0 0)}
theorem Zpy:ZC aB 116=Zt4:=by kernel_rfl
theorem ZoD:aB.underlying 116=some (.slice 196):=by kernel_rfl
def Zt3:Option TI:=some {k:=.struct [some (0,1,false),some (1,1,false),some (2,1,false)],agg:=true,size:=3,bytes:=40,zero:=some (.agg #[.int .i64 0,.int .i64 0,.slice none 0 0])}
theorem Zpx:ZC aB 118=Zt3:=by kernel_rfl
def Zt2:Option TI:=some {k:=.struct [some (0,1,false),some (1,1,false)],agg:=true,size:=2,bytes:=16,zero:=some (.agg #[.int .i64 0,.int .i64 0])}
theorem Zpw:ZC aB 121=Zt2:=by kernel_rfl
theorem ZlQ:J9 aB 121 2=true:=by decide+kernel
def Zt1:Option TI:=some {k:=.ptr,agg:=false,size:=1,bytes:=8,zero:=some (.pointer none)}
theorem Zpv:ZC aB 128=Zt1:=by kernel_rfl
def Zt0:Option TI:=some {k:=.struct [some (0,8,true),some (8,1,false)],agg:=true,size:=9,bytes:=184,zero:=some (.agg #[.slice none 0 0,.slice none 0 0,.slice none 0 0,.int .i64 0,.int .i64 0,.slice none 0 0,.slice none 0 0,.slice none 0 0,.slice none 0 0])}
theorem Zpu:ZC aB 133=Zt0:=by kernel_rfl
def ZtZ:Option TI:=some {k:=.slice 143 3 24,agg:=false,size:=1,bytes:=24,zero:=some (.slice none 0 0)}
theorem Zpt:ZC aB 134=ZtZ:=by kernel_rfl
theorem ZoC:aB.underlying 134=some (.slice 143):=by kernel_rfl
def ZtY:Option TI:=some {k:=.func,agg:=false,size:=1,bytes:=8,zero:=some (.nilFunc)}
theorem Zps:ZC aB 135=ZtY:=by kernel_rfl
def ZtX:Option TI:=some {k:=.func,agg:=false,size:=1,bytes:=8,zero:=some (.nilFunc)}
theorem Zpr:ZC aB 136=ZtX:=by kernel_rfl
def ZtW:Option TI:=some {k:=.array 6 1,agg:=true,size:=6,bytes:=48,zero:=some (.agg #[.int .i64 0,.int .i64 0,.int .i64 0,.int .i64 0,.int .i64 0,.int .i64 0])}
theorem Zpq:ZC aB 139=ZtW:=by kernel_rfl
theorem ZoB:aB.underlying 139=some (.array 6 3):=by kernel_rfl
theorem ZlP:J9 aB 139 6=true:=by decide+kernel
def ZtV:Option TI:=some {k:=.map,agg:=false,size:=1,bytes:=8,zero:=some (.map none)}
theorem Zpp:ZC aB 140=ZtV:=by kernel_rfl
theorem ZoA:aB.underlying 140=some (.map 147 145):=by kernel_rfl
def ZtU:Option TI:=some {k:=.func,agg:=false,size:=1,bytes:=8,zero:=some (.nilFunc)}
theorem Zpo:ZC aB 141=ZtU:=by kernel_rfl
def ZtT:Option TI:=some {k:=.struct [some (0,2,true),some (2,1,false)],agg:=true,size:=3,bytes:=24,zero:=some (.agg #[.int .i64 0,.int .i64 0,.bool false])}
theorem Zpn:ZC aB 143=ZtT:=by kernel_rfl
def ZtS:Option TI:=some {k:=.struct [some (0,1,false),some (1,1,false),some (2,1,false)],agg:=true,size:=3,bytes:=24,zero:=some (.agg #[.int .i64 0,.int .i64 0,.int .i64 0])}
theorem Zpm:ZC aB 145=ZtS:=by kernel_rfl
theorem ZlO:J9 aB 145 3=true:=by decide+kernel
def ZtR:Option TI:=some {k:=.struct [some (0,1,false),some (1,1,false)],agg:=true,size:=2,bytes:=16,zero:=some (.agg #[.int .i64 0,.int .i64 0])}
theorem Zpl:ZC aB 147=ZtR:=by kernel_rfl
theorem ZlN:J9 aB 147 2=true:=by decide+kernel
def ZtQ:Option TI:=some {k:=.slice 151 3 72,agg:=false,size:=1,bytes:=24,zero:=some (.slice none 0 0)}
theorem Zpk:ZC aB 148=ZtQ:=by kernel_rfl
theorem Zoz:aB.underlying 148=some (.slice 151):=by kernel_rfl
def ZtP:Option TI:=some {k:=.struct [some (0,1,false),some (1,1,false),some (2,1,false)],agg:=true,size:=3,bytes:=72,zero:=some (.agg #[.slice none 0 0,.slice none 0 0,.slice none 0 0])}
theorem Zpj:ZC aB 151=ZtP:=by kernel_rfl
def ZtO:Option TI:=some {k:=.struct [some (0,1,false),some (1,1,false),some (2,1,false)],agg:=true,size:=3,bytes:=24,zero:=some (.agg #[.int .i64 0,.int .i64 0,.int .i64 0])}
theorem Zpi:ZC aB 163=ZtO:=by kernel_rfl
theorem ZlM:J9 aB 163 3=true:=by decide+kernel
def ZtN:Option TI:=some {k:=.map,agg:=false,size:=1,bytes:=8,zero:=some (.map none)}
theorem Zph:ZC aB 176=ZtN:=by kernel_rfl
theorem Zoy:aB.underlying 176=some (.map 139 140):=by kernel_rfl
def ZtM:Option TI:=some {k:=.array 4 1,agg:=true,size:=4,bytes:=4,zero:=some (.agg #[.bool false,.bool false,.bool false,.bool false])}
theorem Zpg:ZC aB 177=ZtM:=by kernel_rfl
theorem Zox:aB.underlying 177=some (.array 4 4):=by kernel_rfl
def ZtL:Option TI:=some {k:=.func,agg:=false,size:=1,bytes:=8,zero:=some (.nilFunc)}
theorem Zpf:ZC aB 183=ZtL:=by kernel_rfl
def ZtK:Option TI:=some {k:=.func,agg:=false,size:=1,bytes:=8,zero:=some (.nilFunc)}
theorem Zpe:ZC aB 189=ZtK:=by kernel_rfl
def ZtJ:Option TI:=some {k:=.struct [some (0,1,false),some (1,1,false),some (2,1,false),some (3,1,false)],agg:=true,size:=4,bytes:=32,zero:=some (.agg #[.int .i64 0,.int .i64 0,.int .i64 0,.int .i64 0])}
theorem Zpd:ZC aB 196=ZtJ:=by kernel_rfl
theorem ZlL:J9 aB 196 4=true:=by decide+kernel
def ZtI:Option TI:=some {k:=.struct [some (0,1,false),some (1,1,false)],agg:=true,size:=2,bytes:=16,zero:=some (.agg #[.int .i64 0,.int .i64 0])}
theorem Zpc:ZC aB 199=ZtI:=by kernel_rfl
theorem ZlK:J9 aB 199 2=true:=by decide+kernel
def ZtH:Option TI:=some {k:=.func,agg:=false,size:=1,bytes:=8,zero:=some (.nilFunc)}
theorem Zpb:ZC aB 201=ZtH:=by kernel_rfl
def ZtG:Option TI:=some {k:=.func,agg:=false,size:=1,bytes:=8,zero:=some (.nilFunc)}
theorem Zpa:ZC aB 206=ZtG:=by kernel_rfl
def ZtF:Option TI:=some {k:=.func,agg:=false,size:=1,bytes:=8,zero:=some (.nilFunc)}
theorem Zo9:ZC aB 207=ZtF:=by kernel_rfl
def ZtE:Option TI:=some {k:=.func,agg:=false,size:=1,bytes:=8,zero:=some (.nilFunc)}
theorem Zo8:ZC aB 208=ZtE:=by kernel_rfl
def ZtD:Option TI:=some {k:=.ptr,agg:=false,size:=1,bytes:=8,zero:=some (.pointer none)}
theorem Zo7:ZC aB 211=ZtD:=by kernel_rfl
def ZtC:Option TI:=some {k:=.func,agg:=false,size:=1,bytes:=8,zero:=some (.nilFunc)}
theorem Zo6:ZC aB 219=ZtC:=by kernel_rfl
def ZtB:Option TI:=some {k:=.struct [some (0,3,true),some (3,1,false),some (4,1,false)],agg:=true,size:=5,bytes:=72,zero:=some (.agg #[.int .i64 0,.int .i64 0,.slice none 0 0,.int .i64 0,.slice none 0 0])}
theorem Zo5:ZC aB 223=ZtB:=by kernel_rfl
def ZtA:Option TI:=some {k:=.other,agg:=false,size:=1,bytes:=8,zero:=some (.chan none)}
theorem Zo4:ZC aB 226=ZtA:=by kernel_rfl
def Ztz:Option TI:=some {k:=.ptr,agg:=false,size:=1,bytes:=8,zero:=some (.pointer none)}
theorem Zo3:ZC aB 230=Ztz:=by kernel_rfl
def Zty:Option TI:=some {k:=.array 6 1,agg:=true,size:=6,bytes:=6,zero:=some (.agg #[.bool false,.bool false,.bool false,.bool false,.bool false,.bool false])}
theorem Zo2:ZC aB 236=Zty:=by kernel_rfl
theorem Zow:aB.underlying 236=some (.array 6 4):=by kernel_rfl
def Ztx:Option TI:=some {k:=.slice 23 1 24,agg:=false,size:=1,bytes:=24,zero:=some (.slice none 0 0)}
theorem Zo1:ZC aB 241=Ztx:=by kernel_rfl
theorem Zov:aB.underlying 241=some (.slice 23):=by kernel_rfl
def Ztw:Option TI:=some {k:=.func,agg:=false,size:=1,bytes:=8,zero:=some (.nilFunc)}
theorem Zo0:ZC aB 244=Ztw:=by kernel_rfl
def Ztv:Option TI:=some {k:=.map,agg:=false,size:=1,bytes:=8,zero:=some (.map none)}
theorem ZoZ:ZC aB 245=Ztv:=by kernel_rfl
theorem Zou:aB.underlying 245=some (.map 147 3):=by kernel_rfl
def Ztu:Option TI:=some {k:=.func,agg:=false,size:=1,bytes:=8,zero:=some (.nilFunc)}
theorem ZoY:ZC aB 246=Ztu:=by kernel_rfl
def Ztt:Option TI:=some {k:=.func,agg:=false,size:=1,bytes:=8,zero:=some (.nilFunc)}
theorem ZoX:ZC aB 248=Ztt:=by kernel_rfl
def Zts:Option TI:=some {k:=.array 3 2,agg:=true,size:=6,bytes:=48,zero:=some (.agg #[.int .i64 0,.int .i64 0,.int .i64 0,.int .i64 0,.int .i64 0,.int .i64 0])}
theorem ZoW:ZC aB 252=Zts:=by kernel_rfl
theorem Zot:aB.underlying 252=some (.array 3 199):=by kernel_rfl
theorem ZlJ:J9 aB 252 6=true:=by decide+kernel
def Ztr:Option TI:=some {k:=.struct [some (0,1,false),some (1,1,false),some (2,6,true)],agg:=true,size:=8,bytes:=64,zero:=some (.agg #[.int .i64 0,.int .i64 0,.int .i64 0,.int .i64 0,.int .i64 0,.int .i64 0,.int .i64 0,.int .i64 0])}
theorem ZoV:ZC aB 254=Ztr:=by kernel_rfl
theorem ZlI:J9 aB 254 8=true:=by decide+kernel
def Ztq:Option TI:=some {k:=.slice 267 3 24,agg:=false,size:=1,bytes:=24,zero:=some (.slice none 0 0)}
theorem ZoU:ZC aB 255=Ztq:=by kernel_rfl
theorem Zos:aB.underlying 255=some (.slice 267):=by kernel_rfl
def Ztp:Option TI:=some {k:=.int .i64,agg:=false,size:=1,bytes:=8,zero:=some (.int .i64 0)}
theorem ZoT:ZC aB 259=Ztp:=by kernel_rfl
theorem Zor:aB.underlying 259=some (.int .i64):=by kernel_rfl
def Zto:Option TI:=some {k:=.map,agg:=false,size:=1,bytes:=8,zero:=some (.map none)}
theorem ZoS:ZC aB 262=Zto:=by kernel_rfl
theorem Zoq:aB.underlying 262=some (.map 3 4):=by kernel_rfl
def Ztn:Option TI:=some {k:=.struct [some (0,1,false),some (1,1,false),some (2,1,false)],agg:=true,size:=3,bytes:=24,zero:=some (.agg #[.int .i64 0,.int .i64 0,.int .i64 0])}
theorem ZoR:ZC aB 267=Ztn:=by kernel_rfl
theorem ZlH:J9 aB 267 3=true:=by decide+kernel
def Ztm:Option TI:=some {k:=.slice 272 3 24,agg:=false,size:=1,bytes:=24,zero:=some (.slice none 0 0)}
theorem ZoQ:ZC aB 269=Ztm:=by kernel_rfl
theorem Zop:aB.underlying 269=some (.slice 272):=by kernel_rfl
def Ztl:Option TI:=some {k:=.struct [some (0,1,false),some (1,1,false),some (2,1,false)],agg:=true,size:=3,bytes:=24,zero:=some (.agg #[.int .i64 0,.int .i64 0,.int .i64 0])}
theorem ZoP:ZC aB 272=Ztl:=by kernel_rfl
theorem ZlG:J9 aB 272 3=true:=by decide+kernel
def Ztk:Option TI:=some {k:=.func,agg:=false,size:=1,bytes:=8,zero:=some (.nilFunc)}
theorem ZoO:ZC aB 274=Ztk:=by kernel_rfl
def Zv8 (t : TypeId) : Option TI :=
  bif Z7 t 134 then
   bif Z7 t 57 then
    bif Z7 t 30 then
     bif Z7 t 23 then
      bif Z7 t 3 then
       bif Z7 t 1 then
        bif ZD t 1 then ti1 else none
       else
        bif ZD t 3 then ti3 else none
      else
       bif Z7 t 4 then
        bif ZD t 4 then ti4 else none
       else
        bif Z7 t 22 then
         bif ZD t 22 then Zv6 else none
        else
         bif ZD t 23 then Zv5 else none
     else
      bif Z7 t 26 then
       bif Z7 t 25 then
        bif ZD t 25 then Zv4 else none
       else
        bif ZD t 26 then Zv3 else none
      else
       bif Z7 t 27 then
        bif ZD t 27 then Zv2 else none
       else
        bif Z7 t 28 then
         bif ZD t 28 then Zv1 else none
        else
         bif ZD t 30 then Zv0 else none
    else
     bif Z7 t 42 then
      bif Z7 t 33 then
       bif Z7 t 32 then
        bif ZD t 32 then ZvZ else none
       else
        bif ZD t 33 then ZvY else none
      else
       bif Z7 t 35 then
        bif ZD t 35 then ZvX else none
       else
        bif Z7 t 38 then
         bif ZD t 38 then ZvW else none
        else
         bif ZD t 42 then ZvV else none
     else
      bif Z7 t 45 then
       bif Z7 t 44 then
        bif ZD t 44 then ZvU else none
       else
        bif ZD t 45 then ZvT else none
      else
       bif Z7 t 52 then
        bif ZD t 52 then ZvS else none
       else
        bif Z7 t 55 then
         bif ZD t 55 then ZvR else none
        else
         bif ZD t 57 then ZvQ else none
   else
    bif Z7 t 107 then
     bif Z7 t 85 then
      bif Z7 t 64 then
       bif Z7 t 60 then
        bif ZD t 60 then ZvP else none
       else
        bif ZD t 64 then ZvO else none
      else
       bif Z7 t 66 then
        bif ZD t 66 then ZvN else none
       else
        bif Z7 t 68 then
         bif ZD t 68 then ZvM else none
        else
         bif ZD t 85 then ZvL else none
     else
      bif Z7 t 88 then
       bif Z7 t 86 then
        bif ZD t 86 then ZvK else none
       else
        bif ZD t 88 then ZvJ else none
      else
       bif Z7 t 96 then
        bif ZD t 96 then ZvI else none
       else
        bif Z7 t 103 then
         bif ZD t 103 then Zua else none
        else
         bif ZD t 107 then Zt9 else none
    else
     bif Z7 t 116 then
      bif Z7 t 110 then
       bif Z7 t 109 then
        bif ZD t 109 then Zt8 else none
       else
        bif ZD t 110 then Zt7 else none
      else
       bif Z7 t 111 then
        bif ZD t 111 then Zt6 else none
       else
        bif Z7 t 113 then
         bif ZD t 113 then Zt5 else none
        else
         bif ZD t 116 then Zt4 else none
     else
      bif Z7 t 121 then
       bif Z7 t 118 then
        bif ZD t 118 then Zt3 else none
       else
        bif ZD t 121 then Zt2 else none
      else
       bif Z7 t 128 then
        bif ZD t 128 then Zt1 else none
       else
        bif Z7 t 133 then
         bif ZD t 133 then Zt0 else none
        else
         bif ZD t 134 then ZtZ else none
  else
   bif Z7 t 207 then
    bif Z7 t 151 then
     bif Z7 t 141 then
      bif Z7 t 136 then
       bif Z7 t 135 then
        bif ZD t 135 then ZtY else none
       else
        bif ZD t 136 then ZtX else none
      else
       bif Z7 t 139 then
        bif ZD t 139 then ZtW else none
       else
        bif Z7 t 140 then
         bif ZD t 140 then ZtV else none
        else
         bif ZD t 141 then ZtU else none
     else
      bif Z7 t 145 then
       bif Z7 t 143 then
        bif ZD t 143 then ZtT else none
       else
        bif ZD t 145 then ZtS else none
      else
       bif Z7 t 147 then
        bif ZD t 147 then ZtR else none
       else
        bif Z7 t 148 then
         bif ZD t 148 then ZtQ else none
        else
         bif ZD t 151 then ZtP else none
    else
     bif Z7 t 189 then
      bif Z7 t 176 then
       bif Z7 t 163 then
        bif ZD t 163 then ZtO else none
       else
        bif ZD t 176 then ZtN else none
      else
       bif Z7 t 177 then
        bif ZD t 177 then ZtM else none
       else
        bif Z7 t 183 then
         bif ZD t 183 then ZtL else none
        else
         bif ZD t 189 then ZtK else none
     else
      bif Z7 t 199 then
       bif Z7 t 196 then
        bif ZD t 196 then ZtJ else none
       else
        bif ZD t 199 then ZtI else none
      else
       bif Z7 t 201 then
        bif ZD t 201 then ZtH else none
       else
        bif Z7 t 206 then
         bif ZD t 206 then ZtG else none
        else
         bif ZD t 207 then ZtF else none
   else
    bif Z7 t 245 then
     bif Z7 t 226 then
      bif Z7 t 211 then
       bif Z7 t 208 then
        bif ZD t 208 then ZtE else none
       else
        bif ZD t 211 then ZtD else none
      else
       bif Z7 t 219 then
        bif ZD t 219 then ZtC else none
       else
        bif Z7 t 223 then
         bif ZD t 223 then ZtB else none
        else
         bif ZD t 226 then ZtA else none
     else
      bif Z7 t 236 then
       bif Z7 t 230 then
        bif ZD t 230 then Ztz else none
       else
        bif ZD t 236 then Zty else none
      else
       bif Z7 t 241 then
        bif ZD t 241 then Ztx else none
       else
        bif Z7 t 244 then
         bif ZD t 244 then Ztw else none
        else
         bif ZD t 245 then Ztv else none
    else
     bif Z7 t 255 then
      bif Z7 t 248 then
       bif Z7 t 246 then
        bif ZD t 246 then Ztu else none
       else
        bif ZD t 248 then Ztt else none
      else
       bif Z7 t 252 then
        bif ZD t 252 then Zts else none
       else
        bif Z7 t 254 then
         bif ZD t 254 then Ztr else none
        else
         bif ZD t 255 then Ztq else none
     else
      bif Z7 t 267 then
       bif Z7 t 259 then
        bif ZD t 259 then Ztp else none
       else
        bif Z7 t 262 then
         bif ZD t 262 then Zto else none
        else
         bif ZD t 267 then Ztn else none
      else
       bif Z7 t 269 then
        bif ZD t 269 then Ztm else none
       else
        bif Z7 t 272 then
         bif ZD t 272 then Ztl else none
        else
         bif ZD t 274 then Ztk else none
def Zv7 (t : TypeId) : Option TypeDesc :=
  bif Z7 t 103 then
   bif Z7 t 42 then
    bif Z7 t 23 then
     bif Z7 t 4 then
      bif Z7 t 3 then
       bif ZD t 3 then some (.int .i64) else none
      else
       bif ZD t 4 then some (.bool) else none
     else
      bif Z7 t 22 then
       bif ZD t 22 then some (.slice 113) else none
      else
       bif ZD t 23 then some (.slice 118) else none
    else
     bif Z7 t 27 then
      bif Z7 t 26 then
       bif ZD t 26 then some (.slice 121) else none
      else
       bif ZD t 27 then some (.slice 32) else none
     else
      bif Z7 t 28 then
       bif ZD t 28 then some (.slice 35) else none
      else
       bif Z7 t 33 then
        bif ZD t 33 then some (.slice 3) else none
       else
        bif ZD t 42 then some (.slice 30) else none
   else
    bif Z7 t 55 then
     bif Z7 t 45 then
      bif Z7 t 44 then
       bif ZD t 44 then some (.slice 57) else none
      else
       bif ZD t 45 then some (.int .i64) else none
     else
      bif Z7 t 52 then
       bif ZD t 52 then some (.slice 55) else none
      else
       bif ZD t 55 then some (.slice 60) else none
    else
     bif Z7 t 68 then
      bif Z7 t 64 then
       bif ZD t 64 then some (.slice 163) else none
      else
       bif ZD t 68 then some (.slice 66) else none
     else
      bif Z7 t 86 then
       bif ZD t 86 then some (.slice 33) else none
      else
       bif Z7 t 96 then
        bif ZD t 96 then some (.slice 88) else none
       else
        bif ZD t 103 then some (.slice 4) else none
  else
   bif Z7 t 176 then
    bif Z7 t 116 then
     bif Z7 t 110 then
      bif Z7 t 107 then
       bif ZD t 107 then some (.int .u64) else none
      else
       bif ZD t 110 then some (.int .u64) else none
     else
      bif Z7 t 111 then
       bif ZD t 111 then some (.slice 199) else none
      else
       bif ZD t 116 then some (.slice 196) else none
    else
     bif Z7 t 139 then
      bif Z7 t 134 then
       bif ZD t 134 then some (.slice 143) else none
      else
       bif ZD t 139 then some (.array 6 3) else none
     else
      bif Z7 t 140 then
       bif ZD t 140 then some (.map 147 145) else none
      else
       bif Z7 t 148 then
        bif ZD t 148 then some (.slice 151) else none
       else
        bif ZD t 176 then some (.map 139 140) else none
   else
    bif Z7 t 245 then
     bif Z7 t 236 then
      bif Z7 t 177 then
       bif ZD t 177 then some (.array 4 4) else none
      else
       bif ZD t 236 then some (.array 6 4) else none
     else
      bif Z7 t 241 then
       bif ZD t 241 then some (.slice 23) else none
      else
       bif ZD t 245 then some (.map 147 3) else none
    else
     bif Z7 t 255 then
      bif Z7 t 252 then
       bif ZD t 252 then some (.array 3 199) else none
      else
       bif ZD t 255 then some (.slice 267) else none
     else
      bif Z7 t 259 then
       bif ZD t 259 then some (.int .i64) else none
      else
       bif Z7 t 262 then
        bif ZD t 262 then some (.map 3 4) else none
       else
        bif ZD t 269 then some (.slice 272) else none
def Zv9 (t : TypeId) (n : Nat) : Bool :=
  bif Z7 t 145 then
   bif Z7 t 60 then
    bif Z7 t 32 then
     bif ZD t 32 then ZD n 4 else false
    else
     bif Z7 t 57 then
      bif ZD t 57 then ZD n 2 else false
     else
      bif ZD t 60 then ZD n 3 else false
   else
    bif Z7 t 121 then
     bif Z7 t 109 then
      bif ZD t 109 then ZD n 1 else false
     else
      bif ZD t 121 then ZD n 2 else false
    else
     bif Z7 t 139 then
      bif ZD t 139 then ZD n 6 else false
     else
      bif ZD t 145 then ZD n 3 else false
  else
   bif Z7 t 199 then
    bif Z7 t 163 then
     bif Z7 t 147 then
      bif ZD t 147 then ZD n 2 else false
     else
      bif ZD t 163 then ZD n 3 else false
    else
     bif Z7 t 196 then
      bif ZD t 196 then ZD n 4 else false
     else
      bif ZD t 199 then ZD n 2 else false
   else
    bif Z7 t 254 then
     bif Z7 t 252 then
      bif ZD t 252 then ZD n 6 else false
     else
      bif ZD t 254 then ZD n 8 else false
    else
     bif Z7 t 267 then
      bif ZD t 267 then ZD n 3 else false
     else
      bif ZD t 272 then ZD n 3 else false
def tb:Tb:={ti:=Zv8,un:=Zv7,eqs:=Zv9}
theorem Zp {α:Type} {b:Bool} {x y:α} {r:α} {C:Prop} (A:x=r->C) (G:y=r->C):(bif b then x else y)=r->C:=fun h=>by
 cases b
 ·exact G h
 exact A h
theorem Zwm {α:Type} {f:Nat->Option α} {t k:Nat} {e:Option α} {i:α} (A:f k=e):(bif ZD t k then e else none)=some i->f t=some i:=fun h=>by
 cases hb:ZD t k
 ·rw[hb]at h;cases h
 rw[hb]at h;rw[ZB hb];exact A.trans h
theorem Zwl {t k n m:Nat} {C:Nat->Nat->Prop} (A:C k m):(bif ZD t k then ZD n m else false)=true->C t n:=fun h=>by
 cases hb:ZD t k
 ·rw[hb]at h;cases h
 rw[hb]at h;rw[ZB hb,ZB h];exact A
theorem XB {t k:Nat} {e:Option TI} {i:TI} (A:ZC aB k=e):(bif ZD t k then e else none)=some i->ZC aB t=some i:=Zwm A
theorem lkU {t k:Nat} {e:Option TypeDesc} {i:TypeDesc} (A:aB.underlying k=e):(bif ZD t k then e else none)=some i->aB.underlying t=some i:=Zwm A
theorem lkE {t k n m:Nat} (A:J9 aB k m=true):(bif ZD t k then ZD n m else false)=true->J9 aB t n=true:=Zwl (C:=fun t n=>J9 aB t n=true) A
theorem Zba (t:TypeId) (i:TI):Zv8 t=some i->ZC aB t=some i:=
 (Zp (Zp (Zp (Zp (Zp (Zp (XB ZuG) (XB ZuF)) (Zp (XB ZuE) (Zp (XB Zr7) (XB Zr6)))) (Zp (Zp (XB Zr5) (XB Zr4)) (Zp (XB Zr3) (Zp (XB Zr2) (XB Zr1))))) (Zp (Zp (Zp (XB Zr0) (XB ZrZ)) (Zp (XB ZrY) (Zp (XB ZrX) (XB ZrW)))) (Zp (Zp (XB ZrV) (XB ZrU)) (Zp (XB ZrT) (Zp (XB ZrS) (XB ZrR)))))) (Zp (Zp (Zp (Zp (XB ZrQ) (XB ZrP)) (Zp (XB ZrO) (Zp (XB ZrN) (XB ZrM)))) (Zp (Zp (XB ZrL) (XB ZrK)) (Zp (XB ZrJ) (Zp (XB ZpE) (XB ZpD))))) (Zp (Zp (Zp (XB ZpC) (XB ZpB)) (Zp (XB ZpA) (Zp (XB Zpz) (XB Zpy)))) (Zp (Zp (XB Zpx) (XB Zpw)) (Zp (XB Zpv) (Zp (XB Zpu) (XB Zpt))))))) (Zp (Zp (Zp (Zp (Zp (XB Zps) (XB Zpr)) (Zp (XB Zpq) (Zp (XB Zpp) (XB Zpo)))) (Zp (Zp (XB Zpn) (XB Zpm)) (Zp (XB Zpl) (Zp (XB Zpk) (XB Zpj))))) (Zp (Zp (Zp (XB Zpi) (XB Zph)) (Zp (XB Zpg) (Zp (XB Zpf) (XB Zpe)))) (Zp (Zp (XB Zpd) (XB Zpc)) (Zp (XB Zpb) (Zp (XB Zpa) (XB Zo9)))))) (Zp (Zp (Zp (Zp (XB Zo8) (XB Zo7)) (Zp (XB Zo6) (Zp (XB Zo5) (XB Zo4)))) (Zp (Zp (XB Zo3) (XB Zo2)) (Zp (XB Zo1) (Zp (XB Zo0) (XB ZoZ))))) (Zp (Zp (Zp (XB ZoY) (XB ZoX)) (Zp (XB ZoW) (Zp (XB ZoV) (XB ZoU)))) (Zp (Zp (XB ZoT) (Zp (XB ZoS) (XB ZoR))) (Zp (XB ZoQ) (Zp (XB ZoP) (XB ZoO))))))))
theorem Za9 (t:TypeId) (d:TypeDesc):Zv7 t=some d->aB.underlying t=some d:=
 (Zp (Zp (Zp (Zp (Zp (lkU ZuD) (lkU ZuC)) (Zp (lkU ZrG) (lkU ZrF))) (Zp (Zp (lkU ZrE) (lkU ZrD)) (Zp (lkU ZrC) (Zp (lkU ZrB) (lkU ZrA))))) (Zp (Zp (Zp (lkU Zrz) (lkU Zry)) (Zp (lkU Zrx) (lkU Zrw))) (Zp (Zp (lkU Zrv) (lkU Zru)) (Zp (lkU Zrt) (Zp (lkU Zrs) (lkU ZoH)))))) (Zp (Zp (Zp (Zp (lkU ZoG) (lkU ZoF)) (Zp (lkU ZoE) (lkU ZoD))) (Zp (Zp (lkU ZoC) (lkU ZoB)) (Zp (lkU ZoA) (Zp (lkU Zoz) (lkU Zoy))))) (Zp (Zp (Zp (lkU Zox) (lkU Zow)) (Zp (lkU Zov) (lkU Zou))) (Zp (Zp (lkU Zot) (lkU Zos)) (Zp (lkU Zor) (Zp (lkU Zoq) (lkU Zop)))))))
theorem Zbb (t n:Nat):Zv9 t n=true->J9 aB t n=true:=
 (Zp (Zp (Zp (lkE ZnM) (Zp (lkE ZnL) (lkE ZnK))) (Zp (Zp (lkE ZlR) (lkE ZlQ)) (Zp (lkE ZlP) (lkE ZlO)))) (Zp (Zp (Zp (lkE ZlN) (lkE ZlM)) (Zp (lkE ZlL) (lkE ZlK))) (Zp (Zp (lkE ZlJ) (lkE ZlI)) (Zp (lkE ZlH) (lkE ZlG)))))
theorem hT:tb.Of ((fun _=>aB:Unit->Program) ()):=⟨Zba,Za9,Zbb⟩
theorem hm:((fun _=>aB:Unit->Program) ()).follows .mixedOrders=true:=by decide+kernel
def tbF (kp rs:Bool):Tb:={tb with kp,rs}
theorem hTF (kp rs:Bool):(tbF kp rs).Of ((fun _=>aB:Unit->Program) ()):=⟨Zba,Za9,Zbb⟩
end Vm
end Go.Proofs.YtjgpiclllehgmaaGreat
