/- Lemmas. -/
import Derived.Test.YtjgpiclllehgmaaGreatRows
import Derived.Test.YtjgpiclllehgmaaGreatM4
set_option linter.all false
open Go.Proofs.Tryz renaming prog->aB
namespace Go.Proofs.YtjgpiclllehgmaaGreat
namespace Vm
open Go Go.Proofs
set_option maxRecDepth 100000
def ti1:Option TI:=some {k:=.func,agg:=false,size:=1,bytes:=8,zero:=some (.nilFunc)}
theorem ZuY:ZI aB 1=ti1:=by kernel_rfl
def ti3:Option TI:=some {k:=.int .i64,agg:=false,size:=1,bytes:=8,zero:=some (.int .i64 0)}
theorem ZuX:ZI aB 3=ti3:=by kernel_rfl
theorem ZuV:aB.underlying 3=some (.int .i64):=by kernel_rfl
def ti4:Option TI:=some {k:=.bool,agg:=false,size:=1,bytes:=1,zero:=some (.bool false)}
theorem ZuW:ZI aB 4=ti4:=by kernel_rfl
theorem ZuU:aB.underlying 4=some (.bool):=by kernel_rfl
def Zws:Option TI:=some {k:=.slice 113 2 32,agg:=false,size:=1,bytes:=24,zero:=some (.slice none 0 0)}
theorem Zsv:ZI aB 22=Zws:=by kernel_rfl
theorem Zr4:aB.underlying 22=some (.slice 113):=by kernel_rfl
def Zwr:Option TI:=some {k:=.slice 118 3 40,agg:=false,size:=1,bytes:=24,zero:=some (.slice none 0 0)}
theorem Zsu:ZI aB 23=Zwr:=by kernel_rfl
theorem Zr3:aB.underlying 23=some (.slice 118):=by kernel_rfl
def Zwq:Option TI:=some {k:=.struct [some (0,1,false),some (1,1,false),some (2,1,false),some (3,1,false),some (4,1,false)],agg:=true,size:=5,bytes:=88,zero:=some (.agg #[.slice none 0 0,.slice none 0 0,.slice none 0 0,.int .i64 0,.int .i64 0])}
theorem Zst:ZI aB 25=Zwq:=by kernel_rfl
def Zwp:Option TI:=some {k:=.slice 121 2 16,agg:=false,size:=1,bytes:=24,zero:=some (.slice none 0 0)}
theorem Zss:ZI aB 26=Zwp:=by kernel_rfl
theorem Zr2:aB.underlying 26=some (.slice 121):=by kernel_rfl
def Zwo:Option TI:=some {k:=.slice 32 4 32,agg:=false,size:=1,bytes:=24,zero:=some (.slice none 0 0)}
theorem Zsr:ZI aB 27=Zwo:=by kernel_rfl
theorem Zr1:aB.underlying 27=some (.slice 32):=by kernel_rfl
def Zwn:Option TI:=some {k:=.slice 35 3 40,agg:=false,size:=1,bytes:=24,zero:=some (.slice none 0 0)}
theorem Zsq:ZI aB 28=Zwn:=by kernel_rfl
theorem Zr0:aB.underlying 28=some (.slice 35):=by kernel_rfl
def Zwm:Option TI:=some {k:=.struct [some (0,5,true),some (5,1,false),some (6,1,false),some (7,1,false)],agg:=true,size:=8,bytes:=160,zero:=some (.agg #[.slice none 0 0,.slice none 0 0,.slice none 0 0,.int .i64 0,.int .i64 0,.slice none 0 0,.slice none 0 0,.slice none 0 0])}
theorem Zsp:ZI aB 30=Zwm:=by kernel_rfl
def Zwl:Option TI:=some {k:=.struct [some (0,1,false),some (1,1,false),some (2,1,false),some (3,1,false)],agg:=true,size:=4,bytes:=32,zero:=some (.agg #[.int .i64 0,.int .i64 0,.int .i64 0,.int .i64 0])}
theorem Zso:ZI aB 32=Zwl:=by kernel_rfl
theorem Zoa:Zak aB 32 4=true:=by decide+kernel
def Zwk:Option TI:=some {k:=.slice 3 1 8,agg:=false,size:=1,bytes:=24,zero:=some (.slice none 0 0)}
theorem Zsn:ZI aB 33=Zwk:=by kernel_rfl
theorem ZrZ:aB.underlying 33=some (.slice 3):=by kernel_rfl
def Zwj:Option TI:=some {k:=.struct [some (0,1,false),some (1,1,false),some (2,1,false)],agg:=true,size:=3,bytes:=40,zero:=some (.agg #[.int .i64 0,.int .i64 0,.slice none 0 0])}
theorem Zsm:ZI aB 35=Zwj:=by kernel_rfl
def Zwi:Option TI:=some {k:=.ptr,agg:=false,size:=1,bytes:=8,zero:=some (.pointer none)}
theorem Zsl:ZI aB 38=Zwi:=by kernel_rfl
def Zwh:Option TI:=some {k:=.slice 30 8 160,agg:=false,size:=1,bytes:=24,zero:=some (.slice none 0 0)}
theorem Zsk:ZI aB 42=Zwh:=by kernel_rfl
theorem ZrY:aB.underlying 42=some (.slice 30):=by kernel_rfl
def Zwg:Option TI:=some {k:=.slice 57 2 16,agg:=false,size:=1,bytes:=24,zero:=some (.slice none 0 0)}
theorem Zsj:ZI aB 44=Zwg:=by kernel_rfl
theorem ZrX:aB.underlying 44=some (.slice 57):=by kernel_rfl
def Zwf:Option TI:=some {k:=.int .i64,agg:=false,size:=1,bytes:=8,zero:=some (.int .i64 0)}
theorem Zsi:ZI aB 45=Zwf:=by kernel_rfl
theorem ZrW:aB.underlying 45=some (.int .i64):=by kernel_rfl
def Zwe:Option TI:=some {k:=.slice 55 1 24,agg:=false,size:=1,bytes:=24,zero:=some (.slice none 0 0)}
theorem Zsh:ZI aB 52=Zwe:=by kernel_rfl
theorem ZrV:aB.underlying 52=some (.slice 55):=by kernel_rfl
def Zwd:Option TI:=some {k:=.slice 60 3 24,agg:=false,size:=1,bytes:=24,zero:=some (.slice none 0 0)}
theorem Zsg:ZI aB 55=Zwd:=by kernel_rfl
theorem ZrU:aB.underlying 55=some (.slice 60):=by kernel_rfl
def Zwc:Option TI:=some {k:=.struct [some (0,1,false),some (1,1,false)],agg:=true,size:=2,bytes:=16,zero:=some (.agg #[.int .i64 0,.int .i64 0])}
theorem Zsf:ZI aB 57=Zwc:=by kernel_rfl
theorem Zn9:Zak aB 57 2=true:=by decide+kernel
def Zwb:Option TI:=some {k:=.struct [some (0,1,false),some (1,1,false),some (2,1,false)],agg:=true,size:=3,bytes:=24,zero:=some (.agg #[.int .i64 0,.int .i64 0,.int .i64 0])}
theorem Zse:ZI aB 60=Zwb:=by kernel_rfl
theorem Zn8:Zak aB 60 3=true:=by decide+kernel
def Zwa:Option TI:=some {k:=.slice 163 3 24,agg:=false,size:=1,bytes:=24,zero:=some (.slice none 0 0)}
theorem Zsd:ZI aB 64=Zwa:=by kernel_rfl
theorem ZrT:aB.underlying 64=some (.slice 163):=by kernel_rfl
def Zv9:Option TI:=some {k:=.struct [some (0,1,false),some (1,1,false),some (2,1,false),some (3,1,false)],agg:=true,size:=4,bytes:=48,zero:=some (.agg #[.int .i64 0,.int .i64 0,.int .i64 0,.slice none 0 0])}
theorem Zsc:ZI aB 66=Zv9:=by kernel_rfl
def Zv8:Option TI:=some {k:=.slice 66 4 48,agg:=false,size:=1,bytes:=24,zero:=some (.slice none 0 0)}
theorem Zsb:ZI aB 68=Zv8:=by kernel_rfl
theorem ZrS:aB.underlying 68=some (.slice 66):=by kernel_rfl
def Zv7:Option TI:=some {k:=.func,agg:=false,size:=1,bytes:=8,zero:=some (.nilFunc)}
theorem Zsa:ZI aB 85=Zv7:=by kernel_rfl
def Zv6:Option TI:=some {k:=.slice 33 1 24,agg:=false,size:=1,bytes:=24,zero:=some (.slice none 0 0)}
theorem Zr9:ZI aB 86=Zv6:=by kernel_rfl
theorem ZrR:aB.underlying 86=some (.slice 33):=by kernel_rfl
def Zux:Option TI:=some {k:=.slice 4 1 1,agg:=false,size:=1,bytes:=24,zero:=some (.slice none 0 0)}
theorem ZpY:ZI aB 103=Zux:=by kernel_rfl
theorem Zo2:aB.underlying 103=some (.slice 4):=by kernel_rfl
def Zuw:Option TI:=some {k:=.int .u64,agg:=false,size:=1,bytes:=8,zero:=some (.int .u64 0)}
theorem ZpX:ZI aB 107=Zuw:=by kernel_rfl
theorem Zo1:aB.underlying 107=some (.int .u64):=by kernel_rfl
def Zuv:Option TI:=some {k:=.struct [some (0,1,false)],agg:=true,size:=1,bytes:=8,zero:=some (.agg #[.int .u64 0])}
theorem ZpW:ZI aB 109=Zuv:=by kernel_rfl
theorem Zmf:Zak aB 109 1=true:=by decide+kernel
def Zut:Option TI:=some {k:=.slice 199 2 16,agg:=false,size:=1,bytes:=24,zero:=some (.slice none 0 0)}
theorem ZpU:ZI aB 111=Zut:=by kernel_rfl
theorem ZoZ:aB.underlying 111=some (.slice 199):=by kernel_rfl
def Zus:Option TI:=some {k:=.struct [some (0,1,false),some (1,1,false)],agg:=true,size:=2,bytes:=32,zero:=some (.agg #[.int .i64 0,.slice none 0 0])}
theorem ZpT:ZI aB 113=Zus:=by kernel_rfl
def Zur:Option TI:=some {k:=.slice 196 4 32,agg:=false,size:=1,bytes:=24,zero:=some (.slice none 0 0)}
theorem ZpS:ZI aB 116=Zur:=by kernel_rfl
theorem ZoY:aB.underlying 116=some (.slice 196):=by kernel_rfl
def Zuq:Option TI:=some {k:=.struct [some (0,1,false),some (1,1,false),some (2,1,false)],agg:=true,size:=3,bytes:=40,zero:=some (.agg #[.int .i64 0,.int .i64 0,.slice none 0 0])}
theorem ZpR:ZI aB 118=Zuq:=by kernel_rfl
def Zup:Option TI:=some {k:=.struct [some (0,1,false),some (1,1,false)],agg:=true,size:=2,bytes:=16,zero:=some (.agg #[.int .i64 0,.int .i64 0])}
theorem ZpQ:ZI aB 121=Zup:=by kernel_rfl
theorem Zme:Zak aB 121 2=true:=by decide+kernel
def Zuo:Option TI:=some {k:=.ptr,agg:=false,size:=1,bytes:=8,zero:=some (.pointer none)}
theorem ZpP:ZI aB 128=Zuo:=by kernel_rfl
def Zun:Option TI:=some {k:=.struct [some (0,8,true),some (8,1,false)],agg:=true,size:=9,bytes:=184,zero:=some (.agg #[.slice none 0 0,.slice none 0 0,.slice none 0 0,.int .i64 0,.int .i64 0,.slice none 0 0,.slice none 0 0,.slice none 0 0,.slice none 0 0])}
theorem ZpO:ZI aB 133=Zun:=by kernel_rfl
def Zum:Option TI:=some {k:=.slice 143 3 24,agg:=false,size:=1,bytes:=24,zero:=some (.slice none 0 0)}
theorem ZpN:ZI aB 134=Zum:=by kernel_rfl
theorem ZoX:aB.underlying 134=some (.slice 143):=by kernel_rfl
def Zul:Option TI:=some {k:=.func,agg:=false,size:=1,bytes:=8,zero:=some (.nilFunc)}
theorem ZpM:ZI aB 135=Zul:=by kernel_rfl
def Zuk:Option TI:=some {k:=.func,agg:=false,size:=1,bytes:=8,zero:=some (.nilFunc)}
theorem ZpL:ZI aB 136=Zuk:=by kernel_rfl
def Zuj:Option TI:=some {k:=.array 6 1,agg:=true,size:=6,bytes:=48,zero:=some (.agg #[.int .i64 0,.int .i64 0,.int .i64 0,.int .i64 0,.int .i64 0,.int .i64 0])}
theorem ZpK:ZI aB 139=Zuj:=by kernel_rfl
theorem ZoW:aB.underlying 139=some (.array 6 3):=by kernel_rfl
theorem Zmd:Zak aB 139 6=true:=by decide+kernel
def Zui:Option TI:=some {k:=.map,agg:=false,size:=1,bytes:=8,zero:=some (.map none)}
theorem ZpJ:ZI aB 140=Zui:=by kernel_rfl
theorem ZoV:aB.underlying 140=some (.map 147 145):=by kernel_rfl
def Zuh:Option TI:=some {k:=.func,agg:=false,size:=1,bytes:=8,zero:=some (.nilFunc)}
theorem ZpI:ZI aB 141=Zuh:=by kernel_rfl
def Zug:Option TI:=some {k:=.struct [some (0,2,true),some (2,1,false)],agg:=true,size:=3,bytes:=24,zero:=some (.agg #[.int .i64 0,.int .i64 0,.bool false])}
theorem ZpH:ZI aB 143=Zug:=by kernel_rfl
def Zuf:Option TI:=some {k:=.struct [some (0,1,false),some (1,1,false),some (2,1,false)],agg:=true,size:=3,bytes:=24,zero:=some (.agg #[.int .i64 0,.int .i64 0,.int .i64 0])}
theorem ZpG:ZI aB 145=Zuf:=by kernel_rfl
theorem Zmc:Zak aB 145 3=true:=by decide+kernel
def Zue:Option TI:=some {k:=.struct [some (0,1,false),some (1,1,false)],agg:=true,size:=2,bytes:=16,zero:=some (.agg #[.int .i64 0,.int .i64 0])}
theorem ZpF:ZI aB 147=Zue:=by kernel_rfl
theorem Zmb:Zak aB 147 2=true:=by decide+kernel
def Zud:Option TI:=some {k:=.slice 151 3 72,agg:=false,size:=1,bytes:=24,zero:=some (.slice none 0 0)}
theorem ZpE:ZI aB 148=Zud:=by kernel_rfl
theorem ZoU:aB.underlying 148=some (.slice 151):=by kernel_rfl
def Zuc:Option TI:=some {k:=.struct [some (0,1,false),some (1,1,false),some (2,1,false)],agg:=true,size:=3,bytes:=72,zero:=some (.agg #[.slice none 0 0,.slice none 0 0,.slice none 0 0])}
theorem ZpD:ZI aB 151=Zuc:=by kernel_rfl
def Zub:Option TI:=some {k:=.struct [some (0,1,false),some (1,1,false),some (2,1,false)],agg:=true,size:=3,bytes:=24,zero:=some (.agg #[.int .i64 0,.int .i64 0,.int .i64 0])}
theorem ZpC:ZI aB 163=Zub:=by kernel_rfl
theorem Zma:Zak aB 163 3=true:=by decide+kernel
def Zua:Option TI:=some {k:=.map,agg:=false,size:=1,bytes:=8,zero:=some (.map none)}
theorem ZpB:ZI aB 176=Zua:=by kernel_rfl
theorem ZoT:aB.underlying 176=some (.map 139 140):=by kernel_rfl
def Zt9:Option TI:=some {k:=.array 4 1,agg:=true,size:=4,bytes:=4,zero:=some (.agg #[.bool false,.bool false,.bool false,.bool false])}
theorem ZpA:ZI aB 177=Zt9:=by kernel_rfl
theorem ZoS:aB.underlying 177=some (.array 4 4):=by kernel_rfl
def Zt8:Option TI:=some {k:=.func,agg:=false,size:=1,bytes:=8,zero:=some (.nilFunc)}
theorem Zpz:ZI aB 183=Zt8:=by kernel_rfl
def Zt6:Option TI:=some {k:=.struct [some (0,1,false),some (1,1,false),some (2,1,false),some (3,1,false)],agg:=true,size:=4,bytes:=32,zero:=some (.agg #[.int .i64 0,.int .i64 0,.int .i64 0,.int .i64 0])}
theorem Zpx:ZI aB 196=Zt6:=by kernel_rfl
theorem Zl9:Zak aB 196 4=true:=by decide+kernel
def Zt5:Option TI:=some {k:=.struct [some (0,1,false),some (1,1,false)],agg:=true,size:=2,bytes:=16,zero:=some (.agg #[.int .i64 0,.int .i64 0])}
theorem Zpw:ZI aB 199=Zt5:=by kernel_rfl
theorem Zl8:Zak aB 199 2=true:=by decide+kernel
def Zt3:Option TI:=some {k:=.func,agg:=false,size:=1,bytes:=8,zero:=some (.nilFunc)}
theorem Zpu:ZI aB 206=Zt3:=by kernel_rfl
def Zt2:Option TI:=some {k:=.func,agg:=false,size:=1,bytes:=8,zero:=some (.nilFunc)}
theorem Zpt:ZI aB 207=Zt2:=by kernel_rfl
def Zt1:Option TI:=some {k:=.func,agg:=false,size:=1,bytes:=8,zero:=some (.nilFunc)}
theorem Zps:ZI aB 208=Zt1:=by kernel_rfl
def Zt0:Option TI:=some {k:=.ptr,agg:=false,size:=1,bytes:=8,zero:=some (.pointer none)}
theorem Zpr:ZI aB 211=Zt0:=by kernel_rfl
def ZtZ:Option TI:=some {k:=.func,agg:=false,size:=1,bytes:=8,zero:=some (.nilFunc)}
theorem Zpq:ZI aB 219=ZtZ:=by kernel_rfl
def ZtY:Option TI:=some {k:=.struct [some (0,3,true),some (3,1,false),some (4,1,false)],agg:=true,size:=5,bytes:=72,zero:=some (.agg #[.int .i64 0,.int .i64 0,.slice none 0 0,.int .i64 0,.slice none 0 0])}
theorem Zpp:ZI aB 223=ZtY:=by kernel_rfl
def ZtX:Option TI:=some {k:=.other,agg:=false,size:=1,bytes:=8,zero:=some (.chan none)}
theorem Zpo:ZI aB 226=ZtX:=by kernel_rfl
def ZtV:Option TI:=some {k:=.array 6 1,agg:=true,size:=6,bytes:=6,zero:=some (.agg #[.bool false,.bool false,.bool false,.bool false,.bool false,.bool false])}
theorem Zpm:ZI aB 236=ZtV:=by kernel_rfl
theorem ZoR:aB.underlying 236=some (.array 6 4):=by kernel_rfl
def ZtU:Option TI:=some {k:=.slice 23 1 24,agg:=false,size:=1,bytes:=24,zero:=some (.slice none 0 0)}
theorem Zpl:ZI aB 241=ZtU:=by kernel_rfl
theorem ZoQ:aB.underlying 241=some (.slice 23):=by kernel_rfl
def ZtT:Option TI:=some {k:=.func,agg:=false,size:=1,bytes:=8,zero:=some (.nilFunc)}
theorem Zpk:ZI aB 244=ZtT:=by kernel_rfl
def ZtS:Option TI:=some {k:=.map,agg:=false,size:=1,bytes:=8,zero:=some (.map none)}
theorem Zpj:ZI aB 245=ZtS:=by kernel_rfl
theorem ZoP:aB.underlying 245=some (.map 147 3):=by kernel_rfl
def ZtR:Option TI:=some {k:=.func,agg:=false,size:=1,bytes:=8,zero:=some (.nilFunc)}
theorem Zpi:ZI aB 246=ZtR:=by kernel_rfl
def ZtQ:Option TI:=some {k:=.func,agg:=false,size:=1,bytes:=8,zero:=some (.nilFunc)}
theorem Zph:ZI aB 248=ZtQ:=by kernel_rfl
def ZtP:Option TI:=some {k:=.array 3 2,agg:=true,size:=6,bytes:=48,zero:=some (.agg #[.int .i64 0,.int .i64 0,.int .i64 0,.int .i64 0,.int .i64 0,.int .i64 0])}
theorem Zpg:ZI aB 252=ZtP:=by kernel_rfl
theorem ZoO:aB.underlying 252=some (.array 3 199):=by kernel_rfl
theorem Zl7:Zak aB 252 6=true:=by decide+kernel
def ZtO:Option TI:=some {k:=.struct [some (0,1,false),some (1,1,false),some (2,6,true)],agg:=true,size:=8,bytes:=64,zero:=some (.agg #[.int .i64 0,.int .i64 0,.int .i64 0,.int .i64 0,.int .i64 0,.int .i64 0,.int .i64 0,.int .i64 0])}
theorem Zpf:ZI aB 254=ZtO:=by kernel_rfl
theorem Zl6:Zak aB 254 8=true:=by decide+kernel
def ZtN:Option TI:=some {k:=.slice 267 3 24,agg:=false,size:=1,bytes:=24,zero:=some (.slice none 0 0)}
theorem Zpe:ZI aB 255=ZtN:=by kernel_rfl
theorem ZoN:aB.underlying 255=some (.slice 267):=by kernel_rfl
def ZtM:Option TI:=some {k:=.int .i64,agg:=false,size:=1,bytes:=8,zero:=some (.int .i64 0)}
theorem Zpd:ZI aB 259=ZtM:=by kernel_rfl
theorem ZoM:aB.underlying 259=some (.int .i64):=by kernel_rfl
def ZtL:Option TI:=some {k:=.map,agg:=false,size:=1,bytes:=8,zero:=some (.map none)}
theorem Zpc:ZI aB 262=ZtL:=by kernel_rfl
theorem ZoL:aB.underlying 262=some (.map 3 4):=by kernel_rfl
def ZtK:Option TI:=some {k:=.struct [some (0,1,false),some (1,1,false),some (2,1,false)],agg:=true,size:=3,bytes:=24,zero:=some (.agg #[.int .i64 0,.int .i64 0,.int .i64 0])}
theorem Zpb:ZI aB 267=ZtK:=by kernel_rfl
theorem Zl5:Zak aB 267 3=true:=by decide+kernel
def ZtJ:Option TI:=some {k:=.slice 272 3 24,agg:=false,size:=1,bytes:=24,zero:=some (.slice none 0 0)}
theorem Zpa:ZI aB 269=ZtJ:=by kernel_rfl
theorem ZoK:aB.underlying 269=some (.slice 272):=by kernel_rfl
def ZtI:Option TI:=some {k:=.struct [some (0,1,false),some (1,1,false),some (2,1,false)],agg:=true,size:=3,bytes:=24,zero:=some (.agg #[.int .i64 0,.int .i64 0,.int .i64 0])}
theorem Zo9:ZI aB 272=ZtI:=by kernel_rfl
theorem Zl4:Zak aB 272 3=true:=by decide+kernel
def ZtH:Option TI:=some {k:=.func,agg:=false,size:=1,bytes:=8,zero:=some (.nilFunc)}
theorem Zo8:ZI aB 274=ZtH:=by kernel_rfl
def Zwu (t : TypeId) : Option TI :=
 bif Qd t 134 then
  bif Qd t 52 then
   bif Qd t 28 then
    bif Qd t 22 then
     bif Qd t 3 then
      bif Qd t 1 then
       bif ZK t 1 then ti1 else none
      else
       bif ZK t 3 then ti3 else none
     else
      bif Qd t 4 then
       bif ZK t 4 then ti4 else none
      else
       bif ZK t 22 then Zws else none
    else
     bif Qd t 25 then
      bif Qd t 23 then
       bif ZK t 23 then Zwr else none
      else
       bif ZK t 25 then Zwq else none
     else
      bif Qd t 26 then
       bif ZK t 26 then Zwp else none
      else
       bif Qd t 27 then
        bif ZK t 27 then Zwo else none
       else
        bif ZK t 28 then Zwn else none
   else
    bif Qd t 35 then
     bif Qd t 32 then
      bif Qd t 30 then
       bif ZK t 30 then Zwm else none
      else
       bif ZK t 32 then Zwl else none
     else
      bif Qd t 33 then
       bif ZK t 33 then Zwk else none
      else
       bif ZK t 35 then Zwj else none
    else
     bif Qd t 42 then
      bif Qd t 38 then
       bif ZK t 38 then Zwi else none
      else
       bif ZK t 42 then Zwh else none
     else
      bif Qd t 44 then
       bif ZK t 44 then Zwg else none
      else
       bif Qd t 45 then
        bif ZK t 45 then Zwf else none
       else
        bif ZK t 52 then Zwe else none
  else
   bif Qd t 103 then
    bif Qd t 64 then
     bif Qd t 57 then
      bif Qd t 55 then
       bif ZK t 55 then Zwd else none
      else
       bif ZK t 57 then Zwc else none
     else
      bif Qd t 60 then
       bif ZK t 60 then Zwb else none
      else
       bif ZK t 64 then Zwa else none
    else
     bif Qd t 68 then
      bif Qd t 66 then
       bif ZK t 66 then Zv9 else none
      else
       bif ZK t 68 then Zv8 else none
     else
      bif Qd t 85 then
       bif ZK t 85 then Zv7 else none
      else
       bif Qd t 86 then
        bif ZK t 86 then Zv6 else none
       else
        bif ZK t 103 then Zux else none
   else
    bif Qd t 116 then
     bif Qd t 109 then
      bif Qd t 107 then
       bif ZK t 107 then Zuw else none
      else
       bif ZK t 109 then Zuv else none
     else
      bif Qd t 111 then
       bif ZK t 111 then Zut else none
      else
       bif Qd t 113 then
        bif ZK t 113 then Zus else none
       else
        bif ZK t 116 then Zur else none
    else
     bif Qd t 121 then
      bif Qd t 118 then
       bif ZK t 118 then Zuq else none
      else
       bif ZK t 121 then Zup else none
     else
      bif Qd t 128 then
       bif ZK t 128 then Zuo else none
      else
       bif Qd t 133 then
        bif ZK t 133 then Zun else none
       else
        bif ZK t 134 then Zum else none
 else
  bif Qd t 208 then
   bif Qd t 148 then
    bif Qd t 140 then
     bif Qd t 136 then
      bif Qd t 135 then
       bif ZK t 135 then Zul else none
      else
       bif ZK t 136 then Zuk else none
     else
      bif Qd t 139 then
       bif ZK t 139 then Zuj else none
      else
       bif ZK t 140 then Zui else none
    else
     bif Qd t 143 then
      bif Qd t 141 then
       bif ZK t 141 then Zuh else none
      else
       bif ZK t 143 then Zug else none
     else
      bif Qd t 145 then
       bif ZK t 145 then Zuf else none
      else
       bif Qd t 147 then
        bif ZK t 147 then Zue else none
       else
        bif ZK t 148 then Zud else none
   else
    bif Qd t 183 then
     bif Qd t 163 then
      bif Qd t 151 then
       bif ZK t 151 then Zuc else none
      else
       bif ZK t 163 then Zub else none
     else
      bif Qd t 176 then
       bif ZK t 176 then Zua else none
      else
       bif Qd t 177 then
        bif ZK t 177 then Zt9 else none
       else
        bif ZK t 183 then Zt8 else none
    else
     bif Qd t 199 then
      bif Qd t 196 then
       bif ZK t 196 then Zt6 else none
      else
       bif ZK t 199 then Zt5 else none
     else
      bif Qd t 206 then
       bif ZK t 206 then Zt3 else none
      else
       bif Qd t 207 then
        bif ZK t 207 then Zt2 else none
       else
        bif ZK t 208 then Zt1 else none
  else
   bif Qd t 246 then
    bif Qd t 226 then
     bif Qd t 219 then
      bif Qd t 211 then
       bif ZK t 211 then Zt0 else none
      else
       bif ZK t 219 then ZtZ else none
     else
      bif Qd t 223 then
       bif ZK t 223 then ZtY else none
      else
       bif ZK t 226 then ZtX else none
    else
     bif Qd t 241 then
      bif Qd t 236 then
       bif ZK t 236 then ZtV else none
      else
       bif ZK t 241 then ZtU else none
     else
      bif Qd t 244 then
       bif ZK t 244 then ZtT else none
      else
       bif Qd t 245 then
        bif ZK t 245 then ZtS else none
       else
        bif ZK t 246 then ZtR else none
   else
    bif Qd t 259 then
     bif Qd t 252 then
      bif Qd t 248 then
       bif ZK t 248 then ZtQ else none
      else
       bif ZK t 252 then ZtP else none
     else
      bif Qd t 254 then
       bif ZK t 254 then ZtO else none
      else
       bif Qd t 255 then
        bif ZK t 255 then ZtN else none
       else
        bif ZK t 259 then ZtM else none
    else
     bif Qd t 267 then
      bif Qd t 262 then
       bif ZK t 262 then ZtL else none
      else
       bif ZK t 267 then ZtK else none
     else
      bif Qd t 269 then
       bif ZK t 269 then ZtJ else none
      else
       bif Qd t 272 then
        bif ZK t 272 then ZtI else none
       else
        bif ZK t 274 then ZtH else none
def Zwt (t : TypeId) : Option TypeDesc :=
 bif Qd t 103 then
  bif Qd t 33 then
   bif Qd t 23 then
    bif Qd t 4 then
     bif Qd t 3 then
      bif ZK t 3 then some (.int .i64) else none
     else
      bif ZK t 4 then some (.bool) else none
    else
     bif Qd t 22 then
      bif ZK t 22 then some (.slice 113) else none
     else
      bif ZK t 23 then some (.slice 118) else none
   else
    bif Qd t 27 then
     bif Qd t 26 then
      bif ZK t 26 then some (.slice 121) else none
     else
      bif ZK t 27 then some (.slice 32) else none
    else
     bif Qd t 28 then
      bif ZK t 28 then some (.slice 35) else none
     else
      bif ZK t 33 then some (.slice 3) else none
  else
   bif Qd t 52 then
    bif Qd t 44 then
     bif Qd t 42 then
      bif ZK t 42 then some (.slice 30) else none
     else
      bif ZK t 44 then some (.slice 57) else none
    else
     bif Qd t 45 then
      bif ZK t 45 then some (.int .i64) else none
     else
      bif ZK t 52 then some (.slice 55) else none
   else
    bif Qd t 64 then
     bif Qd t 55 then
      bif ZK t 55 then some (.slice 60) else none
     else
      bif ZK t 64 then some (.slice 163) else none
    else
     bif Qd t 68 then
      bif ZK t 68 then some (.slice 66) else none
     else
      bif Qd t 86 then
       bif ZK t 86 then some (.slice 33) else none
      else
       bif ZK t 103 then some (.slice 4) else none
 else
  bif Qd t 176 then
   bif Qd t 134 then
    bif Qd t 111 then
     bif Qd t 107 then
      bif ZK t 107 then some (.int .u64) else none
     else
      bif ZK t 111 then some (.slice 199) else none
    else
     bif Qd t 116 then
      bif ZK t 116 then some (.slice 196) else none
     else
      bif ZK t 134 then some (.slice 143) else none
   else
    bif Qd t 140 then
     bif Qd t 139 then
      bif ZK t 139 then some (.array 6 3) else none
     else
      bif ZK t 140 then some (.map 147 145) else none
    else
     bif Qd t 148 then
      bif ZK t 148 then some (.slice 151) else none
     else
      bif ZK t 176 then some (.map 139 140) else none
  else
   bif Qd t 245 then
    bif Qd t 236 then
     bif Qd t 177 then
      bif ZK t 177 then some (.array 4 4) else none
     else
      bif ZK t 236 then some (.array 6 4) else none
    else
     bif Qd t 241 then
      bif ZK t 241 then some (.slice 23) else none
     else
      bif ZK t 245 then some (.map 147 3) else none
   else
    bif Qd t 255 then
     bif Qd t 252 then
      bif ZK t 252 then some (.array 3 199) else none
     else
      bif ZK t 255 then some (.slice 267) else none
    else
     bif Qd t 259 then
      bif ZK t 259 then some (.int .i64) else none
     else
      bif Qd t 262 then
       bif ZK t 262 then some (.map 3 4) else none
      else
       bif ZK t 269 then some (.slice 272) else none
def Zwv (t : TypeId) (n : Nat) : Bool :=
 bif Qd t 145 then
  bif Qd t 60 then
   bif Qd t 32 then
    bif ZK t 32 then ZK n 4 else false
   else
    bif Qd t 57 then
     bif ZK t 57 then ZK n 2 else false
    else
     bif ZK t 60 then ZK n 3 else false
  else
   bif Qd t 121 then
    bif Qd t 109 then
     bif ZK t 109 then ZK n 1 else false
    else
     bif ZK t 121 then ZK n 2 else false
   else
    bif Qd t 139 then
     bif ZK t 139 then ZK n 6 else false
    else
     bif ZK t 145 then ZK n 3 else false
 else
  bif Qd t 199 then
   bif Qd t 163 then
    bif Qd t 147 then
     bif ZK t 147 then ZK n 2 else false
    else
     bif ZK t 163 then ZK n 3 else false
   else
    bif Qd t 196 then
     bif ZK t 196 then ZK n 4 else false
    else
     bif ZK t 199 then ZK n 2 else false
  else
   bif Qd t 254 then
    bif Qd t 252 then
     bif ZK t 252 then ZK n 6 else false
    else
     bif ZK t 254 then ZK n 8 else false
   else
    bif Qd t 267 then
     bif ZK t 267 then ZK n 3 else false
    else
     bif ZK t 272 then ZK n 3 else false
def tb:Tb:={ti:=Zwu,un:=Zwt,eqs:=Zwv}
theorem Zs {α:Type} {b:Bool} {x y:α} {r:α} {C:Prop} (G:x=r->C) (A:y=r->C):(bif b then x else y)=r->C:=λh=>by
 cases b
 ·exact A h
 exact G h
theorem ZwL {α:Type} {f:Nat->Option α} {t k:Nat} {e:Option α} {i:α} (A:f k=e):(bif ZK t k then e else none)=some i->f t=some i:=λh=>by
 cases hb:ZK t k
 ·rw[hb]at h;cases h
 rw[hb]at h;rw[ZF hb];exact A.trans h
theorem ZwK {t k n m:Nat} {C:Nat->Nat->Prop} (A:C k m):(bif ZK t k then ZK n m else false)=true->C t n:=λh=>by
 cases hb:ZK t k
 ·rw[hb]at h;cases h
 rw[hb]at h;rw[ZF hb,ZF h];exact A
theorem XT {t k:Nat} {e:Option TI} {i:TI} (A:ZI aB k=e):(bif ZK t k then e else none)=some i->ZI aB t=some i:=ZwL A
theorem lkU {t k:Nat} {e:Option TypeDesc} {i:TypeDesc} (A:aB.underlying k=e):(bif ZK t k then e else none)=some i->aB.underlying t=some i:=ZwL A
theorem lkE {t k n m:Nat} (A:Zak aB k m=true):(bif ZK t k then ZK n m else false)=true->Zak aB t n=true:=ZwK (C:=λt n=>Zak aB t n=true) A
theorem Zbi (t:TypeId) (i:TI):Zwu t=some i->ZI aB t=some i:=
 (Zs (Zs (Zs (Zs (Zs (Zs (XT ZuY) (XT ZuX)) (Zs (XT ZuW) (XT Zsv))) (Zs (Zs (XT Zsu) (XT Zst)) (Zs (XT Zss) (Zs (XT Zsr) (XT Zsq))))) (Zs (Zs (Zs (XT Zsp) (XT Zso)) (Zs (XT Zsn) (XT Zsm))) (Zs (Zs (XT Zsl) (XT Zsk)) (Zs (XT Zsj) (Zs (XT Zsi) (XT Zsh)))))) (Zs (Zs (Zs (Zs (XT Zsg) (XT Zsf)) (Zs (XT Zse) (XT Zsd))) (Zs (Zs (XT Zsc) (XT Zsb)) (Zs (XT Zsa) (Zs (XT Zr9) (XT ZpY))))) (Zs (Zs (Zs (XT ZpX) (XT ZpW)) (Zs (XT ZpU) (Zs (XT ZpT) (XT ZpS)))) (Zs (Zs (XT ZpR) (XT ZpQ)) (Zs (XT ZpP) (Zs (XT ZpO) (XT ZpN))))))) (Zs (Zs (Zs (Zs (Zs (XT ZpM) (XT ZpL)) (Zs (XT ZpK) (XT ZpJ))) (Zs (Zs (XT ZpI) (XT ZpH)) (Zs (XT ZpG) (Zs (XT ZpF) (XT ZpE))))) (Zs (Zs (Zs (XT ZpD) (XT ZpC)) (Zs (XT ZpB) (Zs (XT ZpA) (XT Zpz)))) (Zs (Zs (XT Zpx) (XT Zpw)) (Zs (XT Zpu) (Zs (XT Zpt) (XT Zps)))))) (Zs (Zs (Zs (Zs (XT Zpr) (XT Zpq)) (Zs (XT Zpp) (XT Zpo))) (Zs (Zs (XT Zpm) (XT Zpl)) (Zs (XT Zpk) (Zs (XT Zpj) (XT Zpi))))) (Zs (Zs (Zs (XT Zph) (XT Zpg)) (Zs (XT Zpf) (Zs (XT Zpe) (XT Zpd)))) (Zs (Zs (XT Zpc) (XT Zpb)) (Zs (XT Zpa) (Zs (XT Zo9) (XT Zo8))))))))
theorem Zbh (t:TypeId) (d:TypeDesc):Zwt t=some d->aB.underlying t=some d:=
 (Zs (Zs (Zs (Zs (Zs (lkU ZuV) (lkU ZuU)) (Zs (lkU Zr4) (lkU Zr3))) (Zs (Zs (lkU Zr2) (lkU Zr1)) (Zs (lkU Zr0) (lkU ZrZ)))) (Zs (Zs (Zs (lkU ZrY) (lkU ZrX)) (Zs (lkU ZrW) (lkU ZrV))) (Zs (Zs (lkU ZrU) (lkU ZrT)) (Zs (lkU ZrS) (Zs (lkU ZrR) (lkU Zo2)))))) (Zs (Zs (Zs (Zs (lkU Zo1) (lkU ZoZ)) (Zs (lkU ZoY) (lkU ZoX))) (Zs (Zs (lkU ZoW) (lkU ZoV)) (Zs (lkU ZoU) (lkU ZoT)))) (Zs (Zs (Zs (lkU ZoS) (lkU ZoR)) (Zs (lkU ZoQ) (lkU ZoP))) (Zs (Zs (lkU ZoO) (lkU ZoN)) (Zs (lkU ZoM) (Zs (lkU ZoL) (lkU ZoK)))))))
theorem Zbj (t n:Nat):Zwv t n=true->Zak aB t n=true:=
 (Zs (Zs (Zs (lkE Zoa) (Zs (lkE Zn9) (lkE Zn8))) (Zs (Zs (lkE Zmf) (lkE Zme)) (Zs (lkE Zmd) (lkE Zmc)))) (Zs (Zs (Zs (lkE Zmb) (lkE Zma)) (Zs (lkE Zl9) (lkE Zl8))) (Zs (Zs (lkE Zl7) (lkE Zl6)) (Zs (lkE Zl5) (lkE Zl4)))))
theorem hT:tb.Of ((λ_=>aB:Unit->Program) ()):=⟨Zbi,Zbh,Zbj⟩
theorem hm:((λ_=>aB:Unit->Program) ()).follows .mixedOrders=true:=by decide+kernel
def tbF (kp rs:Bool):Tb:={tb with kp,rs}
theorem hTF (kp rs:Bool):(tbF kp rs).Of ((λ_=>aB:Unit->Program) ()):=⟨Zbi,Zbh,Zbj⟩
end Vm
end Go.Proofs.YtjgpiclllehgmaaGreat
