/- Lemmas. -/
import Derived.Test.YtjgpiclllehgmaaGreatRows
import Derived.Test.YtjgpiclllehgmaaGreatM4
set_option linter.all false
open Go.Proofs.Tryz renaming prog->aB
namespace Go.Proofs.YtjgpiclllehgmaaGreat
namespace Vm
open Go Go.Proofs
set_option maxRecDepth 100000
def ti1:Option TI:=some {k:=.func,agg:=false,size:=1,bytes:=8,zero:=some (.nilFunc)}
theorem Zu2:ZF aB 1=ti1:=by kernel_rfl
def ti3:Option TI:=some {k:=.int .i64,agg:=false,size:=1,bytes:=8,zero:=some (.int .i64 0)}
theorem Zu1:ZF aB 3=ti3:=by kernel_rfl
theorem ZuZ:aB.underlying 3=some (.int .i64):=by kernel_rfl
def ti4:Option TI:=some {k:=.bool,agg:=false,size:=1,bytes:=1,zero:=some (.bool false)}
theorem Zu0:ZF aB 4=ti4:=by kernel_rfl
theorem ZuY:aB.underlying 4=some (.bool):=by kernel_rfl
def Zwz:Option TI:=some {k:=.slice 113 2 32,agg:=false,size:=1,bytes:=24,zero:=some (.slice none 0 0)}
theorem Zsq:ZF aB 22=Zwz:=by kernel_rfl
theorem Zr0:aB.underlying 22=some (.slice 113):=by kernel_rfl
def Zwy:Option TI:=some {k:=.slice 118 3 40,agg:=false,size:=1,bytes:=24,zero:=some (.slice none 0 0)}
theorem Zsp:ZF aB 23=Zwy:=by kernel_rfl
theorem ZrZ:aB.underlying 23=some (.slice 118):=by kernel_rfl
def Zwx:Option TI:=some {k:=.struct [some (0,1,false),some (1,1,false),some (2,1,false),some (3,1,false),some (4,1,false)],agg:=true,size:=5,bytes:=88,zero:=some (.agg #[.slice none 0 0,.slice none 0 0,.slice none 0 0,.int .i64 0,.int .i64 0])}
theorem Zso:ZF aB 25=Zwx:=by kernel_rfl
def Zww:Option TI:=some {k:=.slice 121 2 16,agg:=false,size:=1,bytes:=24,zero:=some (.slice none 0 0)}
theorem Zsn:ZF aB 26=Zww:=by kernel_rfl
theorem ZrY:aB.underlying 26=some (.slice 121):=by kernel_rfl
def Zwv:Option TI:=some {k:=.slice 32 4 32,agg:=false,size:=1,bytes:=24,zero:=some (.slice none 0 0)}
theorem Zsm:ZF aB 27=Zwv:=by kernel_rfl
theorem ZrX:aB.underlying 27=some (.slice 32):=by kernel_rfl
def Zwu:Option TI:=some {k:=.slice 35 3 40,agg:=false,size:=1,bytes:=24,zero:=some (.slice none 0 0)}
theorem Zsl:ZF aB 28=Zwu:=by kernel_rfl
theorem ZrW:aB.underlying 28=some (.slice 35):=by kernel_rfl
def Zwt:Option TI:=some {k:=.struct [some (0,5,true),some (5,1,false),some (6,1,false),some (7,1,false)],agg:=true,size:=8,bytes:=160,zero:=some (.agg #[.slice none 0 0,.slice none 0 0,.slice none 0 0,.int .i64 0,.int .i64 0,.slice none 0 0,.slice none 0 0,.slice none 0 0])}
theorem Zsk:ZF aB 30=Zwt:=by kernel_rfl
def Zws:Option TI:=some {k:=.struct [some (0,1,false),some (1,1,false),some (2,1,false),some (3,1,false)],agg:=true,size:=4,bytes:=32,zero:=some (.agg #[.int .i64 0,.int .i64 0,.int .i64 0,.int .i64 0])}
theorem Zsj:ZF aB 32=Zws:=by kernel_rfl
theorem Zn9:Zan aB 32 4=true:=by decide+kernel
def Zwr:Option TI:=some {k:=.slice 3 1 8,agg:=false,size:=1,bytes:=24,zero:=some (.slice none 0 0)}
theorem Zsi:ZF aB 33=Zwr:=by kernel_rfl
theorem ZrV:aB.underlying 33=some (.slice 3):=by kernel_rfl
def Zwq:Option TI:=some {k:=.struct [some (0,1,false),some (1,1,false),some (2,1,false)],agg:=true,size:=3,bytes:=40,zero:=some (.agg #[.int .i64 0,.int .i64 0,.slice none 0 0])}
theorem Zsh:ZF aB 35=Zwq:=by kernel_rfl
def Zwp:Option TI:=some {k:=.ptr,agg:=false,size:=1,bytes:=8,zero:=some (.pointer none)}
theorem Zsg:ZF aB 38=Zwp:=by kernel_rfl
def Zwo:Option TI:=some {k:=.slice 30 8 160,agg:=false,size:=1,bytes:=24,zero:=some (.slice none 0 0)}
theorem Zsf:ZF aB 42=Zwo:=by kernel_rfl
theorem ZrU:aB.underlying 42=some (.slice 30):=by kernel_rfl
def Zwn:Option TI:=some {k:=.slice 57 2 16,agg:=false,size:=1,bytes:=24,zero:=some (.slice none 0 0)}
theorem Zse:ZF aB 44=Zwn:=by kernel_rfl
theorem ZrT:aB.underlying 44=some (.slice 57):=by kernel_rfl
def Zwm:Option TI:=some {k:=.int .i64,agg:=false,size:=1,bytes:=8,zero:=some (.int .i64 0)}
theorem Zsd:ZF aB 45=Zwm:=by kernel_rfl
theorem ZrS:aB.underlying 45=some (.int .i64):=by kernel_rfl
def Zwl:Option TI:=some {k:=.slice 55 1 24,agg:=false,size:=1,bytes:=24,zero:=some (.slice none 0 0)}
theorem Zsc:ZF aB 52=Zwl:=by kernel_rfl
theorem ZrR:aB.underlying 52=some (.slice 55):=by kernel_rfl
def Zwk:Option TI:=some {k:=.slice 60 3 24,agg:=false,size:=1,bytes:=24,zero:=some (.slice none 0 0)}
theorem Zsb:ZF aB 55=Zwk:=by kernel_rfl
theorem ZrQ:aB.underlying 55=some (.slice 60):=by kernel_rfl
def Zwj:Option TI:=some {k:=.struct [some (0,1,false),some (1,1,false)],agg:=true,size:=2,bytes:=16,zero:=some (.agg #[.int .i64 0,.int .i64 0])}
theorem Zsa:ZF aB 57=Zwj:=by kernel_rfl
theorem Zn8:Zan aB 57 2=true:=by decide+kernel
def Zwi:Option TI:=some {k:=.struct [some (0,1,false),some (1,1,false),some (2,1,false)],agg:=true,size:=3,bytes:=24,zero:=some (.agg #[.int .i64 0,.int .i64 0,.int .i64 0])}
theorem Zr9:ZF aB 60=Zwi:=by kernel_rfl
theorem Zn7:Zan aB 60 3=true:=by decide+kernel
def Zwh:Option TI:=some {k:=.slice 163 3 24,agg:=false,size:=1,bytes:=24,zero:=some (.slice none 0 0)}
theorem Zr8:ZF aB 64=Zwh:=by kernel_rfl
theorem ZrP:aB.underlying 64=some (.slice 163):=by kernel_rfl
def Zwg:Option TI:=some {k:=.struct [some (0,1,false),some (1,1,false),some (2,1,false),some (3,1,false)],agg:=true,size:=4,bytes:=48,zero:=some (.agg #[.int .i64 0,.int .i64 0,.int .i64 0,.slice none 0 0])}
theorem Zr7:ZF aB 66=Zwg:=by kernel_rfl
def Zwe:Option TI:=some {k:=.func,agg:=false,size:=1,bytes:=8,zero:=some (.nilFunc)}
theorem Zr5:ZF aB 85=Zwe:=by kernel_rfl
def Zwd:Option TI:=some {k:=.slice 33 1 24,agg:=false,size:=1,bytes:=24,zero:=some (.slice none 0 0)}
theorem Zr4:ZF aB 86=Zwd:=by kernel_rfl
theorem ZrN:aB.underlying 86=some (.slice 33):=by kernel_rfl
def Zux:Option TI:=some {k:=.int .u64,agg:=false,size:=1,bytes:=8,zero:=some (.int .u64 0)}
theorem Zp0:ZF aB 107=Zux:=by kernel_rfl
theorem Zo4:aB.underlying 107=some (.int .u64):=by kernel_rfl
def Zuw:Option TI:=some {k:=.struct [some (0,1,false)],agg:=true,size:=1,bytes:=8,zero:=some (.agg #[.int .u64 0])}
theorem ZpZ:ZF aB 109=Zuw:=by kernel_rfl
theorem Zmj:Zan aB 109 1=true:=by decide+kernel
def Zuu:Option TI:=some {k:=.slice 199 2 16,agg:=false,size:=1,bytes:=24,zero:=some (.slice none 0 0)}
theorem ZpX:ZF aB 111=Zuu:=by kernel_rfl
theorem Zo2:aB.underlying 111=some (.slice 199):=by kernel_rfl
def Zut:Option TI:=some {k:=.struct [some (0,1,false),some (1,1,false)],agg:=true,size:=2,bytes:=32,zero:=some (.agg #[.int .i64 0,.slice none 0 0])}
theorem ZpW:ZF aB 113=Zut:=by kernel_rfl
def Zus:Option TI:=some {k:=.slice 196 4 32,agg:=false,size:=1,bytes:=24,zero:=some (.slice none 0 0)}
theorem ZpV:ZF aB 116=Zus:=by kernel_rfl
theorem Zo1:aB.underlying 116=some (.slice 196):=by kernel_rfl
def Zur:Option TI:=some {k:=.struct [some (0,1,false),some (1,1,false),some (2,1,false)],agg:=true,size:=3,bytes:=40,zero:=some (.agg #[.int .i64 0,.int .i64 0,.slice none 0 0])}
theorem ZpU:ZF aB 118=Zur:=by kernel_rfl
def Zuq:Option TI:=some {k:=.struct [some (0,1,false),some (1,1,false)],agg:=true,size:=2,bytes:=16,zero:=some (.agg #[.int .i64 0,.int .i64 0])}
theorem ZpT:ZF aB 121=Zuq:=by kernel_rfl
theorem Zmi:Zan aB 121 2=true:=by decide+kernel
def Zup:Option TI:=some {k:=.ptr,agg:=false,size:=1,bytes:=8,zero:=some (.pointer none)}
theorem ZpS:ZF aB 128=Zup:=by kernel_rfl
def Zuo:Option TI:=some {k:=.struct [some (0,8,true),some (8,1,false)],agg:=true,size:=9,bytes:=184,zero:=some (.agg #[.slice none 0 0,.slice none 0 0,.slice none 0 0,.int .i64 0,.int .i64 0,.slice none 0 0,.slice none 0 0,.slice none 0 0,.slice none 0 0])}
theorem ZpR:ZF aB 133=Zuo:=by kernel_rfl
def Zun:Option TI:=some {k:=.slice 143 3 24,agg:=false,size:=1,bytes:=24,zero:=some (.slice none 0 0)}
theorem ZpQ:ZF aB 134=Zun:=by kernel_rfl
theorem Zo0:aB.underlying 134=some (.slice 143):=by kernel_rfl
def Zum:Option TI:=some {k:=.func,agg:=false,size:=1,bytes:=8,zero:=some (.nilFunc)}
theorem ZpP:ZF aB 135=Zum:=by kernel_rfl
def Zul:Option TI:=some {k:=.func,agg:=false,size:=1,bytes:=8,zero:=some (.nilFunc)}
theorem ZpO:ZF aB 136=Zul:=by kernel_rfl
def Zuk:Option TI:=some {k:=.array 6 1,agg:=true,size:=6,bytes:=48,zero:=some (.agg #[.int .i64 0,.int .i64 0,.int .i64 0,.int .i64 0,.int .i64 0,.int .i64 0])}
theorem ZpN:ZF aB 139=Zuk:=by kernel_rfl
theorem ZoZ:aB.underlying 139=some (.array 6 3):=by kernel_rfl
theorem Zmh:Zan aB 139 6=true:=by decide+kernel
def Zuj:Option TI:=some {k:=.map,agg:=false,size:=1,bytes:=8,zero:=some (.map none)}
theorem ZpM:ZF aB 140=Zuj:=by kernel_rfl
theorem ZoY:aB.underlying 140=some (.map 147 145):=by kernel_rfl
def Zui:Option TI:=some {k:=.func,agg:=false,size:=1,bytes:=8,zero:=some (.nilFunc)}
theorem ZpL:ZF aB 141=Zui:=by kernel_rfl
def Zuh:Option TI:=some {k:=.struct [some (0,2,true),some (2,1,false)],agg:=true,size:=3,bytes:=24,zero:=some (.agg #[.int .i64 0,.int .i64 0,.bool false])}
theorem ZpK:ZF aB 143=Zuh:=by kernel_rfl
def Zug:Option TI:=some {k:=.struct [some (0,1,false),some (1,1,false),some (2,1,false)],agg:=true,size:=3,bytes:=24,zero:=some (.agg #[.int .i64 0,.int .i64 0,.int .i64 0])}
theorem ZpJ:ZF aB 145=Zug:=by kernel_rfl
theorem Zmg:Zan aB 145 3=true:=by decide+kernel
def Zuf:Option TI:=some {k:=.struct [some (0,1,false),some (1,1,false)],agg:=true,size:=2,bytes:=16,zero:=some (.agg #[.int .i64 0,.int .i64 0])}
theorem ZpI:ZF aB 147=Zuf:=by kernel_rfl
theorem Zmf:Zan aB 147 2=true:=by decide+kernel
def Zue:Option TI:=some {k:=.slice 151 3 72,agg:=false,size:=1,bytes:=24,zero:=some (.slice none 0 0)}
theorem ZpH:ZF aB 148=Zue:=by kernel_rfl
theorem ZoX:aB.underlying 148=some (.slice 151):=by kernel_rfl
def Zud:Option TI:=some {k:=.struct [some (0,1,false),some (1,1,false),some (2,1,false)],agg:=true,size:=3,bytes:=72,zero:=some (.agg #[.slice none 0 0,.slice none 0 0,.slice none 0 0])}
theorem ZpG:ZF aB 151=Zud:=by kernel_rfl
def Zuc:Option TI:=some {k:=.struct [some (0,1,false),some (1,1,false),some (2,1,false)],agg:=true,size:=3,bytes:=24,zero:=some (.agg #[.int .i64 0,.int .i64 0,.int .i64 0])}
theorem ZpF:ZF aB 163=Zuc:=by kernel_rfl
theorem Zme:Zan aB 163 3=true:=by decide+kernel
def Zub:Option TI:=some {k:=.map,agg:=false,size:=1,bytes:=8,zero:=some (.map none)}
theorem ZpE:ZF aB 176=Zub:=by kernel_rfl
theorem ZoW:aB.underlying 176=some (.map 139 140):=by kernel_rfl
def Zua:Option TI:=some {k:=.array 4 1,agg:=true,size:=4,bytes:=4,zero:=some (.agg #[.bool false,.bool false,.bool false,.bool false])}
theorem ZpD:ZF aB 177=Zua:=by kernel_rfl
theorem ZoV:aB.underlying 177=some (.array 4 4):=by kernel_rfl
def Zt9:Option TI:=some {k:=.func,agg:=false,size:=1,bytes:=8,zero:=some (.nilFunc)}
theorem ZpC:ZF aB 183=Zt9:=by kernel_rfl
def Zt7:Option TI:=some {k:=.struct [some (0,1,false),some (1,1,false),some (2,1,false),some (3,1,false)],agg:=true,size:=4,bytes:=32,zero:=some (.agg #[.int .i64 0,.int .i64 0,.int .i64 0,.int .i64 0])}
theorem ZpA:ZF aB 196=Zt7:=by kernel_rfl
theorem Zmd:Zan aB 196 4=true:=by decide+kernel
def Zt6:Option TI:=some {k:=.struct [some (0,1,false),some (1,1,false)],agg:=true,size:=2,bytes:=16,zero:=some (.agg #[.int .i64 0,.int .i64 0])}
theorem Zpz:ZF aB 199=Zt6:=by kernel_rfl
theorem Zmc:Zan aB 199 2=true:=by decide+kernel
def Zt5:Option TI:=some {k:=.func,agg:=false,size:=1,bytes:=8,zero:=some (.nilFunc)}
theorem Zpy:ZF aB 201=Zt5:=by kernel_rfl
def Zt4:Option TI:=some {k:=.func,agg:=false,size:=1,bytes:=8,zero:=some (.nilFunc)}
theorem Zpx:ZF aB 206=Zt4:=by kernel_rfl
def Zt3:Option TI:=some {k:=.func,agg:=false,size:=1,bytes:=8,zero:=some (.nilFunc)}
theorem Zpw:ZF aB 207=Zt3:=by kernel_rfl
def Zt2:Option TI:=some {k:=.func,agg:=false,size:=1,bytes:=8,zero:=some (.nilFunc)}
theorem Zpv:ZF aB 208=Zt2:=by kernel_rfl
def Zt1:Option TI:=some {k:=.ptr,agg:=false,size:=1,bytes:=8,zero:=some (.pointer none)}
theorem Zpu:ZF aB 211=Zt1:=by kernel_rfl
def Zt0:Option TI:=some {k:=.func,agg:=false,size:=1,bytes:=8,zero:=some (.nilFunc)}
theorem Zpt:ZF aB 219=Zt0:=by kernel_rfl
def ZtZ:Option TI:=some {k:=.struct [some (0,3,true),some (3,1,false),some (4,1,false)],agg:=true,size:=5,bytes:=72,zero:=some (.agg #[.int .i64 0,.int .i64 0,.slice none 0 0,.int .i64 0,.slice none 0 0])}
theorem Zps:ZF aB 223=ZtZ:=by kernel_rfl
def ZtY:Option TI:=some {k:=.other,agg:=false,size:=1,bytes:=8,zero:=some (.chan none)}
theorem Zpr:ZF aB 226=ZtY:=by kernel_rfl
def ZtX:Option TI:=some {k:=.ptr,agg:=false,size:=1,bytes:=8,zero:=some (.pointer none)}
theorem Zpq:ZF aB 230=ZtX:=by kernel_rfl
def ZtW:Option TI:=some {k:=.array 6 1,agg:=true,size:=6,bytes:=6,zero:=some (.agg #[.bool false,.bool false,.bool false,.bool false,.bool false,.bool false])}
theorem Zpp:ZF aB 236=ZtW:=by kernel_rfl
theorem ZoU:aB.underlying 236=some (.array 6 4):=by kernel_rfl
def ZtV:Option TI:=some {k:=.slice 23 1 24,agg:=false,size:=1,bytes:=24,zero:=some (.slice none 0 0)}
theorem Zpo:ZF aB 241=ZtV:=by kernel_rfl
theorem ZoT:aB.underlying 241=some (.slice 23):=by kernel_rfl
def ZtU:Option TI:=some {k:=.func,agg:=false,size:=1,bytes:=8,zero:=some (.nilFunc)}
theorem Zpn:ZF aB 244=ZtU:=by kernel_rfl
def ZtT:Option TI:=some {k:=.map,agg:=false,size:=1,bytes:=8,zero:=some (.map none)}
theorem Zpm:ZF aB 245=ZtT:=by kernel_rfl
theorem ZoS:aB.underlying 245=some (.map 147 3):=by kernel_rfl
def ZtS:Option TI:=some {k:=.func,agg:=false,size:=1,bytes:=8,zero:=some (.nilFunc)}
theorem Zpl:ZF aB 246=ZtS:=by kernel_rfl
def ZtR:Option TI:=some {k:=.func,agg:=false,size:=1,bytes:=8,zero:=some (.nilFunc)}
theorem Zpk:ZF aB 248=ZtR:=by kernel_rfl
def ZtQ:Option TI:=some {k:=.array 3 2,agg:=true,size:=6,bytes:=48,zero:=some (.agg #[.int .i64 0,.int .i64 0,.int .i64 0,.int .i64 0,.int .i64 0,.int .i64 0])}
theorem Zpj:ZF aB 252=ZtQ:=by kernel_rfl
theorem ZoR:aB.underlying 252=some (.array 3 199):=by kernel_rfl
theorem Zmb:Zan aB 252 6=true:=by decide+kernel
def ZtP:Option TI:=some {k:=.struct [some (0,1,false),some (1,1,false),some (2,6,true)],agg:=true,size:=8,bytes:=64,zero:=some (.agg #[.int .i64 0,.int .i64 0,.int .i64 0,.int .i64 0,.int .i64 0,.int .i64 0,.int .i64 0,.int .i64 0])}
theorem Zpi:ZF aB 254=ZtP:=by kernel_rfl
theorem Zma:Zan aB 254 8=true:=by decide+kernel
def ZtO:Option TI:=some {k:=.slice 267 3 24,agg:=false,size:=1,bytes:=24,zero:=some (.slice none 0 0)}
theorem Zph:ZF aB 255=ZtO:=by kernel_rfl
theorem ZoQ:aB.underlying 255=some (.slice 267):=by kernel_rfl
def ZtN:Option TI:=some {k:=.int .i64,agg:=false,size:=1,bytes:=8,zero:=some (.int .i64 0)}
theorem Zpg:ZF aB 259=ZtN:=by kernel_rfl
theorem ZoP:aB.underlying 259=some (.int .i64):=by kernel_rfl
def ZtM:Option TI:=some {k:=.map,agg:=false,size:=1,bytes:=8,zero:=some (.map none)}
theorem Zpf:ZF aB 262=ZtM:=by kernel_rfl
theorem ZoO:aB.underlying 262=some (.map 3 4):=by kernel_rfl
def ZtL:Option TI:=some {k:=.struct [some (0,1,false),some (1,1,false),some (2,1,false)],agg:=true,size:=3,bytes:=24,zero:=some (.agg #[.int .i64 0,.int .i64 0,.int .i64 0])}
theorem Zpe:ZF aB 267=ZtL:=by kernel_rfl
theorem Zl9:Zan aB 267 3=true:=by decide+kernel
def ZtK:Option TI:=some {k:=.slice 272 3 24,agg:=false,size:=1,bytes:=24,zero:=some (.slice none 0 0)}
theorem Zpd:ZF aB 269=ZtK:=by kernel_rfl
theorem ZoN:aB.underlying 269=some (.slice 272):=by kernel_rfl
def ZtJ:Option TI:=some {k:=.struct [some (0,1,false),some (1,1,false),some (2,1,false)],agg:=true,size:=3,bytes:=24,zero:=some (.agg #[.int .i64 0,.int .i64 0,.int .i64 0])}
theorem Zpc:ZF aB 272=ZtJ:=by kernel_rfl
theorem Zl8:Zan aB 272 3=true:=by decide+kernel
def ZtI:Option TI:=some {k:=.func,agg:=false,size:=1,bytes:=8,zero:=some (.nilFunc)}
theorem Zpb:ZF aB 274=ZtI:=by kernel_rfl
def ZwB (t : TypeId) : Option TI :=
 bif Qb t 136 then
  bif Qb t 52 then
   bif Qb t 28 then
    bif Qb t 22 then
     bif Qb t 3 then
      bif Qb t 1 then
       bif ZI t 1 then ti1 else none
      else
       bif ZI t 3 then ti3 else none
     else
      bif Qb t 4 then
       bif ZI t 4 then ti4 else none
      else
       bif ZI t 22 then Zwz else none
    else
     bif Qb t 25 then
      bif Qb t 23 then
       bif ZI t 23 then Zwy else none
      else
       bif ZI t 25 then Zwx else none
     else
      bif Qb t 26 then
       bif ZI t 26 then Zww else none
      else
       bif Qb t 27 then
        bif ZI t 27 then Zwv else none
       else
        bif ZI t 28 then Zwu else none
   else
    bif Qb t 35 then
     bif Qb t 32 then
      bif Qb t 30 then
       bif ZI t 30 then Zwt else none
      else
       bif ZI t 32 then Zws else none
     else
      bif Qb t 33 then
       bif ZI t 33 then Zwr else none
      else
       bif ZI t 35 then Zwq else none
    else
     bif Qb t 42 then
      bif Qb t 38 then
       bif ZI t 38 then Zwp else none
      else
       bif ZI t 42 then Zwo else none
     else
      bif Qb t 44 then
       bif ZI t 44 then Zwn else none
      else
       bif Qb t 45 then
        bif ZI t 45 then Zwm else none
       else
        bif ZI t 52 then Zwl else none
  else
   bif Qb t 109 then
    bif Qb t 64 then
     bif Qb t 57 then
      bif Qb t 55 then
       bif ZI t 55 then Zwk else none
      else
       bif ZI t 57 then Zwj else none
     else
      bif Qb t 60 then
       bif ZI t 60 then Zwi else none
      else
       bif ZI t 64 then Zwh else none
    else
     bif Qb t 85 then
      bif Qb t 66 then
       bif ZI t 66 then Zwg else none
      else
       bif ZI t 85 then Zwe else none
     else
      bif Qb t 86 then
       bif ZI t 86 then Zwd else none
      else
       bif Qb t 107 then
        bif ZI t 107 then Zux else none
       else
        bif ZI t 109 then Zuw else none
   else
    bif Qb t 121 then
     bif Qb t 113 then
      bif Qb t 111 then
       bif ZI t 111 then Zuu else none
      else
       bif ZI t 113 then Zut else none
     else
      bif Qb t 116 then
       bif ZI t 116 then Zus else none
      else
       bif Qb t 118 then
        bif ZI t 118 then Zur else none
       else
        bif ZI t 121 then Zuq else none
    else
     bif Qb t 133 then
      bif Qb t 128 then
       bif ZI t 128 then Zup else none
      else
       bif ZI t 133 then Zuo else none
     else
      bif Qb t 134 then
       bif ZI t 134 then Zun else none
      else
       bif Qb t 135 then
        bif ZI t 135 then Zum else none
       else
        bif ZI t 136 then Zul else none
 else
  bif Qb t 211 then
   bif Qb t 163 then
    bif Qb t 143 then
     bif Qb t 140 then
      bif Qb t 139 then
       bif ZI t 139 then Zuk else none
      else
       bif ZI t 140 then Zuj else none
     else
      bif Qb t 141 then
       bif ZI t 141 then Zui else none
      else
       bif ZI t 143 then Zuh else none
    else
     bif Qb t 147 then
      bif Qb t 145 then
       bif ZI t 145 then Zug else none
      else
       bif ZI t 147 then Zuf else none
     else
      bif Qb t 148 then
       bif ZI t 148 then Zue else none
      else
       bif Qb t 151 then
        bif ZI t 151 then Zud else none
       else
        bif ZI t 163 then Zuc else none
   else
    bif Qb t 199 then
     bif Qb t 177 then
      bif Qb t 176 then
       bif ZI t 176 then Zub else none
      else
       bif ZI t 177 then Zua else none
     else
      bif Qb t 183 then
       bif ZI t 183 then Zt9 else none
      else
       bif Qb t 196 then
        bif ZI t 196 then Zt7 else none
       else
        bif ZI t 199 then Zt6 else none
    else
     bif Qb t 206 then
      bif Qb t 201 then
       bif ZI t 201 then Zt5 else none
      else
       bif ZI t 206 then Zt4 else none
     else
      bif Qb t 207 then
       bif ZI t 207 then Zt3 else none
      else
       bif Qb t 208 then
        bif ZI t 208 then Zt2 else none
       else
        bif ZI t 211 then Zt1 else none
  else
   bif Qb t 246 then
    bif Qb t 230 then
     bif Qb t 223 then
      bif Qb t 219 then
       bif ZI t 219 then Zt0 else none
      else
       bif ZI t 223 then ZtZ else none
     else
      bif Qb t 226 then
       bif ZI t 226 then ZtY else none
      else
       bif ZI t 230 then ZtX else none
    else
     bif Qb t 241 then
      bif Qb t 236 then
       bif ZI t 236 then ZtW else none
      else
       bif ZI t 241 then ZtV else none
     else
      bif Qb t 244 then
       bif ZI t 244 then ZtU else none
      else
       bif Qb t 245 then
        bif ZI t 245 then ZtT else none
       else
        bif ZI t 246 then ZtS else none
   else
    bif Qb t 259 then
     bif Qb t 252 then
      bif Qb t 248 then
       bif ZI t 248 then ZtR else none
      else
       bif ZI t 252 then ZtQ else none
     else
      bif Qb t 254 then
       bif ZI t 254 then ZtP else none
      else
       bif Qb t 255 then
        bif ZI t 255 then ZtO else none
       else
        bif ZI t 259 then ZtN else none
    else
     bif Qb t 267 then
      bif Qb t 262 then
       bif ZI t 262 then ZtM else none
      else
       bif ZI t 267 then ZtL else none
     else
      bif Qb t 269 then
       bif ZI t 269 then ZtK else none
      else
       bif Qb t 272 then
        bif ZI t 272 then ZtJ else none
       else
        bif ZI t 274 then ZtI else none
def ZwA (t : TypeId) : Option TypeDesc :=
 bif Qb t 107 then
  bif Qb t 33 then
   bif Qb t 23 then
    bif Qb t 4 then
     bif Qb t 3 then
      bif ZI t 3 then some (.int .i64) else none
     else
      bif ZI t 4 then some (.bool) else none
    else
     bif Qb t 22 then
      bif ZI t 22 then some (.slice 113) else none
     else
      bif ZI t 23 then some (.slice 118) else none
   else
    bif Qb t 27 then
     bif Qb t 26 then
      bif ZI t 26 then some (.slice 121) else none
     else
      bif ZI t 27 then some (.slice 32) else none
    else
     bif Qb t 28 then
      bif ZI t 28 then some (.slice 35) else none
     else
      bif ZI t 33 then some (.slice 3) else none
  else
   bif Qb t 52 then
    bif Qb t 44 then
     bif Qb t 42 then
      bif ZI t 42 then some (.slice 30) else none
     else
      bif ZI t 44 then some (.slice 57) else none
    else
     bif Qb t 45 then
      bif ZI t 45 then some (.int .i64) else none
     else
      bif ZI t 52 then some (.slice 55) else none
   else
    bif Qb t 64 then
     bif Qb t 55 then
      bif ZI t 55 then some (.slice 60) else none
     else
      bif ZI t 64 then some (.slice 163) else none
    else
     bif Qb t 86 then
      bif ZI t 86 then some (.slice 33) else none
     else
      bif ZI t 107 then some (.int .u64) else none
 else
  bif Qb t 177 then
   bif Qb t 139 then
    bif Qb t 116 then
     bif Qb t 111 then
      bif ZI t 111 then some (.slice 199) else none
     else
      bif ZI t 116 then some (.slice 196) else none
    else
     bif Qb t 134 then
      bif ZI t 134 then some (.slice 143) else none
     else
      bif ZI t 139 then some (.array 6 3) else none
   else
    bif Qb t 148 then
     bif Qb t 140 then
      bif ZI t 140 then some (.map 147 145) else none
     else
      bif ZI t 148 then some (.slice 151) else none
    else
     bif Qb t 176 then
      bif ZI t 176 then some (.map 139 140) else none
     else
      bif ZI t 177 then some (.array 4 4) else none
  else
   bif Qb t 252 then
    bif Qb t 241 then
     bif Qb t 236 then
      bif ZI t 236 then some (.array 6 4) else none
     else
      bif ZI t 241 then some (.slice 23) else none
    else
     bif Qb t 245 then
      bif ZI t 245 then some (.map 147 3) else none
     else
      bif ZI t 252 then some (.array 3 199) else none
   else
    bif Qb t 259 then
     bif Qb t 255 then
      bif ZI t 255 then some (.slice 267) else none
     else
      bif ZI t 259 then some (.int .i64) else none
    else
     bif Qb t 262 then
      bif ZI t 262 then some (.map 3 4) else none
     else
      bif ZI t 269 then some (.slice 272) else none
def ZwC (t : TypeId) (n : Nat) : Bool :=
 bif Qb t 145 then
  bif Qb t 60 then
   bif Qb t 32 then
    bif ZI t 32 then ZI n 4 else false
   else
    bif Qb t 57 then
     bif ZI t 57 then ZI n 2 else false
    else
     bif ZI t 60 then ZI n 3 else false
  else
   bif Qb t 121 then
    bif Qb t 109 then
     bif ZI t 109 then ZI n 1 else false
    else
     bif ZI t 121 then ZI n 2 else false
   else
    bif Qb t 139 then
     bif ZI t 139 then ZI n 6 else false
    else
     bif ZI t 145 then ZI n 3 else false
 else
  bif Qb t 199 then
   bif Qb t 163 then
    bif Qb t 147 then
     bif ZI t 147 then ZI n 2 else false
    else
     bif ZI t 163 then ZI n 3 else false
   else
    bif Qb t 196 then
     bif ZI t 196 then ZI n 4 else false
    else
     bif ZI t 199 then ZI n 2 else false
  else
   bif Qb t 254 then
    bif Qb t 252 then
     bif ZI t 252 then ZI n 6 else false
    else
     bif ZI t 254 then ZI n 8 else false
   else
    bif Qb t 267 then
     bif ZI t 267 then ZI n 3 else false
    else
     bif ZI t 272 then ZI n 3 else false
def tb:Tb:={ti:=ZwB,un:=ZwA,eqs:=ZwC}
theorem Zr {α:Type} {b:Bool} {x y:α} {r:α} {C:Prop} (G:x=r->C) (A:y=r->C):(bif b then x else y)=r->C:=λh=>by
 cases b
 ·exact A h
 exact G h
theorem ZwQ {α:Type} {f:Nat->Option α} {t k:Nat} {e:Option α} {i:α} (A:f k=e):(bif ZI t k then e else none)=some i->f t=some i:=λh=>by
 cases hb:ZI t k
 ·rw[hb]at h;cases h
 rw[hb]at h;rw[ZD hb];exact A.trans h
theorem ZwP {t k n m:Nat} {C:Nat->Nat->Prop} (A:C k m):(bif ZI t k then ZI n m else false)=true->C t n:=λh=>by
 cases hb:ZI t k
 ·rw[hb]at h;cases h
 rw[hb]at h;rw[ZD hb,ZD h];exact A
theorem XN {t k:Nat} {e:Option TI} {i:TI} (A:ZF aB k=e):(bif ZI t k then e else none)=some i->ZF aB t=some i:=ZwQ A
theorem lkU {t k:Nat} {e:Option TypeDesc} {i:TypeDesc} (A:aB.underlying k=e):(bif ZI t k then e else none)=some i->aB.underlying t=some i:=ZwQ A
theorem lkE {t k n m:Nat} (A:Zan aB k m=true):(bif ZI t k then ZI n m else false)=true->Zan aB t n=true:=ZwP (C:=λt n=>Zan aB t n=true) A
theorem Zav (t:TypeId) (i:TI):ZwB t=some i->ZF aB t=some i:=
 (Zr (Zr (Zr (Zr (Zr (Zr (XN Zu2) (XN Zu1)) (Zr (XN Zu0) (XN Zsq))) (Zr (Zr (XN Zsp) (XN Zso)) (Zr (XN Zsn) (Zr (XN Zsm) (XN Zsl))))) (Zr (Zr (Zr (XN Zsk) (XN Zsj)) (Zr (XN Zsi) (XN Zsh))) (Zr (Zr (XN Zsg) (XN Zsf)) (Zr (XN Zse) (Zr (XN Zsd) (XN Zsc)))))) (Zr (Zr (Zr (Zr (XN Zsb) (XN Zsa)) (Zr (XN Zr9) (XN Zr8))) (Zr (Zr (XN Zr7) (XN Zr5)) (Zr (XN Zr4) (Zr (XN Zp0) (XN ZpZ))))) (Zr (Zr (Zr (XN ZpX) (XN ZpW)) (Zr (XN ZpV) (Zr (XN ZpU) (XN ZpT)))) (Zr (Zr (XN ZpS) (XN ZpR)) (Zr (XN ZpQ) (Zr (XN ZpP) (XN ZpO))))))) (Zr (Zr (Zr (Zr (Zr (XN ZpN) (XN ZpM)) (Zr (XN ZpL) (XN ZpK))) (Zr (Zr (XN ZpJ) (XN ZpI)) (Zr (XN ZpH) (Zr (XN ZpG) (XN ZpF))))) (Zr (Zr (Zr (XN ZpE) (XN ZpD)) (Zr (XN ZpC) (Zr (XN ZpA) (XN Zpz)))) (Zr (Zr (XN Zpy) (XN Zpx)) (Zr (XN Zpw) (Zr (XN Zpv) (XN Zpu)))))) (Zr (Zr (Zr (Zr (XN Zpt) (XN Zps)) (Zr (XN Zpr) (XN Zpq))) (Zr (Zr (XN Zpp) (XN Zpo)) (Zr (XN Zpn) (Zr (XN Zpm) (XN Zpl))))) (Zr (Zr (Zr (XN Zpk) (XN Zpj)) (Zr (XN Zpi) (Zr (XN Zph) (XN Zpg)))) (Zr (Zr (XN Zpf) (XN Zpe)) (Zr (XN Zpd) (Zr (XN Zpc) (XN Zpb))))))))
theorem Zau (t:TypeId) (d:TypeDesc):ZwA t=some d->aB.underlying t=some d:=
 (Zr (Zr (Zr (Zr (Zr (lkU ZuZ) (lkU ZuY)) (Zr (lkU Zr0) (lkU ZrZ))) (Zr (Zr (lkU ZrY) (lkU ZrX)) (Zr (lkU ZrW) (lkU ZrV)))) (Zr (Zr (Zr (lkU ZrU) (lkU ZrT)) (Zr (lkU ZrS) (lkU ZrR))) (Zr (Zr (lkU ZrQ) (lkU ZrP)) (Zr (lkU ZrN) (lkU Zo4))))) (Zr (Zr (Zr (Zr (lkU Zo2) (lkU Zo1)) (Zr (lkU Zo0) (lkU ZoZ))) (Zr (Zr (lkU ZoY) (lkU ZoX)) (Zr (lkU ZoW) (lkU ZoV)))) (Zr (Zr (Zr (lkU ZoU) (lkU ZoT)) (Zr (lkU ZoS) (lkU ZoR))) (Zr (Zr (lkU ZoQ) (lkU ZoP)) (Zr (lkU ZoO) (lkU ZoN))))))
theorem Zaw (t n:Nat):ZwC t n=true->Zan aB t n=true:=
 (Zr (Zr (Zr (lkE Zn9) (Zr (lkE Zn8) (lkE Zn7))) (Zr (Zr (lkE Zmj) (lkE Zmi)) (Zr (lkE Zmh) (lkE Zmg)))) (Zr (Zr (Zr (lkE Zmf) (lkE Zme)) (Zr (lkE Zmd) (lkE Zmc))) (Zr (Zr (lkE Zmb) (lkE Zma)) (Zr (lkE Zl9) (lkE Zl8)))))
theorem hT:tb.Of ((λ_=>aB:Unit->Program) ()):=⟨Zav,Zau,Zaw⟩
theorem hm:((λ_=>aB:Unit->Program) ()).follows .mixedOrders=true:=by decide+kernel
def tbF (kp rs:Bool):Tb:={tb with kp,rs}
theorem hTF (kp rs:Bool):(tbF kp rs).Of ((λ_=>aB:Unit->Program) ()):=⟨Zav,Zau,Zaw⟩
end Vm
end Go.Proofs.YtjgpiclllehgmaaGreat
