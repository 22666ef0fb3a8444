/- The types of this program, as a table for the abstract machine. Printed by wip/tables.py. -/
import Derived.Test.YtjgpiclllehgmaaRows
import Derived.Test.YtjgpiclllehgmaaM4
set_option linter.unusedSimpArgs false
set_option linter.unusedVariables false
namespace Go.Proofs.Ytjgpiclllehgmaa.Vm
open Go Go.Proofs
set_option maxRecDepth 100000
def ti1:Option TI:=some {k:=.func,agg:=false,size:=1,bytes:=8,zero:=some (.nilFunc)}
theorem ZrH:ZC Try.prog 1=ti1:=by kernel_rfl
def ti3:Option TI:=some {k:=.int .i64,agg:=false,size:=1,bytes:=8,zero:=some (.int .i64 0)}
theorem ZrG:ZC Try.prog 3=ti3:=by kernel_rfl
theorem ZrE:Try.prog.underlying 3=some (.int .i64):=by kernel_rfl
def ti4:Option TI:=some {k:=.bool,agg:=false,size:=1,bytes:=1,zero:=some (.bool false)}
theorem ZrF:ZC Try.prog 4=ti4:=by kernel_rfl
theorem ZrD:Try.prog.underlying 4=some (.bool):=by kernel_rfl
def Zs0:Option TI:=some {k:=.slice 3 1 8,agg:=false,size:=1,bytes:=24,zero:=some (.slice none 0 0)}
theorem ZpH:ZC Try.prog 22=Zs0:=by kernel_rfl
theorem Zo8:Try.prog.underlying 22=some (.slice 3):=by kernel_rfl
def ZsZ:Option TI:=some {k:=.slice 57 2 32,agg:=false,size:=1,bytes:=24,zero:=some (.slice none 0 0)}
theorem ZpG:ZC Try.prog 23=ZsZ:=by kernel_rfl
theorem Zo7:Try.prog.underlying 23=some (.slice 57):=by kernel_rfl
def ZsY:Option TI:=some {k:=.slice 62 3 40,agg:=false,size:=1,bytes:=24,zero:=some (.slice none 0 0)}
theorem ZpF:ZC Try.prog 24=ZsY:=by kernel_rfl
theorem Zo6:Try.prog.underlying 24=some (.slice 62):=by kernel_rfl
def ZsX:Option TI:=some {k:=.struct [some (0,1,false),some (1,1,false),some (2,1,false),some (3,1,false),some (4,1,false)],agg:=true,size:=5,bytes:=88,zero:=some (.agg #[.slice none 0 0,.slice none 0 0,.slice none 0 0,.int .i64 0,.int .i64 0])}
theorem ZpE:ZC Try.prog 26=ZsX:=by kernel_rfl
def ZsW:Option TI:=some {k:=.slice 49 2 16,agg:=false,size:=1,bytes:=24,zero:=some (.slice none 0 0)}
theorem ZpD:ZC Try.prog 27=ZsW:=by kernel_rfl
theorem Zo5:Try.prog.underlying 27=some (.slice 49):=by kernel_rfl
def ZsV:Option TI:=some {k:=.slice 42 4 32,agg:=false,size:=1,bytes:=24,zero:=some (.slice none 0 0)}
theorem ZpC:ZC Try.prog 28=ZsV:=by kernel_rfl
theorem Zo4:Try.prog.underlying 28=some (.slice 42):=by kernel_rfl
def ZsU:Option TI:=some {k:=.slice 40 3 40,agg:=false,size:=1,bytes:=24,zero:=some (.slice none 0 0)}
theorem ZpB:ZC Try.prog 29=ZsU:=by kernel_rfl
theorem Zo3:Try.prog.underlying 29=some (.slice 40):=by kernel_rfl
def ZsT:Option TI:=some {k:=.struct [some (0,5,true),some (5,1,false),some (6,1,false),some (7,1,false)],agg:=true,size:=8,bytes:=160,zero:=some (.agg #[.slice none 0 0,.slice none 0 0,.slice none 0 0,.int .i64 0,.int .i64 0,.slice none 0 0,.slice none 0 0,.slice none 0 0])}
theorem ZpA:ZC Try.prog 31=ZsT:=by kernel_rfl
def ZsS:Option TI:=some {k:=.ptr,agg:=false,size:=1,bytes:=8,zero:=some (.pointer none)}
theorem Zpz:ZC Try.prog 33=ZsS:=by kernel_rfl
def ZsR:Option TI:=some {k:=.int .i64,agg:=false,size:=1,bytes:=8,zero:=some (.int .i64 0)}
theorem Zpy:ZC Try.prog 35=ZsR:=by kernel_rfl
theorem Zo2:Try.prog.underlying 35=some (.int .i64):=by kernel_rfl
def ZsQ:Option TI:=some {k:=.slice 4 1 1,agg:=false,size:=1,bytes:=24,zero:=some (.slice none 0 0)}
theorem Zpx:ZC Try.prog 38=ZsQ:=by kernel_rfl
theorem Zo1:Try.prog.underlying 38=some (.slice 4):=by kernel_rfl
def ZsP:Option TI:=some {k:=.struct [some (0,1,false),some (1,1,false),some (2,1,false)],agg:=true,size:=3,bytes:=40,zero:=some (.agg #[.int .i64 0,.int .i64 0,.slice none 0 0])}
theorem Zpw:ZC Try.prog 40=ZsP:=by kernel_rfl
def ZsO:Option TI:=some {k:=.struct [some (0,1,false),some (1,1,false),some (2,1,false),some (3,1,false)],agg:=true,size:=4,bytes:=32,zero:=some (.agg #[.int .i64 0,.int .i64 0,.int .i64 0,.int .i64 0])}
theorem Zpv:ZC Try.prog 42=ZsO:=by kernel_rfl
theorem ZlW:JD Try.prog 42 4=true:=by decide+kernel
def ZsN:Option TI:=some {k:=.struct [some (0,1,false),some (1,1,false)],agg:=true,size:=2,bytes:=16,zero:=some (.agg #[.int .i64 0,.int .i64 0])}
theorem Zpu:ZC Try.prog 49=ZsN:=by kernel_rfl
theorem ZlV:JD Try.prog 49 2=true:=by decide+kernel
def ZsM:Option TI:=some {k:=.slice 97 2 16,agg:=false,size:=1,bytes:=24,zero:=some (.slice none 0 0)}
theorem Zpt:ZC Try.prog 50=ZsM:=by kernel_rfl
theorem Zo0:Try.prog.underlying 50=some (.slice 97):=by kernel_rfl
def ZsL:Option TI:=some {k:=.func,agg:=false,size:=1,bytes:=8,zero:=some (.nilFunc)}
theorem Zps:ZC Try.prog 54=ZsL:=by kernel_rfl
def ZsK:Option TI:=some {k:=.slice 117 2 16,agg:=false,size:=1,bytes:=24,zero:=some (.slice none 0 0)}
theorem Zpr:ZC Try.prog 55=ZsK:=by kernel_rfl
theorem ZoZ:Try.prog.underlying 55=some (.slice 117):=by kernel_rfl
def ZsJ:Option TI:=some {k:=.struct [some (0,1,false),some (1,1,false)],agg:=true,size:=2,bytes:=32,zero:=some (.agg #[.int .i64 0,.slice none 0 0])}
theorem Zpq:ZC Try.prog 57=ZsJ:=by kernel_rfl
def ZsI:Option TI:=some {k:=.slice 119 4 32,agg:=false,size:=1,bytes:=24,zero:=some (.slice none 0 0)}
theorem Zpp:ZC Try.prog 60=ZsI:=by kernel_rfl
theorem ZoY:Try.prog.underlying 60=some (.slice 119):=by kernel_rfl
def ZsH:Option TI:=some {k:=.struct [some (0,1,false),some (1,1,false),some (2,1,false)],agg:=true,size:=3,bytes:=40,zero:=some (.agg #[.int .i64 0,.int .i64 0,.slice none 0 0])}
theorem Zpo:ZC Try.prog 62=ZsH:=by kernel_rfl
def ZsG:Option TI:=some {k:=.slice 65 1 24,agg:=false,size:=1,bytes:=24,zero:=some (.slice none 0 0)}
theorem Zpn:ZC Try.prog 64=ZsG:=by kernel_rfl
theorem ZoX:Try.prog.underlying 64=some (.slice 65):=by kernel_rfl
def ZsF:Option TI:=some {k:=.slice 71 3 24,agg:=false,size:=1,bytes:=24,zero:=some (.slice none 0 0)}
theorem Zpm:ZC Try.prog 65=ZsF:=by kernel_rfl
theorem ZoW:Try.prog.underlying 65=some (.slice 71):=by kernel_rfl
def ZsE:Option TI:=some {k:=.struct [some (0,1,false),some (1,1,false),some (2,1,false)],agg:=true,size:=3,bytes:=24,zero:=some (.agg #[.int .i64 0,.int .i64 0,.int .i64 0])}
theorem Zpl:ZC Try.prog 71=ZsE:=by kernel_rfl
theorem ZlU:JD Try.prog 71 3=true:=by decide+kernel
def ZsD:Option TI:=some {k:=.int .u64,agg:=false,size:=1,bytes:=8,zero:=some (.int .u64 0)}
theorem Zpk:ZC Try.prog 73=ZsD:=by kernel_rfl
theorem ZoV:Try.prog.underlying 73=some (.int .u64):=by kernel_rfl
def ZsC:Option TI:=some {k:=.struct [some (0,1,false)],agg:=true,size:=1,bytes:=8,zero:=some (.agg #[.int .u64 0])}
theorem Zpj:ZC Try.prog 75=ZsC:=by kernel_rfl
theorem ZlT:JD Try.prog 75 1=true:=by decide+kernel
def ZsB:Option TI:=some {k:=.ptr,agg:=false,size:=1,bytes:=8,zero:=some (.pointer none)}
theorem Zpi:ZC Try.prog 77=ZsB:=by kernel_rfl
def ZsA:Option TI:=some {k:=.map,agg:=false,size:=1,bytes:=8,zero:=some (.map none)}
theorem Zph:ZC Try.prog 81=ZsA:=by kernel_rfl
theorem ZoU:Try.prog.underlying 81=some (.map 86 87):=by kernel_rfl
def Zsz:Option TI:=some {k:=.func,agg:=false,size:=1,bytes:=8,zero:=some (.nilFunc)}
theorem Zpg:ZC Try.prog 82=Zsz:=by kernel_rfl
def Zsy:Option TI:=some {k:=.func,agg:=false,size:=1,bytes:=8,zero:=some (.nilFunc)}
theorem Zpf:ZC Try.prog 83=Zsy:=by kernel_rfl
def Zsx:Option TI:=some {k:=.array 6 1,agg:=true,size:=6,bytes:=48,zero:=some (.agg #[.int .i64 0,.int .i64 0,.int .i64 0,.int .i64 0,.int .i64 0,.int .i64 0])}
theorem Zpe:ZC Try.prog 86=Zsx:=by kernel_rfl
theorem ZoT:Try.prog.underlying 86=some (.array 6 3):=by kernel_rfl
theorem ZlS:JD Try.prog 86 6=true:=by decide+kernel
def Zsw:Option TI:=some {k:=.map,agg:=false,size:=1,bytes:=8,zero:=some (.map none)}
theorem Zpd:ZC Try.prog 87=Zsw:=by kernel_rfl
theorem ZoS:Try.prog.underlying 87=some (.map 90 92):=by kernel_rfl
def Zsv:Option TI:=some {k:=.array 4 1,agg:=true,size:=4,bytes:=4,zero:=some (.agg #[.bool false,.bool false,.bool false,.bool false])}
theorem Zpc:ZC Try.prog 88=Zsv:=by kernel_rfl
theorem ZoR:Try.prog.underlying 88=some (.array 4 4):=by kernel_rfl
def Zsu:Option TI:=some {k:=.struct [some (0,1,false),some (1,1,false)],agg:=true,size:=2,bytes:=16,zero:=some (.agg #[.int .i64 0,.int .i64 0])}
theorem Zpb:ZC Try.prog 90=Zsu:=by kernel_rfl
theorem ZlR:JD Try.prog 90 2=true:=by decide+kernel
def Zst:Option TI:=some {k:=.struct [some (0,1,false),some (1,1,false),some (2,1,false)],agg:=true,size:=3,bytes:=24,zero:=some (.agg #[.int .i64 0,.int .i64 0,.int .i64 0])}
theorem Zpa:ZC Try.prog 92=Zst:=by kernel_rfl
theorem ZlQ:JD Try.prog 92 3=true:=by decide+kernel
def Zss:Option TI:=some {k:=.struct [some (0,1,false),some (1,1,false)],agg:=true,size:=2,bytes:=16,zero:=some (.agg #[.int .i64 0,.int .i64 0])}
theorem Zo9:ZC Try.prog 97=Zss:=by kernel_rfl
theorem ZlP:JD Try.prog 97 2=true:=by decide+kernel
def Zri:Option TI:=some {k:=.slice 144 3 24,agg:=false,size:=1,bytes:=24,zero:=some (.slice none 0 0)}
theorem Znb:ZC Try.prog 100=Zri:=by kernel_rfl
theorem ZmA:Try.prog.underlying 100=some (.slice 144):=by kernel_rfl
def Zrh:Option TI:=some {k:=.struct [some (0,1,false),some (1,1,false),some (2,1,false),some (3,1,false)],agg:=true,size:=4,bytes:=48,zero:=some (.agg #[.int .i64 0,.int .i64 0,.int .i64 0,.slice none 0 0])}
theorem Zna:ZC Try.prog 102=Zrh:=by kernel_rfl
def Zrg:Option TI:=some {k:=.struct [some (0,8,true),some (8,1,false)],agg:=true,size:=9,bytes:=184,zero:=some (.agg #[.slice none 0 0,.slice none 0 0,.slice none 0 0,.int .i64 0,.int .i64 0,.slice none 0 0,.slice none 0 0,.slice none 0 0,.slice none 0 0])}
theorem Zm9:ZC Try.prog 111=Zrg:=by kernel_rfl
def Zrf:Option TI:=some {k:=.slice 115 3 24,agg:=false,size:=1,bytes:=24,zero:=some (.slice none 0 0)}
theorem Zm8:ZC Try.prog 112=Zrf:=by kernel_rfl
theorem Zmz:Try.prog.underlying 112=some (.slice 115):=by kernel_rfl
def Zre:Option TI:=some {k:=.func,agg:=false,size:=1,bytes:=8,zero:=some (.nilFunc)}
theorem Zm7:ZC Try.prog 113=Zre:=by kernel_rfl
def Zrd:Option TI:=some {k:=.struct [some (0,2,true),some (2,1,false)],agg:=true,size:=3,bytes:=24,zero:=some (.agg #[.int .i64 0,.int .i64 0,.bool false])}
theorem Zm6:ZC Try.prog 115=Zrd:=by kernel_rfl
def Zrc:Option TI:=some {k:=.struct [some (0,1,false),some (1,1,false)],agg:=true,size:=2,bytes:=16,zero:=some (.agg #[.int .i64 0,.int .i64 0])}
theorem Zm5:ZC Try.prog 117=Zrc:=by kernel_rfl
theorem Zkg:JD Try.prog 117 2=true:=by decide+kernel
def Zrb:Option TI:=some {k:=.struct [some (0,1,false),some (1,1,false),some (2,1,false),some (3,1,false)],agg:=true,size:=4,bytes:=32,zero:=some (.agg #[.int .i64 0,.int .i64 0,.int .i64 0,.int .i64 0])}
theorem Zm4:ZC Try.prog 119=Zrb:=by kernel_rfl
theorem Zkf:JD Try.prog 119 4=true:=by decide+kernel
def Zra:Option TI:=some {k:=.func,agg:=false,size:=1,bytes:=8,zero:=some (.nilFunc)}
theorem Zm3:ZC Try.prog 128=Zra:=by kernel_rfl
def Zq9:Option TI:=some {k:=.func,agg:=false,size:=1,bytes:=8,zero:=some (.nilFunc)}
theorem Zm2:ZC Try.prog 129=Zq9:=by kernel_rfl
def Zq8:Option TI:=some {k:=.func,agg:=false,size:=1,bytes:=8,zero:=some (.nilFunc)}
theorem Zm1:ZC Try.prog 130=Zq8:=by kernel_rfl
def Zq7:Option TI:=some {k:=.func,agg:=false,size:=1,bytes:=8,zero:=some (.nilFunc)}
theorem Zm0:ZC Try.prog 139=Zq7:=by kernel_rfl
def Zq6:Option TI:=some {k:=.struct [some (0,1,false),some (1,1,false),some (2,1,false)],agg:=true,size:=3,bytes:=24,zero:=some (.agg #[.int .i64 0,.int .i64 0,.int .i64 0])}
theorem ZmZ:ZC Try.prog 144=Zq6:=by kernel_rfl
theorem Zke:JD Try.prog 144 3=true:=by decide+kernel
def Zq5:Option TI:=some {k:=.ptr,agg:=false,size:=1,bytes:=8,zero:=some (.pointer none)}
theorem ZmY:ZC Try.prog 148=Zq5:=by kernel_rfl
def Zq4:Option TI:=some {k:=.slice 24 1 24,agg:=false,size:=1,bytes:=24,zero:=some (.slice none 0 0)}
theorem ZmX:ZC Try.prog 155=Zq4:=by kernel_rfl
theorem Zmy:Try.prog.underlying 155=some (.slice 24):=by kernel_rfl
def Zq3:Option TI:=some {k:=.func,agg:=false,size:=1,bytes:=8,zero:=some (.nilFunc)}
theorem ZmW:ZC Try.prog 159=Zq3:=by kernel_rfl
def Zq2:Option TI:=some {k:=.map,agg:=false,size:=1,bytes:=8,zero:=some (.map none)}
theorem ZmV:ZC Try.prog 160=Zq2:=by kernel_rfl
theorem Zmx:Try.prog.underlying 160=some (.map 90 3):=by kernel_rfl
def Zq1:Option TI:=some {k:=.func,agg:=false,size:=1,bytes:=8,zero:=some (.nilFunc)}
theorem ZmU:ZC Try.prog 161=Zq1:=by kernel_rfl
def Zq0:Option TI:=some {k:=.func,agg:=false,size:=1,bytes:=8,zero:=some (.nilFunc)}
theorem ZmT:ZC Try.prog 163=Zq0:=by kernel_rfl
def ZqZ:Option TI:=some {k:=.other,agg:=false,size:=1,bytes:=8,zero:=some (.chan none)}
theorem ZmS:ZC Try.prog 166=ZqZ:=by kernel_rfl
def ZqY:Option TI:=some {k:=.map,agg:=false,size:=1,bytes:=8,zero:=some (.map none)}
theorem ZmR:ZC Try.prog 172=ZqY:=by kernel_rfl
theorem Zmw:Try.prog.underlying 172=some (.map 3 4):=by kernel_rfl
def ZqX:Option TI:=some {k:=.func,agg:=false,size:=1,bytes:=8,zero:=some (.nilFunc)}
theorem ZmQ:ZC Try.prog 175=ZqX:=by kernel_rfl
def ZqW:Option TI:=some {k:=.struct [some (0,3,true),some (3,1,false),some (4,1,false)],agg:=true,size:=5,bytes:=72,zero:=some (.agg #[.int .i64 0,.int .i64 0,.slice none 0 0,.int .i64 0,.slice none 0 0])}
theorem ZmP:ZC Try.prog 178=ZqW:=by kernel_rfl
def ZqV:Option TI:=some {k:=.array 6 1,agg:=true,size:=6,bytes:=6,zero:=some (.agg #[.bool false,.bool false,.bool false,.bool false,.bool false,.bool false])}
theorem ZmO:ZC Try.prog 182=ZqV:=by kernel_rfl
theorem Zmv:Try.prog.underlying 182=some (.array 6 4):=by kernel_rfl
def ZqU:Option TI:=some {k:=.slice 187 3 24,agg:=false,size:=1,bytes:=24,zero:=some (.slice none 0 0)}
theorem ZmN:ZC Try.prog 184=ZqU:=by kernel_rfl
theorem Zmu:Try.prog.underlying 184=some (.slice 187):=by kernel_rfl
def ZqT:Option TI:=some {k:=.struct [some (0,1,false),some (1,1,false),some (2,1,false)],agg:=true,size:=3,bytes:=24,zero:=some (.agg #[.int .i64 0,.int .i64 0,.int .i64 0])}
theorem ZmM:ZC Try.prog 187=ZqT:=by kernel_rfl
theorem Zkd:JD Try.prog 187 3=true:=by decide+kernel
def ZqS:Option TI:=some {k:=.func,agg:=false,size:=1,bytes:=8,zero:=some (.nilFunc)}
theorem ZmL:ZC Try.prog 189=ZqS:=by kernel_rfl
def ZqR:Option TI:=some {k:=.array 3 2,agg:=true,size:=6,bytes:=48,zero:=some (.agg #[.int .i64 0,.int .i64 0,.int .i64 0,.int .i64 0,.int .i64 0,.int .i64 0])}
theorem ZmK:ZC Try.prog 190=ZqR:=by kernel_rfl
theorem Zmt:Try.prog.underlying 190=some (.array 3 117):=by kernel_rfl
theorem Zkc:JD Try.prog 190 6=true:=by decide+kernel
def ZqQ:Option TI:=some {k:=.struct [some (0,1,false),some (1,1,false),some (2,6,true)],agg:=true,size:=8,bytes:=64,zero:=some (.agg #[.int .i64 0,.int .i64 0,.int .i64 0,.int .i64 0,.int .i64 0,.int .i64 0,.int .i64 0,.int .i64 0])}
theorem ZmJ:ZC Try.prog 192=ZqQ:=by kernel_rfl
theorem Zkb:JD Try.prog 192 8=true:=by decide+kernel
def ZqP:Option TI:=some {k:=.slice 202 3 24,agg:=false,size:=1,bytes:=24,zero:=some (.slice none 0 0)}
theorem ZmI:ZC Try.prog 193=ZqP:=by kernel_rfl
theorem Zms:Try.prog.underlying 193=some (.slice 202):=by kernel_rfl
def ZqO:Option TI:=some {k:=.int .i64,agg:=false,size:=1,bytes:=8,zero:=some (.int .i64 0)}
theorem ZmH:ZC Try.prog 197=ZqO:=by kernel_rfl
theorem Zmr:Try.prog.underlying 197=some (.int .i64):=by kernel_rfl
def ZqN:Option TI:=some {k:=.struct [some (0,1,false),some (1,1,false),some (2,1,false)],agg:=true,size:=3,bytes:=24,zero:=some (.agg #[.int .i64 0,.int .i64 0,.int .i64 0])}
theorem ZmG:ZC Try.prog 202=ZqN:=by kernel_rfl
theorem Zka:JD Try.prog 202 3=true:=by decide+kernel
def Zs2 (t : TypeId) : Option TI :=
  bif Qe t 88 then
   bif Qe t 49 then
    bif Qe t 27 then
     bif Qe t 22 then
      bif Qe t 3 then
       bif Qe t 1 then
        bif ZD t 1 then ti1 else none
       else
        bif ZD t 3 then ti3 else none
      else
       bif Qe t 4 then
        bif ZD t 4 then ti4 else none
       else
        bif ZD t 22 then Zs0 else none
     else
      bif Qe t 24 then
       bif Qe t 23 then
        bif ZD t 23 then ZsZ else none
       else
        bif ZD t 24 then ZsY else none
      else
       bif Qe t 26 then
        bif ZD t 26 then ZsX else none
       else
        bif ZD t 27 then ZsW else none
    else
     bif Qe t 33 then
      bif Qe t 29 then
       bif Qe t 28 then
        bif ZD t 28 then ZsV else none
       else
        bif ZD t 29 then ZsU else none
      else
       bif Qe t 31 then
        bif ZD t 31 then ZsT else none
       else
        bif ZD t 33 then ZsS else none
     else
      bif Qe t 38 then
       bif Qe t 35 then
        bif ZD t 35 then ZsR else none
       else
        bif ZD t 38 then ZsQ else none
      else
       bif Qe t 40 then
        bif ZD t 40 then ZsP else none
       else
        bif Qe t 42 then
         bif ZD t 42 then ZsO else none
        else
         bif ZD t 49 then ZsN else none
   else
    bif Qe t 71 then
     bif Qe t 57 then
      bif Qe t 54 then
       bif Qe t 50 then
        bif ZD t 50 then ZsM else none
       else
        bif ZD t 54 then ZsL else none
      else
       bif Qe t 55 then
        bif ZD t 55 then ZsK else none
       else
        bif ZD t 57 then ZsJ else none
     else
      bif Qe t 62 then
       bif Qe t 60 then
        bif ZD t 60 then ZsI else none
       else
        bif ZD t 62 then ZsH else none
      else
       bif Qe t 64 then
        bif ZD t 64 then ZsG else none
       else
        bif Qe t 65 then
         bif ZD t 65 then ZsF else none
        else
         bif ZD t 71 then ZsE else none
    else
     bif Qe t 81 then
      bif Qe t 75 then
       bif Qe t 73 then
        bif ZD t 73 then ZsD else none
       else
        bif ZD t 75 then ZsC else none
      else
       bif Qe t 77 then
        bif ZD t 77 then ZsB else none
       else
        bif ZD t 81 then ZsA else none
     else
      bif Qe t 83 then
       bif Qe t 82 then
        bif ZD t 82 then Zsz else none
       else
        bif ZD t 83 then Zsy else none
      else
       bif Qe t 86 then
        bif ZD t 86 then Zsx else none
       else
        bif Qe t 87 then
         bif ZD t 87 then Zsw else none
        else
         bif ZD t 88 then Zsv else none
  else
   bif Qe t 148 then
    bif Qe t 113 then
     bif Qe t 100 then
      bif Qe t 92 then
       bif Qe t 90 then
        bif ZD t 90 then Zsu else none
       else
        bif ZD t 92 then Zst else none
      else
       bif Qe t 97 then
        bif ZD t 97 then Zss else none
       else
        bif ZD t 100 then Zri else none
     else
      bif Qe t 111 then
       bif Qe t 102 then
        bif ZD t 102 then Zrh else none
       else
        bif ZD t 111 then Zrg else none
      else
       bif Qe t 112 then
        bif ZD t 112 then Zrf else none
       else
        bif ZD t 113 then Zre else none
    else
     bif Qe t 128 then
      bif Qe t 117 then
       bif Qe t 115 then
        bif ZD t 115 then Zrd else none
       else
        bif ZD t 117 then Zrc else none
      else
       bif Qe t 119 then
        bif ZD t 119 then Zrb else none
       else
        bif ZD t 128 then Zra else none
     else
      bif Qe t 130 then
       bif Qe t 129 then
        bif ZD t 129 then Zq9 else none
       else
        bif ZD t 130 then Zq8 else none
      else
       bif Qe t 139 then
        bif ZD t 139 then Zq7 else none
       else
        bif Qe t 144 then
         bif ZD t 144 then Zq6 else none
        else
         bif ZD t 148 then Zq5 else none
   else
    bif Qe t 178 then
     bif Qe t 161 then
      bif Qe t 159 then
       bif Qe t 155 then
        bif ZD t 155 then Zq4 else none
       else
        bif ZD t 159 then Zq3 else none
      else
       bif Qe t 160 then
        bif ZD t 160 then Zq2 else none
       else
        bif ZD t 161 then Zq1 else none
     else
      bif Qe t 166 then
       bif Qe t 163 then
        bif ZD t 163 then Zq0 else none
       else
        bif ZD t 166 then ZqZ else none
      else
       bif Qe t 172 then
        bif ZD t 172 then ZqY else none
       else
        bif Qe t 175 then
         bif ZD t 175 then ZqX else none
        else
         bif ZD t 178 then ZqW else none
    else
     bif Qe t 189 then
      bif Qe t 184 then
       bif Qe t 182 then
        bif ZD t 182 then ZqV else none
       else
        bif ZD t 184 then ZqU else none
      else
       bif Qe t 187 then
        bif ZD t 187 then ZqT else none
       else
        bif ZD t 189 then ZqS else none
     else
      bif Qe t 192 then
       bif Qe t 190 then
        bif ZD t 190 then ZqR else none
       else
        bif ZD t 192 then ZqQ else none
      else
       bif Qe t 193 then
        bif ZD t 193 then ZqP else none
       else
        bif Qe t 197 then
         bif ZD t 197 then ZqO else none
        else
         bif ZD t 202 then ZqN else none
def Zs1 (t : TypeId) : Option TypeDesc :=
  bif Qe t 65 then
   bif Qe t 28 then
    bif Qe t 22 then
     bif Qe t 3 then
      bif ZD t 3 then some (.int .i64) else none
     else
      bif Qe t 4 then
       bif ZD t 4 then some (.bool) else none
      else
       bif ZD t 22 then some (.slice 3) else none
    else
     bif Qe t 24 then
      bif Qe t 23 then
       bif ZD t 23 then some (.slice 57) else none
      else
       bif ZD t 24 then some (.slice 62) else none
     else
      bif Qe t 27 then
       bif ZD t 27 then some (.slice 49) else none
      else
       bif ZD t 28 then some (.slice 42) else none
   else
    bif Qe t 50 then
     bif Qe t 35 then
      bif Qe t 29 then
       bif ZD t 29 then some (.slice 40) else none
      else
       bif ZD t 35 then some (.int .i64) else none
     else
      bif Qe t 38 then
       bif ZD t 38 then some (.slice 4) else none
      else
       bif ZD t 50 then some (.slice 97) else none
    else
     bif Qe t 60 then
      bif Qe t 55 then
       bif ZD t 55 then some (.slice 117) else none
      else
       bif ZD t 60 then some (.slice 119) else none
     else
      bif Qe t 64 then
       bif ZD t 64 then some (.slice 65) else none
      else
       bif ZD t 65 then some (.slice 71) else none
  else
   bif Qe t 112 then
    bif Qe t 86 then
     bif Qe t 73 then
      bif ZD t 73 then some (.int .u64) else none
     else
      bif Qe t 81 then
       bif ZD t 81 then some (.map 86 87) else none
      else
       bif ZD t 86 then some (.array 6 3) else none
    else
     bif Qe t 88 then
      bif Qe t 87 then
       bif ZD t 87 then some (.map 90 92) else none
      else
       bif ZD t 88 then some (.array 4 4) else none
     else
      bif Qe t 100 then
       bif ZD t 100 then some (.slice 144) else none
      else
       bif ZD t 112 then some (.slice 115) else none
   else
    bif Qe t 182 then
     bif Qe t 160 then
      bif Qe t 155 then
       bif ZD t 155 then some (.slice 24) else none
      else
       bif ZD t 160 then some (.map 90 3) else none
     else
      bif Qe t 172 then
       bif ZD t 172 then some (.map 3 4) else none
      else
       bif ZD t 182 then some (.array 6 4) else none
    else
     bif Qe t 190 then
      bif Qe t 184 then
       bif ZD t 184 then some (.slice 187) else none
      else
       bif ZD t 190 then some (.array 3 117) else none
     else
      bif Qe t 193 then
       bif ZD t 193 then some (.slice 202) else none
      else
       bif ZD t 197 then some (.int .i64) else none
def Zs3 (t : TypeId) (n : Nat) : Bool :=
  bif Qe t 92 then
   bif Qe t 71 then
    bif Qe t 42 then
     bif ZD t 42 then ZD n 4 else false
    else
     bif Qe t 49 then
      bif ZD t 49 then ZD n 2 else false
     else
      bif ZD t 71 then ZD n 3 else false
   else
    bif Qe t 86 then
     bif Qe t 75 then
      bif ZD t 75 then ZD n 1 else false
     else
      bif ZD t 86 then ZD n 6 else false
    else
     bif Qe t 90 then
      bif ZD t 90 then ZD n 2 else false
     else
      bif ZD t 92 then ZD n 3 else false
  else
   bif Qe t 144 then
    bif Qe t 117 then
     bif Qe t 97 then
      bif ZD t 97 then ZD n 2 else false
     else
      bif ZD t 117 then ZD n 2 else false
    else
     bif Qe t 119 then
      bif ZD t 119 then ZD n 4 else false
     else
      bif ZD t 144 then ZD n 3 else false
   else
    bif Qe t 190 then
     bif Qe t 187 then
      bif ZD t 187 then ZD n 3 else false
     else
      bif ZD t 190 then ZD n 6 else false
    else
     bif Qe t 192 then
      bif ZD t 192 then ZD n 8 else false
     else
      bif ZD t 202 then ZD n 3 else false
def tb:Tb:={ti:=Zs2,un:=Zs1,eqs:=Zs3}
theorem Zq {α:Type} {b:Bool} {x y:α} {r:α} {C:Prop} (hx:x=r→C) (hy:y=r→C):(bif b then x else y)=r→C:=fun h=>by
 cases b
 ·exact hy h
 ·exact hx h
theorem Ztb {α:Type} {f:Nat→Option α} {t k:Nat} {e:Option α} {i:α} (hk:f k=e):(bif ZD t k then e else none)=some i→f t=some i:=fun h=>by
 cases hb:ZD t k
 ·rw[hb]at h;cases h
 ·rw[hb]at h
  rw[Zy hb]
  exact hk.trans h
theorem Zta {t k n m:Nat} {C:Nat→Nat→Prop} (hk:C k m):(bif ZD t k then ZD n m else false)=true→C t n:=fun h=>by
 cases hb:ZD t k
 ·rw[hb]at h;cases h
 ·rw[hb]at h
  rw[Zy hb,Zy h]
  exact hk
theorem XK {t k:Nat} {e:Option TI} {i:TI} (hk:ZC Try.prog k=e):(bif ZD t k then e else none)=some i→ZC Try.prog t=some i:=Ztb hk
theorem lkU {t k:Nat} {e:Option TypeDesc} {i:TypeDesc} (hk:Try.prog.underlying k=e):(bif ZD t k then e else none)=some i→Try.prog.underlying t=some i:=Ztb hk
theorem lkE {t k n m:Nat} (hk:JD Try.prog k m=true):(bif ZD t k then ZD n m else false)=true→JD Try.prog t n=true:=Zta (C:=fun t n=>JD Try.prog t n=true) hk
theorem Zau (t:TypeId) (i:TI):Zs2 t=some i→ZC Try.prog t=some i:=
 (Zq (Zq (Zq (Zq (Zq (Zq (XK ZrH) (XK ZrG)) (Zq (XK ZrF) (XK ZpH))) (Zq (Zq (XK ZpG) (XK ZpF)) (Zq (XK ZpE) (XK ZpD)))) (Zq (Zq (Zq (XK ZpC) (XK ZpB)) (Zq (XK ZpA) (XK Zpz))) (Zq (Zq (XK Zpy) (XK Zpx)) (Zq (XK Zpw) (Zq (XK Zpv) (XK Zpu)))))) (Zq (Zq (Zq (Zq (XK Zpt) (XK Zps)) (Zq (XK Zpr) (XK Zpq))) (Zq (Zq (XK Zpp) (XK Zpo)) (Zq (XK Zpn) (Zq (XK Zpm) (XK Zpl))))) (Zq (Zq (Zq (XK Zpk) (XK Zpj)) (Zq (XK Zpi) (XK Zph))) (Zq (Zq (XK Zpg) (XK Zpf)) (Zq (XK Zpe) (Zq (XK Zpd) (XK Zpc))))))) (Zq (Zq (Zq (Zq (Zq (XK Zpb) (XK Zpa)) (Zq (XK Zo9) (XK Znb))) (Zq (Zq (XK Zna) (XK Zm9)) (Zq (XK Zm8) (XK Zm7)))) (Zq (Zq (Zq (XK Zm6) (XK Zm5)) (Zq (XK Zm4) (XK Zm3))) (Zq (Zq (XK Zm2) (XK Zm1)) (Zq (XK Zm0) (Zq (XK ZmZ) (XK ZmY)))))) (Zq (Zq (Zq (Zq (XK ZmX) (XK ZmW)) (Zq (XK ZmV) (XK ZmU))) (Zq (Zq (XK ZmT) (XK ZmS)) (Zq (XK ZmR) (Zq (XK ZmQ) (XK ZmP))))) (Zq (Zq (Zq (XK ZmO) (XK ZmN)) (Zq (XK ZmM) (XK ZmL))) (Zq (Zq (XK ZmK) (XK ZmJ)) (Zq (XK ZmI) (Zq (XK ZmH) (XK ZmG))))))))
theorem Zat (t:TypeId) (d:TypeDesc):Zs1 t=some d→Try.prog.underlying t=some d:=
 (Zq (Zq (Zq (Zq (lkU ZrE) (Zq (lkU ZrD) (lkU Zo8))) (Zq (Zq (lkU Zo7) (lkU Zo6)) (Zq (lkU Zo5) (lkU Zo4)))) (Zq (Zq (Zq (lkU Zo3) (lkU Zo2)) (Zq (lkU Zo1) (lkU Zo0))) (Zq (Zq (lkU ZoZ) (lkU ZoY)) (Zq (lkU ZoX) (lkU ZoW))))) (Zq (Zq (Zq (lkU ZoV) (Zq (lkU ZoU) (lkU ZoT))) (Zq (Zq (lkU ZoS) (lkU ZoR)) (Zq (lkU ZmA) (lkU Zmz)))) (Zq (Zq (Zq (lkU Zmy) (lkU Zmx)) (Zq (lkU Zmw) (lkU Zmv))) (Zq (Zq (lkU Zmu) (lkU Zmt)) (Zq (lkU Zms) (lkU Zmr))))))
theorem Zav (t n:Nat):Zs3 t n=true→JD Try.prog t n=true:=
 (Zq (Zq (Zq (lkE ZlW) (Zq (lkE ZlV) (lkE ZlU))) (Zq (Zq (lkE ZlT) (lkE ZlS)) (Zq (lkE ZlR) (lkE ZlQ)))) (Zq (Zq (Zq (lkE ZlP) (lkE Zkg)) (Zq (lkE Zkf) (lkE Zke))) (Zq (Zq (lkE Zkd) (lkE Zkc)) (Zq (lkE Zkb) (lkE Zka)))))
theorem hT:tb.Of ((fun _=>Try.prog:Unit→Program) ()):=⟨Zau,Zat,Zav⟩
theorem hm:((fun _=>Try.prog:Unit→Program) ()).follows .mixedOrders=true:=by decide+kernel
def tbF (kp rs:Bool):Tb:={tb with kp,rs}
theorem hTF (kp rs:Bool):(tbF kp rs).Of ((fun _=>Try.prog:Unit→Program) ()):=⟨Zau,Zat,Zav⟩
end Go.Proofs.Ytjgpiclllehgmaa.Vm
