/- The types of this program, as a table for the abstract machine. Printed by wip/tables.py. -/
import Derived.Test.YtjgpiclllehgmaaRows
import Derived.Test.YtjgpiclllehgmaaM4
set_option linter.unusedSimpArgs false
set_option linter.unusedVariables false
namespace Go.Proofs.Ytjgpiclllehgmaa.Vm
open Go Go.Proofs
set_option maxRecDepth 100000
def ti1:Option TI:=some {k:=.func,agg:=false,size:=1,bytes:=8,zero:=some (.nilFunc)}
theorem ZuH:ZaV Try.prog 1=ti1:=by kernel_rfl
def ti3:Option TI:=some {k:=.int .i64,agg:=false,size:=1,bytes:=8,zero:=some (.int .i64 0)}
theorem ZuF:ZaV Try.prog 3=ti3:=by kernel_rfl
theorem ZuB:Try.prog.underlying 3=some (.int .i64):=by kernel_rfl
def ti4:Option TI:=some {k:=.bool,agg:=false,size:=1,bytes:=1,zero:=some (.bool false)}
theorem ZuE:ZaV Try.prog 4=ti4:=by kernel_rfl
theorem ZuA:Try.prog.underlying 4=some (.bool):=by kernel_rfl
def Zxl:Option TI:=some {k:=.slice 3 1 8,agg:=false,size:=1,bytes:=24,zero:=some (.slice none 0 0)}
theorem Ztf:ZaV Try.prog 22=Zxl:=by kernel_rfl
theorem ZsE:Try.prog.underlying 22=some (.slice 3):=by kernel_rfl
def Zxk:Option TI:=some {k:=.slice 57 2 32,agg:=false,size:=1,bytes:=24,zero:=some (.slice none 0 0)}
theorem Zte:ZaV Try.prog 23=Zxk:=by kernel_rfl
theorem ZsD:Try.prog.underlying 23=some (.slice 57):=by kernel_rfl
def Zxj:Option TI:=some {k:=.slice 62 3 40,agg:=false,size:=1,bytes:=24,zero:=some (.slice none 0 0)}
theorem Ztd:ZaV Try.prog 24=Zxj:=by kernel_rfl
theorem ZsC:Try.prog.underlying 24=some (.slice 62):=by kernel_rfl
def Zxi:Option TI:=some {k:=.struct [some (0,1,false),some (1,1,false),some (2,1,false),some (3,1,false),some (4,1,false)],agg:=true,size:=5,bytes:=88,zero:=some (.agg #[.slice none 0 0,.slice none 0 0,.slice none 0 0,.int .i64 0,.int .i64 0])}
theorem Ztc:ZaV Try.prog 26=Zxi:=by kernel_rfl
def Zxh:Option TI:=some {k:=.slice 49 2 16,agg:=false,size:=1,bytes:=24,zero:=some (.slice none 0 0)}
theorem Ztb:ZaV Try.prog 27=Zxh:=by kernel_rfl
theorem ZsB:Try.prog.underlying 27=some (.slice 49):=by kernel_rfl
def Zxg:Option TI:=some {k:=.slice 42 4 32,agg:=false,size:=1,bytes:=24,zero:=some (.slice none 0 0)}
theorem Zta:ZaV Try.prog 28=Zxg:=by kernel_rfl
theorem ZsA:Try.prog.underlying 28=some (.slice 42):=by kernel_rfl
def Zxf:Option TI:=some {k:=.slice 40 3 40,agg:=false,size:=1,bytes:=24,zero:=some (.slice none 0 0)}
theorem Zs9:ZaV Try.prog 29=Zxf:=by kernel_rfl
theorem Zsz:Try.prog.underlying 29=some (.slice 40):=by kernel_rfl
def Zxe:Option TI:=some {k:=.struct [some (0,5,true),some (5,1,false),some (6,1,false),some (7,1,false)],agg:=true,size:=8,bytes:=160,zero:=some (.agg #[.slice none 0 0,.slice none 0 0,.slice none 0 0,.int .i64 0,.int .i64 0,.slice none 0 0,.slice none 0 0,.slice none 0 0])}
theorem Zs8:ZaV Try.prog 31=Zxe:=by kernel_rfl
def Zxd:Option TI:=some {k:=.ptr,agg:=false,size:=1,bytes:=8,zero:=some (.pointer none)}
theorem Zs7:ZaV Try.prog 33=Zxd:=by kernel_rfl
def Zxc:Option TI:=some {k:=.int .i64,agg:=false,size:=1,bytes:=8,zero:=some (.int .i64 0)}
theorem Zs6:ZaV Try.prog 35=Zxc:=by kernel_rfl
theorem Zsy:Try.prog.underlying 35=some (.int .i64):=by kernel_rfl
def Zxb:Option TI:=some {k:=.slice 4 1 1,agg:=false,size:=1,bytes:=24,zero:=some (.slice none 0 0)}
theorem Zs5:ZaV Try.prog 38=Zxb:=by kernel_rfl
theorem Zsx:Try.prog.underlying 38=some (.slice 4):=by kernel_rfl
def Zxa:Option TI:=some {k:=.struct [some (0,1,false),some (1,1,false),some (2,1,false)],agg:=true,size:=3,bytes:=40,zero:=some (.agg #[.int .i64 0,.int .i64 0,.slice none 0 0])}
theorem Zs4:ZaV Try.prog 40=Zxa:=by kernel_rfl
def Zw9:Option TI:=some {k:=.struct [some (0,1,false),some (1,1,false),some (2,1,false),some (3,1,false)],agg:=true,size:=4,bytes:=32,zero:=some (.agg #[.int .i64 0,.int .i64 0,.int .i64 0,.int .i64 0])}
theorem Zs3:ZaV Try.prog 42=Zw9:=by kernel_rfl
theorem Zpu:Zh2 Try.prog 42 4=true:=by decide+kernel
def Zw8:Option TI:=some {k:=.struct [some (0,1,false),some (1,1,false)],agg:=true,size:=2,bytes:=16,zero:=some (.agg #[.int .i64 0,.int .i64 0])}
theorem Zs2:ZaV Try.prog 49=Zw8:=by kernel_rfl
theorem Zpt:Zh2 Try.prog 49 2=true:=by decide+kernel
def Zw7:Option TI:=some {k:=.slice 97 2 16,agg:=false,size:=1,bytes:=24,zero:=some (.slice none 0 0)}
theorem Zs1:ZaV Try.prog 50=Zw7:=by kernel_rfl
theorem Zsw:Try.prog.underlying 50=some (.slice 97):=by kernel_rfl
def Zw6:Option TI:=some {k:=.func,agg:=false,size:=1,bytes:=8,zero:=some (.nilFunc)}
theorem Zs0:ZaV Try.prog 54=Zw6:=by kernel_rfl
def Zw5:Option TI:=some {k:=.slice 117 2 16,agg:=false,size:=1,bytes:=24,zero:=some (.slice none 0 0)}
theorem ZsZ:ZaV Try.prog 55=Zw5:=by kernel_rfl
theorem Zsv:Try.prog.underlying 55=some (.slice 117):=by kernel_rfl
def Zw4:Option TI:=some {k:=.struct [some (0,1,false),some (1,1,false)],agg:=true,size:=2,bytes:=32,zero:=some (.agg #[.int .i64 0,.slice none 0 0])}
theorem ZsY:ZaV Try.prog 57=Zw4:=by kernel_rfl
def Zw3:Option TI:=some {k:=.slice 119 4 32,agg:=false,size:=1,bytes:=24,zero:=some (.slice none 0 0)}
theorem ZsX:ZaV Try.prog 60=Zw3:=by kernel_rfl
theorem Zsu:Try.prog.underlying 60=some (.slice 119):=by kernel_rfl
def Zw2:Option TI:=some {k:=.struct [some (0,1,false),some (1,1,false),some (2,1,false)],agg:=true,size:=3,bytes:=40,zero:=some (.agg #[.int .i64 0,.int .i64 0,.slice none 0 0])}
theorem ZsW:ZaV Try.prog 62=Zw2:=by kernel_rfl
def Zw1:Option TI:=some {k:=.slice 65 1 24,agg:=false,size:=1,bytes:=24,zero:=some (.slice none 0 0)}
theorem ZsV:ZaV Try.prog 64=Zw1:=by kernel_rfl
theorem Zst:Try.prog.underlying 64=some (.slice 65):=by kernel_rfl
def Zw0:Option TI:=some {k:=.slice 71 3 24,agg:=false,size:=1,bytes:=24,zero:=some (.slice none 0 0)}
theorem ZsU:ZaV Try.prog 65=Zw0:=by kernel_rfl
theorem Zss:Try.prog.underlying 65=some (.slice 71):=by kernel_rfl
def ZwZ:Option TI:=some {k:=.struct [some (0,1,false),some (1,1,false),some (2,1,false)],agg:=true,size:=3,bytes:=24,zero:=some (.agg #[.int .i64 0,.int .i64 0,.int .i64 0])}
theorem ZsT:ZaV Try.prog 71=ZwZ:=by kernel_rfl
theorem Zps:Zh2 Try.prog 71 3=true:=by decide+kernel
def ZwY:Option TI:=some {k:=.int .u64,agg:=false,size:=1,bytes:=8,zero:=some (.int .u64 0)}
theorem ZsS:ZaV Try.prog 73=ZwY:=by kernel_rfl
theorem Zsr:Try.prog.underlying 73=some (.int .u64):=by kernel_rfl
def ZwX:Option TI:=some {k:=.struct [some (0,1,false)],agg:=true,size:=1,bytes:=8,zero:=some (.agg #[.int .u64 0])}
theorem ZsR:ZaV Try.prog 75=ZwX:=by kernel_rfl
theorem Zpr:Zh2 Try.prog 75 1=true:=by decide+kernel
def ZwW:Option TI:=some {k:=.ptr,agg:=false,size:=1,bytes:=8,zero:=some (.pointer none)}
theorem ZsQ:ZaV Try.prog 77=ZwW:=by kernel_rfl
def ZwV:Option TI:=some {k:=.map,agg:=false,size:=1,bytes:=8,zero:=some (.map none)}
theorem ZsP:ZaV Try.prog 81=ZwV:=by kernel_rfl
theorem Zsq:Try.prog.underlying 81=some (.map 86 87):=by kernel_rfl
def ZwU:Option TI:=some {k:=.func,agg:=false,size:=1,bytes:=8,zero:=some (.nilFunc)}
theorem ZsO:ZaV Try.prog 82=ZwU:=by kernel_rfl
def ZwT:Option TI:=some {k:=.func,agg:=false,size:=1,bytes:=8,zero:=some (.nilFunc)}
theorem ZsN:ZaV Try.prog 83=ZwT:=by kernel_rfl
def ZwS:Option TI:=some {k:=.array 6 1,agg:=true,size:=6,bytes:=48,zero:=some (.agg #[.int .i64 0,.int .i64 0,.int .i64 0,.int .i64 0,.int .i64 0,.int .i64 0])}
theorem ZsM:ZaV Try.prog 86=ZwS:=by kernel_rfl
theorem Zsp:Try.prog.underlying 86=some (.array 6 3):=by kernel_rfl
theorem Zpq:Zh2 Try.prog 86 6=true:=by decide+kernel
def ZwR:Option TI:=some {k:=.map,agg:=false,size:=1,bytes:=8,zero:=some (.map none)}
theorem ZsL:ZaV Try.prog 87=ZwR:=by kernel_rfl
theorem Zso:Try.prog.underlying 87=some (.map 90 92):=by kernel_rfl
def ZwQ:Option TI:=some {k:=.array 4 1,agg:=true,size:=4,bytes:=4,zero:=some (.agg #[.bool false,.bool false,.bool false,.bool false])}
theorem ZsK:ZaV Try.prog 88=ZwQ:=by kernel_rfl
theorem Zsn:Try.prog.underlying 88=some (.array 4 4):=by kernel_rfl
def ZwP:Option TI:=some {k:=.struct [some (0,1,false),some (1,1,false)],agg:=true,size:=2,bytes:=16,zero:=some (.agg #[.int .i64 0,.int .i64 0])}
theorem ZsJ:ZaV Try.prog 90=ZwP:=by kernel_rfl
theorem Zpp:Zh2 Try.prog 90 2=true:=by decide+kernel
def ZwO:Option TI:=some {k:=.struct [some (0,1,false),some (1,1,false),some (2,1,false)],agg:=true,size:=3,bytes:=24,zero:=some (.agg #[.int .i64 0,.int .i64 0,.int .i64 0])}
theorem ZsI:ZaV Try.prog 92=ZwO:=by kernel_rfl
theorem Zpo:Zh2 Try.prog 92 3=true:=by decide+kernel
def ZwN:Option TI:=some {k:=.struct [some (0,1,false),some (1,1,false)],agg:=true,size:=2,bytes:=16,zero:=some (.agg #[.int .i64 0,.int .i64 0])}
theorem ZsH:ZaV Try.prog 97=ZwN:=by kernel_rfl
theorem Zpn:Zh2 Try.prog 97 2=true:=by decide+kernel
def Zvc:Option TI:=some {k:=.slice 144 3 24,agg:=false,size:=1,bytes:=24,zero:=some (.slice none 0 0)}
theorem ZqL:ZaV Try.prog 100=Zvc:=by kernel_rfl
theorem Zqc:Try.prog.underlying 100=some (.slice 144):=by kernel_rfl
def Zvb:Option TI:=some {k:=.struct [some (0,1,false),some (1,1,false),some (2,1,false),some (3,1,false)],agg:=true,size:=4,bytes:=48,zero:=some (.agg #[.int .i64 0,.int .i64 0,.int .i64 0,.slice none 0 0])}
theorem ZqK:ZaV Try.prog 102=Zvb:=by kernel_rfl
def Zva:Option TI:=some {k:=.struct [some (0,8,true),some (8,1,false)],agg:=true,size:=9,bytes:=184,zero:=some (.agg #[.slice none 0 0,.slice none 0 0,.slice none 0 0,.int .i64 0,.int .i64 0,.slice none 0 0,.slice none 0 0,.slice none 0 0,.slice none 0 0])}
theorem ZqJ:ZaV Try.prog 111=Zva:=by kernel_rfl
def Zu9:Option TI:=some {k:=.slice 115 3 24,agg:=false,size:=1,bytes:=24,zero:=some (.slice none 0 0)}
theorem ZqI:ZaV Try.prog 112=Zu9:=by kernel_rfl
theorem Zqb:Try.prog.underlying 112=some (.slice 115):=by kernel_rfl
def Zu8:Option TI:=some {k:=.func,agg:=false,size:=1,bytes:=8,zero:=some (.nilFunc)}
theorem ZqH:ZaV Try.prog 113=Zu8:=by kernel_rfl
def Zu7:Option TI:=some {k:=.struct [some (0,2,true),some (2,1,false)],agg:=true,size:=3,bytes:=24,zero:=some (.agg #[.int .i64 0,.int .i64 0,.bool false])}
theorem ZqG:ZaV Try.prog 115=Zu7:=by kernel_rfl
def Zu6:Option TI:=some {k:=.struct [some (0,1,false),some (1,1,false)],agg:=true,size:=2,bytes:=16,zero:=some (.agg #[.int .i64 0,.int .i64 0])}
theorem ZqF:ZaV Try.prog 117=Zu6:=by kernel_rfl
theorem ZnK:Zh2 Try.prog 117 2=true:=by decide+kernel
def Zu5:Option TI:=some {k:=.struct [some (0,1,false),some (1,1,false),some (2,1,false),some (3,1,false)],agg:=true,size:=4,bytes:=32,zero:=some (.agg #[.int .i64 0,.int .i64 0,.int .i64 0,.int .i64 0])}
theorem ZqE:ZaV Try.prog 119=Zu5:=by kernel_rfl
theorem ZnJ:Zh2 Try.prog 119 4=true:=by decide+kernel
def Zu4:Option TI:=some {k:=.func,agg:=false,size:=1,bytes:=8,zero:=some (.nilFunc)}
theorem ZqD:ZaV Try.prog 128=Zu4:=by kernel_rfl
def Zu3:Option TI:=some {k:=.func,agg:=false,size:=1,bytes:=8,zero:=some (.nilFunc)}
theorem ZqC:ZaV Try.prog 129=Zu3:=by kernel_rfl
def Zu2:Option TI:=some {k:=.func,agg:=false,size:=1,bytes:=8,zero:=some (.nilFunc)}
theorem ZqB:ZaV Try.prog 130=Zu2:=by kernel_rfl
def Zu1:Option TI:=some {k:=.func,agg:=false,size:=1,bytes:=8,zero:=some (.nilFunc)}
theorem ZqA:ZaV Try.prog 139=Zu1:=by kernel_rfl
def Zu0:Option TI:=some {k:=.struct [some (0,1,false),some (1,1,false),some (2,1,false)],agg:=true,size:=3,bytes:=24,zero:=some (.agg #[.int .i64 0,.int .i64 0,.int .i64 0])}
theorem Zqz:ZaV Try.prog 144=Zu0:=by kernel_rfl
theorem ZnI:Zh2 Try.prog 144 3=true:=by decide+kernel
def ZuZ:Option TI:=some {k:=.ptr,agg:=false,size:=1,bytes:=8,zero:=some (.pointer none)}
theorem Zqy:ZaV Try.prog 148=ZuZ:=by kernel_rfl
def ZuY:Option TI:=some {k:=.slice 24 1 24,agg:=false,size:=1,bytes:=24,zero:=some (.slice none 0 0)}
theorem Zqx:ZaV Try.prog 155=ZuY:=by kernel_rfl
theorem Zqa:Try.prog.underlying 155=some (.slice 24):=by kernel_rfl
def ZuX:Option TI:=some {k:=.func,agg:=false,size:=1,bytes:=8,zero:=some (.nilFunc)}
theorem Zqw:ZaV Try.prog 159=ZuX:=by kernel_rfl
def ZuW:Option TI:=some {k:=.map,agg:=false,size:=1,bytes:=8,zero:=some (.map none)}
theorem Zqv:ZaV Try.prog 160=ZuW:=by kernel_rfl
theorem Zp9:Try.prog.underlying 160=some (.map 90 3):=by kernel_rfl
def ZuV:Option TI:=some {k:=.func,agg:=false,size:=1,bytes:=8,zero:=some (.nilFunc)}
theorem Zqu:ZaV Try.prog 161=ZuV:=by kernel_rfl
def ZuU:Option TI:=some {k:=.func,agg:=false,size:=1,bytes:=8,zero:=some (.nilFunc)}
theorem Zqt:ZaV Try.prog 163=ZuU:=by kernel_rfl
def ZuT:Option TI:=some {k:=.other,agg:=false,size:=1,bytes:=8,zero:=some (.chan none)}
theorem Zqs:ZaV Try.prog 166=ZuT:=by kernel_rfl
def ZuS:Option TI:=some {k:=.map,agg:=false,size:=1,bytes:=8,zero:=some (.map none)}
theorem Zqr:ZaV Try.prog 172=ZuS:=by kernel_rfl
theorem Zp8:Try.prog.underlying 172=some (.map 3 4):=by kernel_rfl
def ZuR:Option TI:=some {k:=.func,agg:=false,size:=1,bytes:=8,zero:=some (.nilFunc)}
theorem Zqq:ZaV Try.prog 175=ZuR:=by kernel_rfl
def ZuQ:Option TI:=some {k:=.struct [some (0,3,true),some (3,1,false),some (4,1,false)],agg:=true,size:=5,bytes:=72,zero:=some (.agg #[.int .i64 0,.int .i64 0,.slice none 0 0,.int .i64 0,.slice none 0 0])}
theorem Zqp:ZaV Try.prog 178=ZuQ:=by kernel_rfl
def ZuP:Option TI:=some {k:=.array 6 1,agg:=true,size:=6,bytes:=6,zero:=some (.agg #[.bool false,.bool false,.bool false,.bool false,.bool false,.bool false])}
theorem Zqo:ZaV Try.prog 182=ZuP:=by kernel_rfl
theorem Zp7:Try.prog.underlying 182=some (.array 6 4):=by kernel_rfl
def ZuO:Option TI:=some {k:=.slice 187 3 24,agg:=false,size:=1,bytes:=24,zero:=some (.slice none 0 0)}
theorem Zqn:ZaV Try.prog 184=ZuO:=by kernel_rfl
theorem Zp6:Try.prog.underlying 184=some (.slice 187):=by kernel_rfl
def ZuN:Option TI:=some {k:=.struct [some (0,1,false),some (1,1,false),some (2,1,false)],agg:=true,size:=3,bytes:=24,zero:=some (.agg #[.int .i64 0,.int .i64 0,.int .i64 0])}
theorem Zqm:ZaV Try.prog 187=ZuN:=by kernel_rfl
theorem ZnH:Zh2 Try.prog 187 3=true:=by decide+kernel
def ZuM:Option TI:=some {k:=.func,agg:=false,size:=1,bytes:=8,zero:=some (.nilFunc)}
theorem Zql:ZaV Try.prog 189=ZuM:=by kernel_rfl
def ZuL:Option TI:=some {k:=.array 3 2,agg:=true,size:=6,bytes:=48,zero:=some (.agg #[.int .i64 0,.int .i64 0,.int .i64 0,.int .i64 0,.int .i64 0,.int .i64 0])}
theorem Zqk:ZaV Try.prog 190=ZuL:=by kernel_rfl
theorem Zp5:Try.prog.underlying 190=some (.array 3 117):=by kernel_rfl
theorem ZnG:Zh2 Try.prog 190 6=true:=by decide+kernel
def ZuK:Option TI:=some {k:=.struct [some (0,1,false),some (1,1,false),some (2,6,true)],agg:=true,size:=8,bytes:=64,zero:=some (.agg #[.int .i64 0,.int .i64 0,.int .i64 0,.int .i64 0,.int .i64 0,.int .i64 0,.int .i64 0,.int .i64 0])}
theorem Zqj:ZaV Try.prog 192=ZuK:=by kernel_rfl
theorem ZnF:Zh2 Try.prog 192 8=true:=by decide+kernel
def ZuJ:Option TI:=some {k:=.slice 202 3 24,agg:=false,size:=1,bytes:=24,zero:=some (.slice none 0 0)}
theorem Zqi:ZaV Try.prog 193=ZuJ:=by kernel_rfl
theorem Zp4:Try.prog.underlying 193=some (.slice 202):=by kernel_rfl
def ZuI:Option TI:=some {k:=.int .i64,agg:=false,size:=1,bytes:=8,zero:=some (.int .i64 0)}
theorem Zqh:ZaV Try.prog 197=ZuI:=by kernel_rfl
theorem Zp3:Try.prog.underlying 197=some (.int .i64):=by kernel_rfl
def ZuG:Option TI:=some {k:=.struct [some (0,1,false),some (1,1,false),some (2,1,false)],agg:=true,size:=3,bytes:=24,zero:=some (.agg #[.int .i64 0,.int .i64 0,.int .i64 0])}
theorem Zqg:ZaV Try.prog 202=ZuG:=by kernel_rfl
theorem ZnE:Zh2 Try.prog 202 3=true:=by decide+kernel
def Zxn (t : TypeId) : Option TI :=
  bif leN t 88 then
   bif leN t 49 then
    bif leN t 27 then
     bif leN t 22 then
      bif leN t 3 then
       bif leN t 1 then
        bif eqN t 1 then ti1 else none
       else
        bif eqN t 3 then ti3 else none
      else
       bif leN t 4 then
        bif eqN t 4 then ti4 else none
       else
        bif eqN t 22 then Zxl else none
     else
      bif leN t 24 then
       bif leN t 23 then
        bif eqN t 23 then Zxk else none
       else
        bif eqN t 24 then Zxj else none
      else
       bif leN t 26 then
        bif eqN t 26 then Zxi else none
       else
        bif eqN t 27 then Zxh else none
    else
     bif leN t 33 then
      bif leN t 29 then
       bif leN t 28 then
        bif eqN t 28 then Zxg else none
       else
        bif eqN t 29 then Zxf else none
      else
       bif leN t 31 then
        bif eqN t 31 then Zxe else none
       else
        bif eqN t 33 then Zxd else none
     else
      bif leN t 38 then
       bif leN t 35 then
        bif eqN t 35 then Zxc else none
       else
        bif eqN t 38 then Zxb else none
      else
       bif leN t 40 then
        bif eqN t 40 then Zxa else none
       else
        bif leN t 42 then
         bif eqN t 42 then Zw9 else none
        else
         bif eqN t 49 then Zw8 else none
   else
    bif leN t 71 then
     bif leN t 57 then
      bif leN t 54 then
       bif leN t 50 then
        bif eqN t 50 then Zw7 else none
       else
        bif eqN t 54 then Zw6 else none
      else
       bif leN t 55 then
        bif eqN t 55 then Zw5 else none
       else
        bif eqN t 57 then Zw4 else none
     else
      bif leN t 62 then
       bif leN t 60 then
        bif eqN t 60 then Zw3 else none
       else
        bif eqN t 62 then Zw2 else none
      else
       bif leN t 64 then
        bif eqN t 64 then Zw1 else none
       else
        bif leN t 65 then
         bif eqN t 65 then Zw0 else none
        else
         bif eqN t 71 then ZwZ else none
    else
     bif leN t 81 then
      bif leN t 75 then
       bif leN t 73 then
        bif eqN t 73 then ZwY else none
       else
        bif eqN t 75 then ZwX else none
      else
       bif leN t 77 then
        bif eqN t 77 then ZwW else none
       else
        bif eqN t 81 then ZwV else none
     else
      bif leN t 83 then
       bif leN t 82 then
        bif eqN t 82 then ZwU else none
       else
        bif eqN t 83 then ZwT else none
      else
       bif leN t 86 then
        bif eqN t 86 then ZwS else none
       else
        bif leN t 87 then
         bif eqN t 87 then ZwR else none
        else
         bif eqN t 88 then ZwQ else none
  else
   bif leN t 148 then
    bif leN t 113 then
     bif leN t 100 then
      bif leN t 92 then
       bif leN t 90 then
        bif eqN t 90 then ZwP else none
       else
        bif eqN t 92 then ZwO else none
      else
       bif leN t 97 then
        bif eqN t 97 then ZwN else none
       else
        bif eqN t 100 then Zvc else none
     else
      bif leN t 111 then
       bif leN t 102 then
        bif eqN t 102 then Zvb else none
       else
        bif eqN t 111 then Zva else none
      else
       bif leN t 112 then
        bif eqN t 112 then Zu9 else none
       else
        bif eqN t 113 then Zu8 else none
    else
     bif leN t 128 then
      bif leN t 117 then
       bif leN t 115 then
        bif eqN t 115 then Zu7 else none
       else
        bif eqN t 117 then Zu6 else none
      else
       bif leN t 119 then
        bif eqN t 119 then Zu5 else none
       else
        bif eqN t 128 then Zu4 else none
     else
      bif leN t 130 then
       bif leN t 129 then
        bif eqN t 129 then Zu3 else none
       else
        bif eqN t 130 then Zu2 else none
      else
       bif leN t 139 then
        bif eqN t 139 then Zu1 else none
       else
        bif leN t 144 then
         bif eqN t 144 then Zu0 else none
        else
         bif eqN t 148 then ZuZ else none
   else
    bif leN t 178 then
     bif leN t 161 then
      bif leN t 159 then
       bif leN t 155 then
        bif eqN t 155 then ZuY else none
       else
        bif eqN t 159 then ZuX else none
      else
       bif leN t 160 then
        bif eqN t 160 then ZuW else none
       else
        bif eqN t 161 then ZuV else none
     else
      bif leN t 166 then
       bif leN t 163 then
        bif eqN t 163 then ZuU else none
       else
        bif eqN t 166 then ZuT else none
      else
       bif leN t 172 then
        bif eqN t 172 then ZuS else none
       else
        bif leN t 175 then
         bif eqN t 175 then ZuR else none
        else
         bif eqN t 178 then ZuQ else none
    else
     bif leN t 189 then
      bif leN t 184 then
       bif leN t 182 then
        bif eqN t 182 then ZuP else none
       else
        bif eqN t 184 then ZuO else none
      else
       bif leN t 187 then
        bif eqN t 187 then ZuN else none
       else
        bif eqN t 189 then ZuM else none
     else
      bif leN t 192 then
       bif leN t 190 then
        bif eqN t 190 then ZuL else none
       else
        bif eqN t 192 then ZuK else none
      else
       bif leN t 193 then
        bif eqN t 193 then ZuJ else none
       else
        bif leN t 197 then
         bif eqN t 197 then ZuI else none
        else
         bif eqN t 202 then ZuG else none
def Zxm (t : TypeId) : Option TypeDesc :=
  bif leN t 65 then
   bif leN t 28 then
    bif leN t 22 then
     bif leN t 3 then
      bif eqN t 3 then some (.int .i64) else none
     else
      bif leN t 4 then
       bif eqN t 4 then some (.bool) else none
      else
       bif eqN t 22 then some (.slice 3) else none
    else
     bif leN t 24 then
      bif leN t 23 then
       bif eqN t 23 then some (.slice 57) else none
      else
       bif eqN t 24 then some (.slice 62) else none
     else
      bif leN t 27 then
       bif eqN t 27 then some (.slice 49) else none
      else
       bif eqN t 28 then some (.slice 42) else none
   else
    bif leN t 50 then
     bif leN t 35 then
      bif leN t 29 then
       bif eqN t 29 then some (.slice 40) else none
      else
       bif eqN t 35 then some (.int .i64) else none
     else
      bif leN t 38 then
       bif eqN t 38 then some (.slice 4) else none
      else
       bif eqN t 50 then some (.slice 97) else none
    else
     bif leN t 60 then
      bif leN t 55 then
       bif eqN t 55 then some (.slice 117) else none
      else
       bif eqN t 60 then some (.slice 119) else none
     else
      bif leN t 64 then
       bif eqN t 64 then some (.slice 65) else none
      else
       bif eqN t 65 then some (.slice 71) else none
  else
   bif leN t 112 then
    bif leN t 86 then
     bif leN t 73 then
      bif eqN t 73 then some (.int .u64) else none
     else
      bif leN t 81 then
       bif eqN t 81 then some (.map 86 87) else none
      else
       bif eqN t 86 then some (.array 6 3) else none
    else
     bif leN t 88 then
      bif leN t 87 then
       bif eqN t 87 then some (.map 90 92) else none
      else
       bif eqN t 88 then some (.array 4 4) else none
     else
      bif leN t 100 then
       bif eqN t 100 then some (.slice 144) else none
      else
       bif eqN t 112 then some (.slice 115) else none
   else
    bif leN t 182 then
     bif leN t 160 then
      bif leN t 155 then
       bif eqN t 155 then some (.slice 24) else none
      else
       bif eqN t 160 then some (.map 90 3) else none
     else
      bif leN t 172 then
       bif eqN t 172 then some (.map 3 4) else none
      else
       bif eqN t 182 then some (.array 6 4) else none
    else
     bif leN t 190 then
      bif leN t 184 then
       bif eqN t 184 then some (.slice 187) else none
      else
       bif eqN t 190 then some (.array 3 117) else none
     else
      bif leN t 193 then
       bif eqN t 193 then some (.slice 202) else none
      else
       bif eqN t 197 then some (.int .i64) else none
def Zxo (t : TypeId) (n : Nat) : Bool :=
  bif leN t 92 then
   bif leN t 71 then
    bif leN t 42 then
     bif eqN t 42 then eqN n 4 else false
    else
     bif leN t 49 then
      bif eqN t 49 then eqN n 2 else false
     else
      bif eqN t 71 then eqN n 3 else false
   else
    bif leN t 86 then
     bif leN t 75 then
      bif eqN t 75 then eqN n 1 else false
     else
      bif eqN t 86 then eqN n 6 else false
    else
     bif leN t 90 then
      bif eqN t 90 then eqN n 2 else false
     else
      bif eqN t 92 then eqN n 3 else false
  else
   bif leN t 144 then
    bif leN t 117 then
     bif leN t 97 then
      bif eqN t 97 then eqN n 2 else false
     else
      bif eqN t 117 then eqN n 2 else false
    else
     bif leN t 119 then
      bif eqN t 119 then eqN n 4 else false
     else
      bif eqN t 144 then eqN n 3 else false
   else
    bif leN t 190 then
     bif leN t 187 then
      bif eqN t 187 then eqN n 3 else false
     else
      bif eqN t 190 then eqN n 6 else false
    else
     bif leN t 192 then
      bif eqN t 192 then eqN n 8 else false
     else
      bif eqN t 202 then eqN n 3 else false
def tb:Tb:={ti:=Zxn,un:=Zxm,eqs:=Zxo}
theorem Zas {α:Type} {b:Bool} {x y:α} {r:α} {C:Prop} (hx:x=r→C) (hy:y=r→C):(bif b then x else y)=r→C:=fun h=>by
 cases b
 ·exact hy h
 ·exact hx h
theorem Zxs {α:Type} {f:Nat→Option α} {t k:Nat} {e:Option α} {i:α} (hk:f k=e):(bif eqN t k then e else none)=some i→f t=some i:=fun h=>by
 cases hb:eqN t k
 ·rw[hb]at h;cases h
 ·rw[hb]at h
  rw[Zav hb]
  exact hk.trans h
theorem Zwf {t k n m:Nat} {C:Nat→Nat→Prop} (hk:C k m):(bif eqN t k then eqN n m else false)=true→C t n:=fun h=>by
 cases hb:eqN t k
 ·rw[hb]at h;cases h
 ·rw[hb]at h
  rw[Zav hb,Zav h]
  exact hk
theorem lkT {t k:Nat} {e:Option TI} {i:TI} (hk:ZaV Try.prog k=e):(bif eqN t k then e else none)=some i→ZaV Try.prog t=some i:=Zxs hk
theorem lkU {t k:Nat} {e:Option TypeDesc} {i:TypeDesc} (hk:Try.prog.underlying k=e):(bif eqN t k then e else none)=some i→Try.prog.underlying t=some i:=Zxs hk
theorem lkE {t k n m:Nat} (hk:Zh2 Try.prog k m=true):(bif eqN t k then eqN n m else false)=true→Zh2 Try.prog t n=true:=Zwf (C:=fun t n=>Zh2 Try.prog t n=true) hk
theorem Zge (t:TypeId) (i:TI):Zxn t=some i→ZaV Try.prog t=some i:=
 (Zas (Zas (Zas (Zas (Zas (Zas (lkT ZuH) (lkT ZuF)) (Zas (lkT ZuE) (lkT Ztf))) (Zas (Zas (lkT Zte) (lkT Ztd)) (Zas (lkT Ztc) (lkT Ztb)))) (Zas (Zas (Zas (lkT Zta) (lkT Zs9)) (Zas (lkT Zs8) (lkT Zs7))) (Zas (Zas (lkT Zs6) (lkT Zs5)) (Zas (lkT Zs4) (Zas (lkT Zs3) (lkT Zs2)))))) (Zas (Zas (Zas (Zas (lkT Zs1) (lkT Zs0)) (Zas (lkT ZsZ) (lkT ZsY))) (Zas (Zas (lkT ZsX) (lkT ZsW)) (Zas (lkT ZsV) (Zas (lkT ZsU) (lkT ZsT))))) (Zas (Zas (Zas (lkT ZsS) (lkT ZsR)) (Zas (lkT ZsQ) (lkT ZsP))) (Zas (Zas (lkT ZsO) (lkT ZsN)) (Zas (lkT ZsM) (Zas (lkT ZsL) (lkT ZsK))))))) (Zas (Zas (Zas (Zas (Zas (lkT ZsJ) (lkT ZsI)) (Zas (lkT ZsH) (lkT ZqL))) (Zas (Zas (lkT ZqK) (lkT ZqJ)) (Zas (lkT ZqI) (lkT ZqH)))) (Zas (Zas (Zas (lkT ZqG) (lkT ZqF)) (Zas (lkT ZqE) (lkT ZqD))) (Zas (Zas (lkT ZqC) (lkT ZqB)) (Zas (lkT ZqA) (Zas (lkT Zqz) (lkT Zqy)))))) (Zas (Zas (Zas (Zas (lkT Zqx) (lkT Zqw)) (Zas (lkT Zqv) (lkT Zqu))) (Zas (Zas (lkT Zqt) (lkT Zqs)) (Zas (lkT Zqr) (Zas (lkT Zqq) (lkT Zqp))))) (Zas (Zas (Zas (lkT Zqo) (lkT Zqn)) (Zas (lkT Zqm) (lkT Zql))) (Zas (Zas (lkT Zqk) (lkT Zqj)) (Zas (lkT Zqi) (Zas (lkT Zqh) (lkT Zqg))))))))
theorem Zgd (t:TypeId) (d:TypeDesc):Zxm t=some d→Try.prog.underlying t=some d:=
 (Zas (Zas (Zas (Zas (lkU ZuB) (Zas (lkU ZuA) (lkU ZsE))) (Zas (Zas (lkU ZsD) (lkU ZsC)) (Zas (lkU ZsB) (lkU ZsA)))) (Zas (Zas (Zas (lkU Zsz) (lkU Zsy)) (Zas (lkU Zsx) (lkU Zsw))) (Zas (Zas (lkU Zsv) (lkU Zsu)) (Zas (lkU Zst) (lkU Zss))))) (Zas (Zas (Zas (lkU Zsr) (Zas (lkU Zsq) (lkU Zsp))) (Zas (Zas (lkU Zso) (lkU Zsn)) (Zas (lkU Zqc) (lkU Zqb)))) (Zas (Zas (Zas (lkU Zqa) (lkU Zp9)) (Zas (lkU Zp8) (lkU Zp7))) (Zas (Zas (lkU Zp6) (lkU Zp5)) (Zas (lkU Zp4) (lkU Zp3))))))
theorem Zgf (t n:Nat):Zxo t n=true→Zh2 Try.prog t n=true:=
 (Zas (Zas (Zas (lkE Zpu) (Zas (lkE Zpt) (lkE Zps))) (Zas (Zas (lkE Zpr) (lkE Zpq)) (Zas (lkE Zpp) (lkE Zpo)))) (Zas (Zas (Zas (lkE Zpn) (lkE ZnK)) (Zas (lkE ZnJ) (lkE ZnI))) (Zas (Zas (lkE ZnH) (lkE ZnG)) (Zas (lkE ZnF) (lkE ZnE)))))
theorem hT:tb.Of ((fun _=>Try.prog:Unit→Program) ()):=⟨Zge,Zgd,Zgf⟩
theorem hm:((fun _=>Try.prog:Unit→Program) ()).follows .mixedOrders=true:=by decide+kernel
def tbF (kp rs:Bool):Tb:={tb with kp,rs}
theorem hTF (kp rs:Bool):(tbF kp rs).Of ((fun _=>Try.prog:Unit→Program) ()):=⟨Zge,Zgd,Zgf⟩
end Go.Proofs.Ytjgpiclllehgmaa.Vm
