/- Lemmas. -/
import Derived.Test.YtjgpiclllehgmaaGreatB2
import Derived.Test.YtjgpiclllehgmaaGreatB0
set_option linter.all false
open Bool renaming false_eq_true->aY,false_ne_true->aO,false_or->bZ,not_false->eE,not_true->ef,true_or->cS
open Int renaming le_of_lt->gD,pow_pos->gR,toNat_natCast->aV
open List renaming any_cons->eQ,any_eq_true->cZ,any_nil->fJ,drop_eq_nil_of_le->bB,getD_eq_getElem?_getD->aA,getElem?_eq_getElem->aD,getElem?_eq_some_iff->aE,getElem?_map->aQ,getElem?_set_ne->cU,getElem?_set_self->cV,getElem?_take_of_lt->gF,getElem_map->fD,getElem_mem->bM,length->fR,length_append->bA,length_cons->bF,length_map->aX,length_nil->cF,length_set->bP,length_take->bW,map_append->cY,mem_cons_of_mem->aS,mem_cons_self->aW,mem_of_getElem?->bf,set_set->iM,take_of_length_le->dT,take_sublist_take_left->gq
open Nat renaming add_mul->dI,eq_zero_or_pos->cK,le_refl->aI,le_succ->eK,le_trans->cD,lt_irrefl->dJ,mod_lt->eJ,mul_comm->eg,mul_le_mul->fM,mul_le_mul_right->aL,zero_le->aT
open Option renaming map_eq_some_iff->aG
open Go.Proofs.Tryz renaming prog->aB
namespace Go.Proofs.YtjgpiclllehgmaaGreat
namespace Vm
attribute [local irreducible] Dn
open Go Go.Proofs Sp
set_option maxRecDepth 100000
set_option maxHeartbeats 4000000
def Zdm (l:List Sp.Call) (st f t:Int):Int:=if ZP l f st<=t then ZP l f st else-1
theorem Zhc (n a b:Int):SC (λ_=>aB) 84 [.int .i64 λ_=>n,.int .i64 λ_=>a,.int .i64 λ_=>b] [] λr h=>r= .bool (λ_=> !Qw n a b)/\h=[]:=by
 refine Qq Tryz.func84 (body:=Zj Tryz.f84) rfl (by decide+kernel) ?_;refine wS ?_;refine⟨?_,trivial⟩;congr 1;funext _;unfold Qw Y5;rw[Bool.not_not];cases decide (a<=n)<;>rfl
theorem Zvv (l:List Sp.Call) (st f t:Int) (hl:l.length<=1000000) (U:0<=f) (hf:f<=1000000) (ht:-1<=t) (aa:t<=1000000):SC (λ_=>aB) 153 [lst 3 XY default l,.int .i64 λ_=>st,.int .i64 λ_=>f,.int .i64 λ_=>t] [] λr h=>r= .int .i64 (λ_=>Zdm l st f t)/\h=[]:=by
 obtain⟨Y,O⟩:=Zm;rw[Za O];generalize H:Zdm l st f t=E;unfold Zdm ZP at H;obtain⟨A,U⟩:∃A:Nat,f=(A:Int):=⟨f.toNat,by omega⟩;subst U;rw[show max 0 (A:Int)=A by omega,aV]at H;refine Qq Tryz.func153 (body:=Zj Tryz.f153) rfl (by decide+kernel) ?_;refine wS ?_;refine ZG false false [] [0,1,3,9] [] (λ(i:Nat)=>[(9,.int .i64 λ_=>i)]) (λ_=>[]) (λi=>A<=i/\i<=max A l.length/\Zu (λc=>decide (c.station=st)) (A:Int) (l.drop A)=Zu (λc=>decide (c.station=st)) i (l.drop i)) (λi=>max A l.length-i+0) A ⟨aI _,by omega,rfl⟩ ?_ ?_
 ·exact ZB
 rintro i ⟨ab,hi,S⟩;rw[S]at H;refine wS ?_;refine⟨λI=>?_,λI=>?_⟩
 ·have J:(i:Int)<=t:=by
   cases ha:decide ((i:Int)<=t)with
   |true=>exact iW ha
   |false=>rw[ha]at I;cases I
  have Z:(i:Int)<l.length:=by
   rw[iZ J]at I;exact iW I
  have hd:=Qs (d:=default) O (l:=l) (i:=i) (by omega);have V:Zu (λc:Sp.Call=>decide (c.station=st)) (i:Int) (l.drop i)=if decide ((Y Sp.Call default l i).station=st)=true then(i:Int)else Zu (λc:Sp.Call=>decide (c.station=st)) ((i:Int)+1) (l.drop (i+1)):=by rw[hd,Zu]
  rw[V]at H S;refine wS ?_;refine⟨λG=>?_,λG=>?_⟩
  ·have G:=eq_of_beq G;rw[iP (c:=decide ((Y Sp.Call default l i).station=st)=true) (by simpa using G),iP J]at H;subst H;exact zW
  have G:=ne_of_beq_false G;rw[iN (by simpa using G)]at S;refine wS ?_;refine⟨i+1,⟨by omega,by omega,S⟩,by show max A l.length-(i+1)+0<max A l.length-i+0;omega,?_⟩;exact ZB
 have he:E=-1:=by
  by_cases J:(i:Int)<=t
  ·rw[iZ J]at I;have Z:=iX I;rw[show l.drop i=[]from bB (by omega)]at H;unfold Zu at H;rw[<-H];split<;>rfl
  have:=XX (q:=λc:Sp.Call=>decide (c.station=st)) (l:=l.drop i) (i:=(i:Int)) (by omega);rw[<-H];split
  ·omega
  rfl
 subst he;exact zW
theorem ZdL (l:List Sp.Call) (st:Int):Zdm l st 1 (l.length-1)=Zv l st:=by
 unfold Zdm Zv;have:=YL l 1 st;rw[iP (by omega)]
theorem ZjS (l:List Sp.Call) (st:Int):Zdm l st 0 (l.length-2)=ZJ l st:=by
 unfold Zdm ZJ;by_cases h:ZP l 0 st<(l.length:Int)-1
 ·rw[iP h,iP (by omega)]
 rw[iN h,iN (by omega)]
def ZdY (c:List (List Sp.Call)) (f t st:Int):Int×Int×Bool:=
 if(Qw f 0 (c.length-1)||Qw t 0 (c.length-1))=true then(0,0,false)
 else(Zv (c.getD f.toNat []) st,ZJ (c.getD t.toNat []) st,bif decide (0<=Zv (c.getD f.toNat []) st)then decide (0<=ZJ (c.getD t.toNat []) st)else false)
theorem Ztq {f:FuncId} {xs I:List AV} {h:List Zh} {A Q:AV->List Zh->Prop} {B:Prop} (H:SC (λ_=>aB) f I [] Q) (k:B) (t:SC (λ_=>aB) f I [] Q->HdW B->SC (λ_=>aB) f xs h A:=by intro S hW;refine ZN S (by first|rfl|(simp only[Ze,Zd,Zf,Zc,Zp,encSp,Za O];rfl)) λr J G=>?_;(try simp only[Ze,Zd,Zf,Zc,Zp,encSp,Za O]at G);obtain⟨rfl,rfl⟩:=G;exact hW.out):SC (λ_=>aB) f xs h A:=t H ⟨k⟩
theorem Zxj (c:List (List Sp.Call)) (f t st:Int) (V:Jg c):SC (λ_=>aB) 104 [lst 1 Zc [] c,.int .i64 λ_=>f,.int .i64 λ_=>t,.int .i64 λ_=>st] [] λv h=>v= .tup [.int .i64 λ_=>(ZdY c f t st).1,.int .i64 λ_=>(ZdY c f t st).2.1,.bool λ_=>(ZdY c f t st).2.2]/\h=[]:=by
 obtain⟨S,O⟩:=Zm;rw[ZaN O];refine SC.less (Qq Tryz.func104 (body:=Zj Tryz.f104) rfl (by decide+kernel) ?_);have aa:=V.len;have k1:=Zhc f 0 (c.length-1);have k2:=Zhc t 0 (c.length-1);have G:∀i:Int,0<=i->i<=(c.length:Int)-1->S (List Sp.Call) [] c i∈c:=λi h0 H=>by
  have:i.toNat<c.length:=by omega
  rw[O,aA,aD this];exact bM _
 generalize A:ZdY c f t st=E;unfold ZdY at A;rw[<-O (List Sp.Call) [] c f,<-O (List Sp.Call) [] c t]at A;refine wS ?_;refine Ztq (k1) ?_;cases H:Qw f 0 ((c.length:Int)-1)with
 |true=>
  rw[H,cS,iP rfl]at A;subst A;refine wS ?_;refine Br.isF rfl ?_;refine wS ?_;refine Br.isT rfl ?_;refine wS ?_;refine⟨_,[],?_,rfl,rfl⟩;exact ZB
 |false=>
  rw[H,bZ]at A;refine wS ?_;refine Br.isT rfl ?_;refine wS ?_;refine Ztq (k2) ?_;cases h2:Qw t 0 ((c.length:Int)-1)with
  |true=>
   rw[h2,iP rfl]at A;subst A;refine wS ?_;refine Br.isT rfl ?_;refine wS ?_;refine⟨_,[],?_,rfl,rfl⟩;exact ZB
  |false=>
   rw[h2,iN aO]at A;refine wS ?_;refine Br.isF rfl ?_;have Z:=QE H;have b2:=QE h2;have m1:=G _ Z.1 Z.2;have m2:=G _ b2.1 b2.2;refine vS ?_;generalize J:S (List Sp.Call) [] c f=F at*;generalize hT:S (List Sp.Call) [] c t=U at*;have r1:=V.row _ m1;have r2:=V.row _ m2;have I:=Zvv F st 1 (F.length-1) (by omega) (by omega) (by omega) (by omega) (by omega);have Y:=Zvv U st 0 (U.length-2) (by omega) (by omega) (by omega) (by omega) (by omega);rw[ZdL]at I;rw[ZjS]at Y;simp only[Za O]at I Y;try simp only[J,hT]
   try refine Chk.mk (ZH) ?_
   refine Ztq (I) ?_;refine vS ?_;try simp only[J,hT]
   try refine Chk.mk (ZH) ?_
   refine Ztq (Y) ?_;subst A;refine vS ?_;try simp only[J,hT]
   try refine Chk.mk (ZH) ?_
   refine⟨_,[],?_,rfl,rfl⟩;exact ZB
def byV (y:List Int) (run leg:Int):Nat->List ZR->Int
 |_,[]=>0
 |i,d::r=>if d.run=run/\d.leg=leg then y.getD i 0 else byV y run leg (i+1) r
theorem Zx8 (t:Zb) (y:List Int) (run leg:Int) (Y:t.delays.length<=1000000) (Z:y.length=t.delays.length):SC (λ_=>aB) 193 [Zf t,lst 1 QO 0 y,.int .i64 λ_=>run,.int .i64 λ_=>leg] [] λv h=>v= .int .i64 (λ_=>byV y run leg 0 t.delays)/\h=[]:=by
 obtain⟨U,O⟩:=Zm;refine Qq Tryz.func193 (body:=Zj Tryz.f193) rfl (by decide+kernel) ?_;generalize S:byV y run leg 0 t.delays=E;unfold Zf;simp only[Za O];refine wS ?_;refine ZG false false [] [1,2,3,4,9] [] (λ(i:Nat)=>[(9,.int .i64 λ_=>i)]) (λ_=>[]) (λi=>i<=t.delays.length/\byV y run leg i (t.delays.drop i)=E) (λi=>t.delays.length-i+0) 0 ⟨aT _,S⟩ ?_ ?_
 ·exact ZB
 rintro i ⟨hi,A⟩;refine wS ?_;refine⟨λH=>?_,λH=>?_⟩
 ·have H:=iW H;have I:=Qs (d:=default) O (l:=t.delays) (i:=i) (by omega);rw[I]at A;unfold byV at A;simp only[Zp,Za O];generalize V:U ZR default t.delays i=x at*;refine vS ?_;try simp only[V]
  try refine Chk.mk (ZH) ?_
  have J:(bif x.run==run then x.leg==leg else false)=decide (x.run=run/\x.leg=leg):=by
   by_cases e1:x.run=run<;>by_cases e2:x.leg=leg<;>simp[e1,e2]
  refine⟨λG=>?_,λG=>?_⟩
  ·rw[J]at G;rw[iP (iW G),XL O]at A;subst A;exact zW
  rw[J]at G;rw[iN (iX G)]at A;refine wS ?_;refine⟨i+1,⟨by omega,A⟩,by show t.delays.length-(i+1)+0<t.delays.length-i+0;omega,?_⟩;exact ZB
 have H:=iX H;rw[bB (by omega)]at A;unfold byV at A;subst A;exact zW
theorem Zyk (H all:Int):SC (λ_=>aB) 118 [.int .i64 λ_=>H,.int .i64 λ_=>all] [] λr h=>r= .int .i64 (λ_=>Zbq H (all-H))/\h=[]:=by
 refine Qq Tryz.func118 (body:=Zj Tryz.f118) rfl (by decide+kernel) ?_;unfold Zbq;refine wS ?_;refine⟨λG=>?_,λG=>?_⟩
 ·have G:=eq_of_beq G;rw[iP (by omega)];exact zW
 have G:=ne_of_beq_false G;rw[iN (by omega)];refine wS ?_;refine⟨λA=>?_,λA=>?_⟩
 ·have A:=eq_of_beq A;rw[iP (by omega)];exact zW
 have A:=ne_of_beq_false A;rw[iN (by omega)];exact zW
end Vm
namespace Sp
open Vm
def lenAt (ds:List ZR) (m:Nat):Nat:=(ds.getD m default).by_.length
def stepT (ds:List ZR):Nat->List Int->Option (List Int)
 |0,_=>none
 |m+1,x=>if x.getD m 0=(lenAt ds m:Int)-1 then stepT ds m (x.set m 0)else some (x.set m (x.getD m 0+1))
def ZmB:List Int:=[0,0,0,0,0,0]
def Yb (ds:List ZR):Nat->Nat->List Int
 |0,_=>ZmB
 |m+1,n=>(Yb ds m (n/lenAt ds m)).set m ((n%lenAt ds m:Nat):Int)
def Yu (ds:List ZR):Nat->Nat
 |0=>1
 |m+1=>Yu ds m*lenAt ds m
def manyT (t:Zb):Nat:=Yu t.delays t.delays.length
def Zi (t:Zb) (n:Nat):List Int:=Yb t.delays t.delays.length n
theorem XG {ds:List ZR}:∀(m n:Nat),(Yb ds m n).length=6
 |0,_=>rfl
 |m+1,n=>by unfold Yb;rw[bP];exact XG m _
theorem Jb {ds:List ZR}:∀(m n k:Nat),m<=k->(Yb ds m n).getD k 0=0
 |0,_,k,_=>by
  unfold Yb ZmB;match k with
  |0|1|2|3|4|5=>rfl
  |k+6=>rfl
 |m+1,n,k,h=>by
  unfold Yb;rw[aA,cU (by omega),<-aA];exact Jb m _ k (by omega)
theorem Zjm {ds:List ZR} (m n:Nat) (hm:m<6):(Yb ds m n).set m 0=Yb ds m n:=by
 refine List.ext_getElem? λi=>?_;by_cases h:m=i
 ·subst h;rw[cV (by rw[XG];exact hm)];have A:=Jb (ds:=ds) m n m (aI _);rw[aA,aD (by rw[XG];exact hm)]at A;rw[aD (by rw[XG];exact hm)];exact congrArg some A.symm
 rw[cU h]
theorem ZkM {ds:List ZR} (I:∀m,m<ds.length->1<=lenAt ds m) (V:ds.length<=6):∀(m n:Nat),m<=ds.length->n<Yu ds m->stepT ds m (Yb ds m n)=if n+1<Yu ds m then some (Yb ds m (n+1))else none
 |0,n,_,h=>by
  unfold Yu at*;rw[iN (by omega)];rfl
 |m+1,n,hm,h=>by
  have hl:=I m (by omega);unfold Yu at h|-;have Y:n/lenAt ds m<Yu ds m:=Nat.div_lt_of_lt_mul (by rw[eg];exact h);have Z:=ZkM I V m (n/lenAt ds m) (by omega) Y;have hx:(Yb ds (m+1) n).getD m 0=((n%lenAt ds m:Nat):Int):=by
   show((Yb ds m (n/lenAt ds m)).set m _).getD m 0=_;rw[aA,cV (by rw[XG];omega)];rfl
  have aa:=Nat.div_add_mod n (lenAt ds m);have ab:=eJ n (show lenAt ds m>0 by omega);unfold stepT;rw[hx];by_cases he:n%lenAt ds m+1=lenAt ds m
  ·rw[iP (by omega)];have U:(Yb ds (m+1) n).set m 0=Yb ds m (n/lenAt ds m):=by
    show((Yb ds m (n/lenAt ds m)).set m _).set m 0=_;rw[iM,Zjm m _ (by omega)]
   have G:n+1=lenAt ds m*(n/lenAt ds m+1):=by rw[Nat.mul_add];omega
   rw[U,Z];by_cases A:n/lenAt ds m+1<Yu ds m
   ·have H:n+1<Yu ds m*lenAt ds m:=by rw[G,eg (lenAt ds m)];exact Nat.mul_lt_mul_of_pos_right A (by omega)
    rw[iP A,iP H];congr 1;show _=(Yb ds m ((n+1)/lenAt ds m)).set m (((n+1)%lenAt ds m:Nat):Int);rw[G,Nat.mul_div_cancel_left _ (by omega),Nat.mul_mod_right];exact(Zjm m _ (by omega)).symm
   rw[iN A,iN];rw[G,eg (lenAt ds m)];have:=aL (lenAt ds m) (show Yu ds m<=n/lenAt ds m+1 by omega);omega
  rw[iN (by omega)];have A:n%lenAt ds m+1<lenAt ds m:=by omega
  have G:n+1=lenAt ds m*(n/lenAt ds m)+(n%lenAt ds m+1):=by omega
  have S:(n+1)/lenAt ds m=n/lenAt ds m:=by
   rw[G,Nat.mul_add_div (by omega),Nat.div_eq_of_lt A];omega
  have J:(n+1)%lenAt ds m=n%lenAt ds m+1:=by
   rw[G,Nat.mul_add_mod,Nat.mod_eq_of_lt A]
  have H:n+1<Yu ds m*lenAt ds m:=by
   have h3:=aL (lenAt ds m) (show n/lenAt ds m+1<=Yu ds m by omega);rw[dI,Nat.one_mul,eg (n/lenAt ds m)]at h3;omega
  rw[iP H];congr 1;show((Yb ds m (n/lenAt ds m)).set m _).set m _=(Yb ds m ((n+1)/lenAt ds m)).set m (((n+1)%lenAt ds m:Nat):Int);rw[iM,S,J];rfl
theorem Zq1 {ds:List ZR} (A:∀m,m<ds.length->1<=lenAt ds m) (G:ds.length<=6):∀(m n:Nat),m<=ds.length->∀k,k<m->0<=(Yb ds m n).getD k 0/\(Yb ds m n).getD k 0<lenAt ds k
 |0,_,_,k,h=>by omega
 |m+1,n,hm,k,h=>by
  by_cases he:m=k
  ·subst he;have H:=A m (by omega);have:(Yb ds (m+1) n).getD m 0=((n%lenAt ds m:Nat):Int):=by
    show((Yb ds m (n/lenAt ds m)).set m _).getD m 0=_;rw[aA,cV (by rw[XG];omega)];rfl
   rw[this];have:=eJ n (show lenAt ds m>0 by omega);omega
  have:(Yb ds (m+1) n).getD k 0=(Yb ds m (n/lenAt ds m)).getD k 0:=by
   show((Yb ds m (n/lenAt ds m)).set m _).getD k 0=_;rw[aA,cU he,<-aA]
  rw[this];exact Zq1 A G m _ (by omega) k (by omega)
theorem Zvk {t:Zb} (A:ZA t):∀m,m<t.delays.length->1<=lenAt t.delays m:=λm h=>by
 unfold lenAt;rw[aA,aD h];exact(A.d _ (bM h)).1
theorem Xn {t:Zb} (A:ZA t) (n:Nat):YH t (Zi t n):=⟨XG _ _,λi G=>Zq1 (Zvk A) A.dlen _ n (aI _) i G⟩
theorem ZdI {t:Zb} (A:ZA t) {n:Nat} (G:n<manyT t):stepT t.delays t.delays.length (Zi t n)=if n+1<manyT t then some (Zi t (n+1))else none:=ZkM (Zvk A) A.dlen _ n (aI _) G
theorem Zj8 {ds:List ZR} (A:∀m,m<ds.length->1<=lenAt ds m):∀m,m<=ds.length->1<=Yu ds m
 |0,_=>aI _
 |m+1,h=>fM (Zj8 A m (by omega)) (A m (by omega))
theorem Zki {t:Zb} (A:ZA t):1<=manyT t:=Zj8 (Zvk A) _ (aI _)
theorem Zif {ds:List ZR}:∀m,m<=6->Yb ds m 0=ZmB
 |0,_=>rfl
 |m+1,h=>by
  unfold Yb;rw[Nat.zero_div,Nat.zero_mod];show(Yb ds m 0).set m 0=_;rw[Zjm m 0 (by omega)];exact Zif m (by omega)
theorem ZdH {t:Zb} (A:ZA t):Zi t 0=ZmB:=Zif _ A.dlen
def EndAt (stop:Nat->Bool) (n m:Nat):Prop:=(m=n/\∀j,j<n->stop j=false)\/∃j,m=j+1/\j<n/\stop j=true/\∀i,i<j->stop i=false
def Qn (t:Zb) (x:List Int):List Int:=(List.range t.delays.length).map λi=>(t.delays.getD i default).by_.getD (x.getD i 0).toNat 0
theorem Zf5 (t:Zb) (x:List Int):(Qn t x).length=t.delays.length:=by unfold Qn;rw[aX,List.length_range]
theorem Zrj (t:Zb) (x:List Int) (run leg:Int):∀(l:List ZR) (i:Nat),t.delays.drop i=l->byV (Qn t x) run leg i l=Zhe x run leg i l
 |[],_,_=>rfl
 |d::l,i,h=>by
  have H:i<t.delays.length:=by
   refine Nat.lt_of_not_le λI=>?_;rw[bB I]at h;cases h
  have G:t.delays.getD i default=d:=by
   have A:(t.delays.drop i)[0]? =some d:=by rw[h];rfl
   rw[List.getElem?_drop]at A;rw[aA,show i=i+0 by omega,A];rfl
  have hv:(Qn t x).getD i 0=d.by_.getD (x.getD i 0).toNat 0:=by
   unfold Qn;rw[aA,aQ,List.getElem?_range H];show(t.delays.getD i default).by_.getD _ 0=_;rw[G]
  unfold byV Zhe;rw[hv,Zrj t x run leg l (i+1) (by rw[<-List.tail_drop,h];rfl)]
theorem ZvN (t:Zb) (x:List Int) (run leg:Int):byV (Qn t x) run leg 0 t.delays=Zdz t x run leg:=Zrj t x run leg _ 0 rfl
def BdW (t:Zb) (w:W3):Prop:=∀r i:Nat,StopIn (callsOf t) r i->(0<=w.co r i/\w.co r i<=QX t r i+60+240*i)/\(0<=w.re r i/\w.re r i<=QX t r i+60+240*i)/\(0<=w.go r i/\w.go r i<=QX t r i+60+240*i)
theorem ZhX {t:Zb} {r i:Nat} (h:StopIn (callsOf t) r i) (hi:0<i):StopIn (callsOf t) r (i-1:Nat):=by
 have h:=h.prev (by omega);rwa [show(i:Int)-1=((i-1:Nat):Int) by omega]at h
def YG (t:Zb) (x:List Int) (w:W3) (r i:Nat):Int:=w.go r (i-1)+(Zs (callsOf t) r i).arrive-(Zs (callsOf t) r (i-1:Nat)).depart+Zdz t x r (i-1:Nat)
theorem Zne {t:Zb} (A:ZA t) (x:List Int) {w:W3} (hw:BdW t w) {r i:Nat} (G:StopIn (callsOf t) r i) (hi:0<i):0<=YG t x w r i/\YG t x w r i<=QX t r i+60+240*i:=by
 have J:=(hw r (i-1) (ZhX G hi)).2.2;have H:=A.asc r i G (by omega);rw[show(i:Int)-1=((i-1:Nat):Int) by omega]at H;have S:=A.nn r i G;have I:=Zd8 A x r (i-1:Nat);unfold YG;unfold QX at*;have:((i-1:Nat):Int)=(i:Int)-1:=by omega
 omega
theorem ZlW {t:Zb} (x:List Int) {w:W3} {r i:Nat}:Zai t x w r i=Zal t (λf a=>w.co f.toNat a.toNat) r i (if 0<i then YG t x w r i else 0):=rfl
theorem ZsY {t:Zb} (A:ZA t) (x:List Int) {w:W3} (hw:BdW t w) {r i:Nat} (H:StopIn (callsOf t) r i):BdW t (Zbb t x w r i):=by
 have U:=A.nn r i H;have I:(0<=(Zai t x w r i).comes/\(Zai t x w r i).comes<=QX t r i+60+240*i)/\(0<=(Zai t x w r i).ready/\(Zai t x w r i).ready<=QX t r i+60+240*i)/\(0<=(Zai t x w r i).goes/\(Zai t x w r i).goes<=QX t r i+60+240*i):=by
  have S:0<=(if 0<i then YG t x w r i else 0)/\(if 0<i then YG t x w r i else 0)<=QX t r i+60+240*i:=by
   split
   ·exact Zne A x hw H (by assumption)
   unfold QX;omega
  rw[ZlW];generalize (if 0<i then YG t x w r i else 0)=c at*;unfold Zal Zdo Zbg;unfold QX at*;by_cases hl:(i:Int)=((Zl (callsOf t) r).length:Int)-1
  ·simp only[iP hl];split<;>omega
  simp only[iN hl];have J:=ZdF A (cm:=λf a=>w.co f.toNat a.toNat) (r:=r) (call:=Zs (callsOf t) r i) (M:=(Zs (callsOf t) r i).depart+60+240*i) (by omega) t.waits (max (Zs (callsOf t) r i).depart c) (λw hw=>hw) (by omega);split<;>omega
 intro a b G;by_cases he:a=r/\b=i
 ·obtain⟨rfl,rfl⟩:=he;unfold Zbb;simp only[Zbs];exact I
 unfold Zbb;simp only[Zeo he];exact hw a b G
theorem ZnV {t:Zb} (x:List Int) (w:W3) {r i:Nat} (A:(i:Int)=((Zl (callsOf t) r).length:Int)-1) (G:0<i):Zbb t x w r i=⟨JK w.co r i (YG t x w r i),JK w.re r i (YG t x w r i),JK w.go r i (YG t x w r i)⟩:=by
 unfold Zbb;rw[ZlW,iP G];generalize YG t x w r i=c;unfold Zal Zdo Zbg;simp only[iP A,iN (show¬(i:Int)=0 by omega)]
def goW (t:Zb) (w:W3) (r i:Nat) (rd:Int):Int:=t.waits.foldl (JS (callsOf t) (λf a=>w.co f.toNat a.toNat) r (Zs (callsOf t) r i)) rd
theorem ZqB {t:Zb} (x:List Int) (w:W3) {r i:Nat} (A:¬(i:Int)=((Zl (callsOf t) r).length:Int)-1) (G:0<=QX t r i):
  Zbb t x w r i=⟨JK w.co r i (bif decide (0<i)then YG t x w r i else goW t w r i (QX t r i)),JK w.re r i (bif decide (0<i)then max (QX t r i) (YG t x w r i)else QX t r i),JK w.go r i (goW t w r i (bif decide (0<i)then max (QX t r i) (YG t x w r i)else QX t r i))⟩:=by
 unfold Zbb;rw[ZlW];unfold Zal Zdo Zbg;simp only[iN A];by_cases h0:0<i
 ·rw[iP h0,iZ h0];simp only[iN (show¬(i:Int)=0 by omega),cond_true];rfl
 rw[iN h0,iY h0];simp only[iP (show(i:Int)=0 by omega),cond_false];rw[show max (Zs (callsOf t) r i).depart 0=QX t r i by unfold QX at*;omega];rfl
def W0:W3:=⟨λ_ _=>0,λ_ _=>0,λ_ _=>0⟩
theorem ZrI {t:Zb} (G:ZA t):BdW t W0:=λr i A=>by
 have:=G.nn r i A;unfold W0 QX;simp only;omega
theorem ZhQ (t:Zb):(Xh t).length=((callsOf t).map fR).sum:=by
 rw[Znt];congr 1;refine List.ext_getElem (by simp) λi H G=>?_;have A:i<(callsOf t).length:=by simpa using G
 rw[fD,fD,List.getElem_range];unfold YF Zl;rw[aV,aA,aD A];rfl
theorem ZmD:∀(c:List (List Call)),(∀l∈c,l.length<=4)->(c.map fR).sum<=4*c.length
 |[],_=>aI _
 |l::c,h=>by
  have G:=h l (aW ..);have H:=ZmD c λx A=>h x (aS _ A);rw[List.map_cons,List.sum_cons,bF];omega
theorem Zp6 {t:Zb} (A:ZA t):(Xh t).length<=16:=by
 rw[ZhQ];have I:=ZmD (callsOf t) λl G=>(A.calls.row l G).2;have H:=A.calls.len;omega
end Sp
namespace Vm
attribute [local irreducible] Dn
open Go Go.Proofs Sp
set_option maxRecDepth 100000
set_option maxHeartbeats 1600000
theorem Zk3 {α:Type} [Inhabited α] {A:(α:Type)->α->List α->Int->α} (O:∀(α:Type) (d:α) (l:List α) (i:Int),A α d l i=l.getD i.toNat d) {q:α->Bool} {l:List α} {k:Nat} (G:k<l.length):(l.take (k+1)).any q=((l.take k).any q||q (A α default l (k:Int))):=by
 rw[X9 (d:=default) O G,List.any_append];simp
theorem ZkW {A:(α:Type)->α->List α->Int->α} (O:∀(α:Type) (d:α) (l:List α) (i:Int),A α d l i=l.getD i.toNat d) (b:Xy):Zd b= .agg [.isl 2 (λ_=>(b.zones.length:Int)) (λe=>encZone (A Zone default b.zones (e ()))) .none,.isl 3 (λ_=>(b.old.length:Int)) (λe=>encTrain (A Train default b.old (e ()))) .none,.isl 3 (λ_=>(b.new.length:Int)) (λe=>encTrain (A Train default b.new (e ()))) .none,.int .i64 λ_=>b.night,.int .i64 λ_=>b.last]:=by
 unfold Zd;simp only[Za O]
theorem ZyZ (b:Xy) (l:List Stop) (hz:b.zones.length<=1000000) (hl:l.length<=1000000):SC (λ_=>aB) 181 [Zd b,lst 4 QK default l] [] λv h=>v= .int .i64 (λ_=>if ZQ l.length 2 4≠0 then ZQ l.length 2 4 else Jd b.zones.length l)/\h=[]:=by
 obtain⟨nt,O⟩:=Zm;generalize S:(if ZQ l.length 2 4≠0 then ZQ l.length 2 4 else Jd b.zones.length l)=E;unfold Zd;simp only[Za O];refine Qq Tryz.func181 (body:=Zj Tryz.f181) rfl (by decide+kernel) ?_;refine wS ?_;refine⟨λh1=>?_,λh1=>?_⟩
 ·simp only[iU]at h1;rw[show ZQ l.length 2 4=7 by unfold ZQ;rw[iP (by omega)],iP (by decide)]at S;subst S;exact zW
 simp only[iV]at h1;refine wS ?_;refine⟨λV=>?_,λV=>?_⟩
 ·simp only[iU]at V;rw[show ZQ l.length 2 4=6 by unfold ZQ;rw[iN (by omega),iP (by omega)],iP (by decide)]at S;subst S;exact zW
 simp only[iV]at V;rw[show ZQ l.length 2 4=0 by unfold ZQ;rw[iN (by omega),iN (by omega)],iN (by decide)]at S;refine wS ?_;refine ZG false false [] [1,2,5] [] (λ(i:Nat)=>[(5,.int .i64 λ_=>(i:Int))]) (λ_=>[]) (λi=>i<=l.length/\Zo (Xm b.zones.length l) i (l.length-i)=E) (λi=>l.length-i+0) 0 ⟨aT _,by simpa [Jd]using S⟩ ?_ ?_
 ·exact ZB
 rintro i ⟨hi,A⟩;refine wS ?_;refine⟨λI=>?_,λI=>?_⟩
 ·simp only[iU]at I;obtain⟨q,hq⟩:∃q,l.length-i=q+1:=⟨l.length-i-1,by omega⟩;rw[hq,Zo]at A;have ab:Xm b.zones.length l i=Jq (l.take i) (nt Stop default l i) (decide (0<i)&&decide ((i:Int)<l.length-1)) b.zones.length:=by unfold Xm;rw[O];rfl
  rw[ab]at A;unfold Jq at A;refine wS ?_;generalize nt Stop default l i=s at*;refine Zc5 (c72 s.station 0 9) ?_;refine vS ?_;refine⟨λh3=>?_,λh3=>?_⟩
  ·simp only[iP h3]at A;rw[iP (by decide)]at A;subst A;exact zW
  simp only[iN (show¬(!Y5 s.station 0 9)=true by rw[h3];exact aO)]at A;refine wS ?_;refine XD λQ Y=>?_;refine ZG false false [] [1,2,5,6,7] [] (λ(k:Nat)=>[(7,.int .i64 λ_=>(k:Int))]) (λ_=>[]) (λk=>k<=i/\(l.take k).any (λx=>decide (x.station=s.station))=false) (λk=>i-k+0) 0 ⟨aT _,by simp⟩ ?_ ?_
  ·exact ZB
  rintro k ⟨hk,U⟩;refine wS ?_;refine⟨λI=>?_,λI=>?_⟩
  ·simp only[iU]at I;have aa:k<l.length:=by omega
   have H:=Zk3 O (q:=λx:Stop=>decide (x.station=s.station)) aa;rw[U,bZ]at H;refine wS ?_;simp only[ZbR];refine⟨λZ=>?_,λZ=>?_⟩
   ·rw[Z]at H;have:(l.take i).any (λx=>decide (x.station=s.station))=true:=by
     rw[cZ]at H|-;obtain⟨x,hx,h⟩:=H;exact⟨x,List.Sublist.subset (gq (by omega)) hx,h⟩
    simp only[iP this]at A;rw[iP (by decide)]at A;subst A;refine wS ?_;refine Y _ _ _ ?_;exact zW
   rw[Z]at H;refine wS ?_;refine⟨k+1,⟨by omega,H⟩,by show i-(k+1)+0<i-k+0;omega,?_⟩;exact ZB
  simp only[iV]at I;obtain rfl:k=i:=by omega
  simp only[U,aY,if_false]at A;refine wS ?_;refine Y _ _ _ ?_;clear Y;refine wS ?_;refine Zc5 (c72 s.zone 0 ((b.zones.length:Int)-1)) ?_;refine vS ?_;refine⟨λh5=>?_,λh5=>?_⟩
  ·simp only[iP h5]at A;rw[iP (by decide)]at A;subst A;exact zW
  simp only[iN (show¬(!Y5 s.zone 0 ((b.zones.length:Int)-1))=true by rw[h5];exact aO)]at A;refine wS ?_;refine Zc5 (c72 s.arrive 0 4319) ?_;refine wS ?_;refine⟨λG=>?_,λG=>?_⟩
  ·have G:Y5 s.arrive 0 4319=true:=by simpa using G
   refine wS ?_;refine Zc5 (c72 s.depart 0 4319) ?_;refine wS ?_;refine⟨λJ=>?_,λJ=>?_⟩
   ·have J:Y5 s.depart 0 4319=false:=by simpa [G]using J
    simp only[G,J,eE,ef,bZ,if_true]at A;rw[iP (by decide)]at A;subst A;exact zW
   have J:Y5 s.depart 0 4319=true:=by simpa [G]using J
   simp only[G,J,ef,bZ,aY,if_false]at A;have he:(decide (0<k)&&decide ((k:Int)<l.length-1)&&decide (s.depart<s.arrive))=(bif bif decide (0<(k:Int))then decide ((k:Int)<(l.length:Int)-1)else false then decide (s.depart<s.arrive)else false):=by
    rw[show decide (0<k)=decide (0<(k:Int))from by rw[Bool.eq_iff_iff];simp];cases decide (0<(k:Int))<;>cases decide ((k:Int)<(l.length:Int)-1)<;>rfl
   rw[he]at A;refine wS ?_;refine⟨λh8=>?_,λh8=>?_⟩
   ·rw[iP h8,iP (by decide)]at A;subst A;exact zW
   simp only[h8,aY,if_false,ne_eq,not_true_eq_false]at A;refine wS ?_;refine⟨k+1,⟨by omega,by rw[<-A];congr 1;omega⟩,by show l.length-(k+1)+0<l.length-k+0;omega,?_⟩;exact ZB
  have G:Y5 s.arrive 0 4319=false:=by simpa using G
  simp only[G,eE,cS,if_true]at A;rw[iP (by decide)]at A;subst A;refine wS ?_;refine Br.isT (by rfl) ?_;exact zW
 simp only[iV]at I;rw[show l.length-i=0 by omega,Zo]at A;subst A;exact zW
theorem c71 (b:Xy) (l:List Train) (hz:b.zones.length<=1000000) (hl:l.length<=1000000) (hs:∀t∈l,t.stops.length<=1000000):SC (λ_=>aB) 140 [Zd b,lst 3 encTrain default l] [] λv h=>v= .int .i64 (λ_=>Qm b.zones.length l)/\h=[]:=by
 obtain⟨H,O⟩:=Zm;unfold Qm;generalize Y:(if ZQ l.length 0 4≠0 then ZQ l.length 0 4 else Zo (Q9 b.zones.length l) 0 l.length)=E;unfold Zd;simp only[Za O];refine Qq Tryz.func140 (body:=Zj Tryz.f140) rfl (by decide+kernel) ?_;refine wS ?_;refine⟨λh2=>?_,λh2=>?_⟩
 ·simp only[iU]at h2;rw[show ZQ l.length 0 4=6 by unfold ZQ;rw[iN (by omega),iP (by omega)],iP (by decide)]at Y;subst Y;exact zW
 simp only[iV]at h2;rw[show ZQ l.length 0 4=0 by unfold ZQ;rw[iN (by omega),iN (by omega)],iN (by decide)]at Y;refine wS ?_;refine ZG false false [] [1,2,5] [] (λ(i:Nat)=>[(5,.int .i64 λ_=>(i:Int))]) (λ_=>[]) (λi=>i<=l.length/\Zo (Q9 b.zones.length l) i (l.length-i)=E) (λi=>l.length-i+0) 0 ⟨aT _,by simpa using Y⟩ ?_ ?_
 ·exact ZB
 rintro i ⟨hi,G⟩;refine wS ?_;refine⟨λJ=>?_,λJ=>?_⟩
 ·simp only[iU]at J;have ac:i<l.length:=by omega
  obtain⟨q,hq⟩:∃q,l.length-i=q+1:=⟨l.length-i-1,by omega⟩;rw[hq,Zo]at G;have ab:=hs _ (Qr (d:=default) O (l:=l) (i:=i) ac);have A:Q9 b.zones.length l i=if !Y5 (H Train default l i).number 1 999 then 1 else if(l.take i).any (λx=>decide (x.number=(H Train default l i).number))then 4 else if !Y5 (H Train default l i).days 1 127 then 1
   else if ZQ (H Train default l i).stops.length 2 4≠0 then ZQ (H Train default l i).stops.length 2 4 else Jd b.zones.length (H Train default l i).stops:=by unfold Q9;rw[O];rfl
  refine wS ?_;refine Zc5 (c72 (H Train default l i).number 1 999) ?_;refine vS ?_;refine⟨λS=>?_,λS=>?_⟩
  ·rw[iP S]at A;rw[A,iP (by decide)]at G;subst G;exact zW
  rw[iN (by rw[S];exact aO)]at A;refine wS ?_;refine XD λQ hQ=>?_;refine ZG false false [] [1,2,5,6] [] (λ(k:Nat)=>[(6,.int .i64 λ_=>(k:Int))]) (λ_=>[]) (λk=>k<=i/\(l.take k).any (λx=>decide (x.number=(H Train default l i).number))=false) (λk=>i-k+0) 0 ⟨aT _,by simp⟩ ?_ ?_
  ·exact ZB
  rintro k ⟨hk,Z⟩;refine wS ?_;refine⟨λJ=>?_,λJ=>?_⟩
  ·simp only[iU]at J;have aa:k<l.length:=by omega
   have I:=Zk3 O (q:=λx:Train=>decide (x.number=(H Train default l i).number)) aa;rw[Z,bZ]at I;refine wS ?_;simp only[ZbR];refine⟨λh4=>?_,λh4=>?_⟩
   ·rw[h4]at I;have:(l.take i).any (λx=>decide (x.number=(H Train default l i).number))=true:=by
     rw[cZ]at I|-;obtain⟨x,hx,h⟩:=I;exact⟨x,List.Sublist.subset (gq (by omega)) hx,h⟩
    rw[iP this]at A;rw[A,iP (by decide)]at G;subst G;refine wS ?_;refine hQ _ _ _ ?_;exact zW
   rw[h4]at I;refine wS ?_;refine⟨k+1,⟨by omega,I⟩,by show i-(k+1)+0<i-k+0;omega,?_⟩;exact ZB
  simp only[iV]at J;obtain rfl:k=i:=by omega
  rw[Z,iN (by exact aO)]at A;refine wS ?_;refine hQ _ _ _ ?_;clear hQ;refine wS ?_;refine Zc5 (c72 (H Train default l (k:Int)).days 1 127) ?_;refine vS ?_;refine⟨λS=>?_,λS=>?_⟩
  ·rw[iP S]at A;rw[A,iP (by decide)]at G;subst G;exact zW
  rw[iN (by rw[S];exact aO)]at A;refine wS ?_;have U:=ZyZ b (H Train default l (k:Int)).stops hz ab;rw[ZkW O]at U;refine ZN U rfl λr ae G=>?_;obtain⟨rfl,rfl⟩:=G;rw[<-A];generalize Q9 b.zones.length l k=e at*;refine vS ?_;refine⟨λV=>?_,λV=>?_⟩
  ·simp only[bne_iff_ne,ne_eq]at V;rw[iP V]at G;subst G;exact zW
  simp only[iC]at V;rw[iN (λh=>h V)]at G;refine wS ?_;refine⟨k+1,⟨by omega,by rw[<-G];congr 1;omega⟩,by show l.length-(k+1)+0<l.length-k+0;omega,?_⟩;exact ZB
 simp only[iV]at J;rw[show l.length-i=0 by omega,Zo]at G;subst G;exact zW
theorem c25 (b:Xy) (I:Xk b):SC (λ_=>aB) 87 [Zd b] [] λv h=>v= .int .i64 (λ_=>Yl b)/\h=[]:=by
 obtain⟨nt,O⟩:=Zm;have hz:=I.zones;have hc:=I.chs;unfold Yl;generalize A:(if ZQ b.zones.length 1 3≠0 then _ else _:Int)=E;have Y:=c71 b b.old hz I.old I.stops.1;have k2:=c71 b b.new hz I.new I.stops.2;unfold Zd at Y k2|-;simp only[Za O]at Y k2|-;refine Qq Tryz.func87 (body:=Zj Tryz.f87) rfl (by decide+kernel) ?_;refine wS ?_;refine⟨λV=>?_,λV=>?_⟩
 ·have V:b.zones.length=0:=by simpa using V
  rw[show ZQ b.zones.length 1 3=7 by unfold ZQ;rw[iP (by omega)],iP (by decide)]at A;subst A;exact zW
 have V:¬b.zones.length=0:=by simpa using V
 refine wS ?_;refine⟨λZ=>?_,λZ=>?_⟩
 ·simp only[iU]at Z;rw[show ZQ b.zones.length 1 3=6 by unfold ZQ;rw[iN (by omega),iP (by omega)],iP (by decide)]at A;subst A;exact zW
 simp only[iV]at Z;rw[show ZQ b.zones.length 1 3=0 by unfold ZQ;rw[iN (by omega),iN (by omega)],iN (by decide)]at A;generalize hF:Zo (λi=>Zy (b.zones.getD i default)) 0 b.zones.length=F at*;refine wS ?_;refine XD λQ hQ=>?_;refine ZG false false [] [1,3] [] (λ(i:Nat)=>[(3,.int .i64 λ_=>(i:Int))]) (λ_=>[]) (λi=>i<=b.zones.length/\Zo (λi=>Zy (b.zones.getD i default)) i (b.zones.length-i)=F) (λi=>b.zones.length-i+0) 0 ⟨aT _,by simpa using hF⟩ ?_ ?_
 ·exact ZB
 rintro i ⟨hi,J⟩;refine wS ?_;refine⟨λI=>?_,λI=>?_⟩
 ·simp only[iU]at I;obtain⟨q,hq⟩:∃q,b.zones.length-i=q+1:=⟨b.zones.length-i-1,by omega⟩;rw[hq,Zo]at J;have ab:=hc _ (Qr (d:=default) O (l:=b.zones) (i:=i) (by omega));have aa:b.zones.getD i default=nt Zone default b.zones i:=by rw[O];rfl
  rw[aa]at J;refine wS ?_;generalize nt Zone default b.zones i=z at*;refine Zc5 (c70 z ab) ?_;generalize Zy z=e at*;refine vS ?_;refine⟨λG=>?_,λG=>?_⟩
  ·simp only[bne_iff_ne,ne_eq]at G;rw[iP G]at J;subst J;rw[iP G]at A;subst A;refine wS ?_;refine hQ _ _ _ ?_;exact zW
  simp only[iC]at G;rw[iN (λh=>h G)]at J;refine wS ?_;refine⟨i+1,⟨by omega,by rw[<-J];congr 1;omega⟩,by show b.zones.length-(i+1)+0<b.zones.length-i+0;omega,?_⟩;exact ZB
 simp only[iV]at I;rw[show b.zones.length-i=0 by omega,Zo]at J;subst J;rw[iN (λh=>h rfl)]at A;refine wS ?_;refine hQ _ _ _ ?_;clear hQ;generalize Qm b.zones.length b.old=e1 at*;generalize Qm b.zones.length b.new=e2 at*;refine wS ?_;refine Zc5 (Y) ?_;refine wS ?_;refine⟨λG=>?_,λG=>?_⟩
 ·simp only[bne_iff_ne,ne_eq]at G;rw[iP G]at A;subst A;exact zW
 simp only[iC]at G;rw[iN (λh=>h G)]at A;refine wS ?_;refine Zc5 (k2) ?_;refine wS ?_;refine⟨λU=>?_,λU=>?_⟩
 ·simp only[bne_iff_ne,ne_eq]at U;rw[iP U]at A;subst A;exact zW
 simp only[iC]at U;rw[iN (λh=>h U)]at A;refine wS ?_;have S:=c72 b.last 0 13;rcases hI:Y5 b.last 0 13 with _|_
 ·rw[hI]at S A;simp only[eE,cS,if_true]at A;subst A;refine Zc5 (S) ?_;refine vS ?_;refine Chk.mk (by simp[Xx,Xv,Xw,Cn.p]) ?_;refine Br.isF (by rfl) ?_;refine wS ?_;refine Br.isT (by rfl) ?_;exact zW
 have ac:0<=b.last/\b.last<=13:=by simpa [Y5]using hI
 rw[hI]at S A;simp only[ef,bZ]at A;refine Zc5 (S) ?_;refine wS ?_;refine Br.isT (by rfl) ?_;refine wS ?_;refine Zc5 (c72 b.night 0 (b.last+1)) ?_;refine wS ?_;refine⟨λH=>?_,λH=>?_⟩
 ·have H:Y5 b.night 0 (b.last+1)=false:=by simpa using H
  rw[iP (by simp[H])]at A;subst A;exact zW
 have H:Y5 b.night 0 (b.last+1)=true:=by simpa using H
 rw[iN (by simp[H])]at A;subst A;exact zW
theorem ZyS (b:Xy) (day:Int):SC (λ_=>aB) 168 [Zd b,.int .i64 λ_=>day] [] λv h=>v=lst 3 encTrain default (XC b day)/\h=[]:=by
 refine Qq Tryz.func168 (body:=Zj Tryz.f168) rfl (by decide+kernel) ?_;unfold Zd XC;refine wS ?_;refine⟨λA=>?_,λA=>?_⟩
 ·simp only[iU]at A;rw[iP A];exact zW
 simp only[iV]at A;rw[iN A];exact zW
theorem ZyQ (t:Train) (day:Int) (G:0<=day/\day<=1000000) (A:0<=t.days/\t.days<=1000000):SC (λ_=>aB) 170 [.agg (encTrain t),.int .i64 λ_=>day] [] λv h=>v= .bool (λ_=>Zb8 t day)/\h=[]:=by
 refine Qq Tryz.func170 (body:=Zj Tryz.f170) rfl (by decide+kernel) ?_;have e:=(ZtG day 7).1 G.1;refine vS ?_;rw[e];refine Chk.mk (ZH) ?_;refine vS ?_;refine⟨?_,trivial⟩;congr 1;funext _;rw[Nat.min_eq_left (show(day%7).toNat<=IntKind.i64.bits by show _<=64;omega),Int.fdiv_eq_ediv_of_nonneg _ (gD (gR (by omega)))];have H:0<=t.days/2^(day%7).toNat:=Int.ediv_nonneg A.1 (gD (gR (by omega)));have I:t.days/2^(day%7).toNat<=t.days:=Int.ediv_le_self _ A.1;unfold Zb8;generalize t.days/2^(day%7).toNat=q at*;rw[Znh q H (by omega),ZbR]
theorem ZyR (l:List Train) (n:Int) (J:l.length<=1000000):SC (λ_=>aB) 169 [lst 3 encTrain default l,.int .i64 λ_=>n] [] λv h=>v= .int .i64 (λ_=>place l n)/\h=[]:=by
 obtain⟨S,O⟩:=Zm;unfold place;generalize I:Zu (λt:Train=>decide (t.number=n)) 0 l=E;rw[Za O];refine Qq Tryz.func169 (body:=Zj Tryz.f169) rfl (by decide+kernel) ?_;refine wS ?_;refine ZG false false [] [0,1,5] [] (λ(i:Nat)=>[(5,.int .i64 λ_=>(i:Int))]) (λ_=>[]) (λi=>i<=l.length/\Zu (λt:Train=>decide (t.number=n)) i (l.drop i)=E) (λi=>l.length-i+0) 0 ⟨aT _,by simpa using I⟩ ?_ ?_
 ·exact ZB
 rintro i ⟨U,A⟩;refine wS ?_;refine⟨λH=>?_,λH=>?_⟩
 ·simp only[iU]at H;rw[Qs (d:=default) O (l:=l) (i:=i) (by omega),Zu]at A;refine wS ?_;simp only[ZbR];refine⟨λG=>?_,λG=>?_⟩
  ·rw[iP G]at A;subst A;exact zW
  rw[iN (by rw[G];exact aO)]at A;refine wS ?_;refine⟨i+1,⟨by omega,by rw[<-A];rfl⟩,by show l.length-(i+1)+0<l.length-i+0;omega,?_⟩;exact ZB
 simp only[iV]at H;rw[bB (by omega),Zu]at A;subst A;exact zW
theorem Zjf:∀(l:List Chg) (fr a r t:Int),(∀p∈Q7 fr a l,p.fr<XJ/\r-p.ahd<XJ)->t<XJ->Xe (Q7 fr a l) r t<XJ
 |[],fr,a,r,t,h,ht=>by
  have:=h ⟨fr,XJ,a⟩ (by simp[Q7]);simp only[Q7,Xe]at*;rw[iP (by omega)];omega
 |c::l,fr,a,r,t,h,ht=>by
  unfold Q7 at h|-;split
  ·rename_i A;rw[iP A]at h;unfold Xe;split
   ·have:=h ⟨fr,c.at_,a⟩ (aW ..);simp only at this|-;omega
   exact Zjf l _ _ _ _ (λp G=>h p (aS _ G)) ht
  rename_i A;rw[iN A]at h;exact Zjf l _ _ _ _ h ht
theorem Zm6:∀(l:List Pc) (r t:Int),0<=t->0<=Xe l r t
 |[],_,_,_=>by unfold Xe XJ;omega
 |p::l,r,t,h=>by
  unfold Xe;split
  ·omega
  exact Zm6 l r t h
theorem Zkx {z:Zone} (H:Zy z=0) {r t:Int} (hr:r<=1000000) (A:0<=t/\t<XJ):0<=Xe (ZX z) r t/\Xe (ZX z) r t<XJ:=by
 refine⟨Zm6 _ _ _ A.1,Zjf _ _ _ _ _ (λp G=>?_) A.2⟩;have:=(Zev H).2 p G;unfold XJ;omega
theorem ZyP (b:Xy) (t:Train) (day:Int) (ab:∀z∈b.zones,Zy z=0) (ht:∀s∈t.stops,(0<=s.zone/\s.zone<b.zones.length)/\(0<=s.arrive/\s.arrive<=10000)/\0<=s.depart/\s.depart<=10000) (ac:2<=t.stops.length/\t.stops.length<=1000) (hd:0<=day/\day<=100):
  SC (λ_=>aB) 171 [Zd b,.agg (encTrain t),.int .i64 λ_=>day] [] λv h=>v=lst 3 XY default (calls b.zones t day)/\h=[]:=by
 obtain⟨G,O⟩:=Zm;refine SC.less (ZkO false false [] Tryz.func171 (body:=Zj Tryz.f171) rfl (by decide+kernel) ?_);rw[ZkW O];rw[show AV.agg (encTrain t)= .agg [.int .i64 λ_=>t.number,.int .i64 λ_=>t.days,.isl 4 (λ_=>(t.stops.length:Int)) (λe=>QK (G Stop default t.stops (e ()))) .none] by unfold encTrain;rw[Za O]];refine wS ?_;refine ZG false false [] [2,3,4,7,8,9] [.tok 3 λ_=>0] (λ(⟨i,now,out⟩:Nat×Int×List Sp.Call)=>[(7,.isl 3 (λ_=>(out.length:Int)) (λe=>XY (G Sp.Call default out (e ()))) (.own 2)),(8,.int .i64 λ_=>now),(9,.int .i64 λ_=>(i:Int))])
  (λ⟨i,now,out⟩=>[(2,.tok 3 λ_=>(out.length:Int))])
  (λ⟨i,now,out⟩=>(i<=t.stops.length/\out.length=i/\calls b.zones t day=out++Xc b.zones day t.stops.length i now (t.stops.drop i))/\0<=now/\now<XJ) (λi=>t.stops.length-i.1+0) (0,0,[]) ⟨⟨aT _,rfl,rfl⟩,by decide,by decide⟩ ?_ ?_
 ·(refine To.of [(3,false)] ?_;cbv;(try simp only[nc]);(repeat' first|exact xT|refine⟨?_,?_⟩|refine ZK.cells ?_|refine Zz.agg ?_|refine Zz.tup ?_);all_goals try exact XU)
 rintro⟨i,now,out⟩ ⟨⟨hi,ho,hp⟩,A⟩
 have aa:∀k:Nat,k<t.stops.length->Zy (G Zone default b.zones (G Stop default t.stops (k:Int)).zone)=0:=λk hk=>ab _ (by
  have:=ht _ (Qr (d:=default) O (l:=t.stops) (i:=k) hk)
  rw[O,aA,aD (by omega)];exact bM _)
 have Z:∀z:Int,b.zones.getD z.toNat default=G Zone default b.zones z:=λz=>by rw[O]
 refine wS ?_;refine⟨λU=>?_,λU=>?_⟩
 ·simp only[iU]at U;have J:i<t.stops.length:=by omega
  have hs:=ht _ (Qr (d:=default) O (l:=t.stops) (i:=i) J);have S:=aa i J;rw[Qs (d:=default) O J,Xc]at hp;simp only[Z]at hp;refine wS ?_;generalize G Stop default t.stops (i:Int)=s at*;generalize Y:G Zone default b.zones s.zone=z at*;have ka:=λn A=>ZxB z (1440*day+s.arrive) n S (by omega) A;have kd:=λn A=>ZxB z (1440*day+s.depart) n S (by omega) A;have I:=λn A=>Zkx (t:=n) S (show 1440*day+s.arrive<=1000000 by omega) A;have H:=λn A=>Zkx (t:=n) S (show 1440*day+s.depart<=1000000 by omega) A;generalize hL:ZX z=L at*;rcases cK i with h0|h0
  ·subst h0;rw[iP rfl,iP (by omega)]at hp;refine Br.isF (by simp) ?_;refine wS ?_;refine Br.isT (by simp;omega) ?_;refine vS ?_;simp only[Y];refine Chk.mk (ZH) ?_;refine Zc5 (kd now A) ?_;have H:=H now A;try dsimp only at hp
   generalize Xe L (1440*day+s.depart) now=d at*;refine wS ?_;refine Br.isT (by simp) ?_;refine wS ?_;refine⟨(1,d,out++[⟨s.station,d,d⟩]),⟨⟨by omega,by simp only[bA,bF,cF];omega,by rw[hp];simp⟩,H⟩,by show t.stops.length-1+0<t.stops.length-0+0;omega,?_⟩;exact ZB
  rw[iN (by omega)]at hp;refine Br.isT (by simp;omega) ?_;refine vS ?_;simp only[Y];refine Chk.mk (ZH) ?_;refine Zc5 (ka now A) ?_;have I:=I now A;try dsimp only at hp
  generalize Xe L (1440*day+s.arrive) now=a at*;refine wS ?_;refine⟨λV=>?_,λV=>?_⟩
  ·simp only[iU]at V;rw[iP (by omega)]at hp;refine vS ?_;simp only[Y];refine Chk.mk (ZH) ?_;refine Zc5 (kd a I) ?_;have H:=H a I;generalize Xe L (1440*day+s.depart) a=d at*;refine wS ?_;refine Br.isF (by simp;omega) ?_;refine wS ?_;refine⟨(i+1,d,out++[⟨s.station,a,d⟩]),⟨⟨by omega,by simp only[bA,bF,cF];omega,by rw[hp];simp⟩,H⟩,by show t.stops.length-(i+1)+0<t.stops.length-i+0;omega,?_⟩;exact ZB
  simp only[iV]at V;rw[iN (by omega)]at hp;refine wS ?_;refine Br.isF (by simp;omega) ?_;refine wS ?_;refine⟨(i+1,a,out++[⟨s.station,a,a⟩]),⟨⟨by omega,by simp only[bA,bF,cF];omega,by rw[hp];simp⟩,I⟩,by show t.stops.length-(i+1)+0<t.stops.length-i+0;omega,?_⟩;exact ZB
 simp only[iV]at U;rw[bB (by omega),Xc,List.append_nil]at hp;rw[hp];refine wS ?_;refine⟨lst 3 XY default out,[],?_,rfl,rfl⟩;simp only[Za O];exact ZB
theorem ZnJ (l:List Train) (n:Int):place l n=-1\/0<=place l n/\place l n<l.length:=by
 have:=XX (q:=λt:Train=>decide (t.number=n)) (l:=l) (i:=0) (by omega);rcases cK l.length with h|h
 ·rw[List.eq_nil_of_length_eq_zero h];exact .inl rfl
 unfold place;omega
theorem ZvE (b:Xy) (n day:Int) (hf:Xk b):SC (λ_=>aB) 128 [Zd b,.int .i64 λ_=>n,.int .i64 λ_=>day] [] λv h=>v= .tup [lst 3 XY default (Run b n day).1,.int .i64 λ_=>(Run b n day).2]/\h=[]:=by
 obtain⟨I,O⟩:=Zm;refine SC.less (Qq Tryz.func128 (body:=Zj Tryz.f128) rfl (by decide+kernel) ?_);unfold Zd Run;simp only[Za O];refine wS ?_;refine Zc5 (c25 b hf) ?_;have J:=λh=>ZcV (b:=b) h;generalize Yl b=e at*;refine vS ?_;refine⟨λA=>?_,λA=>?_⟩
 ·simp only[bne_iff_ne,ne_eq]at A;rw[iP A];refine wS ?_;refine⟨_,[],?_,rfl,rfl⟩;exact ZB
 simp only[iC]at A;have H:=J A;subst A;rw[iN (λh=>h rfl)];refine wS ?_;refine Zc5 (c72 day 0 b.last) ?_;refine vS ?_;refine⟨λA=>?_,λA=>?_⟩
 ·rw[iP A];refine wS ?_;refine⟨_,[],?_,rfl,rfl⟩;exact ZB
 rw[iN (by rw[A];exact aO)];have aa:=ZaQ (by simpa using A:Y5 day 0 b.last=true);have Y:=H.last;have S:=Zf7 H day;refine wS ?_;refine Zc5 (ZyS b day) ?_;have ab:=ZnJ (XC b day) n;generalize XC b day=l at*;refine wS ?_;refine Zc5 (ZyR l n (by omega)) ?_;generalize place l n=p at*;refine vS ?_;refine⟨λA=>?_,λA=>?_⟩
 ·simp only[iU]at A;rw[iP A];refine wS ?_;refine⟨_,[],?_,rfl,rfl⟩;exact ZB
 simp only[iV]at A;rw[iN A];obtain⟨k,rfl⟩:∃k:Nat,p=k:=⟨p.toNat,by omega⟩;refine wS ?_;have G:=S.2 _ (Qr (d:=default) O (l:=l) (i:=k) (by omega));have U:l.getD (k:Int).toNat default=I Train default l k:=by rw[O]
 rw[U];have V:=G.days;refine Zc5 (ZyQ (I Train default l k) day (by omega) (by omega)) ?_;refine vS ?_;refine⟨λA=>?_,λA=>?_⟩
 ·rw[iP A];refine wS ?_;refine⟨_,[],?_,rfl,rfl⟩;exact ZB
 rw[iN (by rw[A];exact aO)];refine wS ?_;have Z:=G.len;refine Zc5 (ZyP b (I Train default l k) day H.zones (λs hs=>by obtain⟨_,h1,h2,h3⟩:=G.stops s hs;omega) (by omega) (by omega)) ?_;generalize calls b.zones (I Train default l k) day=C at*;refine wS ?_;refine⟨_,[],?_,rfl,rfl⟩;(try simp only[Jx O]);exact ZB
set_option maxHeartbeats 4000000
theorem Zof {a b:Z6}:a=b↔a.number=b.number/\a.day=b.day:=by
 cases a;cases b;simp
theorem ZvA (t:Zb) (Z:Xk t.book) (hr:t.runs.length<=1000000):SC (λ_=>aB) 89 [Zf t] [] λv h=>v=lst 1 Zc [] (callsOf t)/\h=[]:=by
 obtain⟨V,O⟩:=Zm;refine SC.less (Qq Tryz.func89 (body:=Zj Tryz.f89) rfl (by decide+kernel) ?_);unfold Zf;simp only[Za O];refine wS ?_;refine ZG false false [] [1,3,4] [.tok 1 λ_=>0] (λ(⟨i,out⟩:Nat×List (List Sp.Call))=>[(3,.isl 1 (λ_=>(out.length:Int)) (λe=>Zc (V (List Sp.Call) [] out (e ()))) (.own 1)),(4,.int .i64 λ_=>i)])
  (λ⟨i,out⟩=>[(1,.tok 1 λ_=>(out.length:Int))])
  (λ⟨i,out⟩=>i<=t.runs.length/\out=(t.runs.take i).map (YD t)) (λi=>t.runs.length-i.1+0) (0,[]) ⟨aT _,by simp⟩ ?_ ?_
 ·(refine To.of [(1,false)] ?_;cbv;(try simp only[nc]);(repeat' first|exact xT|refine⟨?_,?_⟩|refine ZK.cells ?_|refine Zz.agg ?_|refine Zz.tup ?_);all_goals try exact XU)
 rintro⟨i,out⟩ ⟨hi,ho⟩;have ab:out.length=i:=by rw[ho];simp;omega
 refine wS ?_;refine⟨λJ=>?_,λJ=>?_⟩
 ·simp only[iU]at J;have G:=X9 (d:=default) O (l:=t.runs) (i:=i) (by omega);generalize Y:V Z6 default t.runs i=d at*;refine vS ?_;simp only[Y];refine Chk.mk (ZH) ?_;have A:=ZvE t.book d.number d.day Z;have S:=ZdN t.book d.number d.day;have H:YD t d=(Run t.book d.number d.day).1:=rfl;unfold Zd at A;simp only[Za O]at A;generalize Run t.book d.number d.day=r at*;obtain⟨C,er⟩:=r;refine ZN (A) (by first|rfl|(simp only[Ze,Zd,Zf,Za O];rfl)) λr aa U=>?_;(try simp only[Ze,Zd,Zf,Za O]at U);obtain⟨rfl,rfl⟩:=U;dsimp only at S H;refine wS ?_;refine⟨(i+1,out++[C]),⟨by omega,by rw[G,cY,ho];simp[H]⟩,by show t.runs.length-(i+1)+0<t.runs.length-i+0;omega,?_⟩;refine Ji ?_;exact .snoc O rfl rfl (by simp only[Zc,Za O];rfl)
 simp only[iV]at J;have I:out=callsOf t:=by rw[ho,dT (by omega)];rfl
 subst I;refine wS ?_;refine⟨_,[],?_,rfl,rfl⟩;exact ZB
theorem Zyw (t:Zb) (hf:Xk t.book) (hr:t.runs.length<=1000000):SC (λ_=>aB) 88 [Zf t] [] λv h=>v= .int .i64 (λ_=>Q5 t)/\h=[]:=by
 obtain⟨S,O⟩:=Zm;refine Qq Tryz.func88 (body:=Zj Tryz.f88) rfl (by decide+kernel) ?_;have V:Q5 t=if t.runs.length=0 then 7 else if 4<t.runs.length then 6 else Zo (JM t) 0 t.runs.length:=rfl
 generalize Q5 t=e at*;unfold Zf;simp only[Za O];refine wS ?_;refine⟨λA=>?_,λA=>?_⟩
 ·have A:=eq_of_beq A;rw[iP (by omega)]at V;subst V;exact zW
 have A:=ne_of_beq_false A;rw[iN (by omega)]at V;refine wS ?_;refine⟨λaa=>?_,λaa=>?_⟩
 ·simp only[iU]at aa;rw[iP (by omega)]at V;subst V;exact zW
 simp only[iV]at aa;rw[iN (by omega)]at V;refine wS ?_;refine ZG false false [] [1,3] [] (λ(i:Nat)=>[(3,.int .i64 λ_=>i)])
  (λ_=>[])
  (λi=>i<=t.runs.length/\e=Zo (JM t) i (t.runs.length-i)) (λi=>t.runs.length-i+0) 0 ⟨aT _,V⟩ ?_ ?_
 ·exact ZB
 rintro i ⟨hi,J⟩;refine wS ?_;refine⟨λA=>?_,λA=>?_⟩
 ·simp only[iU]at A;rw[Qp (by omega)]at J;have I:JM t i=if(Run t.book (S Z6 default t.runs i).number (S Z6 default t.runs i).day).2≠0 then(Run t.book (S Z6 default t.runs i).number (S Z6 default t.runs i).day).2
   else if Xf (YD t (S Z6 default t.runs i))≠0 then 5
   else if(t.runs.take i).any (λx=>decide (x=S Z6 default t.runs i))then 4 else 0:=by unfold JM;rw[XL O]
  generalize hd:S Z6 default t.runs i=d at*;refine vS ?_;simp only[hd];refine Chk.mk (ZH) ?_;have Z:=ZvE t.book d.number d.day hf;have U:=ZdN t.book d.number d.day;have ab:YD t d=(Run t.book d.number d.day).1:=rfl;unfold Zd at Z;simp only[Za O]at Z;generalize Run t.book d.number d.day=r at*;obtain⟨C,er⟩:=r;refine ZN (Z) (by first|rfl|(simp only[Ze,Zd,Zf,Za O];rfl)) λr ah J=>?_;(try simp only[Ze,Zd,Zf,Za O]at J);obtain⟨rfl,rfl⟩:=J;dsimp only at I U ab;refine wS ?_;refine⟨λA=>?_,λA=>?_⟩
  ·simp only[bne_iff_ne,ne_eq]at A;rw[iP A]at I;rw[I,iP A]at J;subst J;exact zW
  simp only[iC]at A;subst A;rw[iN (λh=>h rfl),ab]at I;have ai:=U.2 rfl;have aj:=U.1;clear Z U;refine wS ?_;refine XD λQ hQ=>?_;refine ZG false false [] [1,3,4,6] [] (λ(j:Nat)=>[(6,.int .i64 λ_=>((j+1:Nat):Int))]) (λ_=>[]) (λj=>j+1<=C.length/\Xf C=Zo (YM C) (j+1) (C.length-(j+1))) (λj=>C.length-(j+1)+0) 0 ⟨by omega,rfl⟩ ?_ ?_
  ·exact ZB
  rintro j ⟨hk,G⟩;refine wS ?_;refine⟨λA=>?_,λA=>?_⟩
  ·simp only[iU]at A;rw[Qp (by omega)]at G;have Y:YM C (j+1)=if(S Sp.Call default C ((j+1:Nat):Int)).arrive<=(S Sp.Call default C (((j+1:Nat):Int)-1)).depart then 5 else 0:=by
    unfold YM;rw[XL O,XL O,show((j+1-1:Nat):Int)=((j+1:Nat):Int)-1 by omega]
   refine wS ?_;refine⟨λH=>?_,λH=>?_⟩
   ·simp only[iU]at H;rw[iP H]at Y;rw[Y,iP (by decide)]at G;rw[G,iP (by decide)]at I;rw[I,iP (by decide)]at J;subst J;refine wS ?_;refine hQ _ _ _ ?_;exact zW
   simp only[iV]at H;rw[iN H]at Y;rw[Y,iN (λh=>h rfl)]at G;refine wS ?_;refine⟨j+1,⟨by omega,by rw[G]⟩,by show C.length-(j+1+1)+0<C.length-(j+1)+0;omega,?_⟩;exact ZB
  simp only[iV]at A;rw[QF (by omega)]at G;rw[G,iN (λh=>h rfl)]at I;refine wS ?_;refine hQ _ _ _ ?_;refine wS ?_;refine XD λQ2 ac=>?_;refine ZG false false [] [1,3,7] [] (λ(k:Nat)=>[(7,.int .i64 λ_=>(k:Int))]) (λ_=>[]) (λk=>k<=i/\(t.runs.take i).any (λx=>decide (x=d))=((t.runs.take i).drop k).any (λx=>decide (x=d))) (λk=>i-k+0) 0 ⟨by omega,by simp⟩ ?_ ?_
  ·exact ZB
  rintro k ⟨hk,G⟩;refine wS ?_;refine⟨λA=>?_,λA=>?_⟩
  ·simp only[iU]at A;have ae:(t.runs.take i).drop k=S Z6 default t.runs k::(t.runs.take i).drop (k+1):=by
    have h:=Qs (d:=default) O (l:=t.runs.take i) (i:=k) (by rw[bW];omega);rw[h];congr 1;rw[O,O,aV,aA,gF (by omega),aA]
   rw[ae,eQ]at G;generalize hx:S Z6 default t.runs k=x at*;refine vS ?_;try simp only[hx,hd]
   try refine Chk.mk (ZH) ?_
   have he:(x.number==d.number&&(x.day==d.day&&true))=decide (x=d):=by
    by_cases e1:x.number=d.number<;>by_cases e2:x.day=d.day<;>simp[Zof,e1,e2]
   refine⟨λH=>?_,λH=>?_⟩
   ·rw[he]at H;rw[H,cS]at G;rw[G,iP rfl]at I;rw[I,iP (by decide)]at J;subst J;refine wS ?_;refine ac _ _ _ ?_;exact zW
   rw[he]at H;rw[H,bZ]at G;refine wS ?_;refine⟨k+1,⟨by omega,G⟩,by show i-(k+1)+0<i-k+0;omega,?_⟩;exact ZB
  simp only[iV]at A;rw[bB (by rw[bW];omega),fJ]at G;rw[G,iN aO]at I;rw[I,iN (λh=>h rfl)]at J;refine wS ?_;refine ac _ _ _ ?_;refine wS ?_;refine⟨i+1,⟨by omega,by rw[J]⟩,by show t.runs.length-(i+1)+0<t.runs.length-i+0;omega,?_⟩;exact ZB
 simp only[iV]at A;rw[QF (by omega)]at J;subst J;exact zW
theorem ZdJ {α:Type} {d:α} {A:(α:Type)->α->List α->Int->α} (O:∀(α:Type) (d:α) (l:List α) (i:Int),A α d l i=l.getD i.toNat d) {l:List α} {i k:Nat} (G:k<i) (hi:i<=l.length):(l.take i).drop k=A α d l k::(l.take i).drop (k+1):=by
 have h:=Qs (d:=d) O (l:=l.take i) (i:=k) (by rw[bW];omega);rw[h];congr 1;rw[O,O,aV,aA,gF (by omega),aA]
theorem Zyv (t:Zb) (c:List (List Sp.Call)) (hc:Jg c) (hw:t.waits.length<=1000000):SC (λ_=>aB) 90 [Zf t,lst 1 Zc [] c] [] λv h=>v= .int .i64 (λ_=>if 4<t.waits.length then 6 else Zo (λi=>Qc c (t.waits.getD i default) (t.waits.take i)) 0 t.waits.length)/\h=[]:=by
 obtain⟨Z,O⟩:=Zm;refine Qq Tryz.func90 (body:=Zj Tryz.f90) rfl (by decide+kernel) ?_;generalize hE:(if 4<t.waits.length then 6 else Zo (λi=>Qc c (t.waits.getD i default) (t.waits.take i)) 0 t.waits.length)=E;have ae:=hc.len;have aa:∀i:Int,0<=i->i<=(c.length:Int)-1->Z (List Sp.Call) [] c i∈c:=λi h0 h1=>by
  have:i.toNat<c.length:=by omega
  rw[O,aA,aD this];exact bM _
 have ac:=ZaN O c;rw[ac];unfold Zf;simp only[Za O];refine wS ?_;refine⟨λH=>?_,λH=>?_⟩
 ·have H:=iW H;rw[iP (by omega)]at hE;subst hE;exact zW
 have H:=iX H;rw[iN (by omega)]at hE;refine wS ?_;refine ZG false false [] [1,2,5] [] (λ(i:Nat)=>[(5,.int .i64 λ_=>i)]) (λ_=>[]) (λi=>i<=t.waits.length/\Zo (λi=>Qc c (t.waits.getD i default) (t.waits.take i)) i (t.waits.length-i)=E) (λi=>t.waits.length-i+0) 0 ⟨aT _,hE⟩ ?_ ?_
 ·exact ZB
 rintro i ⟨hi,G⟩;refine wS ?_;refine⟨λH=>?_,λH=>?_⟩;rotate_left
 ·have H:=iX H;rw[QF (by omega)]at G;subst G;exact zW
 have H:=iW H;rw[Qp (by omega)]at G;have ab:Qc c (t.waits.getD i default) (t.waits.take i)=Qc c (Z QH default t.waits i) (t.waits.take i):=by rw[XL O]
 simp only[ab]at G;clear ab;generalize hd:Z QH default t.waits i=w at*;refine vS ?_;simp only[hd];refine Chk.mk (ZH) ?_;generalize A:Qc c w (t.waits.take i)=e at*;unfold Qc at A;have k1:=Zhc w.feeder 0 (c.length-1);have k2:=Zhc w.train 0 (c.length-1);have k3:=Zhc w.minutes 0 60;have k4:=Zxj c w.feeder w.train w.station hc;rw[ac]at k4;have V:ZdY c w.feeder w.train w.station=if(Qw w.feeder 0 (c.length-1)||Qw w.train 0 (c.length-1))=true then(0,0,false)
  else(Zv (c.getD w.feeder.toNat []) w.station,ZJ (c.getD w.train.toNat []) w.station,bif decide (0<=Zv (c.getD w.feeder.toNat []) w.station)then decide (0<=ZJ (c.getD w.train.toNat []) w.station)else false):=rfl
 generalize ZdY c w.feeder w.train w.station=M at*;rw[<-O (List Sp.Call) [] c w.feeder,<-O (List Sp.Call) [] c w.train]at A V;refine Zri (k1) ?_;cases h1:Qw w.feeder 0 ((c.length:Int)-1)with
 |true=>
  rw[h1,cS,iP rfl]at A;subst A;rw[iP (by decide)]at G;subst G;refine wS ?_;refine Br.isF rfl ?_;refine wS ?_;refine Br.isT rfl ?_;exact zW
 |false=>
  rw[h1,bZ]at A V;refine wS ?_;refine Br.isT rfl ?_;refine wS ?_;refine Zri (k2) ?_;cases h2:Qw w.train 0 ((c.length:Int)-1)with
  |true=>
   rw[h2,iP rfl]at A;subst A;rw[iP (by decide)]at G;subst G;refine wS ?_;refine Br.isT rfl ?_;exact zW
  |false=>
   rw[h2,iN aO]at A V;refine wS ?_;refine Br.isF rfl ?_;have b1:=QE h1;have b2:=QE h2;have m1:=aa _ b1.1 b1.2;have m2:=aa _ b2.1 b2.2;clear k1 k2;refine wS ?_;refine⟨λS=>?_,λS=>?_⟩
   ·have S:=eq_of_beq S;rw[iP S]at A;subst A;rw[iP (by decide)]at G;subst G;exact zW
   have S:=ne_of_beq_false S;rw[iN S]at A;refine wS ?_;refine Zri (k4) ?_;generalize hF:Z (List Sp.Call) [] c w.feeder=F at*;generalize hT:Z (List Sp.Call) [] c w.train=U at*;have r1:=hc.row _ m1;have r2:=hc.row _ m2;have s1:Zv F w.station<F.length/\-1<=Zv F w.station:=by have:=YL F 1 w.station;unfold Zv;omega
   have s2:ZJ U w.station<(U.length:Int)-1/\-1<=ZJ U w.station:=by
    have:=YL U 0 w.station;unfold ZJ;split<;>omega
   generalize Zv F w.station=a at*;generalize ZJ U w.station=b at*;subst V;dsimp only;refine wS ?_;refine⟨λJ=>?_,λJ=>?_⟩
   ·rw[iP (by
     by_cases ha:0<=a
     ·rw[iZ ha]at J;have:=iX (nb2 J);omega
     omega)]at A
    subst A;rw[iP (by decide)]at G;subst G;exact zW
   have h5:0<=a/\0<=b:=by
    have J:=nb4 J;by_cases ha:0<=a
    ·rw[iZ ha]at J;have:=iW J;omega
    rw[iY ha]at J;cases J
   rw[iN (by omega)]at A;clear J k4;refine wS ?_;refine Zri (k3) ?_;refine wS ?_;refine⟨λh7=>?_,λh7=>?_⟩
   ·rw[iP (by simpa using h7)]at A;subst A;rw[iP (by decide)]at G;subst G;exact zW
   rw[iN (by simpa using h7)]at A;rw[<-O Sp.Call default U b,<-O Sp.Call default F a]at A;refine vS ?_;try simp only[hF,hT]
   try refine Chk.mk (ZH) ?_
   refine⟨λY=>?_,λY=>?_⟩
   ·have Y:=iW Y;rw[iP Y]at A;subst A;rw[iP (by decide)]at G;subst G;exact zW
   rw[iN (iX Y)]at A;clear Y h7 k3;refine wS ?_;refine XD λQ hQ=>?_;refine ZG false false [] [1,2,5,6,10] [] (λ(k:Nat)=>[(10,.int .i64 λ_=>(k:Int))]) (λ_=>[]) (λk=>k<=i/\(t.waits.take i).any (λx=>decide (x.feeder=w.feeder/\x.train=w.train/\x.station=w.station))=((t.waits.take i).drop k).any (λx=>decide (x.feeder=w.feeder/\x.train=w.train/\x.station=w.station))) (λk=>i-k+0) 0 ⟨by omega,by simp⟩ ?_ ?_
   ·exact ZB
   rintro k ⟨hk,I⟩;refine wS ?_;refine⟨λH=>?_,λH=>?_⟩
   ·simp only[iU]at H;rw[ZdJ (d:=default) O (by omega) (by omega),eQ]at I;generalize hx:Z QH default t.waits k=x at*;refine vS ?_;try simp only[hx,hd]
    try refine Chk.mk (ZH) ?_
    have he:(bif (bif x.feeder==w.feeder then x.train==w.train else false)then x.station==w.station else false)=decide (x.feeder=w.feeder/\x.train=w.train/\x.station=w.station):=by
     by_cases e1:x.feeder=w.feeder<;>by_cases e2:x.train=w.train<;>by_cases e3:x.station=w.station<;>simp[e1,e2,e3]
    refine⟨λh9=>?_,λh9=>?_⟩
    ·rw[he]at h9;rw[h9,cS]at I;rw[I,iP rfl]at A;subst A;rw[iP (by decide)]at G;subst G;refine wS ?_;refine hQ _ _ _ ?_;exact zW
    rw[he]at h9;rw[h9,bZ]at I;refine wS ?_;refine⟨k+1,⟨by omega,I⟩,by show i-(k+1)+0<i-k+0;omega,?_⟩;exact ZB
   simp only[iV]at H;rw[bB (by rw[bW];omega),fJ]at I;rw[I,iN aO]at A;subst A;rw[iN (λh=>h rfl)]at G;refine wS ?_;refine hQ _ _ _ ?_;refine wS ?_;refine⟨i+1,⟨by omega,G⟩,by show t.waits.length-(i+1)+0<t.waits.length-i+0;omega,?_⟩;exact ZB
theorem Zcv {A:(α:Type)->α->List α->Int->α} (O:∀(α:Type) (d:α) (l:List α) (i:Int),A α d l i=l.getD i.toNat d) (d:ZR):Zp d=[.int .i64 λ_=>d.run,.int .i64 λ_=>d.leg,.isl 1 (λ_=>(d.by_.length:Int)) (λe=>QO (A Int 0 d.by_ (e ()))) .none]:=by unfold Zp;rw[Za O]
theorem Zyu (t:Zb) (c:List (List Sp.Call)) (hc:Jg c) (hw:t.delays.length<=1000000) (S:∀d∈t.delays,d.by_.length<=1000000):SC (λ_=>aB) 91 [Zf t,lst 1 Zc [] c] [] λv h=>v= .int .i64 (λ_=>if 6<t.delays.length then 6 else Zo (λi=>Ql c (t.delays.getD i default) (t.delays.take i)) 0 t.delays.length)/\h=[]:=by
 obtain⟨I,O⟩:=Zm;refine Qq Tryz.func91 (body:=Zj Tryz.f91) rfl (by decide+kernel) ?_;generalize hE:(if 6<t.delays.length then 6 else Zo (λi=>Ql c (t.delays.getD i default) (t.delays.take i)) 0 t.delays.length)=E;have ai:=hc.len;have aa:∀i:Int,0<=i->i<=(c.length:Int)-1->I (List Sp.Call) [] c i∈c:=λi h0 h1=>by
  have:i.toNat<c.length:=by omega
  rw[O,aA,aD this];exact bM _
 have ah:=ZaN O c;rw[ah];unfold Zf;simp only[Za O];refine wS ?_;refine⟨λG=>?_,λG=>?_⟩
 ·have G:=iW G;rw[iP (by omega)]at hE;subst hE;exact zW
 have G:=iX G;rw[iN (by omega)]at hE;refine wS ?_;refine ZG false false [] [1,2,5] [] (λ(i:Nat)=>[(5,.int .i64 λ_=>i)]) (λ_=>[]) (λi=>i<=t.delays.length/\Zo (λi=>Ql c (t.delays.getD i default) (t.delays.take i)) i (t.delays.length-i)=E) (λi=>t.delays.length-i+0) 0 ⟨aT _,hE⟩ ?_ ?_
 ·exact ZB
 rintro i ⟨hi,H⟩;refine wS ?_;refine⟨λG=>?_,λG=>?_⟩;rotate_left
 ·have G:=iX G;rw[QF (by omega)]at H;subst H;exact zW
 have G:=iW G;rw[Qp (by omega)]at H;have ab:Ql c (t.delays.getD i default) (t.delays.take i)=Ql c (I ZR default t.delays i) (t.delays.take i):=by rw[XL O]
 simp only[ab]at H;clear ab;have aj:=S _ (Qr (d:=default) O (l:=t.delays) (i:=i) (by omega));simp only[Zcv O];generalize hd:I ZR default t.delays i=d at*;refine vS ?_;simp only[hd];refine Chk.mk (ZH) ?_;generalize A:Ql c d (t.delays.take i)=e at*;unfold Ql at A;have k1:=Zhc d.run 0 (c.length-1);rw[<-O (List Sp.Call) [] c d.run]at A;refine Zri (k1) ?_;have ae:(!!!Qw d.run 0 ((c.length:Int)-1))=true->(0<=d.run/\d.run<c.length)/\((I (List Sp.Call) [] c d.run).length:Int)<=4:=λh=>by
  have b:=QE (nb2 (nb4 (nb2 h)));have:=(hc.row _ (aa _ b.1 b.2)).2;omega
 refine vS ?_;try simp only[hd]
 refine Chk.mk ?_ ?_
 ·simp only[nc,Xx,Xw,XM,Xv,Cn.p,and_true,true_and];(repeat' (first|apply And.intro|intro _))<;>first|assumption|(have:=ae (by assumption);omega)
 cases h1:Qw d.run 0 ((c.length:Int)-1)with
 |true=>
  rw[h1,cS,iP rfl]at A;subst A;rw[iP (by decide)]at H;subst H;refine Br.isF rfl ?_;refine wS ?_;refine Br.isT rfl ?_;exact zW
 |false=>
  rw[h1,bZ]at A;have b1:=QE h1;have m1:=aa _ b1.1 b1.2;have r1:=hc.row _ m1;have k2:=Zhc d.leg 0 ((I (List Sp.Call) [] c d.run).length-2);generalize hF:I (List Sp.Call) [] c d.run=F at*;refine Br.isT rfl ?_;refine vS ?_;try simp only[hF,hd]
  try refine Chk.mk (ZH) ?_
  refine Zri (k2) ?_;cases h2:Qw d.leg 0 ((F.length:Int)-2)with
  |true=>
   rw[h2,iP rfl]at A;subst A;rw[iP (by decide)]at H;subst H;refine wS ?_;refine Br.isT rfl ?_;exact zW
  |false=>
  rw[h2,iN aO]at A;refine wS ?_;refine Br.isF rfl ?_;refine wS ?_;refine⟨λZ=>?_,λZ=>?_⟩
  ·have Z:=eq_of_beq Z;rw[iP (by omega)]at A;subst A;rw[iP (by decide)]at H;subst H;exact zW
  have Z:=ne_of_beq_false Z;rw[iN (by omega)]at A;refine wS ?_;refine⟨λY=>?_,λY=>?_⟩
  ·have Y:=iW Y;rw[iP (by omega)]at A;subst A;rw[iP (by decide)]at H;subst H;exact zW
  have Y:=iX Y;rw[iN (by omega)]at A;clear k1 k2 ae;refine wS ?_;refine XD λQ hQ=>?_;refine ZG false false [] [1,2,5,6,7] [] (λ(j:Nat)=>[(7,.int .i64 λ_=>j)]) (λ_=>[]) (λj=>j<=d.by_.length/\Zo (Zd9 d.by_) 0 d.by_.length=Zo (Zd9 d.by_) j (d.by_.length-j)) (λj=>d.by_.length-j+0) 0 ⟨aT _,by simp⟩ ?_ ?_
  ·exact ZB
  rintro j ⟨hj,J⟩;refine wS ?_;refine⟨λG=>?_,λG=>?_⟩
  ·have G:=iW G;rw[Qp (by omega)]at J;have S:Zd9 d.by_ j=if Qw (I Int 0 d.by_ j) 0 240 then 1 else if 0<j/\I Int 0 d.by_ j<=I Int 0 d.by_ ((j:Int)-1)then 5 else 0:=by
    unfold Zd9;rw[XL O];by_cases h0:0<j
    ·rw[XL O,show((j-1:Nat):Int)=(j:Int)-1 by omega]
    simp[h0]
   have k3:=Zhc (I Int 0 d.by_ j) 0 240;refine wS ?_;refine Zri (k3) ?_;refine wS ?_;refine⟨λV=>?_,λV=>?_⟩
   ·have V:Qw (I Int 0 d.by_ j) 0 240=true:=by simpa using V
    rw[iP V]at S;rw[S,iP (by decide)]at J;rw[J,iP (by decide)]at A;subst A;rw[iP (by decide)]at H;subst H;refine wS ?_;refine hQ _ _ _ ?_;exact zW
   have V:Qw (I Int 0 d.by_ j) 0 240=false:=by simpa using V
   rw[iN (by rw[V];exact aO)]at S;refine vS ?_;refine Chk.mk ?_ ?_
   ·simp only[nc,Xx,Xw,XM,Xv,Cn.p,and_true,true_and,iU];(repeat' (first|apply And.intro|intro _))<;>first|assumption|omega|decide+kernel
   have he:(bif decide (0<(j:Int))then decide (I Int 0 d.by_ j<=I Int 0 d.by_ ((j:Int)-1))else false)=decide (0<j/\I Int 0 d.by_ j<=I Int 0 d.by_ ((j:Int)-1)):=by
    by_cases e1:0<j
    ·have:(0:Int)<j:=by omega
     simp[e1,this]
    have:¬(0:Int)<j:=by omega
    simp[e1,this]
   refine⟨λh6=>?_,λh6=>?_⟩
   ·rw[he]at h6;rw[iP (iW h6)]at S;rw[S,iP (by decide)]at J;rw[J,iP (by decide)]at A;subst A;rw[iP (by decide)]at H;subst H;refine wS ?_;refine hQ _ _ _ ?_;exact zW
   rw[he]at h6;rw[iN (iX h6)]at S;rw[S,iN (λh=>h rfl)]at J;refine wS ?_;refine⟨j+1,⟨by omega,J⟩,by show d.by_.length-(j+1)+0<d.by_.length-j+0;omega,?_⟩;exact ZB
  have G:=iX G;rw[QF (by omega)]at J;rw[J,iN (λh=>h rfl)]at A;refine wS ?_;refine hQ _ _ _ ?_;refine wS ?_;refine XD λQ2 ac=>?_;refine ZG false false [] [1,2,5,6,8] [] (λ(k:Nat)=>[(8,.int .i64 λ_=>(k:Int))]) (λ_=>[]) (λk=>k<=i/\(t.delays.take i).any (λx=>decide (x.run=d.run/\x.leg=d.leg))=((t.delays.take i).drop k).any (λx=>decide (x.run=d.run/\x.leg=d.leg))) (λk=>i-k+0) 0 ⟨by omega,by simp⟩ ?_ ?_
  ·exact ZB
  rintro k ⟨hk,U⟩;refine wS ?_;refine⟨λG=>?_,λG=>?_⟩
  ·simp only[iU]at G;rw[ZdJ (d:=default) O (by omega) (by omega),eQ]at U;try simp only[Zcv O]
   generalize hx:I ZR default t.delays k=x at*;refine vS ?_;try simp only[hx,hd]
   try refine Chk.mk (ZH) ?_
   have he:(bif x.run==d.run then x.leg==d.leg else false)=decide (x.run=d.run/\x.leg=d.leg):=by
    by_cases e1:x.run=d.run<;>by_cases e2:x.leg=d.leg<;>simp[e1,e2]
   refine⟨λh9=>?_,λh9=>?_⟩
   ·rw[he]at h9;rw[h9,cS]at U;rw[U,iP rfl]at A;subst A;rw[iP (by decide)]at H;subst H;refine wS ?_;refine ac _ _ _ ?_;exact zW
   rw[he]at h9;rw[h9,bZ]at U;refine wS ?_;refine⟨k+1,⟨by omega,U⟩,by show i-(k+1)+0<i-k+0;omega,?_⟩;exact ZB
  simp only[iV]at G;rw[bB (by rw[bW];omega),fJ]at U;rw[U,iN aO]at A;subst A;rw[iN (λh=>h rfl)]at H;refine wS ?_;refine ac _ _ _ ?_;refine wS ?_;refine⟨i+1,⟨by omega,H⟩,by show t.delays.length-(i+1)+0<t.delays.length-i+0;omega,?_⟩;exact ZB
theorem ZvD (t:Zb) (H:Qe t):SC (λ_=>aB) 25 [Zf t] [] λv h=>v= .int .i64 (λ_=>Zn t)/\h=[]:=by
 obtain⟨nt,O⟩:=Zm;refine Qq Tryz.func25 (body:=Zj Tryz.f25) rfl (by decide+kernel) ?_;have U:=c25 t.book H.book;have Y:=Zyw t H.book H.runs;have k3:=ZvA t H.book H.runs;have S:=λh=>Zyv t (callsOf t) (Zbj h) H.waits;have J:=λh=>Zyu t (callsOf t) (Zbj h) H.delays H.bys;generalize G:Zn t=e;unfold Zn at G;unfold Zf at*;unfold Zd at U;simp only[ZaN O,Za O]at U Y k3 S J|-;refine wS ?_;refine Zri (U) ?_;generalize Sp.Yl t.book=Z at*;refine wS ?_;refine⟨λI=>?_,λI=>?_⟩
 ·have I:Z≠0:=by simpa only[bne_iff_ne]using I
  rw[iP I]at G;subst G;exact zW
 have I:Z=0:=by simpa only[iC]using I
 rw[iN (by omega)]at G;refine wS ?_;refine Zri (Y) ?_;generalize Q5 t=e2 at*;refine wS ?_;refine⟨λA=>?_,λA=>?_⟩
 ·have A:e2≠0:=by simpa only[bne_iff_ne]using A
  rw[iP A]at G;subst G;exact zW
 have A:e2=0:=by simpa only[iC]using A
 rw[iN (by omega)]at G;have S:=S A;have J:=J A;refine wS ?_;refine Zri (k3) ?_;refine wS ?_;refine Zri (S) ?_;by_cases h6:4<t.waits.length
 ·rw[iP h6]at G;subst G;refine wS ?_;refine⟨λV=>?_,λV=>?_⟩
  ·refine wS ?_;rw[iP h6];(try first|exact⟨rfl,trivial⟩|exact⟨trivial,trivial⟩)
  rw[iP h6]at V;cases V
 rw[iN h6]at G;simp only[iN h6];generalize Zo (λi=>Qc (callsOf t) (t.waits.getD i default) (t.waits.take i)) 0 t.waits.length=e3 at*;refine wS ?_;refine⟨λA=>?_,λA=>?_⟩
 ·have A:e3≠0:=by simpa only[bne_iff_ne]using A
  rw[iP A]at G;subst G;exact zW
 have A:e3=0:=by simpa only[iC]using A
 rw[iN (by omega)]at G;rw[G]at J;refine wS ?_;refine Zri (J) ?_;exact zW
def Z4 (l:List Int):List AV:=[lst 1 QO 0 l]
theorem JH {A:(α:Type)->α->List α->Int->α} (O:∀(α:Type) (d:α) (l:List α) (i:Int),A α d l i=l.getD i.toNat d) (l:List Int):Z4 l=[.isl 1 (λ_=>(l.length:Int)) (λe=>QO (A Int 0 l (e ()))) .none]:=by unfold Z4;rw[Za O]
theorem Ya.one {b G:AV} (h:∀w ok v,PR w ok b v->PR w ok G v):Ya [b] [G]:=⟨rfl,λj c A=>by
 match j with
 |0=>cases A;exact⟨_,rfl,h⟩
 |j+1=>cases A⟩
theorem Zti {A:(α:Type)->α->List α->Int->α} (O:∀(α:Type) (d:α) (l:List α) (i:Int),A α d l i=l.getD i.toNat d) {v:Int} {x:List Int} {m m' n0:Unit->Int} {H:(Unit->Int)->List AV} (G:n0 ()=1) (hv:H (λ_=>((0:Nat):Int))=QO v) (hm:m ()=(x.length:Int)+1) (I:m' ()=(x.length:Int)+1)
  (w:World) (ok:Nat->Nat->Nat->Prop) (u:Value) (h:PR w ok (.isl 1 m (Z0 n0 H λe=>QO (A Int 0 x (e ()))) .none) u):PR w ok (.isl 1 m' (λe=>QO (A Int 0 (v::x) (e ()))) .none) u:=
 h.elems (by omega) λi J=>by
  match i with
  |0=>
   rw[QW (len:=1) G (by omega),hv];simp only[O];exact .refl _
  |j+1=>
   rw[Qu (len:=1) G (by omega)];simp only[O,aV];rw[List.getD_cons_succ];exact .refl _
def Xa:List ZR->List (List Int)
 |[]=>[[]]
 |d::r=>d.by_.flatMap λn=>(Xa r).map λx=>n::x
theorem ZkC {l:List Int} {L:List (List Int)}:(l.flatMap λn=>L.map λx=>n::x).length=l.length*L.length:=by
 induction l with
 |nil=>simp
 |cons a l A=>rw[List.flatMap_cons,bA,A,aX,bF,dI];omega
theorem Zfg:∀(l:List ZR),∀x∈Xa l,x.length=l.length
 |[],x,h=>by
  unfold Xa at h;rw[List.mem_singleton.1 h];rfl
 |d::r,x,h=>by
  unfold Xa at h;obtain⟨n,_,h⟩:=List.mem_flatMap.1 h;obtain⟨y,A,rfl⟩:=List.mem_map.1 h;rw[bF,bF,Zfg r y A]
theorem Zb5:∀(l:List ZR),(∀d∈l,d.by_.length<=3)->(Xa l).length<=3^ l.length
 |[],_=>aI _
 |d::r,h=>by
  have G:=Zb5 r λx H=>h x (aS _ H);have A:=h d (aW ..);unfold Xa;rw[ZkC,bF,Nat.pow_succ,eg];exact fM G A
theorem Zvx:∀(l:List ZR),l.length<=6->(∀d∈l,d.by_.length<=3)->SC (λ_=>aB) 108 [lst 3 Zp default l] [] λv h=>v=lst 1 Z4 [] (Xa l)/\h=[]
 |[],_,_=>by
  refine SC.less (Qq Tryz.func108 (body:=Zj Tryz.f108) rfl (by decide+kernel) ?_);refine wS ?_;refine⟨λh=>?_,λh=>?_⟩
  ·refine wS ?_;refine⟨_,[],?_,rfl,rfl⟩;refine Ji ?_;refine .elems rfl λi J=>?_;have J:(i:Int)<1:=J;obtain rfl:i=0:=by omega
   refine .one λw ok v h=>?_;cases h with
   |isl0 _ _ _ _ hz I=>exact .isl0 _ _ _ _ rfl rfl
   |islE _ _ _ _ _ _ I=>rcases I with h|h<;>cases h
   |isl _ _ _ _ b o len am us hn hc I=>rcases I with h|h<;>cases h
  cases h
 |d::r,hl,G=>by
  obtain⟨A,O⟩:=Zm;have U:r.length<=5:=by rw[bF]at hl;omega
  have ih:=Zvx r (by omega) λx hx=>G x (aS _ hx);have S:=Zb5 r λx hx=>G x (aS _ hx);have V:=Zfg r;have Y:3^ r.length<=3^ 5:=Nat.pow_le_pow_right (by decide) U;have ab:(Xa r).length<=243:=cD S Y;obtain⟨M,H⟩:∃M,M=d::r:=⟨_,rfl⟩;have hE:Xa (d::r)=d.by_.flatMap λn=>(Xa r).map λx=>n::x:=rfl;have aq:=G d (aW ..);rw[hE,<-H];rw[<-H]at hl G;have h0:A ZR default M 0=d:=by rw[O,H];rfl
  have I:M.length=r.length+1:=by rw[H];rfl
  have h2:∀i:Int,0<=i->A ZR default M (i+1)=A ZR default r i:=λi J=>by
   rw[O,O,H,show(i+1).toNat=i.toNat+1 by omega];rfl
  clear hE H S Y G;refine SC.less (Qq Tryz.func108 (body:=Zj Tryz.f108) rfl (by decide+kernel) ?_);simp only[Za O,Zcv O,JH O]at ih|-;refine wS ?_;refine⟨λh=>?_,λh=>?_⟩
  ·have h:=eq_of_beq h;omega
  refine wS ?_
  refine ZbQ ih (by
   refine Ji ?_
   exact .isl (by show(M.length:Int)-1=r.length;omega) λi J=>by simp only[h2 (i:Int) (by omega)]) (by first|rfl|(simp only[Ze,Zd,Zf,Zc,Za O];rfl)) λv aj hp=>?_
  obtain⟨rfl,rfl⟩:=hp;generalize Xa r=L at*;have ah:∀k:Nat,k<L.length->(A (List Int) [] L k).length<=5:=λk hk=>by
   rw[V _ (Qr (d:=[]) O (l:=L) (i:=k) hk)];exact U
  clear ih V;refine wS ?_;refine ZG false false [] [0,3,4,5] [.tok 1 λ_=>0] (λ(⟨i,out⟩:Nat×List (List Int))=>[(3,.isl 1 (λ_=>(out.length:Int)) (λe=>[.isl 1 (λ_=>((A (List Int) [] out (e ())).length:Int)) (λq=>QO (A Int 0 (A (List Int) [] out (e ())) (q ()))) .none]) (.own 0)),(5,.int .i64 λ_=>(i:Int))])
   (λ⟨i,out⟩=>[(0,.tok 1 λ_=>(out.length:Int))])
   (λ⟨i,out⟩=>i<=d.by_.length/\out=(d.by_.take i).flatMap λn=>L.map λx=>n::x) (λi=>d.by_.length-i.1+0) (0,[]) ⟨aT _,by simp⟩ ?_ ?_
  ·(refine To.of [(1,false)] ?_;cbv;(try simp only[nc]);(repeat' first|exact xT|refine⟨?_,?_⟩|refine ZK.cells ?_|refine Zz.agg ?_|refine Zz.tup ?_);all_goals try exact XU)
  rintro⟨i,out⟩ ⟨J,ho⟩;have ak:out.length<=3*243:=by
   rw[ho,ZkC];exact fM (by rw[bW];omega) ab
  refine wS ?_;simp only[h0];refine⟨λG=>?_,λG=>?_⟩
  ·have G:=iW G;have ae:=X9 (d:=0) O (l:=d.by_) (i:=i) (by omega);refine wS ?_;refine XD λQ hQ=>?_;refine ZG false false [] [0,3,4,5,6] [] (λ(⟨k,out⟩:Nat×List (List Int))=>[(3,.isl 1 (λ_=>(out.length:Int)) (λe=>[.isl 1 (λ_=>((A (List Int) [] out (e ())).length:Int)) (λq=>QO (A Int 0 (A (List Int) [] out (e ())) (q ()))) .none]) (.own 0)),(6,.int .i64 λ_=>(k:Int))])
    (λ⟨k,out⟩=>[(0,.tok 1 λ_=>(out.length:Int))])
    (λ⟨k,o⟩=>k<=L.length/\o=out++(L.take k).map λx=>A Int 0 d.by_ i::x) (λk=>L.length-k.1+0) (0,out) ⟨aT _,by simp⟩ ?_ ?_
   ·exact ZB
   rintro⟨k,o⟩ ⟨hk,hok⟩;have ar:o.length<=4*243:=by
    rw[hok,bA,aX,bW];omega
   refine wS ?_;refine⟨λG=>?_,λG=>?_⟩
   ·have ai:=iW G;have ao:=ah k (by omega);have Z:=X9 (d:=[]) O (l:=L) (i:=k) (by omega);refine vS ?_;simp only[h0];refine Chk.mk (ZH) ?_;refine⟨(k+1,o++[A Int 0 d.by_ i::A (List Int) [] L k]),⟨by omega,by rw[Z,cY,hok];simp⟩,by show L.length-(k+1)+0<L.length-k+0;omega,?_⟩;refine Ji ?_;refine Zz.snocO (enc:=λx:List Int=>[.isl 1 (λ_=>(x.length:Int)) (λq=>QO (A Int 0 x (q ()))) .none]) (d:=[]) (x:=A Int 0 d.by_ i::A (List Int) [] L k) (l:=o) O rfl rfl (by simp) ?_;exact .one λw ok u h=>Zti O rfl rfl (by show(1:Int)+_=_;omega) (by simp) w ok u h
   have ai:=iX G;have ac:L.take k=L:=dT (by omega);refine wS ?_;refine hQ _ _ _ ?_;refine wS ?_;refine⟨(i+1,o),⟨by omega,by rw[ae,List.flatMap_append,hok,ho,ac];simp⟩,by show d.by_.length-(i+1)+0<d.by_.length-i+0;omega,?_⟩;exact ZB
  have G:=iX G;have aa:out=d.by_.flatMap λn=>L.map λx=>n::x:=by rw[ho,dT (by omega)]
  rw[<-aa];refine wS ?_;refine⟨_,[],?_,rfl,rfl⟩;exact ZB
def ZV (t:Zb) (w:Int):Int:=if Zn t=0 then(if Qw w 0 ((t.waits.length:Int)-1)then 3 else 0)else Zn t
theorem Zxi (t:Zb) (w:Int) (G:Qe t):SC (λ_=>aB) 106 [Zf t,.int .i64 λ_=>w] [] λv h=>v= .tup [QY (Zn t) t,.int .i64 λ_=>ZV t w]/\h=[]:=by
 obtain⟨I,O⟩:=Zm;refine SC.less (Qq Tryz.func106 (body:=Zj Tryz.f106) rfl (by decide+kernel) ?_);have k:=Ztn t G;have hw:=G.waits;have H:=Zdy w 0 ((t.waits.length:Int)-1);generalize A:ZV t w=e;unfold ZV at A;unfold Zf at*;simp only[Za O]at k|-;by_cases he:Zn t=0
 ·unfold QY at k|-;rw[iP he]at k|-;rw[iP he]at A;unfold ZZ at k|-;simp only[Za O,Zc]at k|-;rw[he]at k;refine wS ?_;refine Zri (k) ?_;refine wS ?_;refine Br.isT rfl ?_;refine wS ?_;refine Zri (H) ?_;refine wS ?_;refine⟨λh=>?_,λh=>?_⟩
  ·have h:Qw w 0 ((t.waits.length:Int)-1)=true:=h;rw[iP h]at A;subst A;refine wS ?_;refine⟨_,[],?_,rfl,rfl⟩;exact ZB
  have h:Qw w 0 ((t.waits.length:Int)-1)=false:=h;rw[iN (by rw[h];exact aO)]at A;subst A;refine wS ?_;refine⟨_,[],?_,rfl,rfl⟩;exact ZB
 unfold QY at k|-;rw[iN he]at k|-;rw[iN he]at A;rw[A]at k he;refine wS ?_;refine Zri (k) ?_;refine wS ?_;refine⟨λh=>?_,λh=>?_⟩
 ·exact absurd (eq_of_beq h) he
 refine wS ?_;refine Br.isF rfl ?_;refine wS ?_;refine⟨_,[],?_,rfl,rfl⟩;exact ZB
def Yz (x:List Int):List AV:=[.int .i64 λ_=>x.getD 0 0,.int .i64 λ_=>x.getD 1 0,.int .i64 λ_=>x.getD 2 0,.int .i64 λ_=>x.getD 3 0,.int .i64 λ_=>x.getD 4 0,.int .i64 λ_=>x.getD 5 0]
theorem ZfP {x:List Int} {e:Int} {i:Nat} (A:e=i) (hi:i<6):Zlv [λ_=>x.getD 0 0,λ_=>x.getD 1 0,λ_=>x.getD 2 0,λ_=>x.getD 3 0,λ_=>x.getD 4 0,λ_=>x.getD 5 0] e=x.getD i 0:=by
 subst A;match i,hi with
 |0,_=>rfl
 |1,_=>rfl
 |2,_=>rfl
 |3,_=>rfl
 |4,_=>rfl
 |5,_=>rfl
theorem Zyb (t:Zb) (x:List Int) (run leg:Int) (hx:YH t x) (hl:t.delays.length<=6):SC (λ_=>aB) 178 [.iptr (ZZ t) 0,.agg (Yz x),.int .i64 λ_=>run,.int .i64 λ_=>leg] [] λv h=>v= .int .i64 (λ_=>Zdz t x run leg)/\h=[]:=by
 obtain⟨Y,O⟩:=Zm;unfold ZZ;simp only[Za O,Zc,Zp];refine SC.less (Qq Tryz.func178 (body:=Zj Tryz.f178) rfl (by decide+kernel) ?_);generalize S:Zdz t x run leg=e;unfold Zdz at S;refine wS ?_;refine ZG false false [] [2,3,5,15,16,17] [] (λ(i:Nat)=>[(17,.int .i64 λ_=>(i:Int))]) (λ_=>[]) (λi=>i<=t.delays.length/\e=Zhe x run leg i (t.delays.drop i)) (λi=>t.delays.length-i+0) 0 ⟨by omega,by rw[List.drop_zero];exact S.symm⟩ ?_ ?_
 ·exact ZB
 rintro i ⟨hi,A⟩;refine wS ?_;refine⟨λI=>?_,λI=>?_⟩;case refine_2=>
  simp only[iV]at I;rw[bB (by omega),Zhe]at A;subst A;refine wS ?_;refine⟨_,[],?_,rfl,rfl⟩;exact ZB
 simp only[iU]at I;have U:=Qs (d:=default) O (l:=t.delays) (i:=i) (by omega);rw[U,Zhe]at A;have H:=hx.d i (by omega);rw[show t.delays.getD i default=Y ZR default t.delays i by rw[XL O]]at H;have Z:= @ZfP x i i rfl (by omega);generalize J:Y ZR default t.delays i=d at*;refine vS ?_;simp only[J];refine Chk.mk (ZH) ?_;have V:(bif d.run==run then d.leg==leg else false)=decide (d.run=run/\d.leg=leg):=by
  by_cases e1:d.run=run<;>by_cases e2:d.leg=leg<;>simp[e1,e2]
 refine⟨λG=>?_,λG=>?_⟩
 ·rw[V]at G;rw[iP (iW G),<-O Int 0 d.by_ (x.getD i 0)]at A;subst A;refine vS ?_;try simp only[J,Z]
  generalize x.getD i 0=y at*;have hy:=H.1;have aa:=H.2;refine Chk.mk (ZH) ?_;refine⟨_,[],?_,rfl,rfl⟩;exact ZB
 rw[V]at G;rw[iN (iX G)]at A;refine wS ?_;refine⟨i+1,⟨by omega,A⟩,by show t.delays.length-(i+1)+0<t.delays.length-i+0;omega,?_⟩;exact ZB
end Vm
namespace Vm
open Go Go.Proofs
set_option maxRecDepth 100000
section
variable {n k:Nat}
theorem Zz.nsub {id:Nat} {e l G A:Unit->Int} (Y:e ()=G ()) (Z:l ()=A ()):Zz n k (.nsub id e l) (.nsub id G A):=⟨λR v _ hv=>by
 cases hv with
 |pure _ _ H=>cases H
 |nsub _ _ _ a S c I i h U h2 V J=>exact .nsub id G A a S c I i h U (by omega) V ⟨by omega,J.2⟩⟩
theorem ZK.vgar {s:Nat} {m m':Unit->Int} {f H:(Unit->Int)->List AV} (hm:m ()=m' ()) (U:∀i:Nat,(i:Int)<m ()->Yw n k (f λ_=>(i:Int)) (H λ_=>(i:Int))):ZK n k (.vgar s m f) (.vgar s m' H):=
 ⟨λR id hN ⟨h1,h2⟩=>by
  refine⟨h1.trans hm,?_⟩;rcases h2 with⟨Y,A⟩|⟨b,o,len,I,arr,ty,Y,A,g3,S,V,G⟩
  ·exact .inl ⟨by omega,A⟩
  refine .inr ⟨b,o,len,I,arr,ty,by omega,A,g3,S,V,λi J=>?_⟩;have hw:=U i (by omega);refine⟨by rw[<-hw.len];exact(G i J).1,λj c hj=>?_⟩;obtain⟨a,Z,e2⟩:=hw.get hj
  exact e2.f R _ hN ((G i J).2 j a Z),λ_ _ _=>Iff.rfl,λ_ _ _ _ _=>Iff.rfl,rfl⟩
theorem ZK.fam {z s:Nat} {N I:Unit->Int} {m m':(Unit->Int)->Unit->Int} {g g':(Unit->Int)->(Unit->Int)->List AV} (J:N ()=I ()) (hm:∀i:Nat,(i:Int)<N ()->m (λ_=>(i:Int)) ()=m' (λ_=>(i:Int)) ())
  (H:∀i:Nat,(i:Int)<N ()->∀j:Nat,(j:Int)<m (λ_=>(i:Int)) ()->g (λ_=>(i:Int)) (λ_=>(j:Int))=g' (λ_=>(i:Int)) λ_=>(j:Int)):ZK n k (.fam z s N m g) (.fam z s I m' g'):=
 ⟨λR id _ ⟨U,Z,us,S,h3,Y,h5⟩=>⟨U,Z.trans J,us,S,J.symm.trans h3,λi v hv=>by
  have aa:=(Array.getElem?_eq_some_iff.1 hv).1;have A:(i:Int)<N ():=by omega
  refine(Y i v hv).cong (hm i A).symm (λj G=>by rw[H i A j G]) λj G c q V=>⟨q,by rw[H i A j G];exact V,λ_ h=>h⟩,h5⟩,λ_ _ _=>Iff.rfl,λ_ _ _ _ _=>Iff.rfl,rfl⟩
end
theorem ZK.famZ {n k z A s:Nat} (I:z<=A) {N:Unit->Int} {m:(Unit->Int)->Unit->Int} {g:(Unit->Int)->(Unit->Int)->List AV}:ZK n k (.fam z s N m g) (.fam A s N m g):=⟨λR id _ ⟨H,G⟩=>⟨cD H I,G⟩,λ_ _ _=>Iff.rfl,λ_ _ _ _ _=>Iff.rfl,rfl⟩
theorem ZK.dead {n k s:Nat} {m:Unit->Int} {f:(Unit->Int)->List AV}:ZK n k (.fro s m f) .dead:=⟨λ_ _ _ _=>trivial,λ_ _ _=>Iff.rfl,λ_ _ _ _ _=>Iff.rfl,rfl⟩
theorem ZK.vgar0 {n k s:Nat} {m m':Unit->Int} {f A:(Unit->Int)->List AV} (I:m ()=0) (G:m' ()=0):ZK n k (.vgar s m f) (.vgar s m' A):=.vgar (by omega) λi H=>by omega
theorem ZK.fam0 {n k z s:Nat} {N A:Unit->Int} {m m':(Unit->Int)->Unit->Int} {g g':(Unit->Int)->(Unit->Int)->List AV} (I:N ()=0) (H:A ()=0):ZK n k (.fam z s N m g) (.fam z s A m' g'):=.fam (by omega) (λi G=>by omega) λi G=>by omega
def Zcd (z G A:Nat):List Zh:=[.vgar G (λ_=>0) (λ_=>[]),.fam z A (λ_=>0) (λ_ _=>0) (λ_ _=>[])]
theorem HR.nest {G:Nat->Nat->Nat->Prop} {R:RC} {h:List Zh} (H:HR G R h) (I S:Nat):
  ∃A,A.w=R.w/\HR G A (h++Zcd h.length I S)/\Xj R h A (h++Zcd h.length I S)/\R.le A/\Zrz A h.length 1:=by
 have e2:h++Zcd h.length I S=(h++[.vgar I (λ_=>0) (λ_=>[])])++[.fam h.length S (λ_=>0) (λ_ _=>0) (λ_ _=>[])]:=by simp[Zcd]
 have ae:∀i x,(h++[Zh.vgar I (λ_=>0) (λ_=>[])])[i]? =some x->(i=R.m/\x= .vgar I (λ_=>0) (λ_=>[]))\/(i≠R.m/\h[i]? =some x):=λi x J=>by
  rcases QB J with J|⟨rfl,rfl⟩
  ·exact .inr ⟨λe=>by have:=(aE.1 J).1;rw[H.len]at this;omega,J⟩
  exact .inl ⟨H.len,rfl⟩
 have ab:∀A:RC,A.hv R.m= .slice none 0 0->∀b,¬ZC A R.m (.vgar I (λ_=>0) (λ_=>[])) b:=λA hv b U=>by
  obtain⟨a,n,c,Y,_⟩:=U;rw[hv]at Y;cases Y
 obtain⟨R1,a1,a2,a3,a4,a5,a6,a7,_⟩:=H.room R.m (R.m+1) (.vgar I (λ_=>0) (λ_=>[])) 0 (.slice none 0 0) R.w (h++[.vgar I (λ_=>0) (λ_=>[])]) (by rw[bA,H.len];rfl) (eK _) ae (λhi=>absurd hi (dJ _)) (λ_=>False)
  (λb=>⟨λh=>h.elim,λh=>absurd h.1 (dJ _)⟩) rfl rfl rfl (aI _) (λ_ _ _=>rfl) (λ_ _ _ _ _ _=>rfl)
  (λA _ _ Z aa _=>⟨Z,.inl ⟨rfl,none,aa⟩⟩)
  (λA hv _ b U=>absurd U (ab A hv b))
  (λA hv b o n _=>ab A hv b) rfl
 have ac:∀i x,((h++[Zh.vgar I (λ_=>0) (λ_=>[])])++[Zh.fam h.length S (λ_=>0) (λ_ _=>0) (λ_ _=>[])])[i]? =some x->(i=R1.m/\x= .fam h.length S (λ_=>0) (λ_ _=>0) (λ_ _=>[]))\/(i≠R1.m/\(h++[Zh.vgar I (λ_=>0) (λ_=>[])])[i]? =some x):=λi x J=>by
  rcases QB J with J|⟨rfl,rfl⟩
  ·exact .inr ⟨λe=>by have:=(aE.1 J).1;rw[a5.len]at this;omega,J⟩
  exact .inl ⟨a5.len,rfl⟩
 have V:∀A:RC,A.hv R1.m= .tuple #[]->∀b,¬ZC A R1.m (.fam h.length S (λ_=>0) (λ_ _=>0) (λ_ _=>[])) b:=λA hv b U=>by
  obtain⟨us,Y,i,v,h2,_⟩:=U;rw[hv]at Y;cases Y;simp at h2
 obtain⟨R2,b1,b2,b3,b4,b5,b6,b7,_⟩:=a5.room R1.m (R1.m+1) (.fam h.length S (λ_=>0) (λ_ _=>0) (λ_ _=>[])) 0 (.tuple #[]) R1.w _ (by rw[bA,a5.len];rfl) (eK _) ac (λhi=>absurd hi (dJ _)) (λ_=>False)
  (λb=>⟨λh=>h.elim,λh=>absurd h.1 (dJ _)⟩) rfl rfl rfl (aI _) (λ_ _ _=>rfl) (λ_ _ _ _ _ _=>rfl)
  (λA _ _ Z aa hl=>⟨by rw[hl.1,a6.n0,H.len];exact H.n0m,Z, #[],aa,rfl,λi v hv=>by simp at hv,λi j v v' b _ hv=>by simp at hv⟩)
  (λA hv _ b U=>absurd U (V A hv b))
  (λA hv b o n _=>V A hv b) rfl
 rw[e2];refine⟨R2,b1.trans a1,b5,a6.trans b6,a7.trans b7,λid Y h2=>?_⟩;have ah:id=R.m:=by rw[<-H.len];omega
 subst ah;obtain⟨hb,_⟩:=b5.blk R.m (.vgar I (λ_=>0) (λ_=>[])) (by rw[List.getElem?_append_left (by simp[H.len]),List.getElem?_append_right (by rw[H.len];exact aI _),H.len,Nat.sub_self];rfl);refine⟨by omega,hb,?_⟩;rw[(b7.tk R.m (by omega)).2 (by rw[a4,hb])];exact a3
theorem To.nest (J U:Nat) {s s₂:List AV} {h h₂:List Zh} (Y:Yw h.length 1 s s₂/\Zek h.length 1 (h++Zcd h.length J U) h₂):To s h s₂ h₂:=λG R t H A=>by
 obtain⟨Z,V⟩:=Y;obtain⟨S,a1,a2,a3,I,a6⟩:=HR.nest H J U;refine⟨S,a1,a2.wk a6 V,a3.wk V,I,by rw[<-Z.len];exact A.1,λi b hi=>?_⟩;obtain⟨a,h1,h2⟩:=Z.get hi;exact h2.f S _ a6 ((A.2 i a h1).mono I)
def ZfD (q A:Nat) (g:(Unit->Int)->(Unit->Int)->List AV):AV->AV
 |.nsub id e l=>if ZI id q then .isl A l (g e) .none else .nsub id e l
 |c=>purify c
def ZnF (h:List Zh):Nat->AV->AV
 |0,a=>a
 |k+1,a=>(match a with
  |.gsl id n=>(match h[id]? with
   |some (.fro s m f)=>.gd (λ_=>decide (n ()=m ())) (.isl s m f .none)
   |_=>.gsl id n)
  |.agg cs=>.agg (cs.map (ZnF h k))
  |a=>a)
def Zj1 (h:List Zh):Zh->Zh
 |.cells cs=>.cells (cs.map (ZnF h 3))
 |b=>b
theorem ZmN {G:Nat->Nat->Nat->Prop} {R:RC} {h:List Zh} (H:HR G R h):∀(k:Nat) {a:AV} {u:Value},VR R a u->VR R (ZnF h k a) u:=by
 intro k;induction k with
 |zero=>intro a u hv;exact hv
 |succ k Y=>
  intro a u hv;unfold ZnF;split
  ·split
   ·rename_i id n _ s m f hb;cases hv with
    |pure _ _ J=>cases J
    |gsl _ _ a l c aa hn Z _=>
     refine .gd _ _ _ λA=>?_;have A:=iW A;obtain⟨U,h1⟩:=H.blk id _ hb;rw[Z (by rw[A,U])];exact .pure _ _ h1
   exact hv
  ·obtain⟨S,rfl,V,hr⟩:=hv.agg_inv;refine .agg _ S (by simpa using V) λj c I=>?_;rw[aQ,aG]at I;obtain⟨x,hx,rfl⟩:=I;exact Y (hr j x hx)
  exact hv
theorem ZfR {R:RC} {h:List Zh} {id:Nat} {blk:Zh} {b:Nat}:ZC R id (Zj1 h blk) b↔ZC R id blk b:=by cases blk<;>exact Iff.rfl
theorem ZmO {R:RC} {h:List Zh} {id:Nat} {blk:Zh} {b o m:Nat}:Qj R id (Zj1 h blk) b o m↔Qj R id blk b o m:=by cases blk<;>exact Iff.rfl
theorem ZsG {h:List Zh} {blk:Zh}:ZaJ (Zj1 h blk)=ZaJ blk:=by cases blk<;>rfl
theorem To.rsv (s:List AV) (h:List Zh):To s h (s.map (ZnF h 4)) (h.map (Zj1 h)):=λG R t H hs=>by
 have I:∀ {i x},(h.map (Zj1 h))[i]? =some x->∃y,h[i]? =some y/\x=Zj1 h y:=λA=>by
  rw[aQ,aG]at A;obtain⟨y,J,e⟩:=A;exact⟨y,J,e.symm⟩
 refine⟨R,rfl,⟨by rw[aX];exact H.len,λb o m=>?_,λid x A=>?_,λi j bi bj b aa U V S ab=>?_,H.cl,H.fresh,λid x b A hk S o m=>?_,H.n0m⟩,⟨rfl,rfl,rfl,rfl,aI _,aI _,λ_ _=>rfl,λ_ _ _ h=>h,λ_ _ _ _ _ _=>rfl,λ_ _ _=>rfl,λid x b A S=>?_⟩,RC.le.refl _,?_⟩
 ·rw[H.okd];refine and_congr_right λ_=>and_congr_right λ_=>⟨λY id x A=>?_,λY id x A=>?_⟩
  ·obtain⟨y,J,rfl⟩:=I A;exact ZmO.2 (Y id y J)
  exact ZmO.1 (Y id (Zj1 h x) (by rw[aQ,A];rfl))
 ·obtain⟨y,J,rfl⟩:=I A;have hb:=H.blk id y J;cases y with
  |cells cs=>
   obtain⟨arr,ty,h1,h2,h3⟩:=hb;refine⟨arr,ty,h1,by rw[aX];exact h2,λj c V=>?_⟩;rw[aQ,aG]at V;obtain⟨c0,Z,rfl⟩:=V;exact ZmN H 3 (h3 j c0 Z)
  |_=>exact hb
 ·obtain⟨y,J,rfl⟩:=I U;obtain⟨y',ac,rfl⟩:=I V;exact H.dis i j y y' b aa J ac (ZfR.1 S) (ZfR.1 ab)
 ·obtain⟨y,J,rfl⟩:=I A;exact H.tokG id y b J (ZsG▸hk) (ZfR.1 S) o m
 ·obtain⟨y,J,rfl⟩:=I A;exact .inr ⟨id,y,J,ZfR.1 S,.inl rfl⟩
 refine⟨by rw[aX];exact hs.1,λi a U=>?_⟩;rw[aQ,aG]at U;obtain⟨x,A,rfl⟩:=U;exact ZmN H 4 (hs.2 i x A)
theorem To.freezeV {s:List AV} {h:List Zh} {q z sv V:Nat} {n N:Unit->Int} {f:(Unit->Int)->List AV} {m:(Unit->Int)->Unit->Int} {g:(Unit->Int)->(Unit->Int)->List AV} (hq:h[q]? =some (.vgar sv n f)) (hf:h[q+1]? =some (.fam z V N m g))
  (az:∀i:Nat,(i:Int)<n ()->∀(c:AV),c∈(f λ_=>(i:Int))->∀e l,c= .nsub (q+1) e l->l ()=m e ())
  (I:∀i:Nat,(i:Int)<n ()->((f λ_=>(i:Int)).map (ZfD (q+1) V g)).all XT=true):
  To s h s ((h.set (q+1) .dead).set q (.fro sv n λe=>(f e).map (ZfD (q+1) V g))):=λG R t H hs=>by
 let F:Zh:=.fro sv n λe=>(f e).map (ZfD (q+1) V g);let h':=(h.set (q+1) .dead).set q F;let S:RC:={R with ok:=λb o k=>b<R.w.heap.size/\G b o k/\Zdh R h' b o k};have Y:∀ {j x},h'[j]? =some x->(j=q/\x=F)\/(j=q+1/\x= .dead)\/(j≠q/\j≠q+1/\h[j]? =some x):=λ{j x} A=>by
  rcases set_get A with⟨U,J⟩|⟨U,A⟩
  ·exact .inl ⟨U,J⟩
  rcases set_get A with⟨J,h3⟩|⟨J,h3⟩
  ·exact .inr (.inl ⟨J,h3⟩)
  exact .inr (.inr ⟨U,J,h3⟩)
 have ae:∀b o k,R.ok b o k->S.ok b o k:=λb o k hk=>by
  obtain⟨U,J,h3⟩:=(H.okd _ _ _).1 hk;refine⟨U,J,λj x A=>?_⟩;rcases Y A with⟨rfl,rfl⟩|⟨rfl,rfl⟩|⟨_,_,A⟩
  ·exact λh=>h
  ·exact λh=>h
  exact h3 j x A
 have ak:R.le S:=⟨aI _,λ_ _=>rfl,λ_ _=>⟨Int.le_refl _,λ_=>rfl⟩,λ_ _=>.refl _,ae,λ_ _ _ _ _ _=>rfl,λ_ _ _ _ h=>h,rfl⟩;have ab:∀ {j x b},h'[j]? =some x->ZC S j x b->j≠q/\j≠q+1/\h[j]? =some x/\ZC R j x b:=λ{j x b} A I=>by
  rcases Y A with⟨rfl,rfl⟩|⟨rfl,rfl⟩|⟨U,J,A⟩
  ·exact I.elim
  ·exact I.elim
  exact⟨U,J,A,(ZC.congr (R:=R) rfl rfl).1 I⟩
 have aa:∀(id:Nat) (blk:Zh) (b:Nat),(id=q\/id=q+1)->h[id]? =some blk->ZaJ blk=true->ZC R id blk b->∀o k,S.ok b o k:=λid blk b ah hb bk ai o k=>by
  refine⟨H.phys_lt hb ai,H.tokG _ _ _ hb bk ai _ _,λi x A=>?_⟩;rcases Y A with⟨rfl,rfl⟩|⟨rfl,rfl⟩|⟨U,J,A⟩
  ·exact λh=>h
  ·exact λh=>h
  exact J1 λZ=>H.dis _ _ _ _ b (λe=>by rcases ah with rfl|rfl;exact U e.symm;exact J e.symm) hb A ai Z
 obtain⟨bq,a9⟩:=H.blk _ _ hq;obtain⟨_,bw,us,aq,hN,au,_⟩:=H.blk _ _ hf;refine⟨S,rfl,⟨by show h'.length=_;simp only[h',bP];exact H.len,λ_ _ _=>Iff.rfl,λj x A=>?_,λi j bi bj b bl hi hj I Z=>?_,H.cl,H.fresh,λj x b A hk I o k=>?_,H.n0m⟩,⟨rfl,rfl,rfl,rfl,aI _,aI _,λ_ _=>rfl,ae,λ_ _ _ _ _ _=>rfl,λ_ _ _=>rfl,λj x b A I=>?_⟩,ak,hs.mono ak⟩
 ·rcases Y A with⟨rfl,rfl⟩|⟨rfl,rfl⟩|⟨_,_,A⟩
  ·refine⟨bq,?_⟩;refine J4.isl (ok:=S.ok) (w:=S.w) ?_ λb hb o k=>aa j _ b (.inl rfl) hq rfl hb o k;rcases a9 with⟨g1,g2⟩|⟨b,o,len,bo,arr,ty,g1,g2,g3,g4,g5,g6⟩
   ·exact .inl ⟨g1,g2⟩
   refine .inr ⟨b,o,len,bo,arr,ty,g1,g2,g3,g4,g5,λi hi=>⟨by rw[aX];exact(g6 i hi).1,λjj c hj=>?_⟩⟩;have bh:=I i (by omega);have bg:c∈((f λ_=>(i:Int)).map (ZfD (j+1) V g)):=bf hj;have ac:=List.all_eq_true.1 bh c bg;rw[aQ,aG]at hj;obtain⟨c0,am,rfl⟩:=hj;have aj:=(g6 i hi).2 jj c0 am;have aw:=az i (by omega) c0 (bf am);generalize arr.getD (o+i*sv+jj) undef=u at aj;have other:ZfD (j+1) V g c0=purify c0->PR S.w S.ok (ZfD (j+1) V g c0) u:=λe=>by
    rw[e]at ac|-;exact(aj.purify ac).mono ae (λ_ _ _ _ _ _=>rfl) λ_ _ _ _ h=>h
   cases c0 with
   |nsub id e l=>
    by_cases ah:id=j+1
    ·subst ah;have e1:ZfD (j+1) V g (.nsub (j+1) e l)= .isl V l (g e) .none:=by simp[ZfD,ZI]
     rw[e1];have bc:=aw e l rfl;cases aj with
     |pure _ _ I=>cases I
     |nsub _ _ _ a ll c bu i' bt ao bp ar bx=>
      rw[aq]at ao;cases ao;have bm:e=λ_=>(i':Int):=funext λ_=>bp;subst bm;have U:=au i' _ ar;have J:J4 (PR S.w S.ok) S.w V l (g λ_=>(i':Int)) (.slice a ll c):=(U.mono (λ_ _ h=>h.mono ae (λ_ _ _ _ _ _=>rfl) λ_ _ _ _ h=>h) (λ_ _=>rfl)).cong bc (λ_ _=>rfl) λ_ _ _ c hc=>⟨c,hc,λ_ h=>h⟩;exact J.isl λb hb o k=>aa (j+1) _ b (.inr rfl) hf rfl ⟨us,aq,i',_,ar,hb⟩ o k
    have e1:ZfD (j+1) V g (.nsub id e l)= .nsub id e l:=by simp[ZfD,ZI,ah]
    rw[e1]at ac;cases ac
   |_=>exact other rfl
  ·trivial
  exact(H.blk j x A).mono ak rfl rfl rfl rfl (λ_ _=>rfl)
 ·obtain⟨_,_,A,I⟩:=ab hi I;obtain⟨_,_,ba,Z⟩:=ab hj Z;exact H.dis i j bi bj b bl A ba I Z
 ·obtain⟨_,_,A,I⟩:=ab A I;exact H.tokG j x b A hk I o k
 obtain⟨_,_,A,I⟩:=ab A I;exact .inr ⟨j,x,A,I,.inl rfl⟩
theorem To.frozeV {s:List AV} {h:List Zh} {q z H A:Nat} {n N:Unit->Int} {f:(Unit->Int)->List AV} {m:(Unit->Int)->Unit->Int} {g:(Unit->Int)->(Unit->Int)->List AV} (S:h[q]? =some (.vgar H n f)) (J:h[q+1]? =some (.fam z A N m g))
  (G:∀i:Nat,(i:Int)<n ()->∀(c:AV),c∈(f λ_=>(i:Int))->∀e l,c= .nsub (q+1) e l->l ()=m e ())
  (I:∀i:Nat,(i:Int)<n ()->((f λ_=>(i:Int)).map (ZfD (q+1) A g)).all XT=true) {h':List Zh} (U:h'=(h.set (q+1) .dead).set q (.fro H n λe=>(f e).map (ZfD (q+1) A g))):
  To s h (s.map (ZnF h' 4)) (h'.map (Zj1 h')):=by
 subst U;exact(To.freezeV S J G I).trans (To.rsv _ _)
def tbN (rs:Bool) (cs:List Nat) (ks:List Nat):Tb:={tb with kp:=true,rs,cuts:=cs,gr:=true,ks:=some ks}
theorem hTN (rs:Bool) (cs:List Nat) (ks:List Nat):(tbN rs cs ks).Of ((λ_=>aB:Unit->Program) ()):=⟨Zav,Zau,Zaw⟩
theorem ZwZ (rs:Bool) (cs:List Nat) (ks:List Nat) {f:FuncId} {fn:Func} {body:Code} (G:aB.funcs[f]? =some fn) (H:fn.body=some body) (I:(fn.name== "runtime.NumGoroutine")=false) {xs:List AV} {h:List Zh} {A:AV->List Zh->Prop}
  (hW:Dn (tbN rs cs ks) (λ_=>aB) (Zes (tbN rs cs ks) fn.results.toList h.length A) 100 .none [.code body] (entry fn.ntmps xs) h []) (J:zOk h=true:=by rfl):SC (λ_=>aB) f xs h A:=SC.ofD (T:=tbN rs cs ks) (hTN rs cs ks) hm G H I J (λh=>by cases h) hW
theorem Zkk (rs:Bool) (cs:List Nat) {x:Code} {Q:Ex->List AV->List Zh->Prop} {s:List AV} {h:List Zh} {ι:Type} (L:List Nat) (ex:List Zh) (ch:ι->List (Nat×AV)) (A:ι->List (Nat×Zh)) (inv:ι->Prop) (H:ι->Nat) (i:ι)
  (hi:inv i) (G:To (Vm.keep L s) h (YQ (Vm.keep L s) (ch i)) (X3 (h++ex) (A i)))
  (step:∀i,inv i->Dn (tbN rs cs []) (λ_=>aB) (ZeI L (λi=>YQ (Vm.keep L s) (ch i)) (λi=>X3 (h++ex) (A i)) inv H i (h++ex).length Q) 100 .none [.code x] (YQ (Vm.keep L s) (ch i)) (X3 (h++ex) (A i)) []):LP false (λ_=>aB) x Q s h:=
 LP.indD (T:=tbN rs cs []) (hTN rs cs []) hm rfl L (λi=>YQ (Vm.keep L s) (ch i)) (λi=>X3 (h++ex) (A i)) inv H i (h++ex).length (λ_=>Zax _ _) hi G step
theorem Zvj (rs:Bool) (cs:List Nat) {x:Code} {Q:Ex->List AV->List Zh->Prop} {s s₂:List AV} {h h₂:List Zh} (A:To s h s₂ h₂) (H:LP false (λ_=>aB) x Q s₂ h₂):LP false (λ_=>aB) x Q s h:=LP.to A H
section
variable {n k:Nat} {nt:(α:Type)->α->List α->Int->α} (O:∀(α:Type) (d:α) (l:List α) (i:Int),nt α d l i=l.getD i.toNat d)
include O
theorem ZK.snocVT {α:Type} {d:α} {encV:α->(Unit->Int)->List AV} {l:List α} {x:α} {s:Nat} {n0 m':Unit->Int} {row:List AV} {T:AV->AV} (hT:∀(x:α) e,(encV x e).map T=encV x e) (G:n0 ()=(l.length:Int)) (hm:m' ()=(l.length:Int)+1) (A:Yw n k (row.map T) (encV x λ_=>(l.length:Int))):
  ZK n k (.vgar s m' λe=>(Z0 n0 (λe=>encV (nt α d l (e ())) e) (λ_=>row) e).map T) (.vgar s (λ_=>((l++[x]).length:Int)) λe=>encV (nt α d (l++[x]) (e ())) e):=
 .vgar (by rw[hm];simp) λi H=>by
  rw[hm]at H;by_cases h:i<l.length
  ·rw[QW G h];have e:nt α d (l++[x]) (i:Int)=nt α d l (i:Int):=by rw[ZlC O,iP h]
   simp only[e,hT];exact Yw.refl _
  obtain rfl:i=l.length:=by omega
  rw[Qu G (aI _)];have e:nt α d (l++[x]) (l.length:Int)=x:=by rw[O];simp
  simp only[e];exact A
theorem ZK.snocM {α A:Type} {d:α} {dβ:A} {enc:A->List AV} {inner:α->List A} {l:List α} {x:α} {z s:Nat} {N U G:Unit->Int} {J:(Unit->Int)->List AV} (h0:N ()=(l.length:Int)) (hm:U ()=(l.length:Int)+1) (Z:G ()=((inner x).length:Int))
  (Y:∀j:Nat,j<(inner x).length->J (λ_=>(j:Int))=enc (nt A dβ (inner x) (j:Int))):
  ZK n k (.fam z s U (ZbO N (λe _=>((inner (nt α d l (e ()))).length:Int)) G) (Ja N (λe q=>enc (nt A dβ (inner (nt α d l (e ()))) (q ()))) J))
   (.fam z s (λ_=>((l++[x]).length:Int)) (λe _=>((inner (nt α d (l++[x]) (e ()))).length:Int)) λe q=>enc (nt A dβ (inner (nt α d (l++[x]) (e ()))) (q ()))):=by
 have S:∀i:Nat,(i:Int)<U ()->(i<l.length/\nt α d (l++[x]) (i:Int)=nt α d l (i:Int))\/(i=l.length/\nt α d (l++[x]) (i:Int)=x):=λi I=>by
  rw[hm]at I;by_cases h:i<l.length
  ·exact .inl ⟨h,by rw[ZlC O,iP h]⟩
  obtain rfl:i=l.length:=by omega
  exact .inr ⟨rfl,by rw[O];simp⟩
 refine .fam (by rw[hm];simp) (λi I=>?_) λi I j H=>?_
 ·rcases S i I with⟨h,e⟩|⟨h,e⟩
  ·show(bif decide ((i:Int)<N ())then((inner (nt α d l (i:Int))).length:Int)else G ())=((inner (nt α d (l++[x]) (i:Int))).length:Int);rw[iZ (by omega),e];rfl
  show(bif decide ((i:Int)<N ())then((inner (nt α d l (i:Int))).length:Int)else G ())=((inner (nt α d (l++[x]) (i:Int))).length:Int);rw[iY (by omega),e];exact Z
 rcases S i I with⟨h,e⟩|⟨h,e⟩
 ·show(if(i:Int)<N ()then(λq:Unit->Int=>enc (nt A dβ (inner (nt α d l (i:Int))) (q ())))else J) (λ_=>(j:Int))=enc (nt A dβ (inner (nt α d (l++[x]) (i:Int))) (j:Int));rw[iP (by omega),e]
 show(if(i:Int)<N ()then(λq:Unit->Int=>enc (nt A dβ (inner (nt α d l (i:Int))) (q ())))else J) (λ_=>(j:Int))=enc (nt A dβ (inner (nt α d (l++[x]) (i:Int))) (j:Int));have V:j<(inner x).length:=by
  have H:(j:Int)<(bif decide ((i:Int)<N ())then((inner (nt α d l (i:Int))).length:Int)else G ()):=H;rw[iY (by omega)]at H;have H:(j:Int)<G ():=H;omega
 rw[iN (by omega),e];exact Y j V
end
end Vm
namespace Vm
open Go Go.Proofs
theorem Ze6.perm {α:Type} {A:Nat} {V:α->Value->Prop} {es:Array MapEntry} {clk:Nat} {L G:List (List Int×α)} (h:Ze6 A V es clk L) (H:L.Perm G):Ze6 A V es clk G:=by
 obtain⟨l,h⟩:=h;exact⟨l,{h with L:=h.L.trans H}⟩
theorem Zz.imap {n k A m:Nat} {L G:Unit->List (List Int×List Int)} (h:(L ()).Perm (G ())):Zz n k (.imap A m L) (.imap A m G):=⟨λR v _ hv=>by
 cases hv with
 |pure _ _ I=>
  cases I with
  |imap _ _ _ b es H S J U=>exact .pure _ _ (.imap A m G b es H S (J.perm h) U)
  |imap0 _ _ _ V=>exact .pure _ _ (.imap0 A m G (by rw[V]at h;exact h.nil_eq.symm▸rfl))⟩
theorem YC.frame {p:Unit->Program} {id j:Nat} {xs:List AV} {h:List Zh} {I Q:AV->List Zh->Prop} (l:List Nat) (Z:l.Nodup) (V:∀i∈l,i<h.length) (S:l[j]? =some id) (H:YC p j (xs.map (QD false l h 5)) (sel false l h) Q)
  (hq:∀r J,Q r J->I (ren (Jh l h.length) 5 r) (back l h J)):YC p id xs h I:=
 ⟨λG R vs hr ha=>by
  obtain⟨A,Y,a0,a1,a2,a3,a4,a5,a6,a7,a8⟩:=hr.sel (fz:=false) (ι:=l) (ZtD R h l) (λb o n k=>.inl k) (λb o n o' n' k U h2=>by
    rcases k with k|k|k
    ·exact .inl (hr.sub k U h2)
    ·exact .inr (.inl k)
    exact .inr (.inr k)) (λb o n hb=>.inr (.inl hb)) (λi blk b hi hb hk hp o n=>.inr (.inr ⟨i,blk,hi,hb,hk,hp⟩)) Z V (λhf=>by cases hf) l.length (aI _) (λhf=>by cases hf)
  have ab:Yc A (xs.map (QD false l h 5)) vs:=⟨by rw[aX];exact ha.1,λj c S=>by
   rw[aQ,aG]at S;obtain⟨x,hx,rfl⟩:=S
   exact a8 5 x _ (ha.2 j x hx)⟩
  obtain⟨f,aa,a,x,U,h2⟩:=H.run _ A vs a6 ab;rw[a1,a3 j id S]at U;refine⟨f,aa,a,x,U,λc cs=>?_⟩;obtain⟨v,R',r,h',b1,b3,b4,b5,b6,b7⟩:=h2 c cs;rw[a1,Y,a3 j id S]at b1;obtain⟨ac,c1,c2,c3,c4,c5⟩:=ZgZ hr Z V Y a0 a1 a2 a3 a4 a5 a7 b3 b4 b5
  exact⟨v,ac,_,_,by rw[c1];exact b1,c2,c3,c4,c5 5 r v b6,hq r h' b7⟩⟩
theorem YC.frameB {p:Unit->Program} {id j:Nat} {xs J:List AV} {h V h₂ h':List Zh} {b:Bool} {A:AV->List Zh->Prop} (l:List Nat) (U:l.Nodup) (I:∀i∈l,i<h.length) (Z:l[j]? =some id) (hx:xs.map (QD false l h 5)=J) (G:sel false l h=V)
  (H:YC p j J V λv h=>v= .bool (λ_=>b)/\h=h₂) (S:back l h h₂=h') (hP:A (.bool λ_=>b) h'):YC p id xs h A:=
 YC.frame l U I Z (by rw[hx,G];exact H) λr aa Y=>by
  obtain⟨rfl,rfl⟩:=Y;rw[S];exact hP
end Vm
end Go.Proofs.YtjgpiclllehgmaaGreat
