/- Lemmas. -/
import Derived.Test.YtjgpiclllehgmaaGreatB2
import Derived.Test.YtjgpiclllehgmaaGreatB0
set_option linter.all false
open Bool renaming false_eq_true->aX,false_ne_true->aS,false_or->cC,not_false->eA,not_true->dY,true_or->cT
open Int renaming le_of_lt->gu,pow_pos->gK,toNat_natCast->aV
open List renaming any_cons->eL,any_eq_true->eu,any_nil->fG,drop_eq_nil_of_le->bB,getD_eq_getElem?_getD->aA,getElem?_eq_getElem->aD,getElem?_eq_some_iff->aE,getElem?_map->aO,getElem?_set_ne->cR,getElem?_set_self->cS,getElem?_take_of_lt->gw,getElem_map->fy,getElem_mem->bM,length->fM,length_append->bf,length_cons->bF,length_map->bA,length_nil->cE,length_set->cA,length_take->bX,map_append->dD,mem_cons_of_mem->aQ,mem_cons_self->aU,mem_of_getElem?->aZ,set_set->iF,take_of_length_le->dR,take_sublist_take_left->gi
open Nat renaming add_mul->dH,eq_zero_or_pos->cI,le_refl->aJ,le_succ->eG,le_trans->cF,lt_irrefl->dI,mod_lt->eF,mul_comm->dZ,mul_le_mul->fI,mul_le_mul_right->aL,zero_le->aW
open Option renaming map_eq_some_iff->aG
open Go.Proofs.Tryz renaming prog->aB
namespace Go.Proofs.YtjgpiclllehgmaaGreat
namespace Vm
attribute [local irreducible] Dn
open Go Go.Proofs Sp
set_option maxRecDepth 100000
set_option maxHeartbeats 4000000
def Zc5 (l:List Sp.Call) (st f t:Int):Int:=if ZM l f st<=t then ZM l f st else-1
theorem Zi4 (n a b:Int):SC (fun _=>aB) 84 [.int .i64 fun _=>n,.int .i64 fun _=>a,.int .i64 fun _=>b] [] fun r h=>r= .bool (fun _=> !QG n a b)/\h=[]:=by
 refine QN Tryz.func84 (body:=Zj Tryz.f84) rfl (by decide+kernel) ?_;refine wS ?_;refine⟨?_,trivial⟩;congr 1;funext _;unfold QG YV;rw[Bool.not_not];cases decide (a<=n)<;>rfl
theorem Zu7 (l:List Sp.Call) (st f t:Int) (hl:l.length<=1000000) (U:0<=f) (hf:f<=1000000) (ht:-1<=t) (aa:t<=1000000):SC (fun _=>aB) 153 [lst 3 XM default l,.int .i64 fun _=>st,.int .i64 fun _=>f,.int .i64 fun _=>t] [] fun r h=>r= .int .i64 (fun _=>Zc5 l st f t)/\h=[]:=by
 obtain⟨V,O⟩:=Zo;rw[Za O];generalize H:Zc5 l st f t=E;unfold Zc5 ZM at H;obtain⟨A,U⟩:∃A:Nat,f=(A:Int):=⟨f.toNat,by omega⟩;subst U;rw[show max 0 (A:Int)=A by omega,aV]at H;refine QN Tryz.func153 (body:=Zj Tryz.f153) rfl (by decide+kernel) ?_;refine wS ?_;refine ZJ false false [] [0,1,3,9] [] (fun(i:Nat)=>[(9,.int .i64 fun _=>i)]) (fun _=>[]) (fun i=>A<=i/\i<=max A l.length/\Zt (fun c=>decide (c.station=st)) (A:Int) (l.drop A)=Zt (fun c=>decide (c.station=st)) i (l.drop i)) (fun i=>max A l.length-i+0) A ⟨aJ _,by omega,rfl⟩ ?_ ?_
 ·exact ZF
 rintro i ⟨ab,hi,S⟩;rw[S]at H;refine wS ?_;refine⟨fun I=>?_,fun I=>?_⟩
 ·have J:(i:Int)<=t:=by
   cases ha:decide ((i:Int)<=t)with
   |true=>exact of_decide_eq_true ha
   |false=>rw[ha]at I;cases I
  have Y:(i:Int)<l.length:=by
   rw[decide_eq_true J]at I;exact of_decide_eq_true I
  have hd:=Qi (d:=default) O (l:=l) (i:=i) (by omega);have Z:Zt (fun c:Sp.Call=>decide (c.station=st)) (i:Int) (l.drop i)=if decide ((V Sp.Call default l i).station=st)=true then(i:Int)else Zt (fun c:Sp.Call=>decide (c.station=st)) ((i:Int)+1) (l.drop (i+1)):=by rw[hd,Zt]
  rw[Z]at H S;refine wS ?_;refine⟨fun G=>?_,fun G=>?_⟩
  ·have G:=eq_of_beq G;rw[if_pos (c:=decide ((V Sp.Call default l i).station=st)=true) (by simpa using G),if_pos J]at H;subst H;(cbv;(try simp only[nc]at*);(try refine Chk.mk (ZE) ?_));(try first|exact⟨rfl,trivial⟩|exact⟨trivial,trivial⟩)
  have G:=ne_of_beq_false G;rw[if_neg (by simpa using G)]at S;refine wS ?_;refine⟨i+1,⟨by omega,by omega,S⟩,by show max A l.length-(i+1)+0<max A l.length-i+0;omega,?_⟩;exact ZF
 have he:E=-1:=by
  by_cases J:(i:Int)<=t
  ·rw[decide_eq_true J]at I;have Y:=of_decide_eq_false I;rw[show l.drop i=[]from bB (by omega)]at H;unfold Zt at H;rw[<-H];split<;>rfl
  have:=XL (q:=fun c:Sp.Call=>decide (c.station=st)) (l:=l.drop i) (i:=(i:Int)) (by omega);rw[<-H];split
  ·omega
  rfl
 subst he;(cbv;(try simp only[nc]at*);(try refine Chk.mk (ZE) ?_));(try first|exact⟨rfl,trivial⟩|exact⟨trivial,trivial⟩)
theorem Zds (l:List Sp.Call) (st:Int):Zc5 l st 1 (l.length-1)=ZA l st:=by
 unfold Zc5 ZA;have:=YA l 1 st;rw[if_pos (by omega)]
theorem Zjr (l:List Sp.Call) (st:Int):Zc5 l st 0 (l.length-2)=ZN l st:=by
 unfold Zc5 ZN;by_cases h:ZM l 0 st<(l.length:Int)-1
 ·rw[if_pos h,if_pos (by omega)]
 rw[if_neg h,if_neg (by omega)]
def Zgo (c:List (List Sp.Call)) (f t st:Int):Int×Int×Bool:=
 if(QG f 0 (c.length-1)||QG t 0 (c.length-1))=true then(0,0,false)
 else(ZA (c.getD f.toNat []) st,ZN (c.getD t.toNat []) st,bif decide (0<=ZA (c.getD f.toNat []) st)then decide (0<=ZN (c.getD t.toNat []) st)else false)
theorem Zs6 {f:FuncId} {xs I:List AV} {h:List Zh} {A Q:AV->List Zh->Prop} {B:Prop} (H:SC (fun _=>aB) f I [] Q) (k:B) (t:SC (fun _=>aB) f I [] Q->HdW B->SC (fun _=>aB) f xs h A:=by intro J hW;refine ZL J (by first|rfl|(simp only[Ze,Zd,Zf,Zc,Zq,encSp,Za O];rfl)) fun r S G=>?_;(try simp only[Ze,Zd,Zf,Zc,Zq,encSp,Za O]at G);obtain⟨rfl,rfl⟩:=G;exact hW.out):SC (fun _=>aB) f xs h A:=t H ⟨k⟩
theorem ZxG (c:List (List Sp.Call)) (f t st:Int) (J:Y6 c):SC (fun _=>aB) 104 [lst 1 Zc [] c,.int .i64 fun _=>f,.int .i64 fun _=>t,.int .i64 fun _=>st] [] fun v h=>v= .tup [.int .i64 fun _=>(Zgo c f t st).1,.int .i64 fun _=>(Zgo c f t st).2.1,.bool fun _=>(Zgo c f t st).2.2]/\h=[]:=by
 obtain⟨I,O⟩:=Zo;rw[Zbg O];refine SC.less (QN Tryz.func104 (body:=Zj Tryz.f104) rfl (by decide+kernel) ?_);have aa:=J.len;have k1:=Zi4 f 0 (c.length-1);have k2:=Zi4 t 0 (c.length-1);have G:∀i:Int,0<=i->i<=(c.length:Int)-1->I (List Sp.Call) [] c i∈c:=fun i h0 H=>by
  have:i.toNat<c.length:=by omega
  rw[O,aA,aD this];exact bM _
 generalize A:Zgo c f t st=E;unfold Zgo at A;rw[<-O (List Sp.Call) [] c f,<-O (List Sp.Call) [] c t]at A;refine wS ?_;refine Zs6 (k1) ?_;cases H:QG f 0 ((c.length:Int)-1)with
 |true=>
  rw[H,cT,if_pos rfl]at A;subst A;refine wS ?_;refine Br.isF rfl ?_;refine wS ?_;refine Br.isT rfl ?_;refine wS ?_;refine⟨_,[],?_,rfl,rfl⟩;exact ZF
 |false=>
  rw[H,cC]at A;refine wS ?_;refine Br.isT rfl ?_;refine wS ?_;refine Zs6 (k2) ?_;cases h2:QG t 0 ((c.length:Int)-1)with
  |true=>
   rw[h2,if_pos rfl]at A;subst A;refine wS ?_;refine Br.isT rfl ?_;refine wS ?_;refine⟨_,[],?_,rfl,rfl⟩;exact ZF
  |false=>
   rw[h2,if_neg aS]at A;refine wS ?_;refine Br.isF rfl ?_;have Z:=QE H;have b2:=QE h2;have m1:=G _ Z.1 Z.2;have m2:=G _ b2.1 b2.2;refine vS ?_;generalize S:I (List Sp.Call) [] c f=F at*;generalize hT:I (List Sp.Call) [] c t=U at*;have r1:=J.row _ m1;have r2:=J.row _ m2;have V:=Zu7 F st 1 (F.length-1) (by omega) (by omega) (by omega) (by omega) (by omega);have Y:=Zu7 U st 0 (U.length-2) (by omega) (by omega) (by omega) (by omega) (by omega);rw[Zds]at V;rw[Zjr]at Y;simp only[Za O]at V Y;try simp only[S,hT]
   try refine Chk.mk (ZE) ?_
   refine Zs6 (V) ?_;refine vS ?_;try simp only[S,hT]
   try refine Chk.mk (ZE) ?_
   refine Zs6 (Y) ?_;subst A;refine vS ?_;try simp only[S,hT]
   try refine Chk.mk (ZE) ?_
   refine⟨_,[],?_,rfl,rfl⟩;exact ZF
def byV (y:List Int) (run leg:Int):Nat->List ZP->Int
 |_,[]=>0
 |i,d::r=>if d.run=run/\d.leg=leg then y.getD i 0 else byV y run leg (i+1) r
theorem Zxp (t:Zb) (y:List Int) (run leg:Int) (hd:t.delays.length<=1000000) (Y:y.length=t.delays.length):SC (fun _=>aB) 193 [Zf t,lst 1 Q9 0 y,.int .i64 fun _=>run,.int .i64 fun _=>leg] [] fun v h=>v= .int .i64 (fun _=>byV y run leg 0 t.delays)/\h=[]:=by
 obtain⟨S,O⟩:=Zo;refine QN Tryz.func193 (body:=Zj Tryz.f193) rfl (by decide+kernel) ?_;generalize V:byV y run leg 0 t.delays=E;unfold Zf;simp only[Za O];refine wS ?_;refine ZJ false false [] [1,2,3,4,9] [] (fun(i:Nat)=>[(9,.int .i64 fun _=>i)]) (fun _=>[]) (fun i=>i<=t.delays.length/\byV y run leg i (t.delays.drop i)=E) (fun i=>t.delays.length-i+0) 0 ⟨aW _,V⟩ ?_ ?_
 ·exact ZF
 rintro i ⟨Z,A⟩;refine wS ?_;refine⟨fun G=>?_,fun G=>?_⟩
 ·have G:=of_decide_eq_true G;have J:=Qi (d:=default) O (l:=t.delays) (i:=i) (by omega);rw[J]at A;unfold byV at A;simp only[Zq,Za O];generalize U:S ZP default t.delays i=x at*;refine vS ?_;try simp only[U]
  try refine Chk.mk (ZE) ?_
  have I:(bif x.run==run then x.leg==leg else false)=decide (x.run=run/\x.leg=leg):=by
   by_cases e1:x.run=run<;>by_cases e2:x.leg=leg<;>simp[e1,e2]
  refine⟨fun H=>?_,fun H=>?_⟩
  ·rw[I]at H;rw[if_pos (of_decide_eq_true H),Xz O]at A;subst A;(cbv;(try simp only[nc]at*);(try refine Chk.mk (ZE) ?_));(try first|exact⟨rfl,trivial⟩|exact⟨trivial,trivial⟩)
  rw[I]at H;rw[if_neg (of_decide_eq_false H)]at A;refine wS ?_;refine⟨i+1,⟨by omega,A⟩,by show t.delays.length-(i+1)+0<t.delays.length-i+0;omega,?_⟩;exact ZF
 have G:=of_decide_eq_false G;rw[bB (by omega)]at A;unfold byV at A;subst A;(cbv;(try simp only[nc]at*);(try refine Chk.mk (ZE) ?_));(try first|exact⟨rfl,trivial⟩|exact⟨trivial,trivial⟩)
end Vm
namespace Sp
open Vm
def lenAt (ds:List ZP) (m:Nat):Nat:=(ds.getD m default).by_.length
def stepT (ds:List ZP):Nat->List Int->Option (List Int)
 |0,_=>none
 |m+1,x=>if x.getD m 0=(lenAt ds m:Int)-1 then stepT ds m (x.set m 0)else some (x.set m (x.getD m 0+1))
def Zma:List Int:=[0,0,0,0,0,0]
def XZ (ds:List ZP):Nat->Nat->List Int
 |0,_=>Zma
 |m+1,n=>(XZ ds m (n/lenAt ds m)).set m ((n%lenAt ds m:Nat):Int)
def Yl (ds:List ZP):Nat->Nat
 |0=>1
 |m+1=>Yl ds m*lenAt ds m
def manyT (t:Zb):Nat:=Yl t.delays t.delays.length
def Zk (t:Zb) (n:Nat):List Int:=XZ t.delays t.delays.length n
theorem XY {ds:List ZP}:∀(m n:Nat),(XZ ds m n).length=6
 |0,_=>rfl
 |m+1,n=>by unfold XZ;rw[cA];exact XY m _
theorem ZaZ {ds:List ZP}:∀(m n k:Nat),m<=k->(XZ ds m n).getD k 0=0
 |0,_,k,_=>by
  unfold XZ Zma;match k with
  |0|1|2|3|4|5=>rfl
  |k+6=>rfl
 |m+1,n,k,h=>by
  unfold XZ;rw[aA,cR (by omega),<-aA];exact ZaZ m _ k (by omega)
theorem ZiX {ds:List ZP} (m n:Nat) (hm:m<6):(XZ ds m n).set m 0=XZ ds m n:=by
 refine List.ext_getElem? fun i=>?_;by_cases h:m=i
 ·subst h;rw[cS (by rw[XY];exact hm)];have A:=ZaZ (ds:=ds) m n m (aJ _);rw[aA,aD (by rw[XY];exact hm)]at A;rw[aD (by rw[XY];exact hm)];exact congrArg some A.symm
 rw[cR h]
theorem Zkj {ds:List ZP} (S:∀m,m<ds.length->1<=lenAt ds m) (h6:ds.length<=6):∀(m n:Nat),m<=ds.length->n<Yl ds m->stepT ds m (XZ ds m n)=if n+1<Yl ds m then some (XZ ds m (n+1))else none
 |0,n,_,h=>by
  unfold Yl at*;rw[if_neg (by omega)];rfl
 |m+1,n,hm,h=>by
  have hl:=S m (by omega);unfold Yl at h|-;have U:n/lenAt ds m<Yl ds m:=Nat.div_lt_of_lt_mul (by rw[dZ];exact h);have V:=Zkj S h6 m (n/lenAt ds m) (by omega) U;have Z:(XZ ds (m+1) n).getD m 0=((n%lenAt ds m:Nat):Int):=by
   show((XZ ds m (n/lenAt ds m)).set m _).getD m 0=_;rw[aA,cS (by rw[XY];omega)];rfl
  have ab:=Nat.div_add_mod n (lenAt ds m);have aa:=eF n (show lenAt ds m>0 by omega);unfold stepT;rw[Z];by_cases he:n%lenAt ds m+1=lenAt ds m
  ·rw[if_pos (by omega)];have e0:(XZ ds (m+1) n).set m 0=XZ ds m (n/lenAt ds m):=by
    show((XZ ds m (n/lenAt ds m)).set m _).set m 0=_;rw[iF,ZiX m _ (by omega)]
   have G:n+1=lenAt ds m*(n/lenAt ds m+1):=by rw[Nat.mul_add];omega
   rw[e0,V];by_cases A:n/lenAt ds m+1<Yl ds m
   ·have H:n+1<Yl ds m*lenAt ds m:=by rw[G,dZ (lenAt ds m)];exact Nat.mul_lt_mul_of_pos_right A (by omega)
    rw[if_pos A,if_pos H];congr 1;show _=(XZ ds m ((n+1)/lenAt ds m)).set m (((n+1)%lenAt ds m:Nat):Int);rw[G,Nat.mul_div_cancel_left _ (by omega),Nat.mul_mod_right];exact(ZiX m _ (by omega)).symm
   rw[if_neg A,if_neg];rw[G,dZ (lenAt ds m)];have:=aL (lenAt ds m) (show Yl ds m<=n/lenAt ds m+1 by omega);omega
  rw[if_neg (by omega)];have A:n%lenAt ds m+1<lenAt ds m:=by omega
  have G:n+1=lenAt ds m*(n/lenAt ds m)+(n%lenAt ds m+1):=by omega
  have J:(n+1)/lenAt ds m=n/lenAt ds m:=by
   rw[G,Nat.mul_add_div (by omega),Nat.div_eq_of_lt A];omega
  have I:(n+1)%lenAt ds m=n%lenAt ds m+1:=by
   rw[G,Nat.mul_add_mod,Nat.mod_eq_of_lt A]
  have H:n+1<Yl ds m*lenAt ds m:=by
   have Y:=aL (lenAt ds m) (show n/lenAt ds m+1<=Yl ds m by omega);rw[dH,Nat.one_mul,dZ (n/lenAt ds m)]at Y;omega
  rw[if_pos H];congr 1;show((XZ ds m (n/lenAt ds m)).set m _).set m _=(XZ ds m ((n+1)/lenAt ds m)).set m (((n+1)%lenAt ds m:Nat):Int);rw[iF,J,I];rfl
theorem ZqE {ds:List ZP} (A:∀m,m<ds.length->1<=lenAt ds m) (G:ds.length<=6):∀(m n:Nat),m<=ds.length->∀k,k<m->0<=(XZ ds m n).getD k 0/\(XZ ds m n).getD k 0<lenAt ds k
 |0,_,_,k,h=>by omega
 |m+1,n,hm,k,h=>by
  by_cases he:m=k
  ·subst he;have H:=A m (by omega);have:(XZ ds (m+1) n).getD m 0=((n%lenAt ds m:Nat):Int):=by
    show((XZ ds m (n/lenAt ds m)).set m _).getD m 0=_;rw[aA,cS (by rw[XY];omega)];rfl
   rw[this];have:=eF n (show lenAt ds m>0 by omega);omega
  have:(XZ ds (m+1) n).getD k 0=(XZ ds m (n/lenAt ds m)).getD k 0:=by
   show((XZ ds m (n/lenAt ds m)).set m _).getD k 0=_;rw[aA,cR he,<-aA]
  rw[this];exact ZqE A G m _ (by omega) k (by omega)
theorem ZuW {t:Zb} (A:Zx t):∀m,m<t.delays.length->1<=lenAt t.delays m:=fun m h=>by
 unfold lenAt;rw[aA,aD h];exact(A.d _ (bM h)).1
theorem YI {t:Zb} (A:Zx t) (n:Nat):Ju t (Zk t n):=⟨XY _ _,fun i G=>ZqE (ZuW A) A.dlen _ n (aJ _) i G⟩
theorem Zdp {t:Zb} (A:Zx t) {n:Nat} (G:n<manyT t):stepT t.delays t.delays.length (Zk t n)=if n+1<manyT t then some (Zk t (n+1))else none:=Zkj (ZuW A) A.dlen _ n (aJ _) G
theorem ZjH {ds:List ZP} (A:∀m,m<ds.length->1<=lenAt ds m):∀m,m<=ds.length->1<=Yl ds m
 |0,_=>aJ _
 |m+1,h=>fI (ZjH A m (by omega)) (A m (by omega))
theorem Zgr {t:Zb} (A:Zx t):1<=manyT t:=ZjH (ZuW A) _ (aJ _)
theorem ZhS {ds:List ZP}:∀m,m<=6->XZ ds m 0=Zma
 |0,_=>rfl
 |m+1,h=>by
  unfold XZ;rw[Nat.zero_div,Nat.zero_mod];show(XZ ds m 0).set m 0=_;rw[ZiX m 0 (by omega)];exact ZhS m (by omega)
theorem Zdo {t:Zb} (A:Zx t):Zk t 0=Zma:=ZhS _ A.dlen
def EndAt (stop:Nat->Bool) (n m:Nat):Prop:=(m=n/\∀j,j<n->stop j=false)\/∃j,m=j+1/\j<n/\stop j=true/\∀i,i<j->stop i=false
def YX (t:Zb) (x:List Int):List Int:=(List.range t.delays.length).map fun i=>(t.delays.getD i default).by_.getD (x.getD i 0).toNat 0
theorem Zoo (t:Zb) (x:List Int):(YX t x).length=t.delays.length:=by unfold YX;rw[bA,List.length_range]
theorem ZqX (t:Zb) (x:List Int) (run leg:Int):∀(l:List ZP) (i:Nat),t.delays.drop i=l->byV (YX t x) run leg i l=ZgW x run leg i l
 |[],_,_=>rfl
 |d::l,i,h=>by
  have I:i<t.delays.length:=by
   refine Nat.lt_of_not_le fun H=>?_;rw[bB H]at h;cases h
  have G:t.delays.getD i default=d:=by
   have A:(t.delays.drop i)[0]? =some d:=by rw[h];rfl
   rw[List.getElem?_drop]at A;rw[aA,show i=i+0 by omega,A];rfl
  have hv:(YX t x).getD i 0=d.by_.getD (x.getD i 0).toNat 0:=by
   unfold YX;rw[aA,aO,List.getElem?_range I];show(t.delays.getD i default).by_.getD _ 0=_;rw[G]
  unfold byV ZgW;rw[hv,ZqX t x run leg l (i+1) (by rw[<-List.tail_drop,h];rfl)]
theorem Zvn (t:Zb) (x:List Int) (run leg:Int):byV (YX t x) run leg 0 t.delays=Zdg t x run leg:=ZqX t x run leg _ 0 rfl
def BdW (t:Zb) (w:W3):Prop:=∀r i:Nat,StopIn (callsOf t) r i->(0<=w.co r i/\w.co r i<=QP t r i+60+240*i)/\(0<=w.re r i/\w.re r i<=QP t r i+60+240*i)/\(0<=w.go r i/\w.go r i<=QP t r i+60+240*i)
theorem ZhB {t:Zb} {r i:Nat} (h:StopIn (callsOf t) r i) (hi:0<i):StopIn (callsOf t) r (i-1:Nat):=by
 have h:=h.prev (by omega);rwa [show(i:Int)-1=((i-1:Nat):Int) by omega]at h
def Yv (t:Zb) (x:List Int) (w:W3) (r i:Nat):Int:=w.go r (i-1)+(callAt (callsOf t) r i).arrive-(callAt (callsOf t) r (i-1:Nat)).depart+Zdg t x r (i-1:Nat)
theorem ZmN {t:Zb} (G:Zx t) (x:List Int) {w:W3} (hw:BdW t w) {r i:Nat} (A:StopIn (callsOf t) r i) (hi:0<i):0<=Yv t x w r i/\Yv t x w r i<=QP t r i+60+240*i:=by
 have S:=(hw r (i-1) (ZhB A hi)).2.2;have H:=G.asc r i A (by omega);rw[show(i:Int)-1=((i-1:Nat):Int) by omega]at H;have J:=G.nn r i A;have I:=ZdQ G x r (i-1:Nat);unfold Yv;unfold QP at*;have:((i-1:Nat):Int)=(i:Int)-1:=by omega
 omega
theorem Zlt {t:Zb} (x:List Int) {w:W3} {r i:Nat}:J2 t x w r i=J7 t (fun f a=>w.co f.toNat a.toNat) r i (if 0<i then Yv t x w r i else 0):=rfl
theorem ZsF {t:Zb} (A:Zx t) (x:List Int) {w:W3} (hw:BdW t w) {r i:Nat} (G:StopIn (callsOf t) r i):BdW t (ZaU t x w r i):=by
 have J:=A.nn r i G;have I:(0<=(J2 t x w r i).comes/\(J2 t x w r i).comes<=QP t r i+60+240*i)/\(0<=(J2 t x w r i).ready/\(J2 t x w r i).ready<=QP t r i+60+240*i)/\(0<=(J2 t x w r i).goes/\(J2 t x w r i).goes<=QP t r i+60+240*i):=by
  have S:0<=(if 0<i then Yv t x w r i else 0)/\(if 0<i then Yv t x w r i else 0)<=QP t r i+60+240*i:=by
   split
   ·exact ZmN A x hw G (by assumption)
   unfold QP;omega
  rw[Zlt];generalize (if 0<i then Yv t x w r i else 0)=c at*;unfold J7 Zc7 ZaX;unfold QP at*;by_cases hl:(i:Int)=((Zl (callsOf t) r).length:Int)-1
  ·simp only[if_pos hl];split<;>omega
  simp only[if_neg hl];have U:=Zdm A (cm:=fun f a=>w.co f.toNat a.toNat) (r:=r) (call:=callAt (callsOf t) r i) (M:=(callAt (callsOf t) r i).depart+60+240*i) (by omega) t.waits (max (callAt (callsOf t) r i).depart c) (fun w hw=>hw) (by omega);split<;>omega
 intro a b H;by_cases he:a=r/\b=i
 ·obtain⟨rfl,rfl⟩:=he;unfold ZaU;simp only[Za8];exact I
 unfold ZaU;simp only[Zd5 he];exact hw a b H
theorem Zny {t:Zb} (x:List Int) (w:W3) {r i:Nat} (G:(i:Int)=((Zl (callsOf t) r).length:Int)-1) (A:0<i):ZaU t x w r i=⟨Jw w.co r i (Yv t x w r i),Jw w.re r i (Yv t x w r i),Jw w.go r i (Yv t x w r i)⟩:=by
 unfold ZaU;rw[Zlt,if_pos A];generalize Yv t x w r i=c;unfold J7 Zc7 ZaX;simp only[if_pos G,if_neg (show¬(i:Int)=0 by omega)]
def goW (t:Zb) (w:W3) (r i:Nat) (rd:Int):Int:=t.waits.foldl (JF (callsOf t) (fun f a=>w.co f.toNat a.toNat) r (callAt (callsOf t) r i)) rd
theorem Zqf {t:Zb} (x:List Int) (w:W3) {r i:Nat} (A:¬(i:Int)=((Zl (callsOf t) r).length:Int)-1) (G:0<=QP t r i):
  ZaU t x w r i=⟨Jw w.co r i (bif decide (0<i)then Yv t x w r i else goW t w r i (QP t r i)),Jw w.re r i (bif decide (0<i)then max (QP t r i) (Yv t x w r i)else QP t r i),Jw w.go r i (goW t w r i (bif decide (0<i)then max (QP t r i) (Yv t x w r i)else QP t r i))⟩:=by
 unfold ZaU;rw[Zlt];unfold J7 Zc7 ZaX;simp only[if_neg A];by_cases h0:0<i
 ·rw[if_pos h0,decide_eq_true h0];simp only[if_neg (show¬(i:Int)=0 by omega),cond_true];rfl
 rw[if_neg h0,decide_eq_false h0];simp only[if_pos (show(i:Int)=0 by omega),cond_false];rw[show max (callAt (callsOf t) r i).depart 0=QP t r i by unfold QP at*;omega];rfl
def W0:W3:=⟨fun _ _=>0,fun _ _=>0,fun _ _=>0⟩
theorem Zrn {t:Zb} (G:Zx t):BdW t W0:=fun r i A=>by
 have:=G.nn r i A;unfold W0 QP;simp only;omega
theorem Zhu (t:Zb):(Xb t).length=((callsOf t).map fM).sum:=by
 rw[Zm2];congr 1;refine List.ext_getElem (by simp) fun i H A=>?_;have G:i<(callsOf t).length:=by simpa using A
 rw[fy,fy,List.getElem_range];unfold J4 Zl;rw[aV,aA,aD G];rfl
theorem Zmd:∀(c:List (List Call)),(∀l∈c,l.length<=4)->(c.map fM).sum<=4*c.length
 |[],_=>aJ _
 |l::c,h=>by
  have H:=h l (aU ..);have G:=Zmd c fun x A=>h x (aQ _ A);rw[List.map_cons,List.sum_cons,bF];omega
theorem ZpJ {t:Zb} (A:Zx t):(Xb t).length<=16:=by
 rw[Zhu];have I:=Zmd (callsOf t) fun l G=>(A.calls.row l G).2;have H:=A.calls.len;omega
end Sp
namespace Vm
attribute [local irreducible] Dn
open Go Go.Proofs Sp
set_option maxRecDepth 100000
set_option maxHeartbeats 1600000
theorem ZkA {α:Type} [Inhabited α] {A:(α:Type)->α->List α->Int->α} (O:∀(α:Type) (d:α) (l:List α) (i:Int),A α d l i=l.getD i.toNat d) {q:α->Bool} {l:List α} {k:Nat} (G:k<l.length):(l.take (k+1)).any q=((l.take k).any q||q (A α default l (k:Int))):=by
 rw[XW (d:=default) O G,List.any_append];simp
theorem Zku {A:(α:Type)->α->List α->Int->α} (O:∀(α:Type) (d:α) (l:List α) (i:Int),A α d l i=l.getD i.toNat d) (b:Xs):Zd b= .agg [.isl 2 (fun _=>(b.zones.length:Int)) (fun e=>encZone (A Zone default b.zones (e ()))) .none,.isl 3 (fun _=>(b.old.length:Int)) (fun e=>encTrain (A Train default b.old (e ()))) .none,.isl 3 (fun _=>(b.new.length:Int)) (fun e=>encTrain (A Train default b.new (e ()))) .none,.int .i64 fun _=>b.night,.int .i64 fun _=>b.last]:=by
 unfold Zd;simp only[Za O]
theorem Zyd (b:Xs) (l:List Stop) (hz:b.zones.length<=1000000) (hl:l.length<=1000000):SC (fun _=>aB) 181 [Zd b,lst 4 QM default l] [] fun v h=>v= .int .i64 (fun _=>if ZO l.length 2 4≠0 then ZO l.length 2 4 else Y3 b.zones.length l)/\h=[]:=by
 obtain⟨nt,O⟩:=Zo;generalize S:(if ZO l.length 2 4≠0 then ZO l.length 2 4 else Y3 b.zones.length l)=E;unfold Zd;simp only[Za O];refine QN Tryz.func181 (body:=Zj Tryz.f181) rfl (by decide+kernel) ?_;refine wS ?_;refine⟨fun Z=>?_,fun Z=>?_⟩
 ·simp only[decide_eq_true_eq]at Z;rw[show ZO l.length 2 4=7 by unfold ZO;rw[if_pos (by omega)],if_pos (by decide)]at S;subst S;(cbv;(try simp only[nc]at*);(try refine Chk.mk (ZE) ?_));(try first|exact⟨rfl,trivial⟩|exact⟨trivial,trivial⟩)
 simp only[decide_eq_false_iff_not]at Z;refine wS ?_;refine⟨fun h2=>?_,fun h2=>?_⟩
 ·simp only[decide_eq_true_eq]at h2;rw[show ZO l.length 2 4=6 by unfold ZO;rw[if_neg (by omega),if_pos (by omega)],if_pos (by decide)]at S;subst S;(cbv;(try simp only[nc]at*);(try refine Chk.mk (ZE) ?_));(try first|exact⟨rfl,trivial⟩|exact⟨trivial,trivial⟩)
 simp only[decide_eq_false_iff_not]at h2;rw[show ZO l.length 2 4=0 by unfold ZO;rw[if_neg (by omega),if_neg (by omega)],if_neg (by decide)]at S;refine wS ?_;refine ZJ false false [] [1,2,5] [] (fun(i:Nat)=>[(5,.int .i64 fun _=>(i:Int))]) (fun _=>[]) (fun i=>i<=l.length/\Zm (Xg b.zones.length l) i (l.length-i)=E) (fun i=>l.length-i+0) 0 ⟨aW _,by simpa [Y3]using S⟩ ?_ ?_
 ·exact ZF
 rintro i ⟨hi,A⟩;refine wS ?_;refine⟨fun I=>?_,fun I=>?_⟩
 ·simp only[decide_eq_true_eq]at I;obtain⟨q,hq⟩:∃q,l.length-i=q+1:=⟨l.length-i-1,by omega⟩;rw[hq,Zm]at A;have aa:Xg b.zones.length l i=Je (l.take i) (nt Stop default l i) (decide (0<i)&&decide ((i:Int)<l.length-1)) b.zones.length:=by unfold Xg;rw[O];rfl
  rw[aa]at A;unfold Je at A;refine wS ?_;generalize nt Stop default l i=s at*;refine ZcQ (c72 s.station 0 9) ?_;refine vS ?_;refine⟨fun h3=>?_,fun h3=>?_⟩
  ·simp only[if_pos h3]at A;rw[if_pos (by decide)]at A;subst A;(cbv;(try simp only[nc]at*);(try refine Chk.mk (ZE) ?_));(try first|exact⟨rfl,trivial⟩|exact⟨trivial,trivial⟩)
  simp only[if_neg (show¬(!YV s.station 0 9)=true by rw[h3];exact aS)]at A;refine wS ?_;refine XX fun Q hQ=>?_;refine ZJ false false [] [1,2,5,6,7] [] (fun(k:Nat)=>[(7,.int .i64 fun _=>(k:Int))]) (fun _=>[]) (fun k=>k<=i/\(l.take k).any (fun x=>decide (x.station=s.station))=false) (fun k=>i-k+0) 0 ⟨aW _,by simp⟩ ?_ ?_
  ·exact ZF
  rintro k ⟨hk,U⟩;refine wS ?_;refine⟨fun I=>?_,fun I=>?_⟩
  ·simp only[decide_eq_true_eq]at I;have ab:k<l.length:=by omega
   have H:=ZkA O (q:=fun x:Stop=>decide (x.station=s.station)) ab;rw[U,cC]at H;refine wS ?_;simp only[ZbB];refine⟨fun V=>?_,fun V=>?_⟩
   ·rw[V]at H;have:(l.take i).any (fun x=>decide (x.station=s.station))=true:=by
     rw[eu]at H|-;obtain⟨x,hx,h⟩:=H;exact⟨x,List.Sublist.subset (gi (by omega)) hx,h⟩
    simp only[if_pos this]at A;rw[if_pos (by decide)]at A;subst A;refine wS ?_;refine hQ _ _ _ ?_;(cbv;(try simp only[nc]at*);(try refine Chk.mk (ZE) ?_));(try first|exact⟨rfl,trivial⟩|exact⟨trivial,trivial⟩)
   rw[V]at H;refine wS ?_;refine⟨k+1,⟨by omega,H⟩,by show i-(k+1)+0<i-k+0;omega,?_⟩;exact ZF
  simp only[decide_eq_false_iff_not]at I;obtain rfl:k=i:=by omega
  simp only[U,aX,if_false]at A;refine wS ?_;refine hQ _ _ _ ?_;clear hQ;refine wS ?_;refine ZcQ (c72 s.zone 0 ((b.zones.length:Int)-1)) ?_;refine vS ?_;refine⟨fun h5=>?_,fun h5=>?_⟩
  ·simp only[if_pos h5]at A;rw[if_pos (by decide)]at A;subst A;(cbv;(try simp only[nc]at*);(try refine Chk.mk (ZE) ?_));(try first|exact⟨rfl,trivial⟩|exact⟨trivial,trivial⟩)
  simp only[if_neg (show¬(!YV s.zone 0 ((b.zones.length:Int)-1))=true by rw[h5];exact aS)]at A;refine wS ?_;refine ZcQ (c72 s.arrive 0 4319) ?_;refine wS ?_;refine⟨fun G=>?_,fun G=>?_⟩
  ·have G:YV s.arrive 0 4319=true:=by simpa using G
   refine wS ?_;refine ZcQ (c72 s.depart 0 4319) ?_;refine wS ?_;refine⟨fun J=>?_,fun J=>?_⟩
   ·have J:YV s.depart 0 4319=false:=by simpa [G]using J
    simp only[G,J,eA,dY,cC,if_true]at A;rw[if_pos (by decide)]at A;subst A;(cbv;(try simp only[nc]at*);(try refine Chk.mk (ZE) ?_));(try first|exact⟨rfl,trivial⟩|exact⟨trivial,trivial⟩)
   have J:YV s.depart 0 4319=true:=by simpa [G]using J
   simp only[G,J,dY,cC,aX,if_false]at A;have he:(decide (0<k)&&decide ((k:Int)<l.length-1)&&decide (s.depart<s.arrive))=(bif bif decide (0<(k:Int))then decide ((k:Int)<(l.length:Int)-1)else false then decide (s.depart<s.arrive)else false):=by
    rw[show decide (0<k)=decide (0<(k:Int))from by rw[Bool.eq_iff_iff];simp];cases decide (0<(k:Int))<;>cases decide ((k:Int)<(l.length:Int)-1)<;>rfl
   rw[he]at A;refine wS ?_;refine⟨fun Y=>?_,fun Y=>?_⟩
   ·rw[if_pos Y,if_pos (by decide)]at A;subst A;(cbv;(try simp only[nc]at*);(try refine Chk.mk (ZE) ?_));(try first|exact⟨rfl,trivial⟩|exact⟨trivial,trivial⟩)
   simp only[Y,aX,if_false,ne_eq,not_true_eq_false]at A;refine wS ?_;refine⟨k+1,⟨by omega,by rw[<-A];congr 1;omega⟩,by show l.length-(k+1)+0<l.length-k+0;omega,?_⟩;exact ZF
  have G:YV s.arrive 0 4319=false:=by simpa using G
  simp only[G,eA,cT,if_true]at A;rw[if_pos (by decide)]at A;subst A;refine wS ?_;refine Br.isT (by rfl) ?_;(cbv;(try simp only[nc]at*);(try refine Chk.mk (ZE) ?_));(try first|exact⟨rfl,trivial⟩|exact⟨trivial,trivial⟩)
 simp only[decide_eq_false_iff_not]at I;rw[show l.length-i=0 by omega,Zm]at A;subst A;(cbv;(try simp only[nc]at*);(try refine Chk.mk (ZE) ?_));(try first|exact⟨rfl,trivial⟩|exact⟨trivial,trivial⟩)
theorem c71 (b:Xs) (l:List Train) (hz:b.zones.length<=1000000) (hl:l.length<=1000000) (hs:∀t∈l,t.stops.length<=1000000):SC (fun _=>aB) 140 [Zd b,lst 3 encTrain default l] [] fun v h=>v= .int .i64 (fun _=>Qf b.zones.length l)/\h=[]:=by
 obtain⟨H,O⟩:=Zo;unfold Qf;generalize Y:(if ZO l.length 0 4≠0 then ZO l.length 0 4 else Zm (QU b.zones.length l) 0 l.length)=E;unfold Zd;simp only[Za O];refine QN Tryz.func140 (body:=Zj Tryz.f140) rfl (by decide+kernel) ?_;refine wS ?_;refine⟨fun h2=>?_,fun h2=>?_⟩
 ·simp only[decide_eq_true_eq]at h2;rw[show ZO l.length 0 4=6 by unfold ZO;rw[if_neg (by omega),if_pos (by omega)],if_pos (by decide)]at Y;subst Y;(cbv;(try simp only[nc]at*);(try refine Chk.mk (ZE) ?_));(try first|exact⟨rfl,trivial⟩|exact⟨trivial,trivial⟩)
 simp only[decide_eq_false_iff_not]at h2;rw[show ZO l.length 0 4=0 by unfold ZO;rw[if_neg (by omega),if_neg (by omega)],if_neg (by decide)]at Y;refine wS ?_;refine ZJ false false [] [1,2,5] [] (fun(i:Nat)=>[(5,.int .i64 fun _=>(i:Int))]) (fun _=>[]) (fun i=>i<=l.length/\Zm (QU b.zones.length l) i (l.length-i)=E) (fun i=>l.length-i+0) 0 ⟨aW _,by simpa using Y⟩ ?_ ?_
 ·exact ZF
 rintro i ⟨hi,G⟩;refine wS ?_;refine⟨fun J=>?_,fun J=>?_⟩
 ·simp only[decide_eq_true_eq]at J;have ab:i<l.length:=by omega
  obtain⟨q,hq⟩:∃q,l.length-i=q+1:=⟨l.length-i-1,by omega⟩;rw[hq,Zm]at G;have ac:=hs _ (Qu (d:=default) O (l:=l) (i:=i) ab);have A:QU b.zones.length l i=if !YV (H Train default l i).number 1 999 then 1 else if(l.take i).any (fun x=>decide (x.number=(H Train default l i).number))then 4 else if !YV (H Train default l i).days 1 127 then 1
   else if ZO (H Train default l i).stops.length 2 4≠0 then ZO (H Train default l i).stops.length 2 4 else Y3 b.zones.length (H Train default l i).stops:=by unfold QU;rw[O];rfl
  refine wS ?_;refine ZcQ (c72 (H Train default l i).number 1 999) ?_;refine vS ?_;refine⟨fun S=>?_,fun S=>?_⟩
  ·rw[if_pos S]at A;rw[A,if_pos (by decide)]at G;subst G;(cbv;(try simp only[nc]at*);(try refine Chk.mk (ZE) ?_));(try first|exact⟨rfl,trivial⟩|exact⟨trivial,trivial⟩)
  rw[if_neg (by rw[S];exact aS)]at A;refine wS ?_;refine XX fun Q hQ=>?_;refine ZJ false false [] [1,2,5,6] [] (fun(k:Nat)=>[(6,.int .i64 fun _=>(k:Int))]) (fun _=>[]) (fun k=>k<=i/\(l.take k).any (fun x=>decide (x.number=(H Train default l i).number))=false) (fun k=>i-k+0) 0 ⟨aW _,by simp⟩ ?_ ?_
  ·exact ZF
  rintro k ⟨hk,Z⟩;refine wS ?_;refine⟨fun J=>?_,fun J=>?_⟩
  ·simp only[decide_eq_true_eq]at J;have aa:k<l.length:=by omega
   have I:=ZkA O (q:=fun x:Train=>decide (x.number=(H Train default l i).number)) aa;rw[Z,cC]at I;refine wS ?_;simp only[ZbB];refine⟨fun h4=>?_,fun h4=>?_⟩
   ·rw[h4]at I;have:(l.take i).any (fun x=>decide (x.number=(H Train default l i).number))=true:=by
     rw[eu]at I|-;obtain⟨x,hx,h⟩:=I;exact⟨x,List.Sublist.subset (gi (by omega)) hx,h⟩
    rw[if_pos this]at A;rw[A,if_pos (by decide)]at G;subst G;refine wS ?_;refine hQ _ _ _ ?_;(cbv;(try simp only[nc]at*);(try refine Chk.mk (ZE) ?_));(try first|exact⟨rfl,trivial⟩|exact⟨trivial,trivial⟩)
   rw[h4]at I;refine wS ?_;refine⟨k+1,⟨by omega,I⟩,by show i-(k+1)+0<i-k+0;omega,?_⟩;exact ZF
  simp only[decide_eq_false_iff_not]at J;obtain rfl:k=i:=by omega
  rw[Z,if_neg (by exact aS)]at A;refine wS ?_;refine hQ _ _ _ ?_;clear hQ;refine wS ?_;refine ZcQ (c72 (H Train default l (k:Int)).days 1 127) ?_;refine vS ?_;refine⟨fun S=>?_,fun S=>?_⟩
  ·rw[if_pos S]at A;rw[A,if_pos (by decide)]at G;subst G;(cbv;(try simp only[nc]at*);(try refine Chk.mk (ZE) ?_));(try first|exact⟨rfl,trivial⟩|exact⟨trivial,trivial⟩)
  rw[if_neg (by rw[S];exact aS)]at A;refine wS ?_;have U:=Zyd b (H Train default l (k:Int)).stops hz ac;rw[Zku O]at U;refine ZL U rfl fun r ae G=>?_;obtain⟨rfl,rfl⟩:=G;rw[<-A];generalize QU b.zones.length l k=e at*;refine vS ?_;refine⟨fun V=>?_,fun V=>?_⟩
  ·simp only[bne_iff_ne,ne_eq]at V;rw[if_pos V]at G;subst G;(cbv;(try simp only[nc]at*);(try refine Chk.mk (ZE) ?_));(try first|exact⟨rfl,trivial⟩|exact⟨trivial,trivial⟩)
  simp only[bne_eq_false_iff_eq]at V;rw[if_neg (fun h=>h V)]at G;refine wS ?_;refine⟨k+1,⟨by omega,by rw[<-G];congr 1;omega⟩,by show l.length-(k+1)+0<l.length-k+0;omega,?_⟩;exact ZF
 simp only[decide_eq_false_iff_not]at J;rw[show l.length-i=0 by omega,Zm]at G;subst G;(cbv;(try simp only[nc]at*);(try refine Chk.mk (ZE) ?_));(try first|exact⟨rfl,trivial⟩|exact⟨trivial,trivial⟩)
theorem c25 (b:Xs) (I:Xe b):SC (fun _=>aB) 87 [Zd b] [] fun v h=>v= .int .i64 (fun _=>Yx b)/\h=[]:=by
 obtain⟨nt,O⟩:=Zo;have hz:=I.zones;have hc:=I.chs;unfold Yx;generalize A:(if ZO b.zones.length 1 3≠0 then _ else _:Int)=E;have Y:=c71 b b.old hz I.old I.stops.1;have Z:=c71 b b.new hz I.new I.stops.2;unfold Zd at Y Z|-;simp only[Za O]at Y Z|-;refine QN Tryz.func87 (body:=Zj Tryz.f87) rfl (by decide+kernel) ?_;refine wS ?_;refine⟨fun V=>?_,fun V=>?_⟩
 ·have V:b.zones.length=0:=by simpa using V
  rw[show ZO b.zones.length 1 3=7 by unfold ZO;rw[if_pos (by omega)],if_pos (by decide)]at A;subst A;(cbv;(try simp only[nc]at*);(try refine Chk.mk (ZE) ?_));(try first|exact⟨rfl,trivial⟩|exact⟨trivial,trivial⟩)
 have V:¬b.zones.length=0:=by simpa using V
 refine wS ?_;refine⟨fun h2=>?_,fun h2=>?_⟩
 ·simp only[decide_eq_true_eq]at h2;rw[show ZO b.zones.length 1 3=6 by unfold ZO;rw[if_neg (by omega),if_pos (by omega)],if_pos (by decide)]at A;subst A;(cbv;(try simp only[nc]at*);(try refine Chk.mk (ZE) ?_));(try first|exact⟨rfl,trivial⟩|exact⟨trivial,trivial⟩)
 simp only[decide_eq_false_iff_not]at h2;rw[show ZO b.zones.length 1 3=0 by unfold ZO;rw[if_neg (by omega),if_neg (by omega)],if_neg (by decide)]at A;generalize hF:Zm (fun i=>Zw (b.zones.getD i default)) 0 b.zones.length=F at*;refine wS ?_;refine XX fun Q hQ=>?_;refine ZJ false false [] [1,3] [] (fun(i:Nat)=>[(3,.int .i64 fun _=>(i:Int))]) (fun _=>[]) (fun i=>i<=b.zones.length/\Zm (fun i=>Zw (b.zones.getD i default)) i (b.zones.length-i)=F) (fun i=>b.zones.length-i+0) 0 ⟨aW _,by simpa using hF⟩ ?_ ?_
 ·exact ZF
 rintro i ⟨hi,J⟩;refine wS ?_;refine⟨fun I=>?_,fun I=>?_⟩
 ·simp only[decide_eq_true_eq]at I;obtain⟨q,hq⟩:∃q,b.zones.length-i=q+1:=⟨b.zones.length-i-1,by omega⟩;rw[hq,Zm]at J;have ab:=hc _ (Qu (d:=default) O (l:=b.zones) (i:=i) (by omega));have aa:b.zones.getD i default=nt Zone default b.zones i:=by rw[O];rfl
  rw[aa]at J;refine wS ?_;generalize nt Zone default b.zones i=z at*;refine ZcQ (c70 z ab) ?_;generalize Zw z=e at*;refine vS ?_;refine⟨fun G=>?_,fun G=>?_⟩
  ·simp only[bne_iff_ne,ne_eq]at G;rw[if_pos G]at J;subst J;rw[if_pos G]at A;subst A;refine wS ?_;refine hQ _ _ _ ?_;(cbv;(try simp only[nc]at*);(try refine Chk.mk (ZE) ?_));(try first|exact⟨rfl,trivial⟩|exact⟨trivial,trivial⟩)
  simp only[bne_eq_false_iff_eq]at G;rw[if_neg (fun h=>h G)]at J;refine wS ?_;refine⟨i+1,⟨by omega,by rw[<-J];congr 1;omega⟩,by show b.zones.length-(i+1)+0<b.zones.length-i+0;omega,?_⟩;exact ZF
 simp only[decide_eq_false_iff_not]at I;rw[show b.zones.length-i=0 by omega,Zm]at J;subst J;rw[if_neg (fun h=>h rfl)]at A;refine wS ?_;refine hQ _ _ _ ?_;clear hQ;generalize Qf b.zones.length b.old=e1 at*;generalize Qf b.zones.length b.new=e2 at*;refine wS ?_;refine ZcQ (Y) ?_;refine wS ?_;refine⟨fun G=>?_,fun G=>?_⟩
 ·simp only[bne_iff_ne,ne_eq]at G;rw[if_pos G]at A;subst A;(cbv;(try simp only[nc]at*);(try refine Chk.mk (ZE) ?_));(try first|exact⟨rfl,trivial⟩|exact⟨trivial,trivial⟩)
 simp only[bne_eq_false_iff_eq]at G;rw[if_neg (fun h=>h G)]at A;refine wS ?_;refine ZcQ (Z) ?_;refine wS ?_;refine⟨fun U=>?_,fun U=>?_⟩
 ·simp only[bne_iff_ne,ne_eq]at U;rw[if_pos U]at A;subst A;(cbv;(try simp only[nc]at*);(try refine Chk.mk (ZE) ?_));(try first|exact⟨rfl,trivial⟩|exact⟨trivial,trivial⟩)
 simp only[bne_eq_false_iff_eq]at U;rw[if_neg (fun h=>h U)]at A;refine wS ?_;have S:=c72 b.last 0 13;rcases hI:YV b.last 0 13 with _|_
 ·rw[hI]at S A;simp only[eA,cT,if_true]at A;subst A;refine ZcQ (S) ?_;refine vS ?_;refine Chk.mk (by simp[Xo,Xm,Xn,Cn.p]) ?_;refine Br.isF (by rfl) ?_;refine wS ?_;refine Br.isT (by rfl) ?_;(cbv;(try simp only[nc]at*);(try refine Chk.mk (ZE) ?_));(try first|exact⟨rfl,trivial⟩|exact⟨trivial,trivial⟩)
 have ac:0<=b.last/\b.last<=13:=by simpa [YV]using hI
 rw[hI]at S A;simp only[dY,cC]at A;refine ZcQ (S) ?_;refine wS ?_;refine Br.isT (by rfl) ?_;refine wS ?_;refine ZcQ (c72 b.night 0 (b.last+1)) ?_;refine wS ?_;refine⟨fun H=>?_,fun H=>?_⟩
 ·have H:YV b.night 0 (b.last+1)=false:=by simpa using H
  rw[if_pos (by simp[H])]at A;subst A;(cbv;(try simp only[nc]at*);(try refine Chk.mk (ZE) ?_));(try first|exact⟨rfl,trivial⟩|exact⟨trivial,trivial⟩)
 have H:YV b.night 0 (b.last+1)=true:=by simpa using H
 rw[if_neg (by simp[H])]at A;subst A;(cbv;(try simp only[nc]at*);(try refine Chk.mk (ZE) ?_));(try first|exact⟨rfl,trivial⟩|exact⟨trivial,trivial⟩)
theorem Zx6 (b:Xs) (day:Int):SC (fun _=>aB) 168 [Zd b,.int .i64 fun _=>day] [] fun v h=>v=lst 3 encTrain default (Xt b day)/\h=[]:=by
 refine QN Tryz.func168 (body:=Zj Tryz.f168) rfl (by decide+kernel) ?_;unfold Zd Xt;refine wS ?_;refine⟨fun A=>?_,fun A=>?_⟩
 ·simp only[decide_eq_true_eq]at A;rw[if_pos A];(cbv;(try simp only[nc]at*);(try refine Chk.mk (ZE) ?_));(try first|exact⟨rfl,trivial⟩|exact⟨trivial,trivial⟩)
 simp only[decide_eq_false_iff_not]at A;rw[if_neg A];(cbv;(try simp only[nc]at*);(try refine Chk.mk (ZE) ?_));(try first|exact⟨rfl,trivial⟩|exact⟨trivial,trivial⟩)
theorem Zx4 (t:Train) (day:Int) (H:0<=day/\day<=1000000) (A:0<=t.days/\t.days<=1000000):SC (fun _=>aB) 170 [.agg (encTrain t),.int .i64 fun _=>day] [] fun v h=>v= .bool (fun _=>ZbW t day)/\h=[]:=by
 refine QN Tryz.func170 (body:=Zj Tryz.f170) rfl (by decide+kernel) ?_;have e:=(Zti day 7).1 H.1;refine vS ?_;rw[e];refine Chk.mk (ZE) ?_;refine vS ?_;refine⟨?_,trivial⟩;congr 1;funext _;rw[Nat.min_eq_left (show(day%7).toNat<=IntKind.i64.bits by show _<=64;omega),Int.fdiv_eq_ediv_of_nonneg _ (gu (gK (by omega)))];have G:0<=t.days/2^(day%7).toNat:=Int.ediv_nonneg A.1 (gu (gK (by omega)));have I:t.days/2^(day%7).toNat<=t.days:=Int.ediv_le_self _ A.1;unfold ZbW;generalize t.days/2^(day%7).toNat=q at*;rw[ZmR q G (by omega),ZbB]
theorem Zx5 (l:List Train) (n:Int) (J:l.length<=1000000):SC (fun _=>aB) 169 [lst 3 encTrain default l,.int .i64 fun _=>n] [] fun v h=>v= .int .i64 (fun _=>place l n)/\h=[]:=by
 obtain⟨S,O⟩:=Zo;unfold place;generalize I:Zt (fun t:Train=>decide (t.number=n)) 0 l=E;rw[Za O];refine QN Tryz.func169 (body:=Zj Tryz.f169) rfl (by decide+kernel) ?_;refine wS ?_;refine ZJ false false [] [0,1,5] [] (fun(i:Nat)=>[(5,.int .i64 fun _=>(i:Int))]) (fun _=>[]) (fun i=>i<=l.length/\Zt (fun t:Train=>decide (t.number=n)) i (l.drop i)=E) (fun i=>l.length-i+0) 0 ⟨aW _,by simpa using I⟩ ?_ ?_
 ·exact ZF
 rintro i ⟨U,A⟩;refine wS ?_;refine⟨fun G=>?_,fun G=>?_⟩
 ·simp only[decide_eq_true_eq]at G;rw[Qi (d:=default) O (l:=l) (i:=i) (by omega),Zt]at A;refine wS ?_;simp only[ZbB];refine⟨fun H=>?_,fun H=>?_⟩
  ·rw[if_pos H]at A;subst A;(cbv;(try simp only[nc]at*);(try refine Chk.mk (ZE) ?_));(try first|exact⟨rfl,trivial⟩|exact⟨trivial,trivial⟩)
  rw[if_neg (by rw[H];exact aS)]at A;refine wS ?_;refine⟨i+1,⟨by omega,by rw[<-A];rfl⟩,by show l.length-(i+1)+0<l.length-i+0;omega,?_⟩;exact ZF
 simp only[decide_eq_false_iff_not]at G;rw[bB (by omega),Zt]at A;subst A;(cbv;(try simp only[nc]at*);(try refine Chk.mk (ZE) ?_));(try first|exact⟨rfl,trivial⟩|exact⟨trivial,trivial⟩)
theorem ZiQ:∀(l:List Chg) (fr a r t:Int),(∀p∈QS fr a l,p.fr<Xx/\r-p.ahd<Xx)->t<Xx->Q7 (QS fr a l) r t<Xx
 |[],fr,a,r,t,h,ht=>by
  have:=h ⟨fr,Xx,a⟩ (by simp[QS]);simp only[QS,Q7]at*;rw[if_pos (by omega)];omega
 |c::l,fr,a,r,t,h,ht=>by
  unfold QS at h|-;split
  ·rename_i A;rw[if_pos A]at h;unfold Q7;split
   ·have:=h ⟨fr,c.at_,a⟩ (aU ..);simp only at this|-;omega
   exact ZiQ l _ _ _ _ (fun p G=>h p (aQ _ G)) ht
  rename_i A;rw[if_neg A]at h;exact ZiQ l _ _ _ _ h ht
theorem ZmH:∀(l:List Pc) (r t:Int),0<=t->0<=Q7 l r t
 |[],_,_,_=>by unfold Q7 Xx;omega
 |p::l,r,t,h=>by
  unfold Q7;split
  ·omega
  exact ZmH l r t h
theorem Zj2 {z:Zone} (H:Zw z=0) {r t:Int} (hr:r<=1000000) (A:0<=t/\t<Xx):0<=Q7 (ZU z) r t/\Q7 (ZU z) r t<Xx:=by
 refine⟨ZmH _ _ _ A.1,ZiQ _ _ _ _ _ (fun p G=>?_) A.2⟩;have:=(Zeb H).2 p G;unfold Xx;omega
theorem Zx3 (b:Xs) (t:Train) (day:Int) (Z:∀z∈b.zones,Zw z=0) (ht:∀s∈t.stops,(0<=s.zone/\s.zone<b.zones.length)/\(0<=s.arrive/\s.arrive<=10000)/\0<=s.depart/\s.depart<=10000) (ac:2<=t.stops.length/\t.stops.length<=1000) (hd:0<=day/\day<=100):
  SC (fun _=>aB) 171 [Zd b,.agg (encTrain t),.int .i64 fun _=>day] [] fun v h=>v=lst 3 XM default (calls b.zones t day)/\h=[]:=by
 obtain⟨G,O⟩:=Zo;refine SC.less (Zkl false false [] Tryz.func171 (body:=Zj Tryz.f171) rfl (by decide+kernel) ?_);rw[Zku O];rw[show AV.agg (encTrain t)= .agg [.int .i64 fun _=>t.number,.int .i64 fun _=>t.days,.isl 4 (fun _=>(t.stops.length:Int)) (fun e=>QM (G Stop default t.stops (e ()))) .none] by unfold encTrain;rw[Za O]];refine wS ?_;refine ZJ false false [] [2,3,4,7,8,9] [.tok 3 fun _=>0] (fun(⟨i,now,out⟩:Nat×Int×List Sp.Call)=>[(7,.isl 3 (fun _=>(out.length:Int)) (fun e=>XM (G Sp.Call default out (e ()))) (.own 2)),(8,.int .i64 fun _=>now),(9,.int .i64 fun _=>(i:Int))])
  (fun⟨i,now,out⟩=>[(2,.tok 3 fun _=>(out.length:Int))])
  (fun⟨i,now,out⟩=>(i<=t.stops.length/\out.length=i/\calls b.zones t day=out++Q5 b.zones day t.stops.length i now (t.stops.drop i))/\0<=now/\now<Xx) (fun i=>t.stops.length-i.1+0) (0,0,[]) ⟨⟨aW _,rfl,rfl⟩,by decide,by decide⟩ ?_ ?_
 ·(refine To.of [(3,false)] ?_;cbv;(try simp only[nc]);(repeat' (first|exact trivial|exact Zy.refl _|exact ZG.refl _|refine⟨?_,?_⟩|refine ZG.cells ?_|refine Zy.agg ?_|refine Zy.tup ?_));(all_goals (first|exact XQ|skip)))
 rintro⟨i,now,out⟩ ⟨⟨hi,ho,hp⟩,A⟩
 have ab:∀k:Nat,k<t.stops.length->Zw (G Zone default b.zones (G Stop default t.stops (k:Int)).zone)=0:=fun k hk=>Z _ (by
  have:=ht _ (Qu (d:=default) O (l:=t.stops) (i:=k) hk)
  rw[O,aA,aD (by omega)];exact bM _)
 have aa:∀z:Int,b.zones.getD z.toNat default=G Zone default b.zones z:=fun z=>by rw[O]
 refine wS ?_;refine⟨fun U=>?_,fun U=>?_⟩
 ·simp only[decide_eq_true_eq]at U;have I:i<t.stops.length:=by omega
  have hs:=ht _ (Qu (d:=default) O (l:=t.stops) (i:=i) I);have S:=ab i I;rw[Qi (d:=default) O I,Q5]at hp;simp only[aa]at hp;refine wS ?_;generalize G Stop default t.stops (i:Int)=s at*;generalize Y:G Zone default b.zones s.zone=z at*;have ka:=fun n A=>ZwS z (1440*day+s.arrive) n S (by omega) A;have kd:=fun n A=>ZwS z (1440*day+s.depart) n S (by omega) A;have J:=fun n A=>Zj2 (t:=n) S (show 1440*day+s.arrive<=1000000 by omega) A;have H:=fun n A=>Zj2 (t:=n) S (show 1440*day+s.depart<=1000000 by omega) A;generalize hL:ZU z=L at*;rcases cI i with h0|h0
  ·subst h0;rw[if_pos rfl,if_pos (by omega)]at hp;refine Br.isF (by simp) ?_;refine wS ?_;refine Br.isT (by simp;omega) ?_;refine vS ?_;simp only[Y];refine Chk.mk (ZE) ?_;refine ZcQ (kd now A) ?_;have H:=H now A;try dsimp only at hp
   generalize Q7 L (1440*day+s.depart) now=d at*;refine wS ?_;refine Br.isT (by simp) ?_;refine wS ?_;refine⟨(1,d,out++[⟨s.station,d,d⟩]),⟨⟨by omega,by simp only[bf,bF,cE];omega,by rw[hp];simp⟩,H⟩,by show t.stops.length-1+0<t.stops.length-0+0;omega,?_⟩;exact ZF
  rw[if_neg (by omega)]at hp;refine Br.isT (by simp;omega) ?_;refine vS ?_;simp only[Y];refine Chk.mk (ZE) ?_;refine ZcQ (ka now A) ?_;have J:=J now A;try dsimp only at hp
  generalize Q7 L (1440*day+s.arrive) now=a at*;refine wS ?_;refine⟨fun V=>?_,fun V=>?_⟩
  ·simp only[decide_eq_true_eq]at V;rw[if_pos (by omega)]at hp;refine vS ?_;simp only[Y];refine Chk.mk (ZE) ?_;refine ZcQ (kd a J) ?_;have H:=H a J;generalize Q7 L (1440*day+s.depart) a=d at*;refine wS ?_;refine Br.isF (by simp;omega) ?_;refine wS ?_;refine⟨(i+1,d,out++[⟨s.station,a,d⟩]),⟨⟨by omega,by simp only[bf,bF,cE];omega,by rw[hp];simp⟩,H⟩,by show t.stops.length-(i+1)+0<t.stops.length-i+0;omega,?_⟩;exact ZF
  simp only[decide_eq_false_iff_not]at V;rw[if_neg (by omega)]at hp;refine wS ?_;refine Br.isF (by simp;omega) ?_;refine wS ?_;refine⟨(i+1,a,out++[⟨s.station,a,a⟩]),⟨⟨by omega,by simp only[bf,bF,cE];omega,by rw[hp];simp⟩,J⟩,by show t.stops.length-(i+1)+0<t.stops.length-i+0;omega,?_⟩;exact ZF
 simp only[decide_eq_false_iff_not]at U;rw[bB (by omega),Q5,List.append_nil]at hp;rw[hp];refine wS ?_;refine⟨lst 3 XM default out,[],?_,rfl,rfl⟩;simp only[Za O];exact ZF
theorem Znj (l:List Train) (n:Int):place l n=-1\/0<=place l n/\place l n<l.length:=by
 have:=XL (q:=fun t:Train=>decide (t.number=n)) (l:=l) (i:=0) (by omega);rcases cI l.length with h|h
 ·rw[List.eq_nil_of_length_eq_zero h];exact .inl rfl
 unfold place;omega
theorem Zvf (b:Xs) (n day:Int) (hf:Xe b):SC (fun _=>aB) 128 [Zd b,.int .i64 fun _=>n,.int .i64 fun _=>day] [] fun v h=>v= .tup [lst 3 XM default (Run b n day).1,.int .i64 fun _=>(Run b n day).2]/\h=[]:=by
 obtain⟨I,O⟩:=Zo;refine SC.less (QN Tryz.func128 (body:=Zj Tryz.f128) rfl (by decide+kernel) ?_);unfold Zd Run;simp only[Za O];refine wS ?_;refine ZcQ (c25 b hf) ?_;have S:=fun h=>ZcH (b:=b) h;generalize Yx b=e at*;refine vS ?_;refine⟨fun A=>?_,fun A=>?_⟩
 ·simp only[bne_iff_ne,ne_eq]at A;rw[if_pos A];refine wS ?_;refine⟨_,[],?_,rfl,rfl⟩;exact ZF
 simp only[bne_eq_false_iff_eq]at A;have G:=S A;subst A;rw[if_neg (fun h=>h rfl)];refine wS ?_;refine ZcQ (c72 day 0 b.last) ?_;refine vS ?_;refine⟨fun A=>?_,fun A=>?_⟩
 ·rw[if_pos A];refine wS ?_;refine⟨_,[],?_,rfl,rfl⟩;exact ZF
 rw[if_neg (by rw[A];exact aS)];have ab:=Zay (by simpa using A:YV day 0 b.last=true);have Y:=G.last;have J:=ZfN G day;refine wS ?_;refine ZcQ (Zx6 b day) ?_;have ac:=Znj (Xt b day) n;generalize Xt b day=l at*;refine wS ?_;refine ZcQ (Zx5 l n (by omega)) ?_;generalize place l n=p at*;refine vS ?_;refine⟨fun A=>?_,fun A=>?_⟩
 ·simp only[decide_eq_true_eq]at A;rw[if_pos A];refine wS ?_;refine⟨_,[],?_,rfl,rfl⟩;exact ZF
 simp only[decide_eq_false_iff_not]at A;rw[if_neg A];obtain⟨k,rfl⟩:∃k:Nat,p=k:=⟨p.toNat,by omega⟩;refine wS ?_;have H:=J.2 _ (Qu (d:=default) O (l:=l) (i:=k) (by omega));have U:l.getD (k:Int).toNat default=I Train default l k:=by rw[O]
 rw[U];have V:=H.days;refine ZcQ (Zx4 (I Train default l k) day (by omega) (by omega)) ?_;refine vS ?_;refine⟨fun A=>?_,fun A=>?_⟩
 ·rw[if_pos A];refine wS ?_;refine⟨_,[],?_,rfl,rfl⟩;exact ZF
 rw[if_neg (by rw[A];exact aS)];refine wS ?_;have aa:=H.len;refine ZcQ (Zx3 b (I Train default l k) day G.zones (fun s Z=>by obtain⟨_,h1,h2,h3⟩:=H.stops s Z;omega) (by omega) (by omega)) ?_;generalize calls b.zones (I Train default l k) day=C at*;refine wS ?_;refine⟨_,[],?_,rfl,rfl⟩;(try simp only[YE O]);exact ZF
set_option maxHeartbeats 4000000
theorem ZnQ {a b:Z4}:a=b↔a.number=b.number/\a.day=b.day:=by
 cases a;cases b;simp
theorem ZwH (t:Zb) (Z:Xe t.book) (hr:t.runs.length<=1000000):SC (fun _=>aB) 89 [Zf t] [] fun v h=>v=lst 1 Zc [] (callsOf t)/\h=[]:=by
 obtain⟨U,O⟩:=Zo;refine SC.less (QN Tryz.func89 (body:=Zj Tryz.f89) rfl (by decide+kernel) ?_);unfold Zf;simp only[Za O];refine wS ?_;refine ZJ false false [] [1,3,4] [.tok 1 fun _=>0] (fun(⟨i,out⟩:Nat×List (List Sp.Call))=>[(3,.isl 1 (fun _=>(out.length:Int)) (fun e=>Zc (U (List Sp.Call) [] out (e ()))) (.own 1)),(4,.int .i64 fun _=>i)])
  (fun⟨i,out⟩=>[(1,.tok 1 fun _=>(out.length:Int))])
  (fun⟨i,out⟩=>i<=t.runs.length/\out=(t.runs.take i).map (Yt t)) (fun i=>t.runs.length-i.1+0) (0,[]) ⟨aW _,by simp⟩ ?_ ?_
 ·(refine To.of [(1,false)] ?_;cbv;(try simp only[nc]);(repeat' (first|exact trivial|exact Zy.refl _|exact ZG.refl _|refine⟨?_,?_⟩|refine ZG.cells ?_|refine Zy.agg ?_|refine Zy.tup ?_));(all_goals (first|exact XQ|skip)))
 rintro⟨i,out⟩ ⟨hi,ho⟩;have ab:out.length=i:=by rw[ho];simp;omega
 refine wS ?_;refine⟨fun J=>?_,fun J=>?_⟩
 ·simp only[decide_eq_true_eq]at J;have G:=XW (d:=default) O (l:=t.runs) (i:=i) (by omega);generalize Y:U Z4 default t.runs i=d at*;refine vS ?_;simp only[Y];refine Chk.mk (ZE) ?_;have A:=Zvf t.book d.number d.day Z;have S:=Zdu t.book d.number d.day;have H:Yt t d=(Run t.book d.number d.day).1:=rfl;unfold Zd at A;simp only[Za O]at A;generalize Run t.book d.number d.day=r at*;obtain⟨C,er⟩:=r;refine ZL (A) (by first|rfl|(simp only[Ze,Zd,Zf,Za O];rfl)) fun r aa V=>?_;(try simp only[Ze,Zd,Zf,Za O]at V);obtain⟨rfl,rfl⟩:=V;dsimp only at S H;refine wS ?_;refine⟨(i+1,out++[C]),⟨by omega,by rw[G,dD,ho];simp[H]⟩,by show t.runs.length-(i+1)+0<t.runs.length-i+0;omega,?_⟩;refine toR ?_;exact .snoc O rfl rfl (by simp only[Zc,Za O];rfl)
 simp only[decide_eq_false_iff_not]at J;have I:out=callsOf t:=by rw[ho,dR (by omega)];rfl
 subst I;refine wS ?_;refine⟨_,[],?_,rfl,rfl⟩;exact ZF
theorem ZxL (t:Zb) (hf:Xe t.book) (hr:t.runs.length<=1000000):SC (fun _=>aB) 88 [Zf t] [] fun v h=>v= .int .i64 (fun _=>QQ t)/\h=[]:=by
 obtain⟨S,O⟩:=Zo;refine QN Tryz.func88 (body:=Zj Tryz.f88) rfl (by decide+kernel) ?_;have V:QQ t=if t.runs.length=0 then 7 else if 4<t.runs.length then 6 else Zm (Jy t) 0 t.runs.length:=rfl
 generalize QQ t=e at*;unfold Zf;simp only[Za O];refine wS ?_;refine⟨fun A=>?_,fun A=>?_⟩
 ·have A:=eq_of_beq A;rw[if_pos (by omega)]at V;subst V;(cbv;(try simp only[nc]at*);(try refine Chk.mk (ZE) ?_));(try first|exact⟨rfl,trivial⟩|exact⟨trivial,trivial⟩)
 have A:=ne_of_beq_false A;rw[if_neg (by omega)]at V;refine wS ?_;refine⟨fun aa=>?_,fun aa=>?_⟩
 ·simp only[decide_eq_true_eq]at aa;rw[if_pos (by omega)]at V;subst V;(cbv;(try simp only[nc]at*);(try refine Chk.mk (ZE) ?_));(try first|exact⟨rfl,trivial⟩|exact⟨trivial,trivial⟩)
 simp only[decide_eq_false_iff_not]at aa;rw[if_neg (by omega)]at V;refine wS ?_;refine ZJ false false [] [1,3] [] (fun(i:Nat)=>[(3,.int .i64 fun _=>i)])
  (fun _=>[])
  (fun i=>i<=t.runs.length/\e=Zm (Jy t) i (t.runs.length-i)) (fun i=>t.runs.length-i+0) 0 ⟨aW _,V⟩ ?_ ?_
 ·exact ZF
 rintro i ⟨hi,J⟩;refine wS ?_;refine⟨fun A=>?_,fun A=>?_⟩
 ·simp only[decide_eq_true_eq]at A;rw[Qh (by omega)]at J;have I:Jy t i=if(Run t.book (S Z4 default t.runs i).number (S Z4 default t.runs i).day).2≠0 then(Run t.book (S Z4 default t.runs i).number (S Z4 default t.runs i).day).2
   else if Q8 (Yt t (S Z4 default t.runs i))≠0 then 5
   else if(t.runs.take i).any (fun x=>decide (x=S Z4 default t.runs i))then 4 else 0:=by unfold Jy;rw[Xz O]
  generalize hd:S Z4 default t.runs i=d at*;refine vS ?_;simp only[hd];refine Chk.mk (ZE) ?_;have Y:=Zvf t.book d.number d.day hf;have U:=Zdu t.book d.number d.day;have ac:Yt t d=(Run t.book d.number d.day).1:=rfl;unfold Zd at Y;simp only[Za O]at Y;generalize Run t.book d.number d.day=r at*;obtain⟨C,er⟩:=r;refine ZL (Y) (by first|rfl|(simp only[Ze,Zd,Zf,Za O];rfl)) fun r ah J=>?_;(try simp only[Ze,Zd,Zf,Za O]at J);obtain⟨rfl,rfl⟩:=J;dsimp only at I U ac;refine wS ?_;refine⟨fun A=>?_,fun A=>?_⟩
  ·simp only[bne_iff_ne,ne_eq]at A;rw[if_pos A]at I;rw[I,if_pos A]at J;subst J;(cbv;(try simp only[nc]at*);(try refine Chk.mk (ZE) ?_));(try first|exact⟨rfl,trivial⟩|exact⟨trivial,trivial⟩)
  simp only[bne_eq_false_iff_eq]at A;subst A;rw[if_neg (fun h=>h rfl),ac]at I;have ai:=U.2 rfl;have aj:=U.1;clear Y U;refine wS ?_;refine XX fun Q hQ=>?_;refine ZJ false false [] [1,3,4,6] [] (fun(j:Nat)=>[(6,.int .i64 fun _=>((j+1:Nat):Int))]) (fun _=>[]) (fun j=>j+1<=C.length/\Q8 C=Zm (YB C) (j+1) (C.length-(j+1))) (fun j=>C.length-(j+1)+0) 0 ⟨by omega,rfl⟩ ?_ ?_
  ·exact ZF
  rintro j ⟨hk,G⟩;refine wS ?_;refine⟨fun A=>?_,fun A=>?_⟩
  ·simp only[decide_eq_true_eq]at A;rw[Qh (by omega)]at G;have Z:YB C (j+1)=if(S Sp.Call default C ((j+1:Nat):Int)).arrive<=(S Sp.Call default C (((j+1:Nat):Int)-1)).depart then 5 else 0:=by
    unfold YB;rw[Xz O,Xz O,show((j+1-1:Nat):Int)=((j+1:Nat):Int)-1 by omega]
   refine wS ?_;refine⟨fun H=>?_,fun H=>?_⟩
   ·simp only[decide_eq_true_eq]at H;rw[if_pos H]at Z;rw[Z,if_pos (by decide)]at G;rw[G,if_pos (by decide)]at I;rw[I,if_pos (by decide)]at J;subst J;refine wS ?_;refine hQ _ _ _ ?_;(cbv;(try simp only[nc]at*);(try refine Chk.mk (ZE) ?_));(try first|exact⟨rfl,trivial⟩|exact⟨trivial,trivial⟩)
   simp only[decide_eq_false_iff_not]at H;rw[if_neg H]at Z;rw[Z,if_neg (fun h=>h rfl)]at G;refine wS ?_;refine⟨j+1,⟨by omega,by rw[G]⟩,by show C.length-(j+1+1)+0<C.length-(j+1)+0;omega,?_⟩;exact ZF
  simp only[decide_eq_false_iff_not]at A;rw[Qt (by omega)]at G;rw[G,if_neg (fun h=>h rfl)]at I;refine wS ?_;refine hQ _ _ _ ?_;refine wS ?_;refine XX fun Q2 ab=>?_;refine ZJ false false [] [1,3,7] [] (fun(k:Nat)=>[(7,.int .i64 fun _=>(k:Int))]) (fun _=>[]) (fun k=>k<=i/\(t.runs.take i).any (fun x=>decide (x=d))=((t.runs.take i).drop k).any (fun x=>decide (x=d))) (fun k=>i-k+0) 0 ⟨by omega,by simp⟩ ?_ ?_
  ·exact ZF
  rintro k ⟨hk,G⟩;refine wS ?_;refine⟨fun A=>?_,fun A=>?_⟩
  ·simp only[decide_eq_true_eq]at A;have ae:(t.runs.take i).drop k=S Z4 default t.runs k::(t.runs.take i).drop (k+1):=by
    have h:=Qi (d:=default) O (l:=t.runs.take i) (i:=k) (by rw[bX];omega);rw[h];congr 1;rw[O,O,aV,aA,gw (by omega),aA]
   rw[ae,eL]at G;generalize hx:S Z4 default t.runs k=x at*;refine vS ?_;try simp only[hx,hd]
   try refine Chk.mk (ZE) ?_
   have he:(x.number==d.number&&(x.day==d.day&&true))=decide (x=d):=by
    by_cases e1:x.number=d.number<;>by_cases e2:x.day=d.day<;>simp[ZnQ,e1,e2]
   refine⟨fun H=>?_,fun H=>?_⟩
   ·rw[he]at H;rw[H,cT]at G;rw[G,if_pos rfl]at I;rw[I,if_pos (by decide)]at J;subst J;refine wS ?_;refine ab _ _ _ ?_;(cbv;(try simp only[nc]at*);(try refine Chk.mk (ZE) ?_));(try first|exact⟨rfl,trivial⟩|exact⟨trivial,trivial⟩)
   rw[he]at H;rw[H,cC]at G;refine wS ?_;refine⟨k+1,⟨by omega,G⟩,by show i-(k+1)+0<i-k+0;omega,?_⟩;exact ZF
  simp only[decide_eq_false_iff_not]at A;rw[bB (by rw[bX];omega),fG]at G;rw[G,if_neg aS]at I;rw[I,if_neg (fun h=>h rfl)]at J;refine wS ?_;refine ab _ _ _ ?_;refine wS ?_;refine⟨i+1,⟨by omega,by rw[J]⟩,by show t.runs.length-(i+1)+0<t.runs.length-i+0;omega,?_⟩;exact ZF
 simp only[decide_eq_false_iff_not]at A;rw[Qt (by omega)]at J;subst J;(cbv;(try simp only[nc]at*);(try refine Chk.mk (ZE) ?_));(try first|exact⟨rfl,trivial⟩|exact⟨trivial,trivial⟩)
theorem Zdq {α:Type} {d:α} {A:(α:Type)->α->List α->Int->α} (O:∀(α:Type) (d:α) (l:List α) (i:Int),A α d l i=l.getD i.toNat d) {l:List α} {i k:Nat} (G:k<i) (hi:i<=l.length):(l.take i).drop k=A α d l k::(l.take i).drop (k+1):=by
 have h:=Qi (d:=d) O (l:=l.take i) (i:=k) (by rw[bX];omega);rw[h];congr 1;rw[O,O,aV,aA,gw (by omega),aA]
theorem ZxK (t:Zb) (c:List (List Sp.Call)) (hc:Y6 c) (hw:t.waits.length<=1000000):SC (fun _=>aB) 90 [Zf t,lst 1 Zc [] c] [] fun v h=>v= .int .i64 (fun _=>if 4<t.waits.length then 6 else Zm (fun i=>Qd c (t.waits.getD i default) (t.waits.take i)) 0 t.waits.length)/\h=[]:=by
 obtain⟨Y,O⟩:=Zo;refine QN Tryz.func90 (body:=Zj Tryz.f90) rfl (by decide+kernel) ?_;generalize hE:(if 4<t.waits.length then 6 else Zm (fun i=>Qd c (t.waits.getD i default) (t.waits.take i)) 0 t.waits.length)=E;have ae:=hc.len;have aa:∀i:Int,0<=i->i<=(c.length:Int)-1->Y (List Sp.Call) [] c i∈c:=fun i h0 h1=>by
  have:i.toNat<c.length:=by omega
  rw[O,aA,aD this];exact bM _
 have ac:=Zbg O c;rw[ac];unfold Zf;simp only[Za O];refine wS ?_;refine⟨fun H=>?_,fun H=>?_⟩
 ·have H:=of_decide_eq_true H;rw[if_pos (by omega)]at hE;subst hE;(cbv;(try simp only[nc]at*);(try refine Chk.mk (ZE) ?_));(try first|exact⟨rfl,trivial⟩|exact⟨trivial,trivial⟩)
 have H:=of_decide_eq_false H;rw[if_neg (by omega)]at hE;refine wS ?_;refine ZJ false false [] [1,2,5] [] (fun(i:Nat)=>[(5,.int .i64 fun _=>i)]) (fun _=>[]) (fun i=>i<=t.waits.length/\Zm (fun i=>Qd c (t.waits.getD i default) (t.waits.take i)) i (t.waits.length-i)=E) (fun i=>t.waits.length-i+0) 0 ⟨aW _,hE⟩ ?_ ?_
 ·exact ZF
 rintro i ⟨hi,G⟩;refine wS ?_;refine⟨fun H=>?_,fun H=>?_⟩;rotate_left
 ·have H:=of_decide_eq_false H;rw[Qt (by omega)]at G;subst G;(cbv;(try simp only[nc]at*);(try refine Chk.mk (ZE) ?_));(try first|exact⟨rfl,trivial⟩|exact⟨trivial,trivial⟩)
 have H:=of_decide_eq_true H;rw[Qh (by omega)]at G;have ab:Qd c (t.waits.getD i default) (t.waits.take i)=Qd c (Y QV default t.waits i) (t.waits.take i):=by rw[Xz O]
 simp only[ab]at G;clear ab;generalize hd:Y QV default t.waits i=w at*;refine vS ?_;simp only[hd];refine Chk.mk (ZE) ?_;generalize A:Qd c w (t.waits.take i)=e at*;unfold Qd at A;have k1:=Zi4 w.feeder 0 (c.length-1);have k2:=Zi4 w.train 0 (c.length-1);have k3:=Zi4 w.minutes 0 60;have k4:=ZxG c w.feeder w.train w.station hc;rw[ac]at k4;have V:Zgo c w.feeder w.train w.station=if(QG w.feeder 0 (c.length-1)||QG w.train 0 (c.length-1))=true then(0,0,false)
  else(ZA (c.getD w.feeder.toNat []) w.station,ZN (c.getD w.train.toNat []) w.station,bif decide (0<=ZA (c.getD w.feeder.toNat []) w.station)then decide (0<=ZN (c.getD w.train.toNat []) w.station)else false):=rfl
 generalize Zgo c w.feeder w.train w.station=M at*;rw[<-O (List Sp.Call) [] c w.feeder,<-O (List Sp.Call) [] c w.train]at A V;refine ZqW (k1) ?_;cases h1:QG w.feeder 0 ((c.length:Int)-1)with
 |true=>
  rw[h1,cT,if_pos rfl]at A;subst A;rw[if_pos (by decide)]at G;subst G;refine wS ?_;refine Br.isF rfl ?_;refine wS ?_;refine Br.isT rfl ?_;(cbv;(try simp only[nc]at*);(try refine Chk.mk (ZE) ?_));(try first|exact⟨rfl,trivial⟩|exact⟨trivial,trivial⟩)
 |false=>
  rw[h1,cC]at A V;refine wS ?_;refine Br.isT rfl ?_;refine wS ?_;refine ZqW (k2) ?_;cases h2:QG w.train 0 ((c.length:Int)-1)with
  |true=>
   rw[h2,if_pos rfl]at A;subst A;rw[if_pos (by decide)]at G;subst G;refine wS ?_;refine Br.isT rfl ?_;(cbv;(try simp only[nc]at*);(try refine Chk.mk (ZE) ?_));(try first|exact⟨rfl,trivial⟩|exact⟨trivial,trivial⟩)
  |false=>
   rw[h2,if_neg aS]at A V;refine wS ?_;refine Br.isF rfl ?_;have b1:=QE h1;have b2:=QE h2;have m1:=aa _ b1.1 b1.2;have m2:=aa _ b2.1 b2.2;clear k1 k2;refine wS ?_;refine⟨fun S=>?_,fun S=>?_⟩
   ·have S:=eq_of_beq S;rw[if_pos S]at A;subst A;rw[if_pos (by decide)]at G;subst G;(cbv;(try simp only[nc]at*);(try refine Chk.mk (ZE) ?_));(try first|exact⟨rfl,trivial⟩|exact⟨trivial,trivial⟩)
   have S:=ne_of_beq_false S;rw[if_neg S]at A;refine wS ?_;refine ZqW (k4) ?_;generalize hF:Y (List Sp.Call) [] c w.feeder=F at*;generalize hT:Y (List Sp.Call) [] c w.train=U at*;have r1:=hc.row _ m1;have r2:=hc.row _ m2;have s1:ZA F w.station<F.length/\-1<=ZA F w.station:=by have:=YA F 1 w.station;unfold ZA;omega
   have s2:ZN U w.station<(U.length:Int)-1/\-1<=ZN U w.station:=by
    have:=YA U 0 w.station;unfold ZN;split<;>omega
   generalize ZA F w.station=a at*;generalize ZN U w.station=b at*;subst V;dsimp only;refine wS ?_;refine⟨fun J=>?_,fun J=>?_⟩
   ·rw[if_pos (by
     by_cases ha:0<=a
     ·rw[decide_eq_true ha]at J;have:=of_decide_eq_false (nb2 J);omega
     omega)]at A
    subst A;rw[if_pos (by decide)]at G;subst G;(cbv;(try simp only[nc]at*);(try refine Chk.mk (ZE) ?_));(try first|exact⟨rfl,trivial⟩|exact⟨trivial,trivial⟩)
   have h5:0<=a/\0<=b:=by
    have J:=nb4 J;by_cases ha:0<=a
    ·rw[decide_eq_true ha]at J;have:=of_decide_eq_true J;omega
    rw[decide_eq_false ha]at J;cases J
   rw[if_neg (by omega)]at A;clear J k4;refine wS ?_;refine ZqW (k3) ?_;refine wS ?_;refine⟨fun h7=>?_,fun h7=>?_⟩
   ·rw[if_pos (by simpa using h7)]at A;subst A;rw[if_pos (by decide)]at G;subst G;(cbv;(try simp only[nc]at*);(try refine Chk.mk (ZE) ?_));(try first|exact⟨rfl,trivial⟩|exact⟨trivial,trivial⟩)
   rw[if_neg (by simpa using h7)]at A;rw[<-O Sp.Call default U b,<-O Sp.Call default F a]at A;refine vS ?_;try simp only[hF,hT]
   try refine Chk.mk (ZE) ?_
   refine⟨fun Z=>?_,fun Z=>?_⟩
   ·have Z:=of_decide_eq_true Z;rw[if_pos Z]at A;subst A;rw[if_pos (by decide)]at G;subst G;(cbv;(try simp only[nc]at*);(try refine Chk.mk (ZE) ?_));(try first|exact⟨rfl,trivial⟩|exact⟨trivial,trivial⟩)
   rw[if_neg (of_decide_eq_false Z)]at A;clear Z h7 k3;refine wS ?_;refine XX fun Q hQ=>?_;refine ZJ false false [] [1,2,5,6,10] [] (fun(k:Nat)=>[(10,.int .i64 fun _=>(k:Int))]) (fun _=>[]) (fun k=>k<=i/\(t.waits.take i).any (fun x=>decide (x.feeder=w.feeder/\x.train=w.train/\x.station=w.station))=((t.waits.take i).drop k).any (fun x=>decide (x.feeder=w.feeder/\x.train=w.train/\x.station=w.station))) (fun k=>i-k+0) 0 ⟨by omega,by simp⟩ ?_ ?_
   ·exact ZF
   rintro k ⟨hk,I⟩;refine wS ?_;refine⟨fun H=>?_,fun H=>?_⟩
   ·simp only[decide_eq_true_eq]at H;rw[Zdq (d:=default) O (by omega) (by omega),eL]at I;generalize hx:Y QV default t.waits k=x at*;refine vS ?_;try simp only[hx,hd]
    try refine Chk.mk (ZE) ?_
    have he:(bif (bif x.feeder==w.feeder then x.train==w.train else false)then x.station==w.station else false)=decide (x.feeder=w.feeder/\x.train=w.train/\x.station=w.station):=by
     by_cases e1:x.feeder=w.feeder<;>by_cases e2:x.train=w.train<;>by_cases e3:x.station=w.station<;>simp[e1,e2,e3]
    refine⟨fun h9=>?_,fun h9=>?_⟩
    ·rw[he]at h9;rw[h9,cT]at I;rw[I,if_pos rfl]at A;subst A;rw[if_pos (by decide)]at G;subst G;refine wS ?_;refine hQ _ _ _ ?_;(cbv;(try simp only[nc]at*);(try refine Chk.mk (ZE) ?_));(try first|exact⟨rfl,trivial⟩|exact⟨trivial,trivial⟩)
    rw[he]at h9;rw[h9,cC]at I;refine wS ?_;refine⟨k+1,⟨by omega,I⟩,by show i-(k+1)+0<i-k+0;omega,?_⟩;exact ZF
   simp only[decide_eq_false_iff_not]at H;rw[bB (by rw[bX];omega),fG]at I;rw[I,if_neg aS]at A;subst A;rw[if_neg (fun h=>h rfl)]at G;refine wS ?_;refine hQ _ _ _ ?_;refine wS ?_;refine⟨i+1,⟨by omega,G⟩,by show t.waits.length-(i+1)+0<t.waits.length-i+0;omega,?_⟩;exact ZF
theorem Zck {A:(α:Type)->α->List α->Int->α} (O:∀(α:Type) (d:α) (l:List α) (i:Int),A α d l i=l.getD i.toNat d) (d:ZP):Zq d=[.int .i64 fun _=>d.run,.int .i64 fun _=>d.leg,.isl 1 (fun _=>(d.by_.length:Int)) (fun e=>Q9 (A Int 0 d.by_ (e ()))) .none]:=by unfold Zq;rw[Za O]
theorem ZxJ (t:Zb) (c:List (List Sp.Call)) (hc:Y6 c) (hw:t.delays.length<=1000000) (J:∀d∈t.delays,d.by_.length<=1000000):SC (fun _=>aB) 91 [Zf t,lst 1 Zc [] c] [] fun v h=>v= .int .i64 (fun _=>if 6<t.delays.length then 6 else Zm (fun i=>Qm c (t.delays.getD i default) (t.delays.take i)) 0 t.delays.length)/\h=[]:=by
 obtain⟨I,O⟩:=Zo;refine QN Tryz.func91 (body:=Zj Tryz.f91) rfl (by decide+kernel) ?_;generalize hE:(if 6<t.delays.length then 6 else Zm (fun i=>Qm c (t.delays.getD i default) (t.delays.take i)) 0 t.delays.length)=E;have ai:=hc.len;have aa:∀i:Int,0<=i->i<=(c.length:Int)-1->I (List Sp.Call) [] c i∈c:=fun i h0 h1=>by
  have:i.toNat<c.length:=by omega
  rw[O,aA,aD this];exact bM _
 have ah:=Zbg O c;rw[ah];unfold Zf;simp only[Za O];refine wS ?_;refine⟨fun G=>?_,fun G=>?_⟩
 ·have G:=of_decide_eq_true G;rw[if_pos (by omega)]at hE;subst hE;(cbv;(try simp only[nc]at*);(try refine Chk.mk (ZE) ?_));(try first|exact⟨rfl,trivial⟩|exact⟨trivial,trivial⟩)
 have G:=of_decide_eq_false G;rw[if_neg (by omega)]at hE;refine wS ?_;refine ZJ false false [] [1,2,5] [] (fun(i:Nat)=>[(5,.int .i64 fun _=>i)]) (fun _=>[]) (fun i=>i<=t.delays.length/\Zm (fun i=>Qm c (t.delays.getD i default) (t.delays.take i)) i (t.delays.length-i)=E) (fun i=>t.delays.length-i+0) 0 ⟨aW _,hE⟩ ?_ ?_
 ·exact ZF
 rintro i ⟨hi,H⟩;refine wS ?_;refine⟨fun G=>?_,fun G=>?_⟩;rotate_left
 ·have G:=of_decide_eq_false G;rw[Qt (by omega)]at H;subst H;(cbv;(try simp only[nc]at*);(try refine Chk.mk (ZE) ?_));(try first|exact⟨rfl,trivial⟩|exact⟨trivial,trivial⟩)
 have G:=of_decide_eq_true G;rw[Qh (by omega)]at H;have ac:Qm c (t.delays.getD i default) (t.delays.take i)=Qm c (I ZP default t.delays i) (t.delays.take i):=by rw[Xz O]
 simp only[ac]at H;clear ac;have aj:=J _ (Qu (d:=default) O (l:=t.delays) (i:=i) (by omega));simp only[Zck O];generalize hd:I ZP default t.delays i=d at*;refine vS ?_;simp only[hd];refine Chk.mk (ZE) ?_;generalize A:Qm c d (t.delays.take i)=e at*;unfold Qm at A;have k1:=Zi4 d.run 0 (c.length-1);rw[<-O (List Sp.Call) [] c d.run]at A;refine ZqW (k1) ?_;have ae:(!!!QG d.run 0 ((c.length:Int)-1))=true->(0<=d.run/\d.run<c.length)/\((I (List Sp.Call) [] c d.run).length:Int)<=4:=fun h=>by
  have b:=QE (nb2 (nb4 (nb2 h)));have:=(hc.row _ (aa _ b.1 b.2)).2;omega
 refine vS ?_;try simp only[hd]
 refine Chk.mk ?_ ?_
 ·simp only[nc,Xo,Xn,XA,Xm,Cn.p,and_true,true_and];(repeat' (first|apply And.intro|intro _))<;>first|assumption|(have:=ae (by assumption);omega)
 cases h1:QG d.run 0 ((c.length:Int)-1)with
 |true=>
  rw[h1,cT,if_pos rfl]at A;subst A;rw[if_pos (by decide)]at H;subst H;refine Br.isF rfl ?_;refine wS ?_;refine Br.isT rfl ?_;(cbv;(try simp only[nc]at*);(try refine Chk.mk (ZE) ?_));(try first|exact⟨rfl,trivial⟩|exact⟨trivial,trivial⟩)
 |false=>
  rw[h1,cC]at A;have b1:=QE h1;have m1:=aa _ b1.1 b1.2;have r1:=hc.row _ m1;have k2:=Zi4 d.leg 0 ((I (List Sp.Call) [] c d.run).length-2);generalize hF:I (List Sp.Call) [] c d.run=F at*;refine Br.isT rfl ?_;refine vS ?_;try simp only[hF,hd]
  try refine Chk.mk (ZE) ?_
  refine ZqW (k2) ?_;cases h2:QG d.leg 0 ((F.length:Int)-2)with
  |true=>
   rw[h2,if_pos rfl]at A;subst A;rw[if_pos (by decide)]at H;subst H;refine wS ?_;refine Br.isT rfl ?_;(cbv;(try simp only[nc]at*);(try refine Chk.mk (ZE) ?_));(try first|exact⟨rfl,trivial⟩|exact⟨trivial,trivial⟩)
  |false=>
  rw[h2,if_neg aS]at A;refine wS ?_;refine Br.isF rfl ?_;refine wS ?_;refine⟨fun h3=>?_,fun h3=>?_⟩
  ·have h3:=eq_of_beq h3;rw[if_pos (by omega)]at A;subst A;rw[if_pos (by decide)]at H;subst H;(cbv;(try simp only[nc]at*);(try refine Chk.mk (ZE) ?_));(try first|exact⟨rfl,trivial⟩|exact⟨trivial,trivial⟩)
  have h3:=ne_of_beq_false h3;rw[if_neg (by omega)]at A;refine wS ?_;refine⟨fun h4=>?_,fun h4=>?_⟩
  ·have h4:=of_decide_eq_true h4;rw[if_pos (by omega)]at A;subst A;rw[if_pos (by decide)]at H;subst H;(cbv;(try simp only[nc]at*);(try refine Chk.mk (ZE) ?_));(try first|exact⟨rfl,trivial⟩|exact⟨trivial,trivial⟩)
  have h4:=of_decide_eq_false h4;rw[if_neg (by omega)]at A;clear k1 k2 ae;refine wS ?_;refine XX fun Q hQ=>?_;refine ZJ false false [] [1,2,5,6,7] [] (fun(j:Nat)=>[(7,.int .i64 fun _=>j)]) (fun _=>[]) (fun j=>j<=d.by_.length/\Zm (ZeB d.by_) 0 d.by_.length=Zm (ZeB d.by_) j (d.by_.length-j)) (fun j=>d.by_.length-j+0) 0 ⟨aW _,by simp⟩ ?_ ?_
  ·exact ZF
  rintro j ⟨hj,S⟩;refine wS ?_;refine⟨fun G=>?_,fun G=>?_⟩
  ·have G:=of_decide_eq_true G;rw[Qh (by omega)]at S;have J:ZeB d.by_ j=if QG (I Int 0 d.by_ j) 0 240 then 1 else if 0<j/\I Int 0 d.by_ j<=I Int 0 d.by_ ((j:Int)-1)then 5 else 0:=by
    unfold ZeB;rw[Xz O];by_cases h0:0<j
    ·rw[Xz O,show((j-1:Nat):Int)=(j:Int)-1 by omega]
    simp[h0]
   have k3:=Zi4 (I Int 0 d.by_ j) 0 240;refine wS ?_;refine ZqW (k3) ?_;refine wS ?_;refine⟨fun V=>?_,fun V=>?_⟩
   ·have V:QG (I Int 0 d.by_ j) 0 240=true:=by simpa using V
    rw[if_pos V]at J;rw[J,if_pos (by decide)]at S;rw[S,if_pos (by decide)]at A;subst A;rw[if_pos (by decide)]at H;subst H;refine wS ?_;refine hQ _ _ _ ?_;(cbv;(try simp only[nc]at*);(try refine Chk.mk (ZE) ?_));(try first|exact⟨rfl,trivial⟩|exact⟨trivial,trivial⟩)
   have V:QG (I Int 0 d.by_ j) 0 240=false:=by simpa using V
   rw[if_neg (by rw[V];exact aS)]at J;refine vS ?_;refine Chk.mk ?_ ?_
   ·simp only[nc,Xo,Xn,XA,Xm,Cn.p,and_true,true_and,decide_eq_true_eq];(repeat' (first|apply And.intro|intro _))<;>first|assumption|omega|decide+kernel
   have Y:(bif decide (0<(j:Int))then decide (I Int 0 d.by_ j<=I Int 0 d.by_ ((j:Int)-1))else false)=decide (0<j/\I Int 0 d.by_ j<=I Int 0 d.by_ ((j:Int)-1)):=by
    by_cases e1:0<j
    ·have:(0:Int)<j:=by omega
     simp[e1,this]
    have:¬(0:Int)<j:=by omega
    simp[e1,this]
   refine⟨fun Z=>?_,fun Z=>?_⟩
   ·rw[Y]at Z;rw[if_pos (of_decide_eq_true Z)]at J;rw[J,if_pos (by decide)]at S;rw[S,if_pos (by decide)]at A;subst A;rw[if_pos (by decide)]at H;subst H;refine wS ?_;refine hQ _ _ _ ?_;(cbv;(try simp only[nc]at*);(try refine Chk.mk (ZE) ?_));(try first|exact⟨rfl,trivial⟩|exact⟨trivial,trivial⟩)
   rw[Y]at Z;rw[if_neg (of_decide_eq_false Z)]at J;rw[J,if_neg (fun h=>h rfl)]at S;refine wS ?_;refine⟨j+1,⟨by omega,S⟩,by show d.by_.length-(j+1)+0<d.by_.length-j+0;omega,?_⟩;exact ZF
  have G:=of_decide_eq_false G;rw[Qt (by omega)]at S;rw[S,if_neg (fun h=>h rfl)]at A;refine wS ?_;refine hQ _ _ _ ?_;refine wS ?_;refine XX fun Q2 ab=>?_;refine ZJ false false [] [1,2,5,6,8] [] (fun(k:Nat)=>[(8,.int .i64 fun _=>(k:Int))]) (fun _=>[]) (fun k=>k<=i/\(t.delays.take i).any (fun x=>decide (x.run=d.run/\x.leg=d.leg))=((t.delays.take i).drop k).any (fun x=>decide (x.run=d.run/\x.leg=d.leg))) (fun k=>i-k+0) 0 ⟨by omega,by simp⟩ ?_ ?_
  ·exact ZF
  rintro k ⟨hk,U⟩;refine wS ?_;refine⟨fun G=>?_,fun G=>?_⟩
  ·simp only[decide_eq_true_eq]at G;rw[Zdq (d:=default) O (by omega) (by omega),eL]at U;try simp only[Zck O]
   generalize hx:I ZP default t.delays k=x at*;refine vS ?_;try simp only[hx,hd]
   try refine Chk.mk (ZE) ?_
   have Y:(bif x.run==d.run then x.leg==d.leg else false)=decide (x.run=d.run/\x.leg=d.leg):=by
    by_cases e1:x.run=d.run<;>by_cases e2:x.leg=d.leg<;>simp[e1,e2]
   refine⟨fun h9=>?_,fun h9=>?_⟩
   ·rw[Y]at h9;rw[h9,cT]at U;rw[U,if_pos rfl]at A;subst A;rw[if_pos (by decide)]at H;subst H;refine wS ?_;refine ab _ _ _ ?_;(cbv;(try simp only[nc]at*);(try refine Chk.mk (ZE) ?_));(try first|exact⟨rfl,trivial⟩|exact⟨trivial,trivial⟩)
   rw[Y]at h9;rw[h9,cC]at U;refine wS ?_;refine⟨k+1,⟨by omega,U⟩,by show i-(k+1)+0<i-k+0;omega,?_⟩;exact ZF
  simp only[decide_eq_false_iff_not]at G;rw[bB (by rw[bX];omega),fG]at U;rw[U,if_neg aS]at A;subst A;rw[if_neg (fun h=>h rfl)]at H;refine wS ?_;refine ab _ _ _ ?_;refine wS ?_;refine⟨i+1,⟨by omega,H⟩,by show t.delays.length-(i+1)+0<t.delays.length-i+0;omega,?_⟩;exact ZF
theorem Zvd (t:Zb) (H:QC t):SC (fun _=>aB) 25 [Zf t] [] fun v h=>v= .int .i64 (fun _=>Zr t)/\h=[]:=by
 obtain⟨nt,O⟩:=Zo;refine QN Tryz.func25 (body:=Zj Tryz.f25) rfl (by decide+kernel) ?_;have U:=c25 t.book H.book;have k2:=ZxL t H.book H.runs;have k3:=ZwH t H.book H.runs;have S:=fun h=>ZxK t (callsOf t) (Za1 h) H.waits;have J:=fun h=>ZxJ t (callsOf t) (Za1 h) H.delays H.bys;generalize G:Zr t=e;unfold Zr at G;unfold Zf at*;unfold Zd at U;simp only[Zbg O,Za O]at U k2 k3 S J|-;refine wS ?_;refine ZqW (U) ?_;generalize Sp.Yx t.book=Y at*;refine wS ?_;refine⟨fun I=>?_,fun I=>?_⟩
 ·have I:Y≠0:=by simpa only[bne_iff_ne]using I
  rw[if_pos I]at G;subst G;(cbv;(try simp only[nc]at*);(try refine Chk.mk (ZE) ?_));(try first|exact⟨rfl,trivial⟩|exact⟨trivial,trivial⟩)
 have I:Y=0:=by simpa only[bne_eq_false_iff_eq]using I
 rw[if_neg (by omega)]at G;refine wS ?_;refine ZqW (k2) ?_;generalize QQ t=e2 at*;refine wS ?_;refine⟨fun A=>?_,fun A=>?_⟩
 ·have A:e2≠0:=by simpa only[bne_iff_ne]using A
  rw[if_pos A]at G;subst G;(cbv;(try simp only[nc]at*);(try refine Chk.mk (ZE) ?_));(try first|exact⟨rfl,trivial⟩|exact⟨trivial,trivial⟩)
 have A:e2=0:=by simpa only[bne_eq_false_iff_eq]using A
 rw[if_neg (by omega)]at G;have S:=S A;have J:=J A;refine wS ?_;refine ZqW (k3) ?_;refine wS ?_;refine ZqW (S) ?_;by_cases h6:4<t.waits.length
 ·rw[if_pos h6]at G;subst G;refine wS ?_;refine⟨fun V=>?_,fun V=>?_⟩
  ·refine wS ?_;rw[if_pos h6];(try first|exact⟨rfl,trivial⟩|exact⟨trivial,trivial⟩)
  rw[if_pos h6]at V;cases V
 rw[if_neg h6]at G;simp only[if_neg h6];generalize Zm (fun i=>Qd (callsOf t) (t.waits.getD i default) (t.waits.take i)) 0 t.waits.length=Z at*;refine wS ?_;refine⟨fun A=>?_,fun A=>?_⟩
 ·have A:Z≠0:=by simpa only[bne_iff_ne]using A
  rw[if_pos A]at G;subst G;(cbv;(try simp only[nc]at*);(try refine Chk.mk (ZE) ?_));(try first|exact⟨rfl,trivial⟩|exact⟨trivial,trivial⟩)
 have A:Z=0:=by simpa only[bne_eq_false_iff_eq]using A
 rw[if_neg (by omega)]at G;rw[G]at J;refine wS ?_;refine ZqW (J) ?_;(cbv;(try simp only[nc]at*);(try refine Chk.mk (ZE) ?_));(try first|exact⟨rfl,trivial⟩|exact⟨trivial,trivial⟩)
def Qa (l:List Int):List AV:=[lst 1 Q9 0 l]
theorem Zam {A:(α:Type)->α->List α->Int->α} (O:∀(α:Type) (d:α) (l:List α) (i:Int),A α d l i=l.getD i.toNat d) (l:List Int):Qa l=[.isl 1 (fun _=>(l.length:Int)) (fun e=>Q9 (A Int 0 l (e ()))) .none]:=by unfold Qa;rw[Za O]
theorem XG.one {b A:AV} (h:∀w ok v,PR w ok b v->PR w ok A v):XG [b] [A]:=⟨rfl,fun j c G=>by
 match j with
 |0=>cases G;exact⟨_,rfl,h⟩
 |j+1=>cases G⟩
theorem ZsY {A:(α:Type)->α->List α->Int->α} (O:∀(α:Type) (d:α) (l:List α) (i:Int),A α d l i=l.getD i.toNat d) {v:Int} {x:List Int} {m m' n0:Unit->Int} {H:(Unit->Int)->List AV} (G:n0 ()=1) (hv:H (fun _=>((0:Nat):Int))=Q9 v) (hm:m ()=(x.length:Int)+1) (I:m' ()=(x.length:Int)+1)
  (w:World) (ok:Nat->Nat->Nat->Prop) (u:Value) (h:PR w ok (.isl 1 m (ZV n0 H fun e=>Q9 (A Int 0 x (e ()))) .none) u):PR w ok (.isl 1 m' (fun e=>Q9 (A Int 0 (v::x) (e ()))) .none) u:=
 h.elems (by omega) fun i J=>by
  match i with
  |0=>
   rw[QF (len:=1) G (by omega),hv];simp only[O];exact .refl _
  |j+1=>
   rw[Qz (len:=1) G (by omega)];simp only[O,aV];rw[List.getD_cons_succ];exact .refl _
def QY:List ZP->List (List Int)
 |[]=>[[]]
 |d::r=>d.by_.flatMap fun n=>(QY r).map fun x=>n::x
theorem Zj8 {l:List Int} {L:List (List Int)}:(l.flatMap fun n=>L.map fun x=>n::x).length=l.length*L.length:=by
 induction l with
 |nil=>simp
 |cons a l A=>rw[List.flatMap_cons,bf,A,bA,bF,dH];omega
theorem ZeU:∀(l:List ZP),∀x∈QY l,x.length=l.length
 |[],x,h=>by
  unfold QY at h;rw[List.mem_singleton.1 h];rfl
 |d::r,x,h=>by
  unfold QY at h;obtain⟨n,_,h⟩:=List.mem_flatMap.1 h;obtain⟨y,A,rfl⟩:=List.mem_map.1 h;rw[bF,bF,ZeU r y A]
theorem ZbT:∀(l:List ZP),(∀d∈l,d.by_.length<=3)->(QY l).length<=3^ l.length
 |[],_=>aJ _
 |d::r,h=>by
  have H:=ZbT r fun x A=>h x (aQ _ A);have G:=h d (aU ..);unfold QY;rw[Zj8,bF,Nat.pow_succ,dZ];exact fI H G
theorem ZwD:∀(l:List ZP),l.length<=6->(∀d∈l,d.by_.length<=3)->SC (fun _=>aB) 108 [lst 3 Zq default l] [] fun v h=>v=lst 1 Qa [] (QY l)/\h=[]
 |[],_,_=>by
  refine SC.less (QN Tryz.func108 (body:=Zj Tryz.f108) rfl (by decide+kernel) ?_);refine wS ?_;refine⟨fun h=>?_,fun h=>?_⟩
  ·refine wS ?_;refine⟨_,[],?_,rfl,rfl⟩;refine toR ?_;refine .elems rfl fun i J=>?_;have J:(i:Int)<1:=J;obtain rfl:i=0:=by omega
   refine .one fun w ok v h=>?_;cases h with
   |isl0 _ _ _ _ hz I=>exact .isl0 _ _ _ _ rfl rfl
   |islE _ _ _ _ _ _ I=>rcases I with h|h<;>cases h
   |isl _ _ _ _ b o len ap us hn hc I=>rcases I with h|h<;>cases h
  cases h
 |d::r,hl,G=>by
  obtain⟨A,O⟩:=Zo;have V:r.length<=5:=by rw[bF]at hl;omega
  have ih:=ZwD r (by omega) fun x hx=>G x (aQ _ hx);have U:=ZbT r fun x hx=>G x (aQ _ hx);have S:=ZeU r;have Y:3^ r.length<=3^ 5:=Nat.pow_le_pow_right (by decide) V;have ai:(QY r).length<=243:=cF U Y;obtain⟨M,H⟩:∃M,M=d::r:=⟨_,rfl⟩;have hE:QY (d::r)=d.by_.flatMap fun n=>(QY r).map fun x=>n::x:=rfl;have am:=G d (aU ..);rw[hE,<-H];rw[<-H]at hl G;have h0:A ZP default M 0=d:=by rw[O,H];rfl
  have I:M.length=r.length+1:=by rw[H];rfl
  have h2:∀i:Int,0<=i->A ZP default M (i+1)=A ZP default r i:=fun i J=>by
   rw[O,O,H,show(i+1).toNat=i.toNat+1 by omega];rfl
  clear hE H U Y G;refine SC.less (QN Tryz.func108 (body:=Zj Tryz.f108) rfl (by decide+kernel) ?_);simp only[Za O,Zck O,Zam O]at ih|-;refine wS ?_;refine⟨fun h=>?_,fun h=>?_⟩
  ·have h:=eq_of_beq h;omega
  refine wS ?_
  refine JC ih (by
   refine toR ?_
   exact .isl (by show(M.length:Int)-1=r.length;omega) fun i J=>by simp only[h2 (i:Int) (by omega)]) (by first|rfl|(simp only[Ze,Zd,Zf,Zc,Za O];rfl)) fun v aj hp=>?_
  obtain⟨rfl,rfl⟩:=hp;generalize QY r=L at*;have ab:∀k:Nat,k<L.length->(A (List Int) [] L k).length<=5:=fun k hk=>by
   rw[S _ (Qu (d:=[]) O (l:=L) (i:=k) hk)];exact V
  clear ih S;refine wS ?_;refine ZJ false false [] [0,3,4,5] [.tok 1 fun _=>0] (fun(⟨i,out⟩:Nat×List (List Int))=>[(3,.isl 1 (fun _=>(out.length:Int)) (fun e=>[.isl 1 (fun _=>((A (List Int) [] out (e ())).length:Int)) (fun q=>Q9 (A Int 0 (A (List Int) [] out (e ())) (q ()))) .none]) (.own 0)),(5,.int .i64 fun _=>(i:Int))])
   (fun⟨i,out⟩=>[(0,.tok 1 fun _=>(out.length:Int))])
   (fun⟨i,out⟩=>i<=d.by_.length/\out=(d.by_.take i).flatMap fun n=>L.map fun x=>n::x) (fun i=>d.by_.length-i.1+0) (0,[]) ⟨aW _,by simp⟩ ?_ ?_
  ·(refine To.of [(1,false)] ?_;cbv;(try simp only[nc]);(repeat' (first|exact trivial|exact Zy.refl _|exact ZG.refl _|refine⟨?_,?_⟩|refine ZG.cells ?_|refine Zy.agg ?_|refine Zy.tup ?_));(all_goals (first|exact XQ|skip)))
  rintro⟨i,out⟩ ⟨J,ho⟩;have ao:out.length<=3*243:=by
   rw[ho,Zj8];exact fI (by rw[bX];omega) ai
  refine wS ?_;simp only[h0];refine⟨fun G=>?_,fun G=>?_⟩
  ·have G:=of_decide_eq_true G;have ae:=XW (d:=0) O (l:=d.by_) (i:=i) (by omega);refine wS ?_;refine XX fun Q hQ=>?_;refine ZJ false false [] [0,3,4,5,6] [] (fun(⟨k,out⟩:Nat×List (List Int))=>[(3,.isl 1 (fun _=>(out.length:Int)) (fun e=>[.isl 1 (fun _=>((A (List Int) [] out (e ())).length:Int)) (fun q=>Q9 (A Int 0 (A (List Int) [] out (e ())) (q ()))) .none]) (.own 0)),(6,.int .i64 fun _=>(k:Int))])
    (fun⟨k,out⟩=>[(0,.tok 1 fun _=>(out.length:Int))])
    (fun⟨k,o⟩=>k<=L.length/\o=out++(L.take k).map fun x=>A Int 0 d.by_ i::x) (fun k=>L.length-k.1+0) (0,out) ⟨aW _,by simp⟩ ?_ ?_
   ·exact ZF
   rintro⟨k,o⟩ ⟨hk,hok⟩;have al:o.length<=4*243:=by
    rw[hok,bf,bA,bX];omega
   refine wS ?_;refine⟨fun G=>?_,fun G=>?_⟩
   ·have ac:=of_decide_eq_true G;have ak:=ab k (by omega);have aa:=XW (d:=[]) O (l:=L) (i:=k) (by omega);refine vS ?_;simp only[h0];refine Chk.mk (ZE) ?_;refine⟨(k+1,o++[A Int 0 d.by_ i::A (List Int) [] L k]),⟨by omega,by rw[aa,dD,hok];simp⟩,by show L.length-(k+1)+0<L.length-k+0;omega,?_⟩;refine toR ?_;refine Zy.snocO (enc:=fun x:List Int=>[.isl 1 (fun _=>(x.length:Int)) (fun q=>Q9 (A Int 0 x (q ()))) .none]) (d:=[]) (x:=A Int 0 d.by_ i::A (List Int) [] L k) (l:=o) O rfl rfl (by simp) ?_;exact .one fun w ok u h=>ZsY O rfl rfl (by show(1:Int)+_=_;omega) (by simp) w ok u h
   have ac:=of_decide_eq_false G;have ah:L.take k=L:=dR (by omega);refine wS ?_;refine hQ _ _ _ ?_;refine wS ?_;refine⟨(i+1,o),⟨by omega,by rw[ae,List.flatMap_append,hok,ho,ah];simp⟩,by show d.by_.length-(i+1)+0<d.by_.length-i+0;omega,?_⟩;exact ZF
  have G:=of_decide_eq_false G;have Z:out=d.by_.flatMap fun n=>L.map fun x=>n::x:=by rw[ho,dR (by omega)]
  rw[<-Z];refine wS ?_;refine⟨_,[],?_,rfl,rfl⟩;exact ZF
theorem ZxX (t:Zb) (A:QC t):SC (fun _=>aB) 24 [Zf t] [] fun v h=>v= .int .i64 (fun _=>Zr t)/\h=[]:=by
 obtain⟨G,O⟩:=Zo;refine SC.less (QN Tryz.func24 (body:=Zj Tryz.f24) rfl (by decide+kernel) ?_);have k:=ZqR t A;unfold Zf at*;simp only[Za O]at k|-;by_cases he:Zr t=0
 ·unfold QW at k;rw[if_pos he]at k;unfold ZX at k;simp only[Za O,Zc]at k;generalize Zr t=e at*;refine wS ?_;refine ZqW (k) ?_;refine wS ?_;refine⟨_,[],?_,rfl,rfl⟩;exact ZF
 unfold QW at k;rw[if_neg he]at k;generalize Zr t=e at*;refine wS ?_;refine ZqW (k) ?_;refine wS ?_;refine⟨_,[],?_,rfl,rfl⟩;exact ZF
def XS (t:Zb) (w:Int):Int:=if Zr t=0 then(if QG w 0 ((t.waits.length:Int)-1)then 3 else 0)else Zr t
theorem ZxF (t:Zb) (w:Int) (G:QC t):SC (fun _=>aB) 106 [Zf t,.int .i64 fun _=>w] [] fun v h=>v= .tup [QW (Zr t) t,.int .i64 fun _=>XS t w]/\h=[]:=by
 obtain⟨I,O⟩:=Zo;refine SC.less (QN Tryz.func106 (body:=Zj Tryz.f106) rfl (by decide+kernel) ?_);have k:=ZqR t G;have hw:=G.waits;have H:=ZdP w 0 ((t.waits.length:Int)-1);generalize A:XS t w=e;unfold XS at A;unfold Zf at*;simp only[Za O]at k|-;by_cases he:Zr t=0
 ·unfold QW at k|-;rw[if_pos he]at k|-;rw[if_pos he]at A;unfold ZX at k|-;simp only[Za O,Zc]at k|-;rw[he]at k;refine wS ?_;refine ZqW (k) ?_;refine wS ?_;refine Br.isT rfl ?_;refine wS ?_;refine ZqW (H) ?_;refine wS ?_;refine⟨fun h=>?_,fun h=>?_⟩
  ·have h:QG w 0 ((t.waits.length:Int)-1)=true:=h;rw[if_pos h]at A;subst A;refine wS ?_;refine⟨_,[],?_,rfl,rfl⟩;exact ZF
  have h:QG w 0 ((t.waits.length:Int)-1)=false:=h;rw[if_neg (by rw[h];exact aS)]at A;subst A;refine wS ?_;refine⟨_,[],?_,rfl,rfl⟩;exact ZF
 unfold QW at k|-;rw[if_neg he]at k|-;rw[if_neg he]at A;rw[A]at k he;refine wS ?_;refine ZqW (k) ?_;refine wS ?_;refine⟨fun h=>?_,fun h=>?_⟩
 ·exact absurd (eq_of_beq h) he
 refine wS ?_;refine Br.isF rfl ?_;refine wS ?_;refine⟨_,[],?_,rfl,rfl⟩;exact ZF
def Yq (x:List Int):List AV:=[.int .i64 fun _=>x.getD 0 0,.int .i64 fun _=>x.getD 1 0,.int .i64 fun _=>x.getD 2 0,.int .i64 fun _=>x.getD 3 0,.int .i64 fun _=>x.getD 4 0,.int .i64 fun _=>x.getD 5 0]
theorem Zfu {x:List Int} {e:Int} {i:Nat} (A:e=i) (hi:i<6):Zk1 [fun _=>x.getD 0 0,fun _=>x.getD 1 0,fun _=>x.getD 2 0,fun _=>x.getD 3 0,fun _=>x.getD 4 0,fun _=>x.getD 5 0] e=x.getD i 0:=by
 subst A;match i,hi with
 |0,_=>rfl
 |1,_=>rfl
 |2,_=>rfl
 |3,_=>rfl
 |4,_=>rfl
 |5,_=>rfl
theorem Zxs (t:Zb) (x:List Int) (run leg:Int) (hx:Ju t x) (hl:t.delays.length<=6):SC (fun _=>aB) 178 [.iptr (ZX t) 0,.agg (Yq x),.int .i64 fun _=>run,.int .i64 fun _=>leg] [] fun v h=>v= .int .i64 (fun _=>Zdg t x run leg)/\h=[]:=by
 obtain⟨J,O⟩:=Zo;unfold ZX;simp only[Za O,Zc,Zq];refine SC.less (QN Tryz.func178 (body:=Zj Tryz.f178) rfl (by decide+kernel) ?_);generalize Y:Zdg t x run leg=e;unfold Zdg at Y;refine wS ?_;refine ZJ false false [] [2,3,5,15,16,17] [] (fun(i:Nat)=>[(17,.int .i64 fun _=>(i:Int))]) (fun _=>[]) (fun i=>i<=t.delays.length/\e=ZgW x run leg i (t.delays.drop i)) (fun i=>t.delays.length-i+0) 0 ⟨by omega,by rw[List.drop_zero];exact Y.symm⟩ ?_ ?_
 ·exact ZF
 rintro i ⟨hi,A⟩;refine wS ?_;refine⟨fun I=>?_,fun I=>?_⟩;case refine_2=>
  simp only[decide_eq_false_iff_not]at I;rw[bB (by omega),ZgW]at A;subst A;refine wS ?_;refine⟨_,[],?_,rfl,rfl⟩;exact ZF
 simp only[decide_eq_true_eq]at I;have S:=Qi (d:=default) O (l:=t.delays) (i:=i) (by omega);rw[S,ZgW]at A;have G:=hx.d i (by omega);rw[show t.delays.getD i default=J ZP default t.delays i by rw[Xz O]]at G;have Z:= @Zfu x i i rfl (by omega);generalize V:J ZP default t.delays i=d at*;refine vS ?_;simp only[V];refine Chk.mk (ZE) ?_;have U:(bif d.run==run then d.leg==leg else false)=decide (d.run=run/\d.leg=leg):=by
  by_cases e1:d.run=run<;>by_cases e2:d.leg=leg<;>simp[e1,e2]
 refine⟨fun H=>?_,fun H=>?_⟩
 ·rw[U]at H;rw[if_pos (of_decide_eq_true H),<-O Int 0 d.by_ (x.getD i 0)]at A;subst A;refine vS ?_;try simp only[V,Z]
  generalize x.getD i 0=y at*;have hy:=G.1;have aa:=G.2;refine Chk.mk (ZE) ?_;refine⟨_,[],?_,rfl,rfl⟩;exact ZF
 rw[U]at H;rw[if_neg (of_decide_eq_false H)]at A;refine wS ?_;refine⟨i+1,⟨by omega,A⟩,by show t.delays.length-(i+1)+0<t.delays.length-i+0;omega,?_⟩;exact ZF
end Vm
namespace Vm
open Go Go.Proofs
set_option maxRecDepth 100000
section
variable {n k:Nat}
theorem Zy.nsub {id:Nat} {e l A G:Unit->Int} (he:e ()=A ()) (Y:l ()=G ()):Zy n k (.nsub id e l) (.nsub id A G):=⟨fun R v _ hv=>by
 cases hv with
 |pure _ _ H=>cases H
 |nsub _ _ _ a V c J i h S Z I U=>exact .nsub id A G a V c J i h S (by omega) I ⟨by omega,U.2⟩⟩
theorem ZG.vgar {s:Nat} {m m':Unit->Int} {f J:(Unit->Int)->List AV} (hm:m ()=m' ()) (hf:∀i:Nat,(i:Int)<m ()->Yn n k (f fun _=>(i:Int)) (J fun _=>(i:Int))):ZG n k (.vgar s m f) (.vgar s m' J):=
 ⟨fun R id hN ⟨h1,h2⟩=>by
  refine⟨h1.trans hm,?_⟩;rcases h2 with⟨g1,A⟩|⟨b,o,len,H,arr,ty,g1,A,g3,U,Y,I⟩
  ·exact .inl ⟨by omega,A⟩
  refine .inr ⟨b,o,len,H,arr,ty,by omega,A,g3,U,Y,fun i G=>?_⟩;have hw:=hf i (by omega);refine⟨by rw[<-hw.len];exact(I i G).1,fun j c Z=>?_⟩;obtain⟨a,S,V⟩:=hw.get Z
  exact V.f R _ hN ((I i G).2 j a S),fun _ _ _=>Iff.rfl,fun _ _ _ _ _=>Iff.rfl,rfl⟩
theorem ZG.fam {z s:Nat} {N I:Unit->Int} {m m':(Unit->Int)->Unit->Int} {g g':(Unit->Int)->(Unit->Int)->List AV} (J:N ()=I ()) (hm:∀i:Nat,(i:Int)<N ()->m (fun _=>(i:Int)) ()=m' (fun _=>(i:Int)) ())
  (H:∀i:Nat,(i:Int)<N ()->∀j:Nat,(j:Int)<m (fun _=>(i:Int)) ()->g (fun _=>(i:Int)) (fun _=>(j:Int))=g' (fun _=>(i:Int)) fun _=>(j:Int)):ZG n k (.fam z s N m g) (.fam z s I m' g'):=
 ⟨fun R id _ ⟨V,h1,us,Y,h3,S,Z⟩=>⟨V,h1.trans J,us,Y,J.symm.trans h3,fun i v hv=>by
  have aa:=(Array.getElem?_eq_some_iff.1 hv).1;have G:(i:Int)<N ():=by omega
  refine(S i v hv).cong (hm i G).symm (fun j A=>by rw[H i G j A]) fun j A c q U=>⟨q,by rw[H i G j A];exact U,fun _ h=>h⟩,Z⟩,fun _ _ _=>Iff.rfl,fun _ _ _ _ _=>Iff.rfl,rfl⟩
end
theorem ZG.famZ {n k z A s:Nat} (H:z<=A) {N:Unit->Int} {m:(Unit->Int)->Unit->Int} {g:(Unit->Int)->(Unit->Int)->List AV}:ZG n k (.fam z s N m g) (.fam A s N m g):=⟨fun R id _ ⟨G,I⟩=>⟨cF G H,I⟩,fun _ _ _=>Iff.rfl,fun _ _ _ _ _=>Iff.rfl,rfl⟩
theorem ZG.dead {n k s:Nat} {m:Unit->Int} {f:(Unit->Int)->List AV}:ZG n k (.fro s m f) .dead:=⟨fun _ _ _ _=>trivial,fun _ _ _=>Iff.rfl,fun _ _ _ _ _=>Iff.rfl,rfl⟩
theorem ZG.vgar0 {n k s:Nat} {m m':Unit->Int} {f A:(Unit->Int)->List AV} (G:m ()=0) (I:m' ()=0):ZG n k (.vgar s m f) (.vgar s m' A):=.vgar (by omega) fun i H=>by omega
theorem ZG.fam0 {n k z s:Nat} {N A:Unit->Int} {m m':(Unit->Int)->Unit->Int} {g g':(Unit->Int)->(Unit->Int)->List AV} (H:N ()=0) (I:A ()=0):ZG n k (.fam z s N m g) (.fam z s A m' g'):=.fam (by omega) (fun i G=>by omega) fun i G=>by omega
def Zb2 (z G A:Nat):List Zh:=[.vgar G (fun _=>0) (fun _=>[]),.fam z A (fun _=>0) (fun _ _=>0) (fun _ _=>[])]
theorem HR.nest {G:Nat->Nat->Nat->Prop} {R:RC} {h:List Zh} (H:HR G R h) (I S:Nat):
  ∃A,A.w=R.w/\HR G A (h++Zb2 h.length I S)/\Xd R h A (h++Zb2 h.length I S)/\R.le A/\Zre A h.length 1:=by
 have e2:h++Zb2 h.length I S=(h++[.vgar I (fun _=>0) (fun _=>[])])++[.fam h.length S (fun _=>0) (fun _ _=>0) (fun _ _=>[])]:=by simp[Zb2]
 have ae:∀i x,(h++[Zh.vgar I (fun _=>0) (fun _=>[])])[i]? =some x->(i=R.m/\x= .vgar I (fun _=>0) (fun _=>[]))\/(i≠R.m/\h[i]? =some x):=fun i x J=>by
  rcases Qr J with J|⟨rfl,rfl⟩
  ·exact .inr ⟨fun e=>by have:=(aE.1 J).1;rw[H.len]at this;omega,J⟩
  exact .inl ⟨H.len,rfl⟩
 have aa:∀A:RC,A.hv R.m= .slice none 0 0->∀b,¬Zz A R.m (.vgar I (fun _=>0) (fun _=>[])) b:=fun A hv b U=>by
  obtain⟨a,n,c,Y,_⟩:=U;rw[hv]at Y;cases Y
 obtain⟨R1,a1,a2,a3,a4,a5,a6,a7,_⟩:=H.room R.m (R.m+1) (.vgar I (fun _=>0) (fun _=>[])) 0 (.slice none 0 0) R.w (h++[.vgar I (fun _=>0) (fun _=>[])]) (by rw[bf,H.len];rfl) (eG _) ae (fun hi=>absurd hi (dI _)) (fun _=>False)
  (fun b=>⟨fun h=>h.elim,fun h=>absurd h.1 (dI _)⟩) rfl rfl rfl (aJ _) (fun _ _ _=>rfl) (fun _ _ _ _ _ _=>rfl)
  (fun A _ _ Z ab _=>⟨Z,.inl ⟨rfl,none,ab⟩⟩)
  (fun A hv _ b U=>absurd U (aa A hv b))
  (fun A hv b o n _=>aa A hv b) rfl
 have ac:∀i x,((h++[Zh.vgar I (fun _=>0) (fun _=>[])])++[Zh.fam h.length S (fun _=>0) (fun _ _=>0) (fun _ _=>[])])[i]? =some x->(i=R1.m/\x= .fam h.length S (fun _=>0) (fun _ _=>0) (fun _ _=>[]))\/(i≠R1.m/\(h++[Zh.vgar I (fun _=>0) (fun _=>[])])[i]? =some x):=fun i x J=>by
  rcases Qr J with J|⟨rfl,rfl⟩
  ·exact .inr ⟨fun e=>by have:=(aE.1 J).1;rw[a5.len]at this;omega,J⟩
  exact .inl ⟨a5.len,rfl⟩
 have V:∀A:RC,A.hv R1.m= .tuple #[]->∀b,¬Zz A R1.m (.fam h.length S (fun _=>0) (fun _ _=>0) (fun _ _=>[])) b:=fun A hv b U=>by
  obtain⟨us,Y,i,v,h2,_⟩:=U;rw[hv]at Y;cases Y;simp at h2
 obtain⟨R2,b1,b2,b3,b4,b5,b6,b7,_⟩:=a5.room R1.m (R1.m+1) (.fam h.length S (fun _=>0) (fun _ _=>0) (fun _ _=>[])) 0 (.tuple #[]) R1.w _ (by rw[bf,a5.len];rfl) (eG _) ac (fun hi=>absurd hi (dI _)) (fun _=>False)
  (fun b=>⟨fun h=>h.elim,fun h=>absurd h.1 (dI _)⟩) rfl rfl rfl (aJ _) (fun _ _ _=>rfl) (fun _ _ _ _ _ _=>rfl)
  (fun A _ _ Z ab hl=>⟨by rw[hl.1,a6.n0,H.len];exact H.n0m,Z, #[],ab,rfl,fun i v hv=>by simp at hv,fun i j v v' b _ hv=>by simp at hv⟩)
  (fun A hv _ b U=>absurd U (V A hv b))
  (fun A hv b o n _=>V A hv b) rfl
 rw[e2];refine⟨R2,b1.trans a1,b5,a6.trans b6,a7.trans b7,fun id Y h2=>?_⟩;have ah:id=R.m:=by rw[<-H.len];omega
 subst ah;obtain⟨hb,_⟩:=b5.blk R.m (.vgar I (fun _=>0) (fun _=>[])) (by rw[List.getElem?_append_left (by simp[H.len]),List.getElem?_append_right (by rw[H.len];exact aJ _),H.len,Nat.sub_self];rfl);refine⟨by omega,hb,?_⟩;rw[(b7.tk R.m (by omega)).2 (by rw[a4,hb])];exact a3
theorem To.nest (V Y:Nat) {s s₂:List AV} {h h₂:List Zh} (Z:Yn h.length 1 s s₂/\Zd1 h.length 1 (h++Zb2 h.length V Y) h₂):To s h s₂ h₂:=fun G R t H A=>by
 obtain⟨I,U⟩:=Z;obtain⟨J,a1,a2,a3,S,a6⟩:=HR.nest H V Y;refine⟨J,a1,a2.wk a6 U,a3.wk U,S,by rw[<-I.len];exact A.1,fun i b hi=>?_⟩;obtain⟨a,h1,h2⟩:=I.get hi;exact h2.f J _ a6 ((A.2 i a h1).mono S)
def Zfg (q A:Nat) (g:(Unit->Int)->(Unit->Int)->List AV):AV->AV
 |.nsub id e l=>if ZD id q then .isl A l (g e) .none else .nsub id e l
 |c=>purify c
def Zne (h:List Zh):Nat->AV->AV
 |0,a=>a
 |k+1,a=>(match a with
  |.gsl id n=>(match h[id]? with
   |some (.fro s m f)=>.gd (fun _=>decide (n ()=m ())) (.isl s m f .none)
   |_=>.gsl id n)
  |.agg cs=>.agg (cs.map (Zne h k))
  |a=>a)
def ZjA (h:List Zh):Zh->Zh
 |.cells cs=>.cells (cs.map (Zne h 3))
 |b=>b
theorem Zmo {G:Nat->Nat->Nat->Prop} {R:RC} {h:List Zh} (H:HR G R h):∀(k:Nat) {a:AV} {u:Value},VR R a u->VR R (Zne h k a) u:=by
 intro k;induction k with
 |zero=>intro a u hv;exact hv
 |succ k U=>
  intro a u hv;unfold Zne;split
  ·split
   ·rename_i id n _ s m f V;cases hv with
    |pure _ _ Y=>cases Y
    |gsl _ _ a l c aa hn he _=>
     refine .gd _ _ _ fun A=>?_;have A:=of_decide_eq_true A;obtain⟨S,h1⟩:=H.blk id _ V;rw[he (by rw[A,S])];exact .pure _ _ h1
   exact hv
  ·obtain⟨Z,rfl,J,hr⟩:=hv.agg_inv;refine .agg _ Z (by simpa using J) fun j c I=>?_;rw[aO,aG]at I;obtain⟨x,hx,rfl⟩:=I;exact U (hr j x hx)
  exact hv
theorem Zfw {R:RC} {h:List Zh} {id:Nat} {blk:Zh} {b:Nat}:Zz R id (ZjA h blk) b↔Zz R id blk b:=by cases blk<;>exact Iff.rfl
theorem Zmp {R:RC} {h:List Zh} {id:Nat} {blk:Zh} {b o m:Nat}:Qe R id (ZjA h blk) b o m↔Qe R id blk b o m:=by cases blk<;>exact Iff.rfl
theorem Zso {h:List Zh} {blk:Zh}:Zar (ZjA h blk)=Zar blk:=by cases blk<;>rfl
theorem To.rsv (s:List AV) (h:List Zh):To s h (s.map (Zne h 4)) (h.map (ZjA h)):=fun G R t H hs=>by
 have I:∀ {i x},(h.map (ZjA h))[i]? =some x->∃y,h[i]? =some y/\x=ZjA h y:=fun A=>by
  rw[aO,aG]at A;obtain⟨y,J,e⟩:=A;exact⟨y,J,e.symm⟩
 refine⟨R,rfl,⟨by rw[bA];exact H.len,fun b o m=>?_,fun id x A=>?_,fun i j bi bj b Z U V S aa=>?_,H.cl,H.fresh,fun id x b A hk S o m=>?_,H.n0m⟩,⟨rfl,rfl,rfl,rfl,aJ _,aJ _,fun _ _=>rfl,fun _ _ _ h=>h,fun _ _ _ _ _ _=>rfl,fun _ _ _=>rfl,fun id x b A S=>?_⟩,RC.le.refl _,?_⟩
 ·rw[H.okd];refine and_congr_right fun _=>and_congr_right fun _=>⟨fun Y id x A=>?_,fun Y id x A=>?_⟩
  ·obtain⟨y,J,rfl⟩:=I A;exact Zmp.2 (Y id y J)
  exact Zmp.1 (Y id (ZjA h x) (by rw[aO,A];rfl))
 ·obtain⟨y,J,rfl⟩:=I A;have hb:=H.blk id y J;cases y with
  |cells cs=>
   obtain⟨arr,ty,h1,h2,h3⟩:=hb;refine⟨arr,ty,h1,by rw[bA];exact h2,fun j c V=>?_⟩;rw[aO,aG]at V;obtain⟨c0,ab,rfl⟩:=V;exact Zmo H 3 (h3 j c0 ab)
  |_=>exact hb
 ·obtain⟨y,J,rfl⟩:=I U;obtain⟨y',ac,rfl⟩:=I V;exact H.dis i j y y' b Z J ac (Zfw.1 S) (Zfw.1 aa)
 ·obtain⟨y,J,rfl⟩:=I A;exact H.tokG id y b J (Zso▸hk) (Zfw.1 S) o m
 ·obtain⟨y,J,rfl⟩:=I A;exact .inr ⟨id,y,J,Zfw.1 S,.inl rfl⟩
 refine⟨by rw[bA];exact hs.1,fun i a U=>?_⟩;rw[aO,aG]at U;obtain⟨x,A,rfl⟩:=U;exact Zmo H 4 (hs.2 i x A)
theorem To.freezeV {s:List AV} {h:List Zh} {q z sv V:Nat} {n N:Unit->Int} {f:(Unit->Int)->List AV} {m:(Unit->Int)->Unit->Int} {g:(Unit->Int)->(Unit->Int)->List AV} (hq:h[q]? =some (.vgar sv n f)) (hf:h[q+1]? =some (.fam z V N m g))
  (aw:∀i:Nat,(i:Int)<n ()->∀(c:AV),c∈(f fun _=>(i:Int))->∀e l,c= .nsub (q+1) e l->l ()=m e ())
  (I:∀i:Nat,(i:Int)<n ()->((f fun _=>(i:Int)).map (Zfg (q+1) V g)).all XI=true):
  To s h s ((h.set (q+1) .dead).set q (.fro sv n fun e=>(f e).map (Zfg (q+1) V g))):=fun G R t H hs=>by
 let F:Zh:=.fro sv n fun e=>(f e).map (Zfg (q+1) V g);let h':=(h.set (q+1) .dead).set q F;let S:RC:={R with ok:=fun b o k=>b<R.w.heap.size/\G b o k/\Zc2 R h' b o k};have Y:∀ {j x},h'[j]? =some x->(j=q/\x=F)\/(j=q+1/\x= .dead)\/(j≠q/\j≠q+1/\h[j]? =some x):=fun {j x} A=>by
  rcases Zcu A with⟨U,J⟩|⟨U,A⟩
  ·exact .inl ⟨U,J⟩
  rcases Zcu A with⟨J,h3⟩|⟨J,h3⟩
  ·exact .inr (.inl ⟨J,h3⟩)
  exact .inr (.inr ⟨U,J,h3⟩)
 have ab:∀b o k,R.ok b o k->S.ok b o k:=fun b o k hk=>by
  obtain⟨U,J,h3⟩:=(H.okd _ _ _).1 hk;refine⟨U,J,fun j x A=>?_⟩;rcases Y A with⟨rfl,rfl⟩|⟨rfl,rfl⟩|⟨_,_,A⟩
  ·exact fun h=>h
  ·exact fun h=>h
  exact h3 j x A
 have ai:R.le S:=⟨aJ _,fun _ _=>rfl,fun _ _=>⟨Int.le_refl _,fun _=>rfl⟩,fun _ _=>.refl _,ab,fun _ _ _ _ _ _=>rfl,fun _ _ _ _ h=>h,rfl⟩;have ah:∀ {j x b},h'[j]? =some x->Zz S j x b->j≠q/\j≠q+1/\h[j]? =some x/\Zz R j x b:=fun {j x b} A I=>by
  rcases Y A with⟨rfl,rfl⟩|⟨rfl,rfl⟩|⟨U,J,A⟩
  ·exact I.elim
  ·exact I.elim
  exact⟨U,J,A,(Zz.congr (R:=R) rfl rfl).1 I⟩
 have aa:∀(id:Nat) (blk:Zh) (b:Nat),(id=q\/id=q+1)->h[id]? =some blk->Zar blk=true->Zz R id blk b->∀o k,S.ok b o k:=fun id blk b ac hb bh aj o k=>by
  refine⟨H.phys_lt hb aj,H.tokG _ _ _ hb bh aj _ _,fun i x A=>?_⟩;rcases Y A with⟨rfl,rfl⟩|⟨rfl,rfl⟩|⟨U,J,A⟩
  ·exact fun h=>h
  ·exact fun h=>h
  exact JO fun Z=>H.dis _ _ _ _ b (fun e=>by rcases ac with rfl|rfl;exact U e.symm;exact J e.symm) hb A aj Z
 obtain⟨bl,aq⟩:=H.blk _ _ hq;obtain⟨_,bu,us,am,hN,ar,_⟩:=H.blk _ _ hf;refine⟨S,rfl,⟨by show h'.length=_;simp only[h',cA];exact H.len,fun _ _ _=>Iff.rfl,fun j x A=>?_,fun i j bi bj b ba hi hj I Z=>?_,H.cl,H.fresh,fun j x b A hk I o k=>?_,H.n0m⟩,⟨rfl,rfl,rfl,rfl,aJ _,aJ _,fun _ _=>rfl,ab,fun _ _ _ _ _ _=>rfl,fun _ _ _=>rfl,fun j x b A I=>?_⟩,ai,hs.mono ai⟩
 ·rcases Y A with⟨rfl,rfl⟩|⟨rfl,rfl⟩|⟨_,_,A⟩
  ·refine⟨bl,?_⟩;refine JQ.isl (ok:=S.ok) (w:=S.w) ?_ fun b hb o k=>aa j _ b (.inl rfl) hq rfl hb o k;rcases aq with⟨g1,g2⟩|⟨b,o,len,bm,arr,ty,g1,g2,g3,g4,g5,g6⟩
   ·exact .inl ⟨g1,g2⟩
   refine .inr ⟨b,o,len,bm,arr,ty,g1,g2,g3,g4,g5,fun i hi=>⟨by rw[bA];exact(g6 i hi).1,fun jj c hj=>?_⟩⟩;have bo:=I i (by omega);have bg:c∈((f fun _=>(i:Int)).map (Zfg (j+1) V g)):=aZ hj;have ae:=List.all_eq_true.1 bo c bg;rw[aO,aG]at hj;obtain⟨c0,ao,rfl⟩:=hj;have ak:=(g6 i hi).2 jj c0 ao;have au:=aw i (by omega) c0 (aZ ao);generalize arr.getD (o+i*sv+jj) undef=u at ak;have other:Zfg (j+1) V g c0=purify c0->PR S.w S.ok (Zfg (j+1) V g c0) u:=fun e=>by
    rw[e]at ae|-;exact(ak.purify ae).mono ab (fun _ _ _ _ _ _=>rfl) fun _ _ _ _ h=>h
   cases c0 with
   |nsub id e l=>
    by_cases ac:id=j+1
    ·subst ac;have e1:Zfg (j+1) V g (.nsub (j+1) e l)= .isl V l (g e) .none:=by simp[Zfg,ZD]
     rw[e1];have az:=au e l rfl;cases ak with
     |pure _ _ I=>cases I
     |nsub _ _ _ a ll c bq i' bp al a9 ap bt=>
      rw[am]at al;cases al;have bk:e=fun _=>(i':Int):=funext fun _=>a9;subst bk;have U:=ar i' _ ap;have J:JQ (PR S.w S.ok) S.w V l (g fun _=>(i':Int)) (.slice a ll c):=(U.mono (fun _ _ h=>h.mono ab (fun _ _ _ _ _ _=>rfl) fun _ _ _ _ h=>h) (fun _ _=>rfl)).cong az (fun _ _=>rfl) fun _ _ _ c hc=>⟨c,hc,fun _ h=>h⟩;exact J.isl fun b hb o k=>aa (j+1) _ b (.inr rfl) hf rfl ⟨us,am,i',_,ap,hb⟩ o k
    have e1:Zfg (j+1) V g (.nsub id e l)= .nsub id e l:=by simp[Zfg,ZD,ac]
    rw[e1]at ae;cases ae
   |_=>exact other rfl
  ·trivial
  exact(H.blk j x A).mono ai rfl rfl rfl rfl (fun _ _=>rfl)
 ·obtain⟨_,_,A,I⟩:=ah hi I;obtain⟨_,_,bc,Z⟩:=ah hj Z;exact H.dis i j bi bj b ba A bc I Z
 ·obtain⟨_,_,A,I⟩:=ah A I;exact H.tokG j x b A hk I o k
 obtain⟨_,_,A,I⟩:=ah A I;exact .inr ⟨j,x,A,I,.inl rfl⟩
theorem To.frozeV {s:List AV} {h:List Zh} {q z H A:Nat} {n N:Unit->Int} {f:(Unit->Int)->List AV} {m:(Unit->Int)->Unit->Int} {g:(Unit->Int)->(Unit->Int)->List AV} (I:h[q]? =some (.vgar H n f)) (S:h[q+1]? =some (.fam z A N m g))
  (G:∀i:Nat,(i:Int)<n ()->∀(c:AV),c∈(f fun _=>(i:Int))->∀e l,c= .nsub (q+1) e l->l ()=m e ())
  (J:∀i:Nat,(i:Int)<n ()->((f fun _=>(i:Int)).map (Zfg (q+1) A g)).all XI=true) {h':List Zh} (U:h'=(h.set (q+1) .dead).set q (.fro H n fun e=>(f e).map (Zfg (q+1) A g))):
  To s h (s.map (Zne h' 4)) (h'.map (ZjA h')):=by
 subst U;exact(To.freezeV I S G J).trans (To.rsv _ _)
def tbN (rs:Bool) (cs:List Nat) (ks:List Nat):Tb:={tb with kp:=true,rs,cuts:=cs,gr:=true,ks:=some ks}
theorem hTN (rs:Bool) (cs:List Nat) (ks:List Nat):(tbN rs cs ks).Of ((fun _=>aB:Unit->Program) ()):=⟨Zba,Za9,Zbb⟩
theorem Zu3 (rs:Bool) (cs:List Nat) (ks:List Nat) {f:FuncId} {fn:Func} {body:Code} (J:aB.funcs[f]? =some fn) (H:fn.body=some body) (G:(fn.name== "runtime.NumGoroutine")=false) {xs:List AV} {h:List Zh} {A:AV->List Zh->Prop}
  (hW:Dn (tbN rs cs ks) (fun _=>aB) (Zfj (tbN rs cs ks) fn.results.toList h.length A) 100 .none [.code body] (entry fn.ntmps xs) h []) (I:zOk h=true:=by rfl):SC (fun _=>aB) f xs h A:=SC.ofD (T:=tbN rs cs ks) (hTN rs cs ks) hm J H G I (fun h=>by cases h) hW
theorem Zgs (rs:Bool) (cs:List Nat) {x:Code} {Q:Ex->List AV->List Zh->Prop} {s:List AV} {h:List Zh} {ι:Type} (L:List Nat) (ex:List Zh) (ch:ι->List (Nat×AV)) (A:ι->List (Nat×Zh)) (inv:ι->Prop) (H:ι->Nat) (i:ι)
  (hi:inv i) (G:To (Vm.keep L s) h (Y9 (Vm.keep L s) (ch i)) (Ym (h++ex) (A i)))
  (step:∀i,inv i->Dn (tbN rs cs []) (fun _=>aB) (Zfq L (fun i=>Y9 (Vm.keep L s) (ch i)) (fun i=>Ym (h++ex) (A i)) inv H i (h++ex).length Q) 100 .none [.code x] (Y9 (Vm.keep L s) (ch i)) (Ym (h++ex) (A i)) []):LP false (fun _=>aB) x Q s h:=
 LP.indD (T:=tbN rs cs []) (hTN rs cs []) hm rfl L (fun i=>Y9 (Vm.keep L s) (ch i)) (fun i=>Ym (h++ex) (A i)) inv H i (h++ex).length (fun _=>ZbX _ _) hi G step
theorem ZuV (rs:Bool) (cs:List Nat) {x:Code} {Q:Ex->List AV->List Zh->Prop} {s s₂:List AV} {h h₂:List Zh} (A:To s h s₂ h₂) (H:LP false (fun _=>aB) x Q s₂ h₂):LP false (fun _=>aB) x Q s h:=LP.to A H
section
variable {n k:Nat} {nt:(α:Type)->α->List α->Int->α} (O:∀(α:Type) (d:α) (l:List α) (i:Int),nt α d l i=l.getD i.toNat d)
include O
theorem ZG.snocVT {α:Type} {d:α} {encV:α->(Unit->Int)->List AV} {l:List α} {x:α} {s:Nat} {n0 m':Unit->Int} {row:List AV} {T:AV->AV} (hT:∀(x:α) e,(encV x e).map T=encV x e) (G:n0 ()=(l.length:Int)) (hm:m' ()=(l.length:Int)+1) (A:Yn n k (row.map T) (encV x fun _=>(l.length:Int))):
  ZG n k (.vgar s m' fun e=>(ZV n0 (fun e=>encV (nt α d l (e ())) e) (fun _=>row) e).map T) (.vgar s (fun _=>((l++[x]).length:Int)) fun e=>encV (nt α d (l++[x]) (e ())) e):=
 .vgar (by rw[hm];simp) fun i H=>by
  rw[hm]at H;by_cases h:i<l.length
  ·rw[QF G h];have e:nt α d (l++[x]) (i:Int)=nt α d l (i:Int):=by rw[Zk8 O,if_pos h]
   simp only[e,hT];exact Yn.refl _
  obtain rfl:i=l.length:=by omega
  rw[Qz G (aJ _)];have e:nt α d (l++[x]) (l.length:Int)=x:=by rw[O];simp
  simp only[e];exact A
theorem ZG.snocM {α A:Type} {d:α} {dβ:A} {enc:A->List AV} {inner:α->List A} {l:List α} {x:α} {z s:Nat} {N U G:Unit->Int} {J:(Unit->Int)->List AV} (h0:N ()=(l.length:Int)) (hm:U ()=(l.length:Int)+1) (Y:G ()=((inner x).length:Int))
  (Z:∀j:Nat,j<(inner x).length->J (fun _=>(j:Int))=enc (nt A dβ (inner x) (j:Int))):
  ZG n k (.fam z s U (Zby N (fun e _=>((inner (nt α d l (e ()))).length:Int)) G) (Y1 N (fun e q=>enc (nt A dβ (inner (nt α d l (e ()))) (q ()))) J))
   (.fam z s (fun _=>((l++[x]).length:Int)) (fun e _=>((inner (nt α d (l++[x]) (e ()))).length:Int)) fun e q=>enc (nt A dβ (inner (nt α d (l++[x]) (e ()))) (q ()))):=by
 have S:∀i:Nat,(i:Int)<U ()->(i<l.length/\nt α d (l++[x]) (i:Int)=nt α d l (i:Int))\/(i=l.length/\nt α d (l++[x]) (i:Int)=x):=fun i I=>by
  rw[hm]at I;by_cases h:i<l.length
  ·exact .inl ⟨h,by rw[Zk8 O,if_pos h]⟩
  obtain rfl:i=l.length:=by omega
  exact .inr ⟨rfl,by rw[O];simp⟩
 refine .fam (by rw[hm];simp) (fun i I=>?_) fun i I j H=>?_
 ·rcases S i I with⟨h,e⟩|⟨h,e⟩
  ·show(bif decide ((i:Int)<N ())then((inner (nt α d l (i:Int))).length:Int)else G ())=((inner (nt α d (l++[x]) (i:Int))).length:Int);rw[decide_eq_true (by omega),e];rfl
  show(bif decide ((i:Int)<N ())then((inner (nt α d l (i:Int))).length:Int)else G ())=((inner (nt α d (l++[x]) (i:Int))).length:Int);rw[decide_eq_false (by omega),e];exact Y
 rcases S i I with⟨h,e⟩|⟨h,e⟩
 ·show(if(i:Int)<N ()then(fun q:Unit->Int=>enc (nt A dβ (inner (nt α d l (i:Int))) (q ())))else J) (fun _=>(j:Int))=enc (nt A dβ (inner (nt α d (l++[x]) (i:Int))) (j:Int));rw[if_pos (by omega),e]
 show(if(i:Int)<N ()then(fun q:Unit->Int=>enc (nt A dβ (inner (nt α d l (i:Int))) (q ())))else J) (fun _=>(j:Int))=enc (nt A dβ (inner (nt α d (l++[x]) (i:Int))) (j:Int));have V:j<(inner x).length:=by
  have H:(j:Int)<(bif decide ((i:Int)<N ())then((inner (nt α d l (i:Int))).length:Int)else G ()):=H;rw[decide_eq_false (by omega)]at H;have H:(j:Int)<G ():=H;omega
 rw[if_neg (by omega),e];exact Z j V
end
end Vm
namespace Vm
open Go Go.Proofs
theorem ZeJ.perm {α:Type} {G:Nat} {V:α->Value->Prop} {es:Array MapEntry} {clk:Nat} {L A:List (List Int×α)} (h:ZeJ G V es clk L) (H:L.Perm A):ZeJ G V es clk A:=by
 obtain⟨l,h⟩:=h;exact⟨l,{h with L:=h.L.trans H}⟩
theorem Zy.imap {n k G m:Nat} {L A:Unit->List (List Int×List Int)} (h:(L ()).Perm (A ())):Zy n k (.imap G m L) (.imap G m A):=⟨fun R v _ hv=>by
 cases hv with
 |pure _ _ J=>
  cases J with
  |imap _ _ _ b es H V U S=>exact .pure _ _ (.imap G m A b es H V (U.perm h) S)
  |imap0 _ _ _ I=>exact .pure _ _ (.imap0 G m A (by rw[I]at h;exact h.nil_eq.symm▸rfl))⟩
theorem YC.frame {p:Unit->Program} {id j:Nat} {xs:List AV} {h:List Zh} {A Q:AV->List Zh->Prop} (l:List Nat) (V:l.Nodup) (Y:∀i∈l,i<h.length) (I:l[j]? =some id) (H:YC p j (xs.map (Qs false l h 5)) (sel false l h) Q)
  (hq:∀r J,Q r J->A (ren (Y7 l h.length) 5 r) (back l h J)):YC p id xs h A:=
 ⟨fun G R vs hr ha=>by
  obtain⟨S,Z,a0,a1,a2,a3,a4,a5,a6,a7,a8⟩:=hr.sel (fz:=false) (ι:=l) (Ztg R h l) (fun b o n k=>.inl k) (fun b o n o' n' k U h2=>by
    rcases k with k|k|k
    ·exact .inl (hr.sub k U h2)
    ·exact .inr (.inl k)
    exact .inr (.inr k)) (fun b o n hb=>.inr (.inl hb)) (fun i blk b hi hb hk hp o n=>.inr (.inr ⟨i,blk,hi,hb,hk,hp⟩)) V Y (fun hf=>by cases hf) l.length (aJ _) (fun hf=>by cases hf)
  have ab:X0 S (xs.map (Qs false l h 5)) vs:=⟨by rw[bA];exact ha.1,fun j c I=>by
   rw[aO,aG]at I;obtain⟨x,hx,rfl⟩:=I
   exact a8 5 x _ (ha.2 j x hx)⟩
  obtain⟨f,aa,a,x,U,h2⟩:=H.run _ S vs a6 ab;rw[a1,a3 j id I]at U;refine⟨f,aa,a,x,U,fun c cs=>?_⟩;obtain⟨v,R',r,h',b1,b3,b4,b5,b6,b7⟩:=h2 c cs;rw[a1,Z,a3 j id I]at b1;obtain⟨ac,c1,c2,c3,c4,c5⟩:=ZgK hr V Y Z a0 a1 a2 a3 a4 a5 a7 b3 b4 b5
  exact⟨v,ac,_,_,by rw[c1];exact b1,c2,c3,c4,c5 5 r v b6,hq r h' b7⟩⟩
theorem YC.frameB {p:Unit->Program} {id j:Nat} {xs V:List AV} {h S h₂ h':List Zh} {b:Bool} {A:AV->List Zh->Prop} (l:List Nat) (J:l.Nodup) (U:∀i∈l,i<h.length) (hj:l[j]? =some id) (hx:xs.map (Qs false l h 5)=V) (G:sel false l h=S)
  (H:YC p j V S fun v h=>v= .bool (fun _=>b)/\h=h₂) (I:back l h h₂=h') (Y:A (.bool fun _=>b) h'):YC p id xs h A:=
 YC.frame l J U hj (by rw[hx,G];exact H) fun r Z hp=>by
  obtain⟨rfl,rfl⟩:=hp;rw[I];exact Y
end Vm
end Go.Proofs.YtjgpiclllehgmaaGreat
