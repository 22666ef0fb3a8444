/- Lemmas. -/
import Derived.KernelRfl
import Derived.Test.YtjgpiclllehgmaaGreatB1
import Derived.Test.YtjgpiclllehgmaaGreatM5
import Derived.Test.YtjgpiclllehgmaaGreatB0
set_option linter.all false
open Bool renaming false_ne_true->aS,false_or->cC,true_or->cT
open Decidable renaming of_not_not->bQ
open Int renaming le_refl->bT,toNat->fv,toNat_natCast->aV,zero_add->iE
open List renaming any_cons->eL,any_nil->fG,countP_cons->fP,drop_eq_nil_of_le->bB,drop_length->ij,foldl_cons->dP,getD_eq_getElem?_getD->aA,getElem?_append_left->bO,getElem?_cons_succ->cN,getElem?_cons_zero->bJ,getElem?_eq_getElem->aD,getElem?_eq_some_iff->aE,getElem?_set->bP,getElem_mem->bM,length_cons->bF,length_map->bA,length_set->cA,mem_append->cJ,mem_cons->bG,mem_cons_of_mem->aQ,mem_cons_self->aU,mem_map->bE,mem_range->bW,mem_singleton->aN,range->aR
open Nat renaming le_refl->aJ,mul_le_mul_right->aL,not_lt_zero->fe,zero_le->aW
open Option.some renaming injEq->aC
open Go.Proofs.Tryz renaming prog->aB
namespace Go.Proofs.YtjgpiclllehgmaaGreat
namespace Vm
attribute [local irreducible] Dn
open Go Go.Proofs Sp
set_option maxRecDepth 100000
set_option maxHeartbeats 4000000
structure Y6 (c:List (List Sp.Call)):Prop where
 len:c.length<=4
 row:∀l∈c,2<=l.length/\l.length<=4
theorem ZqW {f:FuncId} {xs I:List AV} {h:List Zh} {A Q:AV->List Zh->Prop} {B:Prop} (H:SC (fun _=>aB) f I [] Q) (k:B) (t:SC (fun _=>aB) f I [] Q->HdW B->SC (fun _=>aB) f xs h A:=by intro J hW;refine ZL J (by first|rfl|(simp only[Ze,Zd,Zf,Zc,Za O];rfl)) fun r S G=>?_;(try simp only[Ze,Zd,Zf,Zc,Za O]at G);obtain⟨rfl,rfl⟩:=G;exact hW.out):SC (fun _=>aB) f xs h A:=t H ⟨k⟩
theorem QE {n lo hi:Int} (h:QG n lo hi=false):lo<=n/\n<=hi:=by
 unfold QG YV at h;simp only[Bool.not_eq_false',Bool.and_eq_true,decide_eq_true_eq]at h;exact h
theorem YA (l:List Sp.Call) (f st:Int):ZM l f st<l.length/\(ZM l f st=-1\/(0<=ZM l f st/\f<=ZM l f st)):=by
 unfold ZM;obtain⟨m,hm⟩:∃m:Nat,max 0 f=(m:Int):=⟨(max 0 f).toNat,by omega⟩;have G:f<=m:=by omega
 rw[hm,aV];have A:=XL (q:=fun c:Sp.Call=>decide (c.station=st)) (l:=l.drop m) (i:=(m:Int)) (by omega);by_cases h:m<=l.length
 ·rw[List.length_drop]at A;omega
 rw[bB (by omega)];exact⟨by simp only[Zt];omega,.inl rfl⟩
theorem Zbg {A:(α:Type)->α->List α->Int->α} (O:∀(α:Type) (d:α) (l:List α) (i:Int),A α d l i=l.getD i.toNat d) (c:List (List Sp.Call)):lst 1 Zc [] c= .isl 1 (fun _=>(c.length:Int)) (fun e=>[.isl 3 (fun _=>((A (List Sp.Call) [] c (e ())).length:Int)) (fun G=>XM (A Sp.Call default (A (List Sp.Call) [] c (e ())) (G ()))) .none]) .none:=by
 rw[Za O];simp only[Zc,Za O]
theorem Zxz (c:List (List Sp.Call)) (w:Sp.QV) (G:List Sp.QV) (hc:Y6 c) (Z:G.length<=1000000):SC (fun _=>aB) 133 [lst 1 Zc [] c,.agg (Qk w),lst 4 Qk default G] [] fun v h=>v= .int .i64 (fun _=>Qd c w G)/\h=[]:=by
 obtain⟨nt,O⟩:=Zo;rw[Zbg O,Za O];refine QN Tryz.func133 (body:=Zj Tryz.f133) rfl (by decide+kernel) ?_;have ab:=hc.len;have k1:=ZdP w.feeder 0 (c.length-1);have k2:=ZdP w.train 0 (c.length-1);have k3:=ZdP w.minutes 0 60;have aa:∀i:Int,0<=i->i<=(c.length:Int)-1->nt (List Sp.Call) [] c i∈c:=fun i h0 H=>by
  have:i.toNat<c.length:=by omega
  rw[O,aA,aD this];exact bM _
 generalize A:Qd c w G=e;unfold Qd at A;rw[<-O (List Sp.Call) [] c w.feeder,<-O (List Sp.Call) [] c w.train]at A;refine wS ?_;refine ZqW (k1) ?_;refine wS ?_;refine⟨fun H=>?_,fun H=>?_⟩;case refine_2=>
  have H:=nb4 H;rw[H,cT,if_pos rfl]at A;subst A;refine wS ?_;refine Br.isT rfl ?_;(cbv;(try simp only[nc]at*);(try refine Chk.mk (ZE) ?_));(try first|exact⟨rfl,trivial⟩|exact⟨trivial,trivial⟩)
 have H:=nb2 H;rw[H,cC]at A;refine wS ?_;refine ZqW (k2) ?_;refine wS ?_;refine⟨fun J=>?_,fun J=>?_⟩
 ·rw[H]at J;have J:QG w.train 0 (c.length-1)=true:=J;rw[if_pos J]at A;subst A;(cbv;(try simp only[nc]at*);(try refine Chk.mk (ZE) ?_));(try first|exact⟨rfl,trivial⟩|exact⟨trivial,trivial⟩)
 rw[H]at J;have J:QG w.train 0 (c.length-1)=false:=J;rw[if_neg (by rw[J];exact aS)]at A;have b1:=QE H;have b2:=QE J;refine wS ?_;refine⟨fun V=>?_,fun V=>?_⟩
 ·have V:=eq_of_beq V;rw[if_pos V]at A;subst A;(cbv;(try simp only[nc]at*);(try refine Chk.mk (ZE) ?_));(try first|exact⟨rfl,trivial⟩|exact⟨trivial,trivial⟩)
 have V:=ne_of_beq_false V;rw[if_neg V]at A;have m1:=aa _ b1.1 b1.2;have m2:=aa _ b2.1 b2.2;refine vS ?_;generalize hF:nt (List Sp.Call) [] c w.feeder=F at*;generalize hT:nt (List Sp.Call) [] c w.train=U at*;have r1:=hc.row _ m1;have r2:=hc.row _ m2;have q1:=Zu9 F w.station (by omega);have q2:=ZwG U w.station (by omega);have s1:ZA F w.station<F.length/\-1<=ZA F w.station:=by have:=YA F 1 w.station;unfold ZA;omega
 have s2:ZN U w.station<(U.length:Int)-1/\-1<=ZN U w.station:=by
  have:=YA U 0 w.station;unfold ZN;split<;>omega
 simp only[Za O]at q1 q2;try simp only[hF,hT]
 try refine Chk.mk (ZE) ?_
 refine ZqW (q1) ?_;refine vS ?_;try simp only[hF,hT]
 try refine Chk.mk (ZE) ?_
 refine ZqW (q2) ?_;refine vS ?_;try simp only[hF,hT]
 try refine Chk.mk (ZE) ?_
 generalize ZA F w.station=a at*;generalize ZN U w.station=b at*;refine⟨fun I=>?_,fun I=>?_⟩
 ·rw[if_pos (by
   cases ha:decide (a<0)with
   |true=>exact .inl (of_decide_eq_true ha)
   |false=>rw[ha]at I;exact .inr (of_decide_eq_true I))]at A
  subst A;(cbv;(try simp only[nc]at*);(try refine Chk.mk (ZE) ?_));(try first|exact⟨rfl,trivial⟩|exact⟨trivial,trivial⟩)
 have h5:0<=a:=by
  cases ha:decide (a<0)with
  |true=>rw[ha]at I;cases I
  |false=>have:=of_decide_eq_false ha;omega
 have h6:0<=b:=by
  cases ha:decide (a<0)with
  |true=>rw[ha]at I;cases I
  |false=>rw[ha]at I;have:=of_decide_eq_false I;omega
 rw[if_neg (by omega)]at A;clear q1 q2;refine wS ?_;refine ZqW (k3) ?_;refine wS ?_;refine⟨fun h7=>?_,fun h7=>?_⟩
 ·rw[if_pos h7]at A;subst A;(cbv;(try simp only[nc]at*);(try refine Chk.mk (ZE) ?_));(try first|exact⟨rfl,trivial⟩|exact⟨trivial,trivial⟩)
 rw[if_neg (by rw[h7];exact aS)]at A;rw[<-O Sp.Call default U b,<-O Sp.Call default F a]at A;refine vS ?_;try simp only[hF,hT]
 try refine Chk.mk (ZE) ?_
 refine⟨fun Y=>?_,fun Y=>?_⟩
 ·have Y:=of_decide_eq_true Y;rw[if_pos Y]at A;subst A;(cbv;(try simp only[nc]at*);(try refine Chk.mk (ZE) ?_));(try first|exact⟨rfl,trivial⟩|exact⟨trivial,trivial⟩)
 rw[if_neg (of_decide_eq_false Y)]at A;clear Y h7 I;refine wS ?_;refine ZJ false false [] [4,79,80,81] [] (fun(i:Nat)=>[(81,.int .i64 fun _=>i)]) (fun _=>[]) (fun i=>i<=G.length/\G.any (fun x=>decide (x.feeder=w.feeder/\x.train=w.train/\x.station=w.station))=(G.drop i).any (fun x=>decide (x.feeder=w.feeder/\x.train=w.train/\x.station=w.station))) (fun i=>G.length-i+0) 0 ⟨aW _,by simp⟩ ?_ ?_
 ·exact ZF
 rintro i ⟨hi,S⟩;refine wS ?_;refine⟨fun Z=>?_,fun Z=>?_⟩
 ·have Z:=of_decide_eq_true Z;have hd:=Qi (d:=default) O (l:=G) (i:=i) (by omega);rw[hd,eL]at S;generalize hx:nt Sp.QV default G i=x at*;refine vS ?_;try simp only[hx]
  try refine Chk.mk (ZE) ?_
  have he:(bif (bif x.feeder==w.feeder then x.train==w.train else false)then x.station==w.station else false)=decide (x.feeder=w.feeder/\x.train=w.train/\x.station=w.station):=by
   by_cases e1:x.feeder=w.feeder<;>by_cases e2:x.train=w.train<;>by_cases e3:x.station=w.station<;>simp[e1,e2,e3]
  refine⟨fun h9=>?_,fun h9=>?_⟩
  ·rw[he]at h9;rw[h9,cT]at S;rw[S,if_pos rfl]at A;subst A;(cbv;(try simp only[nc]at*);(try refine Chk.mk (ZE) ?_));(try first|exact⟨rfl,trivial⟩|exact⟨trivial,trivial⟩)
  rw[he]at h9;rw[h9,cC]at S;refine wS ?_;refine⟨i+1,⟨by omega,S⟩,by show G.length-(i+1)+0<G.length-i+0;omega,?_⟩;exact ZF
 have Z:=of_decide_eq_false Z;rw[bB (by omega)]at S;rw[S,fG,if_neg aS]at A;subst A;(cbv;(try simp only[nc]at*);(try refine Chk.mk (ZE) ?_));(try first|exact⟨rfl,trivial⟩|exact⟨trivial,trivial⟩)
theorem Zxy (c:List (List Sp.Call)) (d:Sp.ZP) (I:List Sp.ZP) (hc:Y6 c) (J:I.length<=1000000) (hd:d.by_.length<=1000000):SC (fun _=>aB) 134 [lst 1 Zc [] c,.agg (Zq d),lst 3 Zq default I] [] fun v h=>v= .int .i64 (fun _=>Qm c d I)/\h=[]:=by
 obtain⟨H,O⟩:=Zo;rw[Zbg O,Za O (enc:=Zq),show AV.agg (Zq d)= .agg [.int .i64 fun _=>d.run,.int .i64 fun _=>d.leg,.isl 1 (fun _=>(d.by_.length:Int)) (fun e=>Q9 (H Int 0 d.by_ (e ()))) .none] by unfold Zq;rw[Za O]];refine QN Tryz.func134 (body:=Zj Tryz.f134) rfl (by decide+kernel) ?_;have ae:=hc.len;have k1:=ZdP d.run 0 (c.length-1);have aa:∀i:Int,0<=i->i<=(c.length:Int)-1->H (List Sp.Call) [] c i∈c:=fun i h0 S=>by
  have:i.toNat<c.length:=by omega
  rw[O,aA,aD this];exact bM _
 generalize A:Qm c d I=e;unfold Qm at A;rw[<-O (List Sp.Call) [] c d.run]at A;refine wS ?_;refine ZqW (k1) ?_;refine wS ?_;have ab:(!QG d.run 0 ((c.length:Int)-1))=true->(0<=d.run/\d.run<c.length)/\((H (List Sp.Call) [] c d.run).length:Int)<=4:=fun h=>by
  have b:=QE (nb2 h);have:=(hc.row _ (aa _ b.1 b.2)).2;omega
 refine Chk.mk ?_ ?_
 ·simp only[nc,Xo,Xn,XA,Xm,Cn.p,and_true,true_and];(repeat' (first|apply And.intro|intro _))<;>first|assumption|(have:=ab (by assumption);omega)
 refine⟨fun S=>?_,fun S=>?_⟩;case refine_2=>
  have S:=nb4 S;rw[S,cT,if_pos rfl]at A;subst A;refine wS ?_;refine Br.isT rfl ?_;(cbv;(try simp only[nc]at*);(try refine Chk.mk (ZE) ?_));(try first|exact⟨rfl,trivial⟩|exact⟨trivial,trivial⟩)
 have S:=nb2 S;rw[S,cC]at A;have b1:=QE S;have m1:=aa _ b1.1 b1.2;have r1:=hc.row _ m1;clear ab;have k2:=ZdP d.leg 0 ((H (List Sp.Call) [] c d.run).length-2);refine wS ?_;refine ZqW (k2) ?_;refine wS ?_;refine⟨fun V=>?_,fun V=>?_⟩
 ·rw[S]at V;have V:QG d.leg 0 ((H (List Sp.Call) [] c d.run).length-2)=true:=V;rw[if_pos V]at A;subst A;(cbv;(try simp only[nc]at*);(try refine Chk.mk (ZE) ?_));(try first|exact⟨rfl,trivial⟩|exact⟨trivial,trivial⟩)
 rw[S]at V;have V:QG d.leg 0 ((H (List Sp.Call) [] c d.run).length-2)=false:=V;rw[if_neg (by rw[V];exact aS)]at A;refine wS ?_;refine⟨fun h3=>?_,fun h3=>?_⟩
 ·have h3:=eq_of_beq h3;rw[if_pos (by omega)]at A;subst A;(cbv;(try simp only[nc]at*);(try refine Chk.mk (ZE) ?_));(try first|exact⟨rfl,trivial⟩|exact⟨trivial,trivial⟩)
 have h3:=ne_of_beq_false h3;rw[if_neg (by omega)]at A;refine wS ?_;refine⟨fun h4=>?_,fun h4=>?_⟩
 ·have h4:=of_decide_eq_true h4;rw[if_pos (by omega)]at A;subst A;(cbv;(try simp only[nc]at*);(try refine Chk.mk (ZE) ?_));(try first|exact⟨rfl,trivial⟩|exact⟨trivial,trivial⟩)
 have h4:=of_decide_eq_false h4;rw[if_neg (by omega)]at A;clear S V k1 k2;refine wS ?_;refine ZJ false false [] [2,4,41,42,43] [] (fun(i:Nat)=>[(43,.int .i64 fun _=>i)]) (fun _=>[]) (fun i=>i<=d.by_.length/\Zm (ZeB d.by_) 0 d.by_.length=Zm (ZeB d.by_) i (d.by_.length-i)) (fun i=>d.by_.length-i+0) 0 ⟨aW _,by simp⟩ ?_ ?_
 ·exact ZF
 rintro i ⟨hi,G⟩;refine wS ?_;refine⟨fun J=>?_,fun J=>?_⟩
 ·have J:=of_decide_eq_true J;rw[Qh (by omega)]at G;have U:ZeB d.by_ i=if QG (H Int 0 d.by_ i) 0 240 then 1 else if 0<i/\H Int 0 d.by_ i<=H Int 0 d.by_ ((i:Int)-1)then 5 else 0:=by
   unfold ZeB;rw[Xz O];by_cases h0:0<i
   ·rw[Xz O,show((i-1:Nat):Int)=(i:Int)-1 by omega]
   simp[h0]
  have k3:=ZdP (H Int 0 d.by_ i) 0 240;refine wS ?_;refine ZqW (k3) ?_;refine wS ?_;refine⟨fun h5=>?_,fun h5=>?_⟩
  ·rw[if_pos h5]at U;rw[U,if_pos (by decide)]at G;rw[G,if_pos (by decide)]at A;subst A;(cbv;(try simp only[nc]at*);(try refine Chk.mk (ZE) ?_));(try first|exact⟨rfl,trivial⟩|exact⟨trivial,trivial⟩)
  rw[if_neg (by rw[h5];exact aS)]at U;refine vS ?_;refine Chk.mk ?_ ?_
  ·simp only[nc,Xo,Xn,XA,Xm,Cn.p,and_true,true_and,decide_eq_true_eq];(repeat' (first|apply And.intro|intro _))<;>first|assumption|omega
  have Y:(bif decide (0<(i:Int))then decide (H Int 0 d.by_ i<=H Int 0 d.by_ ((i:Int)-1))else false)=decide (0<i/\H Int 0 d.by_ i<=H Int 0 d.by_ ((i:Int)-1)):=by
   by_cases e1:0<i
   ·have:(0:Int)<i:=by omega
    simp[e1,this]
   have:¬(0:Int)<i:=by omega
   simp[e1,this]
  refine⟨fun Z=>?_,fun Z=>?_⟩
  ·rw[Y]at Z;rw[if_pos (of_decide_eq_true Z)]at U;rw[U,if_pos (by decide)]at G;rw[G,if_pos (by decide)]at A;subst A;(cbv;(try simp only[nc]at*);(try refine Chk.mk (ZE) ?_));(try first|exact⟨rfl,trivial⟩|exact⟨trivial,trivial⟩)
  rw[Y]at Z;rw[if_neg (of_decide_eq_false Z)]at U;rw[U,if_neg (fun h=>h rfl)]at G;refine wS ?_;refine⟨i+1,⟨by omega,G⟩,by show d.by_.length-(i+1)+0<d.by_.length-i+0;omega,?_⟩;exact ZF
 have J:=of_decide_eq_false J;rw[Qt (by omega)]at G;rw[G,if_neg (fun h=>h rfl)]at A;refine wS ?_;refine ZJ false false [] [4,65,66,67] [] (fun(i:Nat)=>[(67,.int .i64 fun _=>i)]) (fun _=>[]) (fun i=>i<=I.length/\I.any (fun x=>decide (x.run=d.run/\x.leg=d.leg))=(I.drop i).any (fun x=>decide (x.run=d.run/\x.leg=d.leg))) (fun i=>I.length-i+0) 0 ⟨aW _,by simp⟩ ?_ ?_
 ·exact ZF
 rintro i ⟨hi,G⟩;refine wS ?_;refine⟨fun J=>?_,fun J=>?_⟩
 ·have J:=of_decide_eq_true J;have ac:=Qi (d:=default) O (l:=I) (i:=i) (by omega);rw[ac,eL]at G;generalize hx:H Sp.ZP default I i=x at*;refine vS ?_;try simp only[hx]
  try refine Chk.mk (ZE) ?_
  have Y:(bif x.run==d.run then x.leg==d.leg else false)=decide (x.run=d.run/\x.leg=d.leg):=by
   by_cases e1:x.run=d.run<;>by_cases e2:x.leg=d.leg<;>simp[e1,e2]
  refine⟨fun h9=>?_,fun h9=>?_⟩
  ·rw[Y]at h9;rw[h9,cT]at G;rw[G,if_pos rfl]at A;subst A;(cbv;(try simp only[nc]at*);(try refine Chk.mk (ZE) ?_));(try first|exact⟨rfl,trivial⟩|exact⟨trivial,trivial⟩)
  rw[Y]at h9;rw[h9,cC]at G;refine wS ?_;refine⟨i+1,⟨by omega,G⟩,by show I.length-(i+1)+0<I.length-i+0;omega,?_⟩;exact ZF
 have J:=of_decide_eq_false J;rw[bB (by omega)]at G;rw[G,fG,if_neg aS]at A;subst A;(cbv;(try simp only[nc]at*);(try refine Chk.mk (ZE) ?_));(try first|exact⟨rfl,trivial⟩|exact⟨trivial,trivial⟩)
set_option maxHeartbeats 8000000
structure QC (t:Zb):Prop where
 book:Xe t.book
 runs:t.runs.length<=1000000
 waits:t.waits.length<=1000000
 delays:t.delays.length<=1000000
 bys:∀d∈t.delays,d.by_.length<=1000000
def ZX (t:Zb):List AV:=[lst 2 encZone default t.book.zones,lst 3 encTrain default t.book.old,lst 3 encTrain default t.book.new,.int .i64 fun _=>t.book.night,.int .i64 fun _=>t.book.last,
 lst 2 Zi default t.runs,lst 4 Qk default t.waits,lst 3 Zq default t.delays,lst 1 Zc [] (callsOf t)]
def QW (e:Int) (t:Zb):AV:=if e=0 then .iptr (ZX t) 0 else .nilptr
theorem Za1 {t:Zb} (h:QQ t=0):Y6 (callsOf t):=by
 unfold QQ at h;split at h
 ·cases h
 split at h
 ·cases h
 have J:=Qp h;refine⟨by unfold callsOf;rw[bA];omega,fun l A=>?_⟩;obtain⟨r,hr,rfl⟩:=bE.1 A;obtain⟨j,S,H⟩:=J1 (d:=default) hr;have G:=J j (by omega) (by omega);have A:=Zdu t.book r.number r.day;unfold Jy at G;rw[show t.runs.getD j default=r from H]at G;split at G
 ·exact absurd G (by assumption)
 rename_i I;exact⟨A.2 (bQ I),A.1⟩
theorem ZqR (t:Zb) (hf:QC t):SC (fun _=>aB) 80 [Zf t] [] fun v h=>v= .tup [QW (Zr t) t,.int .i64 fun _=>Zr t]/\h=[]:=by
 obtain⟨nt,O⟩:=Zo;refine SC.less (QN Tryz.func80 (body:=Zj Tryz.f80) rfl (by decide+kernel) ?_);have aa:=c28 t.book hf.book;have V:=ZxA t hf.book hf.runs;obtain⟨P,G⟩:∃P,P=QW (Zr t) t:=⟨_,rfl⟩;rw[<-G];generalize H:Zr t=e at*;unfold Zr at H;unfold Zf at*;unfold Zd at aa;simp only[Za O]at aa V|-;refine wS ?_;refine ZL (aa) (by first|rfl|(simp only[Ze,Zd,Zf,Zc,Za O];rfl)) fun r Y A=>?_;(try simp only[Ze,Zd,Zf,Zc,Za O]at A);obtain⟨rfl,rfl⟩:=A;generalize Sp.Yx t.book=e1 at*;refine wS ?_;refine⟨fun Z=>?_,fun Z=>?_⟩
 ·have Z:e1≠0:=by simpa only[bne_iff_ne]using Z
  rw[if_pos Z]at H;subst H;unfold QW at G;rw[if_neg Z]at G;subst G;refine wS ?_;refine⟨_,[],?_,rfl,rfl⟩;exact ZF
 case refine_2=>
  have Z:e1=0:=by simpa only[bne_eq_false_iff_eq]using Z
  rw[if_neg (by omega)]at H;have ab:= @Za1 t;refine wS ?_;refine ZL (V) (by first|rfl|(simp only[Ze,Zd,Zf,Zc,Za O];rfl)) fun r Y A=>?_;(try simp only[Ze,Zd,Zf,Zc,Za O]at A);obtain⟨rfl,rfl⟩:=A;generalize QQ t=e2 at*;refine wS ?_;refine⟨fun S=>?_,fun S=>?_⟩
  ·have S:e2≠0:=by simpa only[bne_iff_ne]using S
   rw[if_pos S]at H;subst H;unfold QW at G;rw[if_neg S]at G;subst G;refine wS ?_;refine⟨_,[],?_,rfl,rfl⟩;exact ZF
  have S:e2=0:=by simpa only[bne_eq_false_iff_eq]using S
  subst S;rw[if_neg (fun h=>h rfl)]at H;have ac:=ab rfl;clear aa V ab;simp only[if_true];generalize ah:callsOf t=c at*;refine wS ?_;refine⟨fun h3=>?_,fun h3=>?_⟩
  ·simp only[decide_eq_true_eq]at h3;rw[if_pos (by omega)]at H;subst H;unfold QW at G;rw[if_neg (by decide)]at G;subst G;refine wS ?_;refine⟨_,[],?_,rfl,rfl⟩;exact ZF
  simp only[decide_eq_false_iff_not]at h3;rw[if_neg (by omega)]at H;refine wS ?_;refine ZJ false false [] [1,5,32,33,34] [] (fun(i:Nat)=>[(34,.int .i64 fun _=>(i:Int))]) (fun _=>[]) (fun i=>i<=t.waits.length/\Zm (fun i=>Qd c (t.waits.getD i default) (t.waits.take i)) 0 t.waits.length=Zm (fun i=>Qd c (t.waits.getD i default) (t.waits.take i)) i (t.waits.length-i)) (fun i=>t.waits.length-i+0) 0 ⟨by omega,rfl⟩ ?_ ?_
  ·exact ZF
  rintro i ⟨hi,A⟩;refine wS ?_;refine⟨fun U=>?_,fun U=>?_⟩
  ·simp only[decide_eq_true_eq]at U;rw[Qh (by omega)]at A;have J:Qd c (t.waits.getD i default) (t.waits.take i)=Qd c (nt QV default t.waits i) (t.waits.take i):=by rw[Xz O]
   generalize hd:nt QV default t.waits i=d at*;refine vS ?_;simp only[hd];refine Chk.mk (ZE) ?_;refine JC (Zxz c d (t.waits.take i) ac (by have:=hf.waits;simp;omega)) (by(try simp only[Ze,Zd,Zf,Zc,Za O]);exact ZF) (by first|rfl|(simp only[Ze,Zd,Zf,Zc,Za O];rfl)) fun r Y A=>?_;(try simp only[Ze,Zd,Zf,Zc,Za O]at A);obtain⟨rfl,rfl⟩:=A;refine wS ?_;refine⟨fun I=>?_,fun I=>?_⟩
   ·simp only[bne_iff_ne,ne_eq]at I;rw[J,if_pos I]at A;rw[A,if_pos I]at H;rw[<-H]at G;unfold QW at G;rw[if_neg I]at G;subst G;subst H;refine wS ?_;refine⟨_,[],?_,rfl,rfl⟩;exact ZF
   simp only[bne_eq_false_iff_eq]at I;rw[J,if_neg (fun h=>h I)]at A;refine wS ?_;refine⟨i+1,⟨by omega,A⟩,by show t.waits.length-(i+1)+0<t.waits.length-i+0;omega,?_⟩;exact ZF
  simp only[decide_eq_false_iff_not]at U;rw[Qt (by omega)]at A;rw[A,if_neg (fun h=>h rfl)]at H;clear A U;refine wS ?_;refine⟨fun h6=>?_,fun h6=>?_⟩
  ·simp only[decide_eq_true_eq]at h6;rw[if_pos (by omega)]at H;subst H;unfold QW at G;rw[if_neg (by decide)]at G;subst G;refine wS ?_;refine⟨_,[],?_,rfl,rfl⟩;exact ZF
  simp only[decide_eq_false_iff_not]at h6;rw[if_neg (by omega)]at H;refine wS ?_;refine ZJ false false [] [1,5,55,56,57] [] (fun(i:Nat)=>[(57,.int .i64 fun _=>(i:Int))]) (fun _=>[]) (fun i=>i<=t.delays.length/\e=Zm (fun i=>Qm c (t.delays.getD i default) (t.delays.take i)) i (t.delays.length-i)) (fun i=>t.delays.length-i+0) 0 ⟨by omega,H.symm⟩ ?_ ?_
  ·exact ZF
  rintro i ⟨hi,A⟩;refine wS ?_;refine⟨fun U=>?_,fun U=>?_⟩
  ·simp only[decide_eq_true_eq]at U;rw[Qh (by omega)]at A;have J:Qm c (t.delays.getD i default) (t.delays.take i)=Qm c (nt ZP default t.delays i) (t.delays.take i):=by rw[Xz O]
   have ae:(nt ZP default t.delays i).by_.length<=1000000:=by
    rw[O,aA,aD (by omega)];exact hf.bys _ (bM _)
   generalize hd:nt ZP default t.delays i=d at*;refine vS ?_;simp only[hd];refine Chk.mk (ZE) ?_;refine JC (Zxy c d (t.delays.take i) ac (by have:=hf.delays;simp;omega) ae) (by(try simp only[Ze,Zd,Zf,Zc,Za O]);exact ZF) (by first|rfl|(simp only[Ze,Zd,Zf,Zc,Za O];rfl)) fun r Y A=>?_;(try simp only[Ze,Zd,Zf,Zc,Za O]at A);obtain⟨rfl,rfl⟩:=A;refine wS ?_;refine⟨fun I=>?_,fun I=>?_⟩
   ·simp only[bne_iff_ne,ne_eq]at I;rw[J,if_pos I]at A;rw[A]at G;unfold QW at G;rw[if_neg I]at G;subst G;subst A;refine wS ?_;refine⟨_,[],?_,rfl,rfl⟩;exact ZF
   simp only[bne_eq_false_iff_eq]at I;rw[J,if_neg (fun h=>h I)]at A;refine wS ?_;refine⟨i+1,⟨by omega,A⟩,by show t.delays.length-(i+1)+0<t.delays.length-i+0;omega,?_⟩;exact ZF
  simp only[decide_eq_false_iff_not]at U;rw[Qt (by omega)]at A;subst A;unfold QW at G;rw[if_pos rfl]at G;subst G;refine wS ?_;unfold ZX;simp only[ah,Za O,Zc];refine⟨_,[],?_,rfl,rfl⟩;exact ZF
end Vm
namespace Vm
open Go Go.Proofs Sp
set_option maxRecDepth 100000
set_option maxHeartbeats 800000
def XR (s:Int):Zh:=.cells [.int .u64 fun _=>s]
theorem Zoh (n:Int):0<=IntKind.u64.wrap n/\IntKind.u64.wrap n<18446744073709551616:=by
 have h:IntKind.u64.wrap n=n%18446744073709551616:=by
  simp[IntKind.wrap,IntKind.signed,IntKind.bits]
 omega
theorem c60 (s:Int):SC (fun _=>aB) 79 [.ptr 0 0] [XR s] fun r h=>∃x A:Int,(0<=x/\x<18446744073709551616)/\r= .int .u64 (fun _=>x)/\h=[XR A]:=by
 refine QN Tryz.func79 (body:=Zj Tryz.f79) rfl (by decide+kernel) ?_;(cbv;(try simp only[nc]at*);(try refine Chk.mk (ZE) ?_));exact⟨_,_,Zoh _,rfl,rfl⟩
theorem ZuA (x m:Int) (H:0<=x/\x<18446744073709551616) (J:1<=m) (I:m<=1000000000):
  0<=(x.fdiv (2^ min (fv 13) IntKind.u64.bits)).tmod (IntKind.u64.wrap (m+1))/\(x.fdiv (2^ min (fv 13) IntKind.u64.bits)).tmod (IntKind.u64.wrap (m+1))<=m/\IntKind.u64.wrap (m+1)≠0:=by
 have hw:IntKind.u64.wrap (m+1)=m+1:=by
  have h:∀n,IntKind.u64.wrap n=n%18446744073709551616:=fun n=>by simp[IntKind.wrap,IntKind.signed,IntKind.bits]
  rw[h];omega
 rw[hw];have A:(2:Int)^ min (fv 13) IntKind.u64.bits=8192:=by decide
 rw[A];have G:0<=x.fdiv 8192:=by rw[Int.fdiv_eq_ediv_of_nonneg _ (by omega)];omega
 rw[Int.tmod_eq_emod_of_nonneg G];have:=Int.emod_nonneg (x.fdiv 8192) (show m+1≠0 by omega);have:=Int.emod_lt_of_pos (x.fdiv 8192) (show 0<m+1 by omega);omega
theorem c17 (s m:Int) (hm:m<=1000000000):SC (fun _=>aB) 21 [.ptr 0 0,.int .i64 fun _=>m] [XR s] fun r h=>∃x A:Int,(0<=x/\(x<=m\/x=0))/\r= .int .i64 (fun _=>x)/\h=[XR A]:=by
 refine QN Tryz.func21 (body:=Zj Tryz.f21) rfl (by decide+kernel) ?_;cbv;refine⟨fun G=>?_,fun G=>?_⟩
 ·(cbv;(try simp only[nc]at*);(try refine Chk.mk (ZE) ?_))
  exact⟨0,s,⟨by omega,.inr rfl⟩,rfl,rfl⟩
 simp only[decide_eq_false_iff_not]at G;(cbv;(try simp only[nc]at*);(try refine Chk.mk (ZE) ?_));refine ZS [0] (c60 s) (by decide) (by simp) rfl rfl fun r J H=>?_;obtain⟨x,A,I,rfl,rfl⟩:=H;have hv:=ZuA x m I (by omega) (by omega);(cbv;try simp only[nc]at*);generalize (x.fdiv (2^ min (fv 13) IntKind.u64.bits)).tmod (IntKind.u64.wrap (m+1))=y at*;generalize IntKind.u64.wrap (m+1)=z at*;refine Chk.mk (ZE) ?_;exact⟨y,A,⟨by omega,.inl (by omega)⟩,rfl,rfl⟩
theorem c22 (s l m:Int) (I:-1000000000<=l/\l<=1000000000) (hm:m-l<=1000000000/\-1000000000<=m):SC (fun _=>aB) 48 [.ptr 0 0,.int .i64 fun _=>l,.int .i64 fun _=>m] [XR s] fun r h=>∃x A:Int,(l<=x/\(x<=m\/x=l))/\r= .int .i64 (fun _=>x)/\h=[XR A]:=by
 refine QN Tryz.func48 (body:=Zj Tryz.f48) rfl (by decide+kernel) ?_;(cbv;(try simp only[nc]at*);(try refine Chk.mk (ZE) ?_));refine ZS [0] (c17 s (m-l) (by omega)) (by decide) (by simp) rfl rfl fun r H G=>?_;obtain⟨x,A,J,rfl,rfl⟩:=G;(cbv;(try simp only[nc]at*);(try refine Chk.mk (ZE) ?_));exact⟨l+x,A,by omega,rfl,rfl⟩
theorem c37 (s n m:Int) (hm:0<=m/\m<=1000000000):SC (fun _=>aB) 72 [.ptr 0 0,.int .i64 fun _=>n,.int .i64 fun _=>m] [XR s] fun r h=>∃(b:Bool) (A:Int),r= .bool (fun _=>b)/\h=[XR A]:=by
 refine QN Tryz.func72 (body:=Zj Tryz.f72) rfl (by decide+kernel) ?_;(cbv;(try simp only[nc]at*);(try refine Chk.mk (ZE) ?_));refine ZS [0] (c17 s (m-1) (by omega)) (by decide) (by simp) rfl rfl fun r H G=>?_;obtain⟨x,A,I,rfl,rfl⟩:=G;(cbv;(try simp only[nc]at*);(try refine Chk.mk (ZE) ?_));exact⟨_,A,rfl,rfl⟩
theorem c81 (s:Int) (l:List Int) (J:0<l.length/\l.length<=1000000):SC (fun _=>aB) 57 [.ptr 0 0,lst 1 Q9 0 l] [XR s] fun r h=>∃x A:Int,x∈l/\r= .int .i64 (fun _=>x)/\h=[XR A]:=by
 obtain⟨S,O⟩:=Zo;rw[Za O];refine QN Tryz.func57 (body:=Zj Tryz.f57) rfl (by decide+kernel) ?_;cbv;refine⟨fun G=>?_,fun G=>?_⟩
 ·simp only[nc,beq_iff_eq]at G;omega
 (cbv;(try simp only[nc]at*);(try refine Chk.mk (ZE) ?_))
 refine ZS [0] (c17 s ((l.length:Int)-1) (by omega)) (by decide) (by simp) rfl rfl fun r I H=>?_;obtain⟨x,A,U,rfl,rfl⟩:=H;(cbv;(try simp only[nc]at*);(try refine Chk.mk (ZE) ?_));obtain⟨i,rfl⟩:∃i:Nat,x=i:=⟨x.toNat,by omega⟩;exact⟨_,A,Qu O (by omega),rfl,rfl⟩
theorem c14 (l:List Int) (I:(l.length:Int)<=9223372036854775807):SC (fun _=>aB) 18 [lst 1 Q9 0 l] [] fun r h=>∃s:Int,r= .ptr 0 0/\h=[XR s]:=by
 obtain⟨H,O⟩:=Zo;rw[Za O];refine Zxl true false Tryz.func18 (body:=Zj Tryz.f18) rfl (by decide+kernel) ?_;(cbv;(try simp only[nc]at*);(try refine Chk.mk (ZE) ?_));refine Zwk true false [0,3,4] (fun(⟨i,s⟩:Nat×Int)=>mkS 41 [(0,.isl 1 (fun _=>(l.length:Int)) (fun e=>Q9 (H Int 0 l (e ()))) .none),(3,.ptr 0 0),(4,.int .i64 fun _=>(i:Int))])
  (fun⟨i,s⟩=>[XR s]) (fun⟨i,s⟩=>i<=l.length) (fun i=>l.length-i.1+0) (0,11400714819323198485) 1 (fun _=>rfl) (aW _) (To.of [] ?_) ?_
 ·cbv
  exact⟨⟨.refl _,.refl _,.int rfl,trivial⟩,.refl _,trivial⟩
 rintro⟨i,s⟩ G;have G:i<=l.length:=G;(cbv;(try simp only[nc]at*);(try refine Chk.mk (ZE) ?_));refine⟨fun A=>?_,fun A=>?_⟩
 ·simp only[decide_eq_true_eq]at A;(cbv;(try simp only[nc]at*);(try refine Chk.mk (ZE) ?_))
  exact⟨(i+1,_),(by omega:i+1<=l.length),by show l.length-(i+1)+0<l.length-i+0;omega,To.of [] (by
   cbv
   exact⟨⟨.refl _,.refl _,.int rfl,trivial⟩,.refl _,trivial⟩)⟩
 (cbv;(try simp only[nc]at*);(try refine Chk.mk (ZE) ?_))
 exact⟨s,rfl,rfl⟩
attribute [local irreducible] Dn
def Zrk (n:Int):Prop:=n=60\/n=-60\/n=30\/n=-90\/(1<=n/\n<=20)
structure Zq4 (k:Int) (z:Sp.Zone):Prop where
 base:-120<=z.base/\z.base<=120
 len:(z.chs.length:Int)<=k\/z.chs.length=0
 asc:z.chs.Pairwise fun a b=>a.at_<b.at_
 at_:∀c∈z.chs,0<=c.at_/\c.at_<=1500+2000*((z.chs.length:Int)-1)
 by_:∀c∈z.chs,Zrk c.by_
theorem ZsG {α:Type} {n k sz:Nat} (enc:α->List AV) (d:α) (l:List α):Zy n k (ZgB sz (l.map enc)) (lst sz enc d l):=
 .none (by simp) fun i A=>by
  have A:i<l.length:=by simpa using A
  show(l.map enc).getD i _=enc (l.getD i d);simp[aA,aD A]
theorem Zkr (s:Int) (l:List Int) (A:0<l.length/\l.length<=1000000):SC (fun _=>aB) 57 [.ptr 0 0,ZgB 1 (l.map Q9)] [XR s] fun r h=>∃x G:Int,x∈l/\r= .int .i64 (fun _=>x)/\h=[XR G]:=
 SC.to (xs₂:=[.ptr 0 0,lst 1 Q9 0 l]) (h₂:=[XR s]) (To.of [] ⟨⟨.refl _,ZsG Q9 0 l,trivial⟩,.refl _,trivial⟩) (c81 s l A)
theorem c29 (s k:Int) (hk:k<=10):SC (fun _=>aB) 73 [.ptr 0 0,.int .i64 fun _=>k] [XR s] fun r h=>∃(z:Sp.Zone) (s':Int),Zq4 k z/\r=Ze z/\h=[XR s']:=by
 obtain⟨Y,O⟩:=Zo;refine SC.less (QN Tryz.func73 (body:=Zj Tryz.f73) rfl (by decide+kernel) ?_);refine wS ?_;refine ZS [0] (c22 s (-4) 4 (by omega) (by omega)) (by decide) (by simp) rfl rfl fun r G H=>?_;obtain⟨b,S,J,rfl,rfl⟩:=H;refine wS ?_;refine ZS [0] (c17 S 1500 (by omega)) (by decide) (by simp) rfl rfl fun r G H=>?_;obtain⟨a,s2,ha,rfl,rfl⟩:=H;refine wS ?_;refine ZS [0] (c17 s2 k (by omega)) (by decide) (by simp) rfl rfl fun r G H=>?_;obtain⟨n,s3,hn,rfl,rfl⟩:=H;refine wS ?_;refine ZjQ [0,4,5,6,7] (fun(⟨i,t,s,l⟩:Int×Int×Int×List Chg)=>mkS 43 [(0,.ptr 0 0),(4,.ptr 1 0),(5,.ptr 2 0),(6,.int .i64 fun _=>t),(7,.int .i64 fun _=>i)])
  (fun⟨i,t,s,l⟩=>[XR s,.cells [.int .i64 fun _=>0,.isl 0 (fun _=>0) (fun _=>[]) .nil],.cells [.int .i64 fun _=>30*b,.isl 2 (fun _=>(l.length:Int)) (fun e=>ZaC (Y Chg default l (e ()))) (.own 3)],.tok 2 fun _=>(l.length:Int)])
  (fun⟨i,t,s,l⟩=>0<=i/\(l.length+i<=k\/(l.length:Int)+i=0)/\0<=t/\t<=1500+2000*(l.length:Int)/\l.Pairwise (fun a b=>a.at_<b.at_)/\(∀c∈l,0<=c.at_/\c.at_<t/\c.at_<=1500+2000*((l.length:Int)-1))/\∀c∈l,Zrk c.by_)
  (fun i=>i.1.toNat+0) (n,a,s3,[]) 4 (fun _=>rfl) ⟨by omega,by simp;omega,by omega,by simp;omega,.nil,by simp,by simp⟩ (To.of [(2,false)] ?_) ?_
 ·cbv
  exact⟨⟨.refl _,.refl _,.refl _,.refl _,.refl _,trivial⟩,.refl _,.refl _,.cells ⟨.refl _,.nilOwn (by decide) (by decide) rfl,trivial⟩,.tok rfl,trivial⟩
 rintro⟨i,t,s,l⟩ ⟨hi,hlen,ht0,ht,hpw,hat,hby⟩;refine wS ?_;refine⟨fun J=>?_,fun J=>?_⟩
 ·simp only[gt_iff_lt,decide_eq_true_eq]at J;refine wS ?_;refine ZS [0] (c22 s 1 20 (by omega) (by omega)) (by decide) (by simp) rfl rfl fun r G H=>?_;obtain⟨x,S,hx,rfl,rfl⟩:=H;refine wS ?_;refine ZS [0] (Zkr S [60,-60,30,-90,x] (by simp)) (by decide) (by simp) rfl rfl fun r G H=>?_;obtain⟨y,s2,Z,rfl,rfl⟩:=H;refine wS ?_;refine ZS [0] (c22 s2 1 40 (by omega) (by omega)) (by decide) (by simp) rfl rfl fun r G H=>?_;obtain⟨u,s3,hu,rfl,rfl⟩:=H;refine wS ?_;refine ZS [0] (c22 s3 100 2000 (by omega) (by omega)) (by decide) (by simp) rfl rfl fun r G H=>?_;obtain⟨v,s4,hv,rfl,rfl⟩:=H;refine wS ?_;refine ZS [0] (Zkr s4 [u,v] (by simp)) (by decide) (by simp) rfl rfl fun r G H=>?_;obtain⟨q,s5,U,rfl,rfl⟩:=H;have U:1<=q/\q<=2000:=by simp at U;omega
  refine wS ?_;have I:((l++[(⟨t,y⟩:Chg)]).length:Int)=l.length+1:=by simp
  refine⟨(i-1,t+q,s5,l++[⟨t,y⟩]),⟨by dsimp only;omega,by dsimp only;omega,by dsimp only;omega,by dsimp only;omega,?_,?_,?_⟩,by show(i-1).toNat+0<i.toNat+0;omega,To.of [] ?_⟩
  ·refine List.pairwise_append.2 ⟨hpw,List.pairwise_singleton _ _,fun c A d V=>?_⟩;simp only[aN]at V;subst V;exact(hat c A).2.1
  ·intro c A;rw[I];dsimp only;rcases cJ.1 A with A|A
   ·have:=hat c A;omega
   simp only[aN]at A;subst A;dsimp only;omega
  ·intro c A;rcases cJ.1 A with A|A
   ·exact hby c A
   simp only[aN]at A;subst A;simp at Z;unfold Zrk;dsimp only;omega
  cbv
  exact⟨⟨.refl _,.refl _,.refl _,.refl _,.refl _,trivial⟩,.refl _,.refl _,.cells ⟨.refl _,.snoc O rfl rfl rfl,trivial⟩,.tok (by simp),trivial⟩
 simp only[decide_eq_false_iff_not]at J;refine wS ?_;exact⟨Ze ⟨30*b,l⟩,[XR s],To.of [] ⟨⟨.agg ⟨.refl _,.lst O rfl,trivial⟩,trivial⟩,.refl _,trivial⟩,⟨30*b,l⟩,_,⟨by dsimp only;omega,by dsimp only;omega,hpw,fun c A=>by have:=hat c A;dsimp only;omega,hby⟩,rfl,rfl⟩
set_option maxHeartbeats 1600000
structure Zh9 (n:Nat) (L:List Int):Prop where
 len:L.length=n
 bd:∀i,i<n->0<=L.getD i 0/\L.getD i 0<n
 inj:∀i j,i<n->j<n->L.getD i 0=L.getD j 0->i=j
theorem Zcr {L:List Int} {i k:Nat} (hi:i<L.length) (A:k<L.length) (x:Nat):((L.set i (L.getD k 0)).set k (L.getD i 0)).getD x 0=L.getD (if x=k then i else if x=i then k else x) 0:=by
 simp only[aA,bP,cA];by_cases h1:x=k
 ·subst h1;simp[A]
 rw[if_neg (Ne.symm h1),if_neg h1];by_cases h2:x=i
 ·subst h2;simp[hi]
 rw[if_neg (Ne.symm h2),if_neg h2]
theorem Zh9.swap {n:Nat} {L:List Int} (h:Zh9 n L) {i k:Nat} (hi:i<n) (H:k<n):Zh9 n ((L.set i (L.getD k 0)).set k (L.getD i 0)):=by
 have A:=h.len;refine⟨by simpa using A,fun x G=>?_,fun x y G I e=>?_⟩
 ·rw[Zcr (by omega) (by omega)];exact h.bd _ (by split<;>(try split)<;>omega)
 rw[Zcr (by omega) (by omega),Zcr (by omega) (by omega)]at e;have:=h.inj _ _ (by split<;>(try split)<;>omega) (by split<;>(try split)<;>omega) e;split at this<;>split at this<;>(try split at this)<;>(try split at this)<;>omega
theorem Zsi {A:(α:Type)->α->List α->Int->α} (O:∀(α:Type) (d:α) (l:List α) (i:Int),A α d l i=l.getD i.toNat d) {L:List Int} {i x:Nat} {v:Int} (hi:i<L.length):(bif decide ((x:Int)=0+(i:Int))then v else A Int 0 L (x:Int))=A Int 0 (L.set i v) (x:Int):=by
 rw[O,O];simp only[aV,aA,bP];by_cases h:i=x
 ·subst h;rw[decide_eq_true (by omega)];simp[hi]
 rw[decide_eq_false (by omega),if_neg h];rfl
theorem ZpH {A:(α:Type)->α->List α->Int->α} (O:∀(α:Type) (d:α) (l:List α) (i:Int),A α d l i=l.getD i.toNat d) {L:List Int} {i k x:Nat} {p q:Int} (hi:i<L.length) (H:k<L.length) (I:p=i) (G:q=k):
  (bif decide ((x:Int)=0+q)then A Int 0 L (0+p)else bif decide ((x:Int)=0+p)then A Int 0 L (0+q)else A Int 0 L (x:Int))=A Int 0 ((L.set i (L.getD k 0)).set k (L.getD i 0)) (x:Int):=by
 subst I G;simp only[O,aV,iE];rw[Zcr hi H];by_cases h1:x=k
 ·rw[decide_eq_true (by omega),if_pos h1];rfl
 rw[decide_eq_false (by omega),if_neg h1];by_cases h2:x=i
 ·rw[decide_eq_true (by omega),if_pos h2];rfl
 rw[decide_eq_false (by omega),if_neg h2];rfl
theorem Zye (s:Int) (n:Nat) (hn:n<=1000):SC (fun _=>aB) 127 [.ptr 0 0,.int .i64 fun _=>(n:Int)] [XR s] fun v h=>∃(L:List Int) (U:Int),Zh9 n L/\v=lst 1 Q9 0 L/\h=[XR U]:=by
 obtain⟨I,O⟩:=Zo;obtain⟨Z,ae,ab⟩:∃Z:List Int,Z.length=n/\∀j:Nat,Z.getD j 0=0:=⟨List.replicate n 0,by simp,fun j=>by simp only[aA,List.getElem?_replicate];split<;>rfl⟩;refine SC.less (QN Tryz.func127 (body:=Zj Tryz.f127) rfl (by decide+kernel) ?_);refine vS ?_;simp only[show¬((n:Int)<0)from by omega,if_false];refine Chk.mk (ZE) ?_;refine ZJ false false [] [0,1,5,6] [] (fun(⟨i,L⟩:Nat×List Int)=>[(6,.int .i64 fun _=>i)]) (fun⟨i,L⟩=>[(1,.arr 1 (fun _=>(n:Int)) (fun e=>Q9 (I Int 0 L (e ()))))])
  (fun⟨i,L⟩=>i<=n/\L.length=n/\∀j,j<i->L.getD j 0=(j:Int)) (fun i=>n-i.1+0) (0,Z) ⟨aW _,ae,fun j A=>by omega⟩ ?_ ?_
 ·refine toR ?_;refine .arr rfl fun x S=>?_;show [AV.int .i64 fun _=>_]=[AV.int .i64 fun _=>_];refine congrArg (fun y:Int=>[AV.int .i64 fun _=>y]) ?_;rw[O];exact(ab _).symm
 rintro⟨i,L⟩ ⟨hi,J,A⟩;refine wS ?_;refine⟨fun G=>?_,fun G=>?_⟩
 ·simp only[decide_eq_true_eq]at G;have aa:i<L.length:=by omega
  refine wS ?_;refine⟨(i+1,L.set i (i:Int)),⟨by omega,by simpa using J,fun j ac=>?_⟩,by show n-(i+1)+0<n-i+0;omega,?_⟩
  ·simp only[aA,bP];by_cases h:i=j
   ·subst h;rw[if_pos rfl,if_pos (by omega)];rfl
   rw[if_neg h,<-aA];exact A j (by omega)
  refine toR ?_;refine .arr rfl fun x S=>?_;show [AV.int .i64 fun _=>_]=[AV.int .i64 fun _=>_];refine congrArg (fun y:Int=>[AV.int .i64 fun _=>y]) ?_;exact Zsi O aa
 simp only[decide_eq_false_iff_not]at G;have H:Zh9 n L:=⟨J,fun j ac=>by rw[A j (by omega)];omega,fun j k h1 h2 e=>by rw[A j (by omega),A k (by omega)]at e;omega⟩;refine wS ?_;clear A J;refine ZJ false false [] [0,5,7] [] (fun(⟨i,L,s⟩:Nat×List Int×Int)=>[(7,.int .i64 fun _=>(i:Int)-1)]) (fun⟨i,L,s⟩=>[(0,XR s),(1,.arr 1 (fun _=>(n:Int)) (fun e=>Q9 (I Int 0 L (e ()))))])
  (fun⟨i,L,s⟩=>i<=n/\Zh9 n L) (fun i=>i.1+0) (n,L,s) ⟨aJ _,H⟩ ?_ ?_
 ·exact ZF
 rintro⟨i,L,s⟩ ⟨hi,H⟩;have J:=H.len;refine wS ?_;refine⟨fun G=>?_,fun G=>?_⟩
 ·simp only[decide_eq_true_eq]at G;refine wS ?_;refine cL0 [0] (c17 s ((i:Int)-1) (by omega)) fun r ah hp=>?_;(try simp only[Ze,Zd,Za O]at hp);obtain⟨x,U,S,rfl,rfl⟩:=hp;refine wS ?_;obtain⟨k,rfl⟩:∃k:Nat,x=k:=⟨x.toNat,by omega⟩;obtain⟨j,rfl⟩:∃j,i=j+1:=⟨i-1,by omega⟩;refine⟨(j,(L.set j (L.getD k 0)).set k (L.getD j 0),U),⟨by omega,H.swap (by omega) (by omega)⟩,by show j+0<j+1+0;omega,?_⟩;have V:j<L.length:=by omega
  have Y:k<L.length:=by omega
  refine toR ?_;refine .arr rfl fun x S=>?_;show [AV.int .i64 fun _=>_]=[AV.int .i64 fun _=>_];refine congrArg (fun y:Int=>[AV.int .i64 fun _=>y]) ?_;exact ZpH O V Y (by omega) rfl
 refine wS ?_;refine⟨lst 1 Q9 0 L,[XR s],?_,L,s,H,rfl,rfl⟩;rw[Za O];refine toR ?_;refine .none (by omega) fun x S=>?_;show Q9 (I Int 0 L (0+(x:Int)))=Q9 (I Int 0 L (x:Int));rw[iE]
structure Zh4 (zones:Int) (stations:Nat) (number:Int) (t:Train):Prop where
 number:t.number=number
 days:1<=t.days/\t.days<=127
 len:2<=t.stops.length/\t.stops.length<=4/\t.stops.length<=stations
 stop:∀s∈t.stops,(0<=s.station/\s.station<stations)/\(0<=s.zone/\s.zone<zones)/\0<=s.arrive/\s.arrive<=s.depart/\s.depart<=4319
 nodup:t.stops.Pairwise fun a b=>a.station≠b.station
end Vm
namespace Vm
open Go Go.Proofs Sp
set_option maxRecDepth 100000
set_option maxHeartbeats 1600000
theorem Zh4.with {zones n m:Int} {t u:Train} (G:Zh4 zones 4 n t) (A:Zh4 zones 4 m u):Zh4 zones 4 n ⟨t.number,t.days,u.stops⟩:=⟨G.number,G.days,A.len,A.stop,A.nodup⟩
attribute [local irreducible] Dn
set_option maxHeartbeats 800000
theorem c39 (a b:List Int) (ha:a.length<=1000000000):SC (fun _=>aB) 47 [lst 1 Q9 0 a,lst 1 Q9 0 b] [] fun r h=>r= .bool (fun _=>decide (a=b))/\h=[]:=by
 obtain⟨J,O⟩:=Zo;rw[Za O,Za O];refine QN Tryz.func47 (body:=Zj Tryz.f47) rfl (by decide+kernel) ?_;refine wS ?_;refine⟨fun I=>?_,fun I=>?_⟩
 ·simp only[bne_iff_ne,ne_eq]at I;refine wS ?_;refine⟨?_,trivial⟩;rw[decide_eq_false (fun h=>I (by rw[h]))]
 simp only[bne_eq_false_iff_eq]at I;refine wS ?_;refine ZjQ [0,1,5] (fun i:Nat=>mkS 26 [(0,.isl 1 (fun _=>(a.length:Int)) (fun e=>Q9 (J Int 0 a (e ()))) .none),(1,.isl 1 (fun _=>(b.length:Int)) (fun e=>Q9 (J Int 0 b (e ()))) .none),(5,.int .i64 fun _=>(i:Int))]) (fun _=>[])
  (fun i=>i<=a.length/\(a=b↔a.drop i=b.drop i)) (fun i=>a.length-i+0) 0 0 (fun _=>rfl) ⟨aW _,by simp⟩ (To.of [] ?_) ?_
 ·cbv
  exact⟨⟨.refl _,.refl _,.int rfl,trivial⟩,trivial⟩
 rintro i ⟨Z,G⟩;refine wS ?_;refine⟨fun H=>?_,fun H=>?_⟩
 ·simp only[decide_eq_true_eq]at H;have V:=Qi (d:=(0:Int)) O (l:=a) (i:=i) (by omega);have S:=Qi (d:=(0:Int)) O (l:=b) (i:=i) (by omega);rw[V,S]at G;refine wS ?_;refine⟨fun A=>?_,fun A=>?_⟩
  ·simp only[bne_iff_ne,ne_eq]at A;refine wS ?_;exact⟨by rw[decide_eq_false (fun h=>A (List.cons.inj (G.1 h)).1)],trivial⟩
  simp only[bne_eq_false_iff_eq]at A;refine wS ?_;refine⟨i+1,⟨by omega,by rw[G,A];simp⟩,by show a.length-(i+1)+0<a.length-i+0;omega,To.of [] ?_⟩;cbv;exact⟨⟨.refl _,.refl _,.int rfl,trivial⟩,trivial⟩
 simp only[decide_eq_false_iff_not]at H;have Y:a.drop i=[]:=bB (by omega);have U:b.drop i=[]:=bB (by omega);rw[Y,U]at G;have G:a=b:=G.2 rfl;subst G;refine wS ?_;exact⟨by simp,trivial⟩
end Vm
namespace Vm
open Go Go.Proofs Sp
set_option maxRecDepth 100000
set_option maxHeartbeats 800000
theorem Zeb {z:Zone} (h:Zw z=0):(ZU z).length<=4/\∀p∈ZU z,0<=p.fr/\p.fr<=43200/\0<=p.bef/\p.bef<=1099511627776/\-1000000<=p.ahd/\p.ahd<=1000000:=by
 have Y:=ZaI h;have hl:=ZaP z.chs 0 z.base;have U:z.chs.length<=3:=by
  unfold Zw at h;split at h
  ·cases h
  split at h
  ·cases h
  omega
 have V:∀c∈z.chs,0<=c.at_/\c.at_<=43200:=by
  unfold Zw at h;split at h
  ·cases h
  split at h
  ·cases h
  have H:∀(l:List Chg) (p:Option Int),Jd p l=0->∀c∈l,0<=c.at_/\c.at_<=43200:=by
   intro l;induction l with
   |nil=>intro p _ c G;cases G
   |cons a l I=>
    intro p A c G;rw[YS]at A;split at A
    ·cases A
    rename_i U;split at A
    ·cases A
    split at A
    ·cases A
    rcases bG.1 G with rfl|G
    ·simp[YV]at U;omega
    exact I _ A c G
  exact H _ _ h
 refine⟨by unfold ZU;omega,?_⟩;have H:∀(l:List Chg) (fr a:Int),(∀c∈l,0<=c.at_/\c.at_<=43200)->0<=fr/\fr<=43200->∀p∈QS fr a l,0<=p.fr/\p.fr<=43200/\0<=p.bef/\p.bef<=1099511627776:=by
  intro l;induction l with
  |nil=>intro fr a _ Z p A;simp[QS,Xx]at A;subst A;simp;omega
  |cons c l I=>
   intro fr a G Z p A;have S:=G c (aU ..);simp only[QS]at A;split at A
   ·rcases bG.1 A with rfl|A
    ·simp;omega
    exact I _ _ (fun x J=>G x (aQ _ J)) S p A
   exact I _ _ (fun x J=>G x (aQ _ J)) S p A
 intro p A;have S:=H z.chs 0 z.base V (by omega) p A;have h2:=(JI Y).2.2 p A;omega
def sl (s:Nat) (A:List (List AV)):AV:=.isl s (fun _=>(A.length:Int)) (fun e=>A.getD (e ()).toNat (A.headD [])) .none
set_option maxHeartbeats 4000000
set_option maxHeartbeats 800000
open Sp
set_option maxHeartbeats 1600000
theorem nb5 {a b:Bool} (G:a=true) (A:b=true):(bif a then b else false)=true:=by rw[G,A];rfl
theorem nb6 {a b:Bool} (G:a=false) (A:b=false):(bif a then true else b)=false:=by rw[G,A];rfl
theorem c72 (n a b:Int):SC (fun _=>aB) 141 [.int .i64 fun _=>n,.int .i64 fun _=>a,.int .i64 fun _=>b] [] fun r h=>r= .bool (fun _=>YV n a b)/\h=[]:=by
 refine QN Tryz.func141 (body:=Zj Tryz.f141) rfl (by decide+kernel) ?_;cbv;try simp only[nc]at*
 refine⟨by simp[Xo,Xn,XA,Xm,Cn.p],?_,trivial⟩;congr 1;funext _;unfold YV;cases decide (a<=n)<;>rfl
theorem c70 (z:Zone) (ae:z.chs.length<=1000000):SC (fun _=>aB) 139 [Ze z] [] fun v h=>v= .int .i64 (fun _=>Zw z)/\h=[]:=by
 obtain⟨G,O⟩:=Zo;unfold Ze Zw;rw[Za O];refine QN Tryz.func139 (body:=Zj Tryz.f139) rfl (by decide+kernel) ?_;(cbv;(try simp only[nc]at*);(try refine Chk.mk (ZE) ?_));refine ZL (c72 z.base (-720) 720) (by first|rfl|(simp only[Ze,Za O];rfl)) fun r I A=>?_;(try simp only[Ze,Za O]at A);obtain⟨rfl,rfl⟩:=A;(cbv;(try simp only[nc]at*);(try refine Chk.mk (ZE) ?_));refine⟨fun h1=>?_,fun h1=>?_⟩
 ·rw[if_pos h1];(cbv;(try simp only[nc]at*);(try refine Chk.mk (ZE) ?_));(try first|exact⟨rfl,trivial⟩|exact⟨trivial,trivial⟩)
 rw[if_neg (by rw[h1];exact aS)];refine⟨fun V=>?_,fun V=>?_⟩
 ·simp only[decide_eq_true_eq]at V;rw[if_pos (by omega)];(cbv;(try simp only[nc]at*);(try refine Chk.mk (ZE) ?_));(try first|exact⟨rfl,trivial⟩|exact⟨trivial,trivial⟩)
 simp only[decide_eq_false_iff_not]at V;rw[if_neg (by omega)];generalize hC:Jd none z.chs=C at*;(cbv;(try simp only[nc]at*);(try refine Chk.mk (ZE) ?_));refine ZJ false false [] [1,3] [] (fun(i:Nat)=>[(3,.int .i64 fun _=>(i:Int))]) (fun _=>[]) (fun i=>i<=z.chs.length/\Jd (if i=0 then none else some (G Chg default z.chs ((i:Int)-1)).at_) (z.chs.drop i)=C) (fun i=>z.chs.length-i+0) 0 ⟨aW _,by simpa using hC⟩ ?_ ?_
 ·(refine To.of [] ?_;cbv;(try simp only[nc]);(repeat' (first|exact trivial|exact Zy.refl _|exact ZG.refl _|refine⟨?_,?_⟩|refine ZG.cells ?_|refine Zy.agg ?_|refine Zy.tup ?_));(all_goals (first|exact XQ|skip)))
 rintro i ⟨hi,A⟩;(cbv;(try simp only[nc]at*);(try refine Chk.mk (ZE) ?_));refine⟨fun Z=>?_,fun Z=>?_⟩
 ·simp only[decide_eq_true_eq]at Z;have aa:i<z.chs.length:=by omega
  rw[Qi (d:=default) O aa,YS]at A;have ac:(if i+1=0 then none else some (G Chg default z.chs (((i+1:Nat):Int)-1)).at_)=some (G Chg default z.chs (i:Int)).at_:=by
   rw[if_neg (by omega)];congr 3;omega
  generalize hc:G Chg default z.chs (i:Int)=c at*;have Y:(bif decide (0<(i:Int))then decide (c.at_<=(G Chg default z.chs ((i:Int)-1)).at_)else false)=leP (if i=0 then none else some (G Chg default z.chs ((i:Int)-1)).at_) c.at_:=by
   by_cases h0:i=0
   ·subst h0;rfl
   rw[if_neg h0,decide_eq_true (show 0<(i:Int) by omega)];rfl
  rw[<-Y]at A;have k1:=c72 c.at_ 0 43200;have k2:=c72 c.by_ (-180) 180;generalize YV c.at_ 0 43200=b1 at*;generalize YV c.by_ (-180) 180=S at*;(cbv;try simp only[nc]at*);simp only[hc];refine Chk.mk (ZE) ?_;refine ZL (k1) (by first|rfl|(simp only[Ze,Za O];rfl)) fun r I A=>?_;(try simp only[Ze,Za O]at A);obtain⟨rfl,rfl⟩:=A;(cbv;(try simp only[nc]at*);(try refine Chk.mk (ZE) ?_));refine⟨fun h3=>?_,fun h3=>?_⟩
  ·rw[if_pos h3]at A;rw[<-A];(cbv;(try simp only[nc]at*);(try refine Chk.mk (ZE) ?_));(try first|exact⟨rfl,trivial⟩|exact⟨trivial,trivial⟩)
  rw[if_neg (by rw[h3];exact aS)]at A;(cbv;(try simp only[nc]at*);(try refine Chk.mk (ZE) ?_));refine⟨fun U=>?_,fun U=>?_⟩
  ·rw[if_pos U]at A;rw[<-A];(cbv;(try simp only[nc]at*);(try refine Chk.mk (ZE) ?_));(try first|exact⟨rfl,trivial⟩|exact⟨trivial,trivial⟩)
  rw[if_neg (by rw[U];exact aS)]at A;(cbv;(try simp only[nc]at*);(try refine Chk.mk (ZE) ?_));refine ZL (k2) (by first|rfl|(simp only[Ze,Za O];rfl)) fun r I A=>?_;(try simp only[Ze,Za O]at A);obtain⟨rfl,rfl⟩:=A;(cbv;(try simp only[nc]at*);(try refine Chk.mk (ZE) ?_));refine⟨fun J=>?_,fun J=>?_⟩
  ·have H:(!S||decide (c.by_=0))=true:=by
    cases S
    ·rfl
    simpa using J
   rw[if_pos H]at A;rw[<-A];(cbv;(try simp only[nc]at*);(try refine Chk.mk (ZE) ?_));(try first|exact⟨rfl,trivial⟩|exact⟨trivial,trivial⟩)
  have H:¬(!S||decide (c.by_=0))=true:=by
   cases S
   ·simp at J
   simpa using J
  rw[if_neg H]at A;(cbv;(try simp only[nc]at*);(try refine Chk.mk (ZE) ?_));refine⟨i+1,⟨by omega,by rw[ac];exact A⟩,by show z.chs.length-(i+1)+0<z.chs.length-i+0;omega,?_⟩;(refine To.of [] ?_;cbv;(try simp only[nc]);(repeat' (first|exact trivial|exact Zy.refl _|exact ZG.refl _|refine⟨?_,?_⟩|refine ZG.cells ?_|refine Zy.agg ?_|refine Zy.tup ?_));(all_goals (first|exact XQ|skip)))
 have ab:z.chs.length<=i:=by simp only[decide_eq_false_iff_not]at Z;omega
 rw[bB ab,Zdd]at A;rw[<-A];(cbv;(try simp only[nc]at*);(try refine Chk.mk (ZE) ?_));(try first|exact⟨rfl,trivial⟩|exact⟨trivial,trivial⟩)
attribute [local irreducible] Dn
def ZjC:Int->List Chg->Int->Int
 |a,[],_=>a
 |a,c::r,k=>ZjC (if c.at_<=k then a+c.by_ else a) r k
theorem Zmt {k:Int}:∀ {l:List Chg} {a lo:Int},Asc lo l->k<lo->ZjC a l k=a
 |[],_,_,_,_=>rfl
 |c::r,a,lo,h,hk=>by
  unfold ZjC;rw[if_neg (by have:=h.1;omega)];exact Zmt h.2 (by have:=h.1;omega)
theorem Zmu {k:Int}:∀ {l:List Chg} {a lo:Int},Asc lo l->ZjC a l k=af a l k
 |[],_,_,_=>rfl
 |c::r,a,lo,h=>by
  unfold ZjC af;by_cases hc:c.at_<=k
  ·rw[if_pos hc,if_pos hc];exact Zmu h.2
  rw[if_neg hc,if_neg hc];exact Zmt h.2 (by omega)
theorem c97 (z:Zone) (t:Int) (Z:Zw z=0):SC (fun _=>aB) 198 [Ze z,.int .i64 fun _=>t] [] fun v h=>v= .int .i64 (fun _=>af z.base z.chs t)/\h=[]:=by
 obtain⟨I,O⟩:=Zo;obtain⟨ha,hb,hl,h1,h2⟩:=Zcn Z;rw[<-Zmu (a:=z.base) (k:=t) ha];generalize hR:ZjC z.base z.chs t=R at*;refine QN Tryz.func198 (body:=Zj Tryz.f198) rfl (by decide+kernel) ?_;unfold Ze;simp only[Za O];refine wS ?_;refine ZJ false false [] [1,2,5,6] [] (fun(⟨i,n⟩:Nat×Int)=>[(5,.int .i64 fun _=>n),(6,.int .i64 fun _=>(i:Int))]) (fun _=>[]) (fun⟨i,n⟩=>i<=z.chs.length/\(-720-180*(i:Int)<=n/\n<=720+180*(i:Int))/\ZjC n (z.chs.drop i) t=R) (fun i=>z.chs.length-i.1+0) (0,z.base) ⟨aW _,by simp;omega,by simpa using hR⟩ ?_ ?_
 ·exact ZF
 rintro⟨i,n⟩ ⟨U,S,A⟩;have U:i<=z.chs.length:=U;have S:-720-180*(i:Int)<=n/\n<=720+180*(i:Int):=S;refine wS ?_;refine⟨fun G=>?_,fun G=>?_⟩
 ·simp only[decide_eq_true_eq]at G;have H:i<z.chs.length:=by omega
  rw[Qi (d:=default) O H]at A;have hc:=hb _ (Qu (d:=default) O (l:=z.chs) (i:=i) H);have A:ZjC (if(I Chg default z.chs (i:Int)).at_<=t then n+(I Chg default z.chs (i:Int)).by_ else n) (z.chs.drop (i+1)) t=R:=A;generalize Y:I Chg default z.chs (i:Int)=c at*;refine vS ?_;simp only[Y];refine Chk.mk (ZE) ?_;refine⟨fun J=>?_,fun J=>?_⟩
  ·rw[if_pos (by simpa using J)]at A;refine vS ?_;simp only[Y];refine Chk.mk (ZE) ?_;refine⟨(i+1,n+c.by_),⟨by show i+1<=z.chs.length;omega,by dsimp only;omega,A⟩,by show z.chs.length-(i+1)+0<z.chs.length-i+0;omega,?_⟩;exact ZF
  rw[if_neg (by simpa using J)]at A;refine wS ?_;refine⟨(i+1,n),⟨by show i+1<=z.chs.length;omega,by dsimp only;omega,A⟩,by show z.chs.length-(i+1)+0<z.chs.length-i+0;omega,?_⟩;exact ZF
 have V:z.chs.length<=i:=by simp only[decide_eq_false_iff_not]at G;omega
 rw[bB V]at A;have A:n=R:=A;rw[<-A];(cbv;(try simp only[nc]at*);(try refine Chk.mk (ZE) ?_));(try first|exact⟨rfl,trivial⟩|exact⟨trivial,trivial⟩)
def cl (p:Pc):Pc:=if p.bef=Xx then⟨p.fr,-1,p.ahd⟩else p
def ZpI (z:Zone):List Pc:=(ZU z).map cl
def Yr (a:Int) (l:List Chg):Int:=l.foldl (fun a c=>a+c.by_) a
theorem Zq3:∀(G A:List Chg) (a k:Int),(∀c∈G,c.at_<=k)->af a (G++A) k=af (Yr a G) A k
 |[],_,_,_,_=>rfl
 |c::r,A,a,k,h=>by
  have e:af a (c::r++A) k=if c.at_<=k then af (a+c.by_) (r++A) k else a:=rfl
  rw[e,if_pos (h c (aU ..)),Zq3 r A _ _ (fun x H=>h x (aQ _ H))];rfl
theorem ZkW (a:Int) (l:List Chg) (c:Chg):Yr a (l++[c])=Yr a l+c.by_:=by unfold Yr;rw[List.foldl_append];rfl
structure Za4 (z:Zone) (i:Nat) (f:Int) (out:List Pc):Prop where
 le:i<=z.chs.length
 eq:ZpI z=out++(QS f (Yr z.base (z.chs.take i)) (z.chs.drop i)).map cl
 lo:∀c∈z.chs.take i,c.at_<=f
 fr:0<=f/\f<=43200
 asc:Asc (if i=0 then f else f+1) (z.chs.drop i)
 zero:i=0->f=0
 len:out.length<=i
theorem Zm1 {z:Zone} (h:Zw z=0):Za4 z 0 0 []:=by
 obtain⟨A,H,G,J,I⟩:=Zcn h;exact⟨aW _,rfl,by simp,by omega,by simpa using A,fun _=>rfl,by simp⟩
theorem Za4.ahd {z:Zone} {i:Nat} {f:Int} {out:List Pc} (h:Za4 z i f out) (A:∀c∈(z.chs.drop i).head?,f<c.at_):af z.base z.chs f=Yr z.base (z.chs.take i):=by
 have e:z.chs=z.chs.take i++z.chs.drop i:=(List.take_append_drop ..).symm;rw[e,Zq3 _ _ _ _ h.lo,<-e];cases hd:z.chs.drop i with
 |nil=>rfl
 |cons c r=>
  rw[hd]at A;have G:=A c rfl;unfold af;rw[if_neg (by omega)]
theorem Za4.step {z:Zone} {i:Nat} {f:Int} {out:List Pc} {c:Chg} (hz:Zw z=0) (h:Za4 z i f out) (hi:i<z.chs.length) (U:z.chs.drop i=c::z.chs.drop (i+1)) (ht:z.chs.take (i+1)=z.chs.take i++[c]):
  (c.at_=0->Za4 z (i+1) c.at_ out)/\(c.at_≠0->af z.base z.chs f=Yr z.base (z.chs.take i)/\Za4 z (i+1) c.at_ (out++[⟨f,c.at_,Yr z.base (z.chs.take i)⟩])):=by
 obtain⟨ha,hb,hl,h1,h2⟩:=Zcn hz;have aa:c∈z.chs:=List.mem_of_mem_drop (i:=i) (by rw[U];exact aU ..);have ae:=hb c aa;have I:=h.asc;rw[U]at I;obtain⟨Z,V⟩:=I;have ah:=h.fr;have ac:f<=c.at_:=by split at Z<;>omega
 have J:Yr z.base (z.chs.take (i+1))=Yr z.base (z.chs.take i)+c.by_:=by rw[ht,ZkW]
 have S:∀x∈z.chs.take (i+1),x.at_<=c.at_:=fun x A=>by
  rw[ht]at A;rcases cJ.1 A with A|A
  ·have:=h.lo x A;omega
  simp at A;rw[A];exact bT _
 have G:Asc (if i+1=0 then c.at_ else c.at_+1) (z.chs.drop (i+1)):=by rw[if_neg (by omega)];exact V
 have H:=h.eq;rw[U]at H;have ab:=h.len;refine⟨fun h0=>?_,fun h0=>?_⟩
 ·have ai:f=0:=by omega
  refine⟨hi,?_,S,by omega,G,fun h=>by omega,by omega⟩;rw[H,J];congr 1;have e:QS f (Yr z.base (z.chs.take i)) (c::z.chs.drop (i+1))=QS c.at_ (Yr z.base (z.chs.take i)+c.by_) (z.chs.drop (i+1)):=if_neg (by omega);rw[e]
 have Y:f<c.at_:=by
  by_cases hi0:i=0
  ·have:=h.zero hi0;omega
  rw[if_neg hi0]at Z;omega
 refine⟨h.ahd (by rw[U];intro x A;simp at A;rw[<-A];exact Y),hi,?_,S,by omega,G,fun h=>by omega,by simp;omega⟩;have e:QS f (Yr z.base (z.chs.take i)) (c::z.chs.drop (i+1))=⟨f,c.at_,Yr z.base (z.chs.take i)⟩::QS c.at_ (Yr z.base (z.chs.take i)+c.by_) (z.chs.drop (i+1)):=if_pos Y;have e2:cl ⟨f,c.at_,Yr z.base (z.chs.take i)⟩=⟨f,c.at_,Yr z.base (z.chs.take i)⟩:=if_neg (by unfold Xx;show¬c.at_=_;omega);rw[H,e,List.map_cons,e2,J,List.append_assoc];rfl
theorem Za4.last {z:Zone} {f:Int} {out:List Pc} (h:Za4 z z.chs.length f out):af z.base z.chs f=Yr z.base z.chs/\ZpI z=out++[⟨f,-1,Yr z.base z.chs⟩]:=by
 have G:=h.ahd (by rw[ij];intro c H;cases H);have A:=h.eq;rw[List.take_length]at G A;rw[ij]at A;exact⟨G,A⟩
theorem Zyf (z:Zone) (hz:Zw z=0):SC (fun _=>aB) 195 [Ze z] [] fun v h=>v=lst 3 Ze9 default (ZpI z)/\h=[]:=by
 obtain⟨nt,O⟩:=Zo;obtain⟨ha,hb,hl,h1,h2⟩:=Zcn hz;have H:=fun t=>c97 z t hz;have ac:=Zm1 hz;generalize hS:ZpI z=S at*;refine SC.less (QN Tryz.func195 (body:=Zj Tryz.f195) rfl (by decide+kernel) ?_);unfold Ze at*;simp only[Za O]at*;refine wS ?_;refine ZJ false false [] [1,3,4,5] [.tok 3 fun _=>0] (fun(⟨i,f,out⟩:Nat×Int×List Pc)=>[(3,.isl 3 (fun _=>(out.length:Int)) (fun e=>Ze9 (nt Pc default out (e ()))) (.own 1)),(4,.int .i64 fun _=>f),(5,.int .i64 fun _=>(i:Int))])
  (fun⟨i,f,out⟩=>[(1,.tok 3 fun _=>(out.length:Int))]) (fun⟨i,f,out⟩=>Za4 z i f out\/(i=z.chs.length+1/\out=S)) (fun i=>z.chs.length+1-i.1+0) (0,0,[]) (.inl ac) ?_ ?_
 ·(refine To.of [(3,false)] ?_;cbv;(try simp only[nc]);(repeat' (first|exact trivial|exact Zy.refl _|exact ZG.refl _|refine⟨?_,?_⟩|refine ZG.cells ?_|refine Zy.agg ?_|refine Zy.tup ?_));(all_goals (first|exact XQ|skip)))
 rintro⟨i,f,out⟩ G;have G:Za4 z i f out\/(i=z.chs.length+1/\out=S):=G;have ai:out.length<=100\/out=S:=by
  rcases G with h|⟨_,h⟩
  ·have:=h.len;have:=h.le;omega
  exact .inr h
 refine wS ?_;refine⟨fun Z=>?_,fun Z=>?_⟩
 ·simp only[decide_eq_true_eq]at Z;have hs:Za4 z i f out:=by
   rcases G with h|⟨h,_⟩
   ·exact h
   omega
  have ah:=hs.le;have ae:=hs.len;have H:=H f;refine wS ?_;refine⟨fun Y=>?_,fun Y=>?_⟩
  ·simp only[decide_eq_true_eq]at Y;have V:i<z.chs.length:=by omega
   have U:=hs.step hz V (Qi (d:=default) O V) (XW (d:=default) O V);generalize hc:nt Chg default z.chs (i:Int)=c at*;refine vS ?_;simp only[hc];refine Chk.mk (ZE) ?_;refine⟨fun J=>?_,fun J=>?_⟩
   ·have h0:c.at_≠0:=by simpa using J
    obtain⟨g1,I⟩:=U.2 h0;rw[g1]at H;generalize Yr z.base (z.chs.take i)=A at*;refine wS ?_;refine ZL (H) (by first|rfl|(simp only[Ze,Za O];rfl)) fun r ab G=>?_;(try simp only[Ze,Za O]at G);obtain⟨rfl,rfl⟩:=G;refine wS ?_;refine⟨(i+1,c.at_,out++[⟨f,c.at_,A⟩]),.inl I,by show z.chs.length+1-(i+1)+0<z.chs.length+1-i+0;omega,?_⟩;exact ZF
   have h0:c.at_=0:=by simpa using J
   have I:=U.1 h0;refine wS ?_;refine⟨(i+1,c.at_,out),.inl I,by show z.chs.length+1-(i+1)+0<z.chs.length+1-i+0;omega,?_⟩;exact ZF
  simp only[decide_eq_false_iff_not]at Y;have aa:i=z.chs.length:=by omega
  obtain⟨g1,I⟩:=(aa▸hs:Za4 z z.chs.length f out).last;rw[g1]at H;rw[hS]at I;generalize Yr z.base z.chs=A at*;refine wS ?_;refine Br.isT rfl ?_;refine wS ?_;refine ZL (H) (by first|rfl|(simp only[Ze,Za O];rfl)) fun r ab G=>?_;(try simp only[Ze,Za O]at G);obtain⟨rfl,rfl⟩:=G;refine wS ?_;refine⟨(i+1,-1,out++[⟨f,-1,A⟩]),.inr ⟨by rw[aa],I.symm⟩,by show z.chs.length+1-(i+1)+0<z.chs.length+1-i+0;omega,?_⟩;exact ZF
 simp only[decide_eq_false_iff_not]at Z;have ho:out=S:=by
  rcases G with h|⟨_,h⟩
  ·have:=h.le;omega
  exact h
 rw[<-ho];refine wS ?_;refine⟨_,[],?_,rfl,rfl⟩;exact ZF
theorem Zwx {A:(α:Type)->α->List α->Int->α} (O:∀(α:Type) (d:α) (l:List α) (i:Int),A α d l i=l.getD i.toNat d) {l:List Pc} {i:Nat} (hi:i<l.length):A Pc default (l.map cl) (i:Int)=cl (A Pc default l (i:Int)):=by
 rw[O,O];simp[aA,hi]
theorem Zwy (p:Pc):(cl p).fr=p.fr:=by unfold cl;split<;>rfl
theorem Zu4 (p:Pc):(cl p).ahd=p.ahd:=by unfold cl;split<;>rfl
theorem Zf8:∀(l:List Chg) (fr a:Int),(∀c∈l,c.at_<=43200)->∀i,i<(QS fr a l).length->(((QS fr a l).getD i default).bef=Xx↔i+1=(QS fr a l).length)
 |[],fr,a,_,i,hi=>by
  have e:QS fr a []=[⟨fr,Xx,a⟩]:=rfl;rw[e]at hi|-;have:i=0:=by simpa using hi
  subst this;simp
 |c::r,fr,a,h,i,hi=>by
  have I:=h c (aU ..);have A:=Zf8 r c.at_ (a+c.by_) (fun x G=>h x (aQ _ G));have H:=(ZaP r c.at_ (a+c.by_)).1;by_cases hlt:fr<c.at_
  ·have e:QS fr a (c::r)=⟨fr,c.at_,a⟩::QS c.at_ (a+c.by_) r:=if_pos hlt;rw[e]at hi|-;cases i with
   |zero=>
    simp only[List.getD_cons_zero,bF];unfold Xx;constructor<;>intro h<;>omega
   |succ i=>
    simp only[List.getD_cons_succ,bF];rw[A i (by simpa using hi)];omega
  have e:QS fr a (c::r)=QS c.at_ (a+c.by_) r:=if_neg hlt;rw[e]at hi|-;exact A i hi
theorem ZwS (z:Zone) (r a:Int) (Y:Zw z=0) (hr:-1000000<=r/\r<=1000000) (ha:0<=a/\a<Xx):SC (fun _=>aB) 190 [Ze z,.int .i64 fun _=>r,.int .i64 fun _=>a] [] fun v h=>v= .int .i64 (fun _=>Q7 (ZU z) r a)/\h=[]:=by
 obtain⟨Z,O⟩:=Zo;have k2:=Zyf z Y;obtain⟨k4,k5⟩:=Zeb Y;have V:=Zf8 z.chs 0 z.base (fun c S=>((Zcn Y).2.1 c S).2.1);have ai:=(ZaP z.chs 0 z.base).1;change∀i,i<(ZU z).length->(((ZU z).getD i default).bef=Xx↔i+1=(ZU z).length)at V;change 1<=(ZU z).length at ai;unfold Xx at*;refine QN Tryz.func190 (body:=Zj Tryz.f190) rfl (by decide+kernel) ?_;unfold Ze at*;simp only[Za O]at*;unfold ZpI at k2;generalize ZU z=L at*;have ak:(L.map cl).length=L.length:=bA ..;generalize hW:Q7 L r a=W at*;refine wS ?_;refine ZL (k2) (by first|rfl|(simp only[Ze,Za O];rfl)) fun r aj H=>?_;(try simp only[Ze,Za O]at H);obtain⟨rfl,rfl⟩:=H;refine wS ?_;refine ZJ false false [] [1,2,7,8] [] (fun(i:Nat)=>[(8,.int .i64 fun _=>(i:Int))]) (fun _=>[]) (fun i=>i<L.length/\Q7 (L.drop i) r a=W) (fun i=>L.length-i+0) 0 ⟨by omega,by simpa using hW⟩ ?_ ?_
 ·exact ZF
 intro i J;have U:i<L.length:=J.1;have H:Q7 (L.drop i) r a=W:=J.2;clear J;have hq:=k5 _ (Qu (d:=default) O (l:=L) (i:=i) U);have I:=V i U;have e1:L.getD i default=Z Pc default L (i:Int):=by rw[O];rfl
 rw[e1]at I;rw[Qi (d:=default) O U,Q7]at H;have ae:=Zwx O (l:=L) U;generalize Z Pc default L (i:Int)=p at*;have ab:=Zu4 p;have ac:=Zwy p;have G:(cl p).bef=if p.bef=1099511627776 then-1 else p.bef:=by
  unfold cl Xx;split<;>rfl
 generalize cl p=q at*;have aa:(if(if q.fr<a then a else q.fr)<r-q.ahd then r-q.ahd else(if q.fr<a then a else q.fr))=max p.fr (max a (r-p.ahd)):=by
  rw[ac,ab];split<;>split<;>omega
 have al:0<=max p.fr (max a (r-p.ahd))/\max p.fr (max a (r-p.ahd))<1099511627776:=by omega
 refine vS ?_;simp only[ae];refine Chk.mk (ZE) ?_;simp only[aa];generalize max p.fr (max a (r-p.ahd))=M at*;refine⟨fun A=>?_,fun A=>?_⟩
 ·have S:M<p.bef:=by
   by_cases h:p.bef=1099511627776
   ·omega
   rw[if_neg h]at G;rw[G,decide_eq_false (by omega)]at A;simpa using A
  rw[if_pos S]at H;rw[<-H];(cbv;(try simp only[nc]at*);(try refine Chk.mk (ZE) ?_));(try first|exact⟨rfl,trivial⟩|exact⟨trivial,trivial⟩)
 have S:¬M<p.bef:=by
  intro h';by_cases h:p.bef=1099511627776
  ·rw[if_pos h]at G;rw[G]at A;simp at A
  rw[if_neg h]at G;rw[G,decide_eq_false (by omega),decide_eq_true h']at A;cases A
 rw[if_neg S]at H;have ah:i+1<L.length:=by
  rcases Nat.lt_or_ge (i+1) L.length with h|h
  ·exact h
  have:=I.2 (by omega);omega
 refine wS ?_;refine⟨i+1,⟨ah,H⟩,by show L.length-(i+1)+0<L.length-i+0;omega,?_⟩;exact ZF
theorem c36 (z:Zone) (G:z.chs.length<=1000000):SC (fun _=>aB) 142 [Ze z,Ze z] [] fun v h=>v= .bool (fun _=>true)/\h=[]:=by
 obtain⟨H,O⟩:=Zo;refine QN Tryz.func142 (body:=Zj Tryz.f142) rfl (by decide+kernel) ?_;unfold Ze;simp only[Za O];refine wS ?_;refine Br.isF (by simp) ?_;refine wS ?_;refine ZJ false false [] [2,3,5] [] (fun(i:Nat)=>[(5,.int .i64 fun _=>(i:Int))]) (fun _=>[]) (fun i=>i<=z.chs.length) (fun i=>z.chs.length-i+0) 0 (aW _) ?_ ?_
 ·exact ZF
 intro i I;refine wS ?_;refine⟨fun A=>?_,fun A=>?_⟩
 ·simp only[decide_eq_true_eq]at A;refine wS ?_;refine Br.isF (by simp) ?_;refine wS ?_;refine⟨i+1,by omega,by omega,?_⟩;exact ZF
 (cbv;(try simp only[nc]at*);(try refine Chk.mk (ZE) ?_))
 (try first|exact⟨rfl,trivial⟩|exact⟨trivial,trivial⟩)
end Vm
namespace Vm
open Go Go.Proofs Sp
def XG (r r':List AV):Prop:=r'.length=r.length/\∀(j:Nat) (A:AV),r'[j]? =some A->∃c,r[j]? =some c/\∀w ok v,PR w ok c v->PR w ok A v
theorem XG.refl (r:List AV):XG r r:=⟨rfl,fun j c h=>⟨c,h,fun _ _ _ h=>h⟩⟩
theorem XG.two {a b G:AV} (h:∀w ok v,PR w ok b v->PR w ok G v):XG [a,b] [a,G]:=⟨rfl,fun j c A=>by
 match j with
 |0=>simp only[bJ,aC]at A;subst A;exact⟨_,rfl,fun _ _ _ h=>h⟩
 |1=>simp only[cN,bJ,aC]at A;subst A;exact⟨_,rfl,h⟩
 |j+2=>simp at A⟩
theorem PR.elems {w:World} {ok:Nat->Nat->Nat->Prop} {s:Nat} {m m':Unit->Int} {f S:(Unit->Int)->List AV} {v:Value} (hm:m ()=m' ()) (J:∀i:Nat,(i:Int)<m ()->XG (f fun _=>(i:Int)) (S fun _=>(i:Int))) (hv:PR w ok (.isl s m f .none) v):PR w ok (.isl s m' S .none) v:=by
 cases hv with
 |isl0 _ _ _ _ Z U=>exact .isl0 _ _ _ _ (by omega) rfl
 |islE _ _ _ _ a Z U=>exact .islE _ _ _ _ a (by omega) (.inl rfl)
 |isl _ _ _ _ b o len V us hn hc U he hl h2 h3 Y=>
  refine .isl _ _ _ _ b o len V us (by omega) hc (.inl rfl) (fun e=>by cases e) (fun i A=>?_) (fun i j c A I=>?_) (fun i j c A I=>?_) Y
  ·rw[(J i (by omega)).1];exact hl i A
  ·obtain⟨G,H,_⟩:=(J i (by omega)).2 j c I;exact h2 i j G A H
  obtain⟨G,H,g2⟩:=(J i (by omega)).2 j c I;exact g2 _ _ _ (h3 i j G A H)
theorem Zy.elemsO {n k s id:Nat} {m m':Unit->Int} {f G:(Unit->Int)->List AV} (hm:m ()=m' ()) (S:∀i:Nat,(i:Int)<m ()->XG (f fun _=>(i:Int)) (G fun _=>(i:Int))):Zy n k (.isl s m f (.own id)) (.isl s m' G (.own id)):=⟨fun R v _ hv=>by
 cases hv with
 |pure _ _ H=>
  cases H with
  |isl0 _ _ _ _ Y A=>cases A
  |islE _ _ _ _ _ _ A=>rcases A with h|h<;>cases h
  |isl _ _ _ _ b o len U us V Z A=>rcases A with h|h<;>cases h
 |own _ _ _ id _ A I h3 J=>exact .own _ _ _ id v A (I.elems hm S) (by omega) (fun e=>J (by omega))⟩
theorem XG.three {a b c c':AV} (h:∀w ok v,PR w ok c v->PR w ok c' v):XG [a,b,c] [a,b,c']:=⟨rfl,fun j d A=>by
 match j with
 |0=>simp only[bJ,aC]at A;subst A;exact⟨_,rfl,fun _ _ _ h=>h⟩
 |1=>simp only[cN,bJ,aC]at A;subst A;exact⟨_,rfl,fun _ _ _ h=>h⟩
 |2=>simp only[cN,bJ,aC]at A;subst A;exact⟨_,rfl,h⟩
 |j+3=>simp at A⟩
theorem Zy.snocO {A:(α:Type)->α->List α->Int->α} (O:∀(α:Type) (d:α) (l:List α) (i:Int),A α d l i=l.getD i.toNat d) {α:Type} {n k s id:Nat} {enc:α->List AV} {d x:α} {l:List α} {n0 m m':Unit->Int} {g:(Unit->Int)->List AV} (G:n0 ()=(l.length:Int)) (hm:m ()=(l.length:Int)+1) (J:m' ()=(l.length:Int)+1) (I:XG (g (fun _=>0)) (enc x)):
  Zy n k (.isl s m (ZV n0 (fun e=>enc (A α d l (e ()))) g) (.own id)) (.isl s m' (fun e=>enc (A α d (l++[x]) (e ()))) (.own id)):=.elemsO (by omega) fun i H=>by
 have H:i<l.length+1:=by omega
 by_cases h:i<l.length
 ·rw[QF G h];simp only[O,aV,aA,bO h];exact .refl _
 obtain rfl:i=l.length:=by omega
 rw[Qz G (aJ _)];simpa [O]using I
theorem Zsx {w:World} {ok:Nat->Nat->Nat->Prop} {s:Nat} {m m' n0:Unit->Int} {J f A:(Unit->Int)->List AV} {v:Value} (G:n0 ()=0) (hm:m ()=m' ()) (I:∀i:Nat,(i:Int)<m ()->f (fun _=>(i:Int))=A (fun _=>(i:Int))) (h:PR w ok (.isl s m (ZV n0 J f) .none) v):PR w ok (.isl s m' A .none) v:=
 h.elems hm fun i H=>by
  rw[Qz (len:=0) G (aW _),Nat.sub_zero,<-I i H];exact .refl _
theorem Zy.elems {n k s:Nat} {m m':Unit->Int} {f A:(Unit->Int)->List AV} {tk:Tk} (hm:m ()=m' ()) (G:∀i:Nat,(i:Int)<m ()->XG (f fun _=>(i:Int)) (A fun _=>(i:Int))):Zy n k (.isl s m f tk) (.isl s m' A .none):=⟨fun R v _ hv=>.pure _ _ (hv.isl_inv.elems hm G)⟩
theorem ZiM {H:(α:Type)->α->List α->Int->α} (O:∀(α:Type) (d:α) (l:List α) (i:Int),H α d l i=l.getD i.toNat d) {α:Type} {n k sz:Nat} (enc:α->List AV) (d:α) (l:List α) (A:List (List AV)) (I:A.length=l.length) (hr:∀i,i<l.length->XG (A.getD i (A.headD [])) (enc (l.getD i d))):
  Zy n k (.isl sz (fun _=>(A.length:Int)) (fun e=>A.getD (e ()).toNat (A.headD [])) .exact) (.isl sz (fun _=>(l.length:Int)) (fun e=>enc (H α d l (e ()))) .none):=
 .elems (by simp[I]) fun i G=>by
  have G:i<l.length:=by have:(i:Int)<(A.length:Int):=G;omega
  simp only[O,aV];exact hr i G
theorem Zmi {A:(α:Type)->α->List α->Int->α} (O:∀(α:Type) (d:α) (l:List α) (i:Int),A α d l i=l.getD i.toNat d) {α:Type} {s:Nat} {enc:α->List AV} {d x:α} {l:List α} {n0 m':Unit->Int} {g:(Unit->Int)->List AV} {tk:Tk} (G:n0 ()=(l.length:Int)) (hm:m' ()=(l.length:Int)+1) (I:g (fun _=>0)=enc x) (w:World) (ok:Nat->Nat->Nat->Prop) (v:Value) (h:PR w ok (.isl s m' (ZV n0 (fun e=>enc (A α d l (e ()))) g) tk) v):
  PR w ok (.isl s (fun _=>((l++[x]).length:Int)) (fun e=>enc (A α d (l++[x]) (e ()))) .none) v:=by
 rw[<-Za O];refine h.wk (by simp[hm]) (fun i H=>?_) (.inl rfl);have H:i<l.length+1:=by omega
 unfold Zb9;simp only[aV];by_cases h:i<l.length
 ·rw[QF G h];simp only[O,aV,aA,bO h]
 obtain rfl:i=l.length:=by omega
 rw[Qz G (aJ _)];simp[I]
set_option maxRecDepth 100000
set_option maxHeartbeats 1600000
open Sp
open Go Go.Proofs
theorem To.freeze {s:List AV} {h:List Zh} {id sz:Nat} {n:Unit->Int} {f:(Unit->Int)->List AV} (Y:h[id]? =some (.gar sz n f)):To s h s (h.set id (.fro sz n f)):=fun G R t H hs=>by
 have al:=(aE.1 Y).1;let U:RC:={R with ok:=fun b o k=>b<R.w.heap.size/\G b o k/\Zc2 R (h.set id (.fro sz n f)) b o k};have J:∀ {j x},(h.set id (.fro sz n f))[j]? =some x->(j=id/\x= .fro sz n f)\/(j≠id/\h[j]? =some x):=fun {j x} A=>by
  rw[bP]at A;split at A
  ·rename_i e;simp only[aC]at A;exact .inl ⟨e.symm,A.symm⟩
  rename_i e;exact .inr ⟨fun e'=>e e'.symm,A⟩
 have ae:∀b o k,R.ok b o k->U.ok b o k:=fun b o k hk=>by
  obtain⟨h1,h2,h3⟩:=(H.okd _ _ _).1 hk;refine⟨h1,h2,fun j x A=>?_⟩;rcases J A with⟨rfl,rfl⟩|⟨S,A⟩
  ·exact fun h=>h
  exact h3 j x A
 have aa:R.le U:=⟨aJ _,fun _ _=>rfl,fun _ _=>⟨bT _,fun _=>rfl⟩,fun _ _=>.refl _,ae,fun _ _ _ _ _ _=>rfl,fun _ _ _ _ h=>h,rfl⟩;have Z:∀ {j x b},(h.set id (.fro sz n f))[j]? =some x->Zz U j x b->j≠id/\h[j]? =some x/\Zz R j x b:=fun {j x b} A I=>by
  rcases J A with⟨rfl,rfl⟩|⟨S,A⟩
  ·exact I.elim
  exact⟨S,A,(Zz.congr (R:=R) rfl rfl).1 I⟩
 refine⟨U,rfl,⟨?_,fun _ _ _=>Iff.rfl,fun j x A=>?_,fun i j bi bj b ai V hj I ab=>?_,H.cl,H.fresh,fun j x b A hk I o k=>?_,H.n0m⟩,⟨rfl,rfl,rfl,rfl,aJ _,aJ _,fun _ _=>rfl,ae,fun _ _ _ _ _ _=>rfl,fun _ _ _=>rfl,fun j x b A I=>?_⟩,aa,hs.mono aa⟩
 ·rw[cA];exact H.len
 ·rcases J A with⟨rfl,rfl⟩|⟨S,A⟩
  ·obtain⟨e1,e2⟩:=H.blk _ _ Y;refine⟨e1,?_⟩;rcases e2 with⟨h0,a0,h1⟩|⟨b,o,len,ah,arr,ty,a1,a2,a3,a4,a5,a6⟩
   ·show PR U.w U.ok _ (R.hv _);rw[h1];cases a0 with
    |none=>exact .isl0 _ _ _ _ h0 rfl
    |some a0=>exact .islE _ _ _ _ a0 h0 (.inl rfl)
   show PR U.w U.ok _ (R.hv _);rw[a3];rcases Nat.eq_zero_or_pos ah with ac|ac
   ·rw[ac,show len=0 by omega];exact .islE _ _ _ _ ⟨b,o,none⟩ (by omega) (.inl rfl)
   have ak:len*sz<=ah*sz:=aL _ a2;have hb:Zz R j (.gar sz n f) b:=⟨_,_,_,a3,ac,rfl⟩;refine .isl _ _ _ _ b o len ah (fun i j=>arr.getD (o+i*sz+j) undef) a1 a2 (.inl rfl) (fun h=>by cases h) (fun i V=>(a6 i V).1) (fun i j c V hj=>?_) (fun i j c V hj=>?_) ?_
   ·have am:j<sz:=by rw[<-(a6 i V).1];exact(aE.1 hj).1
    have:(i+1)*sz<=len*sz:=aL _ V;rw[Nat.succ_mul]at this;exact ZY (w:=R.w) a4 (by omega)
   ·exact((a6 i V).2 j c hj).mono ae (fun _ _ _ _ _ _=>rfl) fun _ _ _ _ h=>h
   refine⟨H.phys_lt Y hb,H.tokG _ _ _ Y rfl hb _ _,fun i x A=>?_⟩;rcases J A with⟨rfl,rfl⟩|⟨S,A⟩
   ·exact fun h=>h
   exact JO fun I=>H.dis _ _ _ _ b (fun e=>S e.symm) Y A hb I
  exact(H.blk j x A).mono aa rfl rfl rfl rfl (fun _ _=>rfl)
 ·obtain⟨_,A,I⟩:=Z V I;obtain⟨_,aj,ab⟩:=Z hj ab;exact H.dis i j bi bj b ai A aj I ab
 ·obtain⟨_,A,I⟩:=Z A I;exact H.tokG j x b A hk I o k
 obtain⟨_,A,I⟩:=Z A I;exact .inr ⟨j,x,A,I,.inl rfl⟩
theorem To.froze {s:List AV} {h:List Zh} {id sz:Nat} {n:Unit->Int} {f:(Unit->Int)->List AV} (I:h[id]? =some (.gar sz n f)):To s h (s.map (rsv (h.set id (.fro sz n f)))) (h.set id (.fro sz n f)):=fun G R t H J=>by
 obtain⟨S,V,A,Y,U,Z⟩:=To.freeze (s:=s) I G R t H J;have:=SL.rsv A Z {tb with rs:=true};exact⟨S,V,A,Y,U,this⟩
theorem Zvq {A:(α:Type)->α->List α->Int->α} (O:∀(α:Type) (d:α) (l:List α) (i:Int),A α d l i=l.getD i.toNat d) {α:Type} {n k sz:Nat} {enc:α->List AV} {d:α} {l m:List α} {n0 G m':Unit->Int} {H:(Unit->Int)->List AV} {tk:Tk} (I:n0 ()=0) (J:G ()=(l.length:Int)) (hm:m' ()=((l++m).length:Int)):
  Zy n k (.isl sz m' (ZV G (ZV n0 H fun e=>enc (A α d l (e ()))) fun e=>enc (A α d m (e ()))) tk) (.isl sz (fun _=>((l++m).length:Int)) (fun e=>enc (A α d (l++m) (e ()))) .none):=
 .none hm fun i S=>by
  show(if(i:Int)<G ()then(if(i:Int)<n0 ()then H (fun _=>(i:Int))else enc (A α d l ((i:Int)-n0 ())))else enc (A α d m ((i:Int)-G ())))=enc (A α d (l++m) (i:Int));simp only[O,aA,aV];by_cases h:i<l.length
  ·rw[if_pos (by omega),if_neg (by omega),I,Int.sub_zero,aV,bO h]
  rw[if_neg (by omega),J,List.getElem?_append_right (by omega)];congr 3;omega
theorem Zkh {A:(α:Type)->α->List α->Int->α} (O:∀(α:Type) (d:α) (l:List α) (i:Int),A α d l i=l.getD i.toNat d) (t:Train):encTrain t=[.int .i64 fun _=>t.number,.int .i64 fun _=>t.days,.isl 4 (fun _=>(t.stops.length:Int)) (fun e=>QM (A Stop default t.stops (e ()))) .none]:=by
 unfold encTrain;rw[Za O]
attribute [local irreducible] Dn
theorem ZwQ (l:List Train) (V:l.length<=1000000) (H:∀t∈l,t.stops.length<=1000000):SC (fun _=>aB) 143 [lst 3 encTrain default l,lst 3 encTrain default l] [] fun v h=>v= .bool (fun _=>true)/\h=[]:=by
 obtain⟨G,O⟩:=Zo;refine QN Tryz.func143 (body:=Zj Tryz.f143) rfl (by decide+kernel) ?_;simp only[Za O,Zkh O];refine wS ?_;refine Br.isF (by simp) ?_;refine wS ?_;refine ZJ false false [] [0,1,5] [] (fun(i:Nat)=>[(5,.int .i64 fun _=>(i:Int))]) (fun _=>[]) (fun i=>i<=l.length) (fun i=>l.length-i+0) 0 (aW _) ?_ ?_
 ·exact ZF
 intro i Z;refine wS ?_;refine⟨fun A=>?_,fun A=>?_⟩
 ·simp only[decide_eq_true_eq]at A;have J:=H _ (Qu (d:=default) O (l:=l) (i:=i) (by omega));have U:((G Train default l (i:Int)).stops.length:Int)<=1000000:=by omega
  refine wS ?_;refine Br.isF (by simp) ?_;refine wS ?_;refine XX fun Q I=>?_;refine ZJ false false [] [0,1,5,6] [] (fun(k:Nat)=>[(6,.int .i64 fun _=>(k:Int))]) (fun _=>[]) (fun k=>k<=(G Train default l (i:Int)).stops.length) (fun k=>(G Train default l (i:Int)).stops.length-k+0) 0 (aW _) ?_ ?_
  ·exact ZF
  intro k Y;refine wS ?_;refine⟨fun A=>?_,fun A=>?_⟩
  ·simp only[decide_eq_true_eq]at A;have S:(k:Int)<((G Train default l (i:Int)).stops.length:Int):=A;refine wS ?_;refine Br.isF (by simp) ?_;refine wS ?_;refine⟨k+1,by omega,by omega,?_⟩;exact ZF
  refine wS ?_;refine I _ _ _ ?_;refine wS ?_;refine⟨i+1,by omega,by omega,?_⟩;exact ZF
 (cbv;(try simp only[nc]at*);(try refine Chk.mk (ZE) ?_))
 (try first|exact⟨rfl,trivial⟩|exact⟨trivial,trivial⟩)
theorem Zx7 (b:Xs) (A:Xe b):SC (fun _=>aB) 92 [Zd b,Zd b] [] fun v h=>v= .bool (fun _=>true)/\h=[]:=by
 obtain⟨S,O⟩:=Zo;have I:=ZwQ b.old A.old A.stops.1;have U:=ZwQ b.new A.new A.stops.2;have V:=A.zones;have J:=A.chs;refine QN Tryz.func92 (body:=Zj Tryz.f92) rfl (by decide+kernel) ?_;unfold Zd at*;simp only[Za O]at*;refine wS ?_;refine Br.isF (by simp) ?_;refine wS ?_;refine ZJ false false [] [2,3,5] [] (fun(i:Nat)=>[(5,.int .i64 fun _=>(i:Int))]) (fun _=>[]) (fun i=>i<=b.zones.length) (fun i=>b.zones.length-i+0) 0 (aW _) ?_ ?_
 ·exact ZF
 intro i Y;refine wS ?_;refine⟨fun G=>?_,fun G=>?_⟩
 ·simp only[decide_eq_true_eq]at G;have H:=J _ (Qu (d:=default) O (l:=b.zones) (i:=i) (by omega));refine vS ?_;generalize S Zone default b.zones (i:Int)=z at*;refine Chk.mk (ZE) ?_;refine ZcQ (c36 z H) ?_;refine wS ?_;refine Br.isF (by simp) ?_;refine wS ?_;refine⟨i+1,by omega,by omega,?_⟩;exact ZF
 refine wS ?_;refine ZcQ (I) ?_;refine wS ?_;refine Br.isT rfl ?_;refine wS ?_;refine ZcQ (U) ?_;(cbv;(try simp only[nc]at*);(try refine Chk.mk (ZE) ?_));(try first|exact⟨rfl,trivial⟩|exact⟨trivial,trivial⟩)
structure Zrl (b:Xs):Prop where
 zones:(b.zones.length:Int)<=9223372036854775807
 old:(b.old.length:Int)<=9223372036854775807
 new:(b.new.length:Int)<=9223372036854775807
 chs:∀z∈b.zones,(z.chs.length:Int)<=9223372036854775807
 stops:∀t∈b.old++b.new,(t.stops.length:Int)<=9223372036854775807
def Zgx (b:Xs):Bool:=decide (20<b.zones.length)||decide (20<b.old.length)||decide (20<b.new.length)||b.zones.any (fun z=>decide (20<z.chs.length))||(b.old++b.new).any (fun t=>decide (20<t.stops.length))
theorem ZnA {b:Xs} (h:Zgx b=false):Xe b/\(b.zones.length<=20/\b.old.length<=20/\b.new.length<=20)/\(∀z∈b.zones,z.chs.length<=20)/\∀t∈b.old++b.new,t.stops.length<=20:=by
 unfold Zgx at h;simp only[Bool.or_eq_false_iff,decide_eq_false_iff_not,List.any_eq_false,decide_eq_true_eq]at h;obtain⟨⟨⟨⟨U,S⟩,J⟩,H⟩,G⟩:=h;have H:∀z∈b.zones,z.chs.length<=20:=fun z I=>by have:=H z I;omega
 have G:∀t∈b.old++b.new,t.stops.length<=20:=fun t A=>by have:=G t A;omega
 refine⟨⟨by omega,by omega,by omega,fun z I=>by have:=H z I;omega,fun t A=>?_,fun t A=>?_⟩,⟨by omega,by omega,by omega⟩,H,G⟩
 ·have:=G t (List.mem_append_left _ A);omega
 have:=G t (List.mem_append_right _ A);omega
theorem ZkB {α:Type} {d:α} {A:(α:Type)->α->List α->Int->α} (O:∀(α:Type) (d:α) (l:List α) (i:Int),A α d l i=l.getD i.toNat d) {q:α->Bool} {l:List α} {i:Nat} (hi:i<l.length):(l.drop i).any q=(q (A α d l (i:Int))||(l.drop (i+1)).any q):=by
 rw[Qi (d:=d) O hi,eL]
end Vm
namespace Vm
open Go Go.Proofs Sp
open Go.ChangeShapes Go.WideShapes Go.ChangeAt Go.RowKit
theorem ZkJ {w:World} {t:Nat->Question->Nat} {d:Nat} {a:AV} {v:Value} (h:VR (R0 w) a v):VR (R1 (Conc1.re w t d)) a v:=h.mono ⟨aW 1,fun id A=>absurd A (fe _),fun id A=>absurd A (fe _),fun id A=>absurd A (fe _),fun _ _ _ h=>h,fun _ _ _ _ _ _=>rfl,fun _ _ _ _ h=>h,rfl⟩
section
variable {H:Type} {he:TypeId×Value->H} {w:World}
theorem Zuf {P:Program} {t:TypeId} {f0 f1 f2:Field} {α S H:Type} {Z:α->AV} {Y:S->AV} {U:H->AV} {Q0:α->Prop} {Q1:S->Prop} {V:H->Prop} {δ:Type} {enc:δ->List AV} (mk:α->S->H->δ) (ht:P.underlying t=some (.struct #[f0,f1,f2])) (hc:P.cellsOf t=3)
  (h0:Zdk he P w f0 0 Z Q0) (h1:Zdk he P w f1 1 Y Q1) (h2:Zdk he P w f2 2 U V) (G:∀a b c,enc (mk a b c)=[Z a,Y b,U c]):Opn he P w t 3 enc (fun z=>∃a b c,z=mk a b c/\Q0 a/\Q1 b/\V c):=fun aa cs x h=>by
 obtain⟨xs,m,_,_,I,A,J⟩:=DataW.trod_struct ht h;obtain⟨a,qa,pa⟩:=Qw (i:=0) rfl h0 J A;obtain⟨b,qb,pb⟩:=Qw (i:=1) rfl h1 J A;obtain⟨c,qc,pc⟩:=Qw (i:=2) rfl h2 J A;refine⟨I.trans hc,mk a b c,⟨a,b,c,rfl,qa,qb,qc⟩,by rw[G];rfl,?_⟩;rw[G];have:=QB (k:=0) pa (QB (k:=1) pb (QB (k:=2) pc ZcG));simpa using this
theorem Zue {P:Program} {t:TypeId} {f0 f1 f2 f3:Field} {α U J I:Type} {v0:α->AV} {Z:U->AV} {V:J->AV} {v3:I->AV} {Q0:α->Prop} {Q1:U->Prop} {Y:J->Prop} {Q3:I->Prop} {δ:Type} {enc:δ->List AV} (mk:α->U->J->I->δ) (ht:P.underlying t=some (.struct #[f0,f1,f2,f3])) (hc:P.cellsOf t=4)
  (h0:Zdk he P w f0 0 v0 Q0) (h1:Zdk he P w f1 1 Z Q1) (h2:Zdk he P w f2 2 V Y) (h3:Zdk he P w f3 3 v3 Q3) (H:∀a b c d,enc (mk a b c d)=[v0 a,Z b,V c,v3 d]):Opn he P w t 4 enc (fun z=>∃a b c d,z=mk a b c d/\Q0 a/\Q1 b/\Y c/\Q3 d):=fun aa cs x h=>by
 obtain⟨xs,m,_,_,S,A,G⟩:=DataW.trod_struct ht h;obtain⟨a,qa,pa⟩:=Qw (i:=0) rfl h0 G A;obtain⟨b,qb,pb⟩:=Qw (i:=1) rfl h1 G A;obtain⟨c,qc,pc⟩:=Qw (i:=2) rfl h2 G A;obtain⟨d,qd,pd⟩:=Qw (i:=3) rfl h3 G A;refine⟨S.trans hc,mk a b c d,⟨a,b,c,d,rfl,qa,qb,qc,qd⟩,by rw[H];rfl,?_⟩;rw[H];have:=QB (k:=0) pa (QB (k:=1) pb (QB (k:=2) pc (QB (k:=3) pd ZcG)));simpa using this
theorem Zwe {P:Program} {t:TypeId} {f0 f1 f2 f3 f4:Field} {α V S I J:Type} {v0:α->AV} {v1:V->AV} {Y:S->AV} {v3:I->AV} {v4:J->AV} {Q0:α->Prop} {Q1:V->Prop} {Z:S->Prop} {Q3:I->Prop} {Q4:J->Prop} {δ:Type} {enc:δ->List AV} (mk:α->V->S->I->J->δ) (ht:P.underlying t=some (.struct #[f0,f1,f2,f3,f4])) (hc:P.cellsOf t=5)
  (h0:Zdk he P w f0 0 v0 Q0) (h1:Zdk he P w f1 1 v1 Q1) (h2:Zdk he P w f2 2 Y Z) (h3:Zdk he P w f3 3 v3 Q3) (h4:Zdk he P w f4 4 v4 Q4) (H:∀a b c d e,enc (mk a b c d e)=[v0 a,v1 b,Y c,v3 d,v4 e]):Opn he P w t 5 enc (fun z=>∃a b c d e,z=mk a b c d e/\Q0 a/\Q1 b/\Z c/\Q3 d/\Q4 e):=fun aa cs x h=>by
 obtain⟨xs,m,_,_,U,A,G⟩:=DataW.trod_struct ht h;obtain⟨a,qa,pa⟩:=Qw (i:=0) rfl h0 G A;obtain⟨b,qb,pb⟩:=Qw (i:=1) rfl h1 G A;obtain⟨c,qc,pc⟩:=Qw (i:=2) rfl h2 G A;obtain⟨d,qd,pd⟩:=Qw (i:=3) rfl h3 G A;obtain⟨e,qe,pe⟩:=Qw (i:=4) rfl h4 G A;refine⟨U.trans hc,mk a b c d e,⟨a,b,c,d,e,rfl,qa,qb,qc,qd,qe⟩,by rw[H];rfl,?_⟩;rw[H];have:=QB (k:=0) pa (QB (k:=1) pb (QB (k:=2) pc (QB (k:=3) pd (QB (k:=4) pe ZcG))));simpa using this
def Zvr (t:Train):Prop:=(t.stops.length:Int)<=9223372036854775807
def ZdN (b:Xs):List AV:=[lst 2 encZone default b.zones,lst 3 encTrain default b.old,lst 3 encTrain default b.new,.int .i64 fun _=>b.night,.int .i64 fun _=>b.last]
def ZqD (t:Zb):List AV:=ZdN t.book++[lst 2 Zi default t.runs,lst 4 Qk default t.waits,lst 3 Zq default t.delays]
structure Zq8 (t:Zb):Prop where
 book:Zrl t.book
 runs:(t.runs.length:Int)<=9223372036854775807
 waits:(t.waits.length:Int)<=9223372036854775807
 delays:(t.delays.length:Int)<=9223372036854775807
 bys:∀d∈t.delays,(d.by_.length:Int)<=9223372036854775807
theorem ost:Opn he aB w 196 4 QM fun _=>True:=(Zue (enc:=QM) Stop.mk Tryz.underlying196 (by decide+kernel) ⟨rfl,by decide+kernel,on⟩ ⟨rfl,by decide+kernel,on⟩ ⟨rfl,by decide+kernel,on⟩ ⟨rfl,by decide+kernel,on⟩ fun _ _ _ _=>rfl).mono fun _ _=>trivial
theorem otr:Opn he aB w 118 3 encTrain Zvr:=(Zuf (enc:=encTrain) Train.mk Tryz.underlying118 (by decide+kernel) ⟨rfl,by decide+kernel,on⟩ ⟨rfl,by decide+kernel,on⟩ ⟨rfl,by decide+kernel,Ye (d:=default) Tryz.underlying116 (by decide+kernel) (by decide) ost⟩ fun _ _ _=>rfl).mono fun _ ⟨_,_,_,e,H,G,A⟩=>by subst e;exact A.2
theorem Zwf:Opn he aB w 25 5 ZdN Zrl:=(Zwe (enc:=ZdN) Xs.mk Tryz.underlying25 (by decide+kernel) ⟨rfl,by decide+kernel,Ye (d:=default) Tryz.underlying22 (by decide+kernel) (by decide) oz⟩ ⟨rfl,by decide+kernel,Ye (d:=default) Tryz.underlying23 (by decide+kernel) (by decide) otr⟩ ⟨rfl,by decide+kernel,Ye (d:=default) Tryz.underlying23 (by decide+kernel) (by decide) otr⟩ ⟨rfl,by decide+kernel,on⟩ ⟨rfl,by decide+kernel,on⟩ fun _ _ _ _ _=>rfl).mono fun _ ⟨_,_,_,_,_,e,H,G,A,S,U⟩=>by
 subst e;exact⟨H.2,G.2,A.2,fun z I=>(H.1 z I).2.2,fun t J=>(cJ.1 J).elim (G.1 t) (A.1 t)⟩
theorem ZuT:Opn he aB w 121 2 Zi fun _=>True:=(Zp8 (enc:=Zi) Sp.Z4.mk Tryz.underlying121 (by decide+kernel) ⟨rfl,by decide+kernel,on⟩ ⟨rfl,by decide+kernel,on⟩ fun _ _=>rfl).mono fun _ _=>trivial
theorem Zud:Opn he aB w 32 4 Qk fun _=>True:=(Zue (enc:=Qk) Sp.QV.mk Tryz.underlying32 (by decide+kernel) ⟨rfl,by decide+kernel,on⟩ ⟨rfl,by decide+kernel,on⟩ ⟨rfl,by decide+kernel,on⟩ ⟨rfl,by decide+kernel,on⟩ fun _ _ _ _=>rfl).mono fun _ _=>trivial
theorem Zp9:Opn he aB w 35 3 Zq fun d=>(d.by_.length:Int)<=9223372036854775807:=(Zuf (enc:=Zq) Sp.ZP.mk Tryz.underlying35 (by decide+kernel) ⟨rfl,by decide+kernel,on⟩ ⟨rfl,by decide+kernel,on⟩ ⟨rfl,by decide+kernel,ol⟩ fun _ _ _=>rfl).mono fun _ ⟨_,_,_,e,H,G,A⟩=>by subst e;exact A
theorem ZuS:Opn he aB w 26 1 (fun l:List Sp.Z4=>[lst 2 Zi default l]) fun l=>(l.length:Int)<=9223372036854775807:=(Ye (d:=default) Tryz.underlying26 (by decide+kernel) (by decide) ZuT).mono fun _ h=>h.2
theorem ZuQ:Opn he aB w 27 1 (fun l:List Sp.QV=>[lst 4 Qk default l]) fun l=>(l.length:Int)<=9223372036854775807:=(Ye (d:=default) Tryz.underlying27 (by decide+kernel) (by decide) Zud).mono fun _ h=>h.2
theorem Zsw:Opn he aB w 28 1 (fun l:List Sp.ZP=>[lst 3 Zq default l]) fun l=>(∀d∈l,(d.by_.length:Int)<=9223372036854775807)/\(l.length:Int)<=9223372036854775807:=Ye (d:=default) Tryz.underlying28 (by decide+kernel) (by decide) Zp9
set_option maxRecDepth 100000 in
theorem Zwd:Opn he aB w 30 8 ZqD Zq8:=fun aa cs x h=>by
 obtain⟨xs,m,_,_,J,G,I⟩:=DataW.trod_struct Tryz.underlying30 h;have S:=I 0 _ rfl;have hi:0<xs.length:=by rw[G];decide
 rw[aD hi]at S;obtain⟨h5,b,Z,ab,pb⟩:=Zwf _ _ _ S;obtain⟨r,qr,pr⟩:=Qw (i:=1) rfl ⟨rfl,by decide+kernel,ZuS⟩ I G;obtain⟨v,Y,pv⟩:=Qw (i:=2) rfl ⟨rfl,by decide+kernel,ZuQ⟩ I G;obtain⟨d,V,pd⟩:=Qw (i:=3) rfl ⟨rfl,by decide+kernel,Zsw⟩ I G;refine⟨J.trans (by decide+kernel),⟨b,r,v,d⟩,⟨Z,qr,Y,V.2,V.1⟩,rfl,fun j c A=>?_⟩;have H:∀j c,j<5->(ZdN b)[j]? =some c->PR w (fun b _ _=>b<w.heap.size) c (cs.getD j undef):=fun j c U A=>by
  have:=pb j c A;have e:((cs.drop 0).take 5).getD j undef=cs.getD j undef:=by
   simp[aA,List.getElem?_take,U]
  exact e▸this
 match j,A with
 |0,A=>exact H 0 c (by decide) A
 |1,A=>exact H 1 c (by decide) A
 |2,A=>exact H 2 c (by decide) A
 |3,A=>exact H 3 c (by decide) A
 |4,A=>exact H 4 c (by decide) A
 |5,A=>cases A;exact pr
 |6,A=>cases A;exact pv
 |7,A=>cases A;exact pd
 |j+8,A=>cases A
end
end Vm
namespace Sp
open Vm
structure Zh7 where
 comes:Int
 ready:Int
 goes:Int
deriving DecidableEq,Inhabited
def Zl (c:List (List Call)) (r:Int):List Call:=c.getD r.toNat []
def callAt (c:List (List Call)) (r a:Int):Call:=(Zl c r).getD a.toNat default
def ZgW (x:List Int) (run leg:Int):Nat->List ZP->Int
 |_,[]=>0
 |i,d::r=>if d.run=run/\d.leg=leg then d.by_.getD (x.getD i 0).toNat 0 else ZgW x run leg (i+1) r
def Zdg (t:Zb) (x:List Int) (run leg:Int):Int:=ZgW x run leg 0 t.delays
def Xa (t:Zb) (x:List Int) (g:Int->Int->Int) (r a:Int):Int:=
 g r (a-1)+(callAt (callsOf t) r a).arrive-(callAt (callsOf t) r (a-1)).depart+Zdg t x r (a-1)
def JF (c:List (List Call)) (cm:Int->Int->Int) (r:Int) (call:Call) (g:Int) (w:QV):Int:=
 if w.train≠r\/w.station≠call.station then g
 else if cm w.feeder (ZA (Zl c w.feeder) w.station)<=call.depart+w.minutes then max g (cm w.feeder (ZA (Zl c w.feeder) w.station))else g
def Zc7 (c:List (List Call)) (r a comes:Int):Int:=
 if a=((Zl c r).length:Int)-1 then comes else max (callAt c r a).depart comes
def ZaX (t:Zb) (cm:Int->Int->Int) (r a ready:Int):Int:=
 if a=((Zl (callsOf t) r).length:Int)-1 then ready else t.waits.foldl (JF (callsOf t) cm r (callAt (callsOf t) r a)) ready
def J7 (t:Zb) (cm:Int->Int->Int) (r a comes:Int):Zh7:=
 let ready:=Zc7 (callsOf t) r a comes;let goes:=ZaX t cm r a ready
 ⟨if a=0 then goes else comes,ready,goes⟩
def Zbu (t:Zb) (x:List Int) (g:Int->Int->Int) (r a:Int):Zh7:=
 J7 t (Xa t x g) r a (if 0<a then Xa t x g r a else 0)
def Zen (t:Zb) (x:List Int):Nat->Int->Int->Zh7
 |0=>fun _ _=>default
 |n+1=>fun r a=>Zbu t x (fun r a=>(Zen t x n r a).goes) r a
def ZR (t:Zb) (x:List Int) (r a:Int):Zh7:=Zen t x ((callAt (callsOf t) r a).depart.toNat+1) r a
def goes (t:Zb) (x:List Int) (r a:Int):Int:=(ZR t x r a).goes
def comes (t:Zb) (x:List Int) (r a:Int):Int:=Xa t x (goes t x) r a
def StopIn (c:List (List Call)) (r a:Int):Prop:=0<=r/\r<c.length/\0<=a/\a<(Zl c r).length
structure Zx (t:Zb):Prop where
 calls:Y6 (callsOf t)
 nn:∀r a,StopIn (callsOf t) r a->0<=(callAt (callsOf t) r a).arrive/\(callAt (callsOf t) r a).arrive<=(callAt (callsOf t) r a).depart/\(callAt (callsOf t) r a).depart<=1099511627776
 asc:∀r a,StopIn (callsOf t) r a->0<a->(callAt (callsOf t) r (a-1)).depart<(callAt (callsOf t) r a).arrive
 wlen:t.waits.length<=4
 dlen:t.delays.length<=6
 w:∀w∈t.waits,0<=w.feeder/\w.feeder<(callsOf t).length/\1<=ZA (Zl (callsOf t) w.feeder) w.station/\0<=w.minutes/\w.minutes<=60
  /\∀a,StopIn (callsOf t) w.train a->a≠((Zl (callsOf t) w.train).length:Int)-1->(callAt (callsOf t) w.train a).station=w.station->
   (callAt (callsOf t) w.feeder (ZA (Zl (callsOf t) w.feeder) w.station)).arrive<=(callAt (callsOf t) w.train a).depart
 d:∀d∈t.delays,1<=d.by_.length/\d.by_.length<=3/\∀n∈d.by_,0<=n/\n<=240
structure Ju (t:Zb) (x:List Int):Prop where
 len:x.length=6
 d:∀i,i<t.delays.length->0<=x.getD i 0/\x.getD i 0<(t.delays.getD i default).by_.length
theorem YF {t:Zb} (A:Zx t) {w:QV} (hw:w∈t.waits):StopIn (callsOf t) w.feeder (ZA (Zl (callsOf t) w.feeder) w.station):=by
 have h:=A.w w hw;have:=YA (Zl (callsOf t) w.feeder) 1 w.station;exact⟨h.1,h.2.1,by unfold ZA at*;omega,by unfold ZA;omega⟩
theorem StopIn.prev {c:List (List Call)} {r a:Int} (h:StopIn c r a) (A:0<a):StopIn c r (a-1):=⟨h.1,h.2.1,by have:=h.2.2.2;omega,by have:=h.2.2.2;omega⟩
theorem ZmP {x:List Int} {run leg:Int}:∀(l:List ZP) (i:Nat),(∀d∈l,∀n∈d.by_,0<=n/\n<=240)->0<=ZgW x run leg i l/\ZgW x run leg i l<=240
 |[],i,_=>by unfold ZgW;omega
 |d::r,i,h=>by
  unfold ZgW;split
  ·rw[aA];cases hq:d.by_[(x.getD i 0).toNat]? with
   |none=>simp
   |some n=>exact h d (aU ..) n (List.mem_of_getElem? hq)
  exact ZmP r (i+1) fun d A=>h d (aQ _ A)
theorem ZdQ {t:Zb} (A:Zx t) (x:List Int) (run leg:Int):0<=Zdg t x run leg/\Zdg t x run leg<=240:=ZmP _ _ fun d G=>(A.d d G).2.2
theorem Zal {α A:Type} {f g:α->A->α}:∀(l:List A) (a:α),(∀b∈l,∀a,f a b=g a b)->l.foldl f a=l.foldl g a
 |[],_,_=>rfl
 |b::r,a,h=>by
  rw[dP,dP,h b (aU ..) a];exact Zal r _ fun b G=>h b (aQ _ G)
theorem ZdJ {t:Zb} (H:Zx t) (x:List Int) {g g':Int->Int->Int} {r a:Int} (S:StopIn (callsOf t) r a)
  (h:∀G A,StopIn (callsOf t) G A->(callAt (callsOf t) G A).depart<(callAt (callsOf t) r a).depart->g G A=g' G A):Zbu t x g r a=Zbu t x g' r a:=by
 have Y:∀G A,StopIn (callsOf t) G A->0<A->(callAt (callsOf t) G A).arrive<=(callAt (callsOf t) r a).depart->Xa t x g G A=Xa t x g' G A:=fun G A I J ab=>by
  unfold Xa;rw[h G (A-1) (I.prev J) (by have:=H.asc G A I J;omega)]
 have h1:(if 0<a then Xa t x g r a else 0)=(if 0<a then Xa t x g' r a else 0):=by
  split
  ·exact Y r a S (by assumption) (H.nn r a S).2.1
  rfl
 have h2:∀q,ZaX t (Xa t x g) r a q=ZaX t (Xa t x g') r a q:=fun q=>by
  unfold ZaX;split
  ·rfl
  rename_i hl;refine Zal _ _ fun w hw b=>?_;unfold JF;split
  ·rfl
  rename_i V;have U:=H.w w hw;have aa:w.train=r:=by
   by_cases he:w.train=r
   ·exact he
   exact absurd (.inl he) V
  have Z:w.station=(callAt (callsOf t) r a).station:=by
   by_cases he:w.station=(callAt (callsOf t) r a).station
   ·exact he
   exact absurd (.inr he) V
  rw[Y _ _ (YF H hw) (by omega) (by subst aa;exact U.2.2.2.2.2 a S hl Z.symm)]
 unfold Zbu J7;rw[h1];simp only[h2]
theorem Ze7 {t:Zb} (A:Zx t) (x:List Int):∀(n m:Nat) (r a:Int),StopIn (callsOf t) r a->(callAt (callsOf t) r a).depart<n->(callAt (callsOf t) r a).depart<m->Zen t x n r a=Zen t x m r a
 |0,_,r,a,hs,h,_=>by have:=A.nn r a hs;omega
 |_+1,0,r,a,hs,_,h=>by have:=A.nn r a hs;omega
 |n+1,m+1,r,a,hs,h1,h2=>ZdJ A x hs fun G H I J=>by
  show(Zen t x n G H).goes=(Zen t x m G H).goes;rw[Ze7 A x n m G H I (by omega) (by omega)]
theorem ZgE {t:Zb} (A:Zx t) (x:List Int) {r a:Int} (J:StopIn (callsOf t) r a):ZR t x r a=Zbu t x (goes t x) r a:=by
 show Zbu t x _ r a=_;refine ZdJ A x J fun H I G S=>?_;have:=A.nn H I G;have:=A.nn r a J;unfold goes ZR;rw[Ze7 A x _ ((callAt (callsOf t) H I).depart.toNat+1) H I G (by omega) (by omega)]
theorem Zdm {t:Zb} (A:Zx t) {cm:Int->Int->Int} {r:Int} {call:Call} {M:Int} (G:call.depart+60<=M):∀(l:List QV) (g:Int),(∀w∈l,w∈t.waits)->g<=M->g<=l.foldl (JF (callsOf t) cm r call) g/\l.foldl (JF (callsOf t) cm r call) g<=M
 |[],g,_,h=>⟨bT _,h⟩
 |w::l,g,hl,h=>by
  rw[dP];have hw:=A.w w (hl w (aU ..));have H:g<=JF (callsOf t) cm r call g w/\JF (callsOf t) cm r call g w<=M:=by
   unfold JF;split
   ·omega
   split<;>omega
  have I:=Zdm A (cm:=cm) (r:=r) G l (JF (callsOf t) cm r call g w) (fun w hw=>hl w (aQ _ hw)) H.2;omega
theorem ZsM {t:Zb} (G:Zx t) (x:List Int) {r a:Int} (A:StopIn (callsOf t) r a):goes t x r a=(Zbu t x (goes t x) r a).goes:=by
 show(ZR t x r a).goes=_;rw[ZgE G x A]
theorem ZgF {t:Zb} (A:Zx t) (x:List Int):∀(n:Nat) (r a:Int),StopIn (callsOf t) r a->(callAt (callsOf t) r a).depart<n->
  (callAt (callsOf t) r a).arrive<=goes t x r a/\goes t x r a<=(callAt (callsOf t) r a).depart+60+240*a/\(a≠((Zl (callsOf t) r).length:Int)-1->(callAt (callsOf t) r a).depart<=goes t x r a)
 |0,r,a,hs,h=>by have:=A.nn r a hs;omega
 |n+1,r,a,hs,h=>by
  have S:=A.nn r a hs;have I:0<a->(callAt (callsOf t) r a).arrive<=Xa t x (goes t x) r a/\Xa t x (goes t x) r a<=(callAt (callsOf t) r a).arrive+60+240*a:=fun J=>by
   have Y:=A.asc r a hs J;have H:=ZgF A x n r (a-1) (hs.prev J) (by omega);have V:=H.2.2 (by have:=hs.2.2.2;omega);have Z:=ZdQ A x r (a-1);show _<=goes t x r (a-1)+_-_+_/\goes t x r (a-1)+_-_+_<=_;omega
  rw[ZsM A x hs];generalize U:goes t x=G at*;unfold Zbu J7 Zc7 ZaX;have J:=hs.2.2.1;by_cases hl:a=((Zl (callsOf t) r).length:Int)-1
  ·have H:0<a:=by
    have hr:=A.calls.row (Zl (callsOf t) r) (by
     unfold Zl;have:r.toNat<(callsOf t).length:=by have:=hs.2.1;have:=hs.1;omega
     rw[aA,aD this]
     exact bM _)
    omega
   simp only[if_pos hl,if_pos H];have:=I H;omega
  simp only[if_neg hl];by_cases h0:0<a
  ·simp only[if_pos h0];have:=I h0;have hw:=Zdm A (cm:=Xa t x G) (r:=r) (call:=callAt (callsOf t) r a) (M:=(callAt (callsOf t) r a).depart+60+240*a) (by omega) t.waits (max (callAt (callsOf t) r a).depart (Xa t x G r a)) (fun w hw=>hw) (by omega);omega
  simp only[if_neg h0];have hw:=Zdm A (cm:=Xa t x G) (r:=r) (call:=callAt (callsOf t) r a) (M:=(callAt (callsOf t) r a).depart+60+240*a) (by omega) t.waits (max (callAt (callsOf t) r a).depart 0) (fun w hw=>hw) (by omega);omega
theorem ZiS {t:Zb} (G:Zx t) (x:List Int) {r a:Int} (A:StopIn (callsOf t) r a):0<=goes t x r a/\goes t x r a<=1099511640000/\(a≠((Zl (callsOf t) r).length:Int)-1->(callAt (callsOf t) r a).depart<=goes t x r a):=by
 have h:=ZgF G x ((callAt (callsOf t) r a).depart.toNat+1) r a A (by have:=G.nn r a A;omega);have H:=G.nn r a A
 have hr:=G.calls.row (Zl (callsOf t) r) (by
  unfold Zl;have:r.toNat<(callsOf t).length:=by have:=A.2.1;have:=A.1;omega
  rw[aA,aD this]
  exact bM _)
 have:=A.2.2.2;exact⟨by omega,by omega,h.2.2⟩
theorem ZqK {t:Zb} (G:Zx t) (x:List Int) {r a:Int} (A:StopIn (callsOf t) r a) (H:0<a):(callAt (callsOf t) r a).arrive<=comes t x r a/\comes t x r a<=1099511650000:=by
 have Y:=G.asc r a A H;have I:=ZiS G x (A.prev H);have S:=I.2.2 (by have:=A.2.2.2;omega);have h4:=ZdQ G x r (a-1);have V:=G.nn r a A;have Z:=G.nn r (a-1) (A.prev H);have J:=(ZgF G x ((callAt (callsOf t) r (a-1)).depart.toNat+1) r (a-1) (A.prev H) (by omega)).2.1
 have U:=G.calls.row (Zl (callsOf t) r) (by
  unfold Zl;have:r.toNat<(callsOf t).length:=by have:=A.2.1;have:=A.1;omega
  rw[aA,aD this]
  exact bM _)
 have h9:=A.2.2.2;show _<=goes t x r (a-1)+_-_+_/\goes t x r (a-1)+_-_+_<=_;omega
structure W3 where
 co:Nat->Nat->Int
 re:Nat->Nat->Int
 go:Nat->Nat->Int
def Jw (f:Nat->Nat->Int) (r i:Nat) (v:Int):Nat->Nat->Int:=fun a b=>bif a==r&&b==i then v else f a b
theorem Za8 (f:Nat->Nat->Int) (r i:Nat) (v:Int):Jw f r i v r i=v:=by simp[Jw]
theorem Zd5 {f:Nat->Nat->Int} {r i a b:Nat} {v:Int} (h:¬(a=r/\b=i)):Jw f r i v a b=f a b:=by
 unfold Jw;by_cases h1:a=r
 ·by_cases h2:b=i
  ·exact absurd ⟨h1,h2⟩ h
  rw[show(b==i)=false by simp[h2],Bool.and_false];rfl
 rw[show(a==r)=false by simp[h1],Bool.false_and];rfl
def J2 (t:Zb) (x:List Int) (w:W3) (r i:Nat):Zh7:=
 J7 t (fun f a=>w.co f.toNat a.toNat) r i (if 0<i then w.go r (i-1)+(callAt (callsOf t) r i).arrive-(callAt (callsOf t) r (i-1:Nat)).depart+Zdg t x r (i-1:Nat)else 0)
def ZaU (t:Zb) (x:List Int) (w:W3) (r i:Nat):W3:=
 ⟨Jw w.co r i (J2 t x w r i).comes,Jw w.re r i (J2 t x w r i).ready,Jw w.go r i (J2 t x w r i).goes⟩
def Zng (t:Zb) (x:List Int) (w:W3) (r:Nat):Nat->W3
 |0=>w
 |i+1=>ZaU t x (Zng t x w r i) r i
def J4 (t:Zb) (r:Nat):Nat:=(Zl (callsOf t) r).length
def Zf9 (t:Zb) (x:List Int) (w:W3):Nat->W3
 |0=>w
 |r+1=>Zng t x (Zf9 t x w r) r (J4 t r)
def Zd8 (t:Zb) (x:List Int) (w:W3):Nat->W3
 |0=>w
 |k+1=>Zf9 t x (Zd8 t x w k) (callsOf t).length
theorem ZhU {α:Type} {p q:α->Bool} {a:α}:∀ {l:List α},(∀b∈l,p b=true->q b=true)->a∈l->p a=false->q a=true->l.countP p<l.countP q
 |b::l,h,hm,hp,hq=>by
  have H:l.countP p<=l.countP q:=List.countP_mono_left fun c A=>h c (aQ _ A);rw[fP,fP];rcases bG.mp hm with rfl|hm
  ·simp only[hp,hq];simp;omega
  have:=ZhU (fun c A=>h c (aQ _ A)) hm hp hq;have G:=h b (aU ..);cases hpb:p b
  ·simp;omega
  simp only[G hpb];simp;omega
def Xb (t:Zb):List (Nat×Nat):=(aR (callsOf t).length).flatMap fun r=>(aR (J4 t r)).map fun i=>(r,i)
def QP (t:Zb) (r i:Nat):Int:=(callAt (callsOf t) r i).depart
def Zb0 (t:Zb) (r i:Nat):Nat:=(Xb t).countP fun p=>decide (QP t p.1 p.2<QP t r i)
theorem Zi9 {t:Zb} {r i:Nat} (h:StopIn (callsOf t) r i):(r,i)∈Xb t:=by
 unfold Xb;rw[List.mem_flatMap];refine⟨r,bW.mpr (by have:=h.2.1;omega),bE.mpr ⟨i,bW.mpr ?_,rfl⟩⟩;have:=h.2.2.2;unfold J4;omega
theorem Zmr {t:Zb} {r i a b:Nat} (h:StopIn (callsOf t) r i) (A:QP t r i<QP t a b):Zb0 t r i<Zb0 t a b:=by
 unfold Zb0;refine ZhU (a:=(r,i)) (fun p _ G=>?_) (Zi9 h) (by simp) (by simp[A]);simp only[decide_eq_true_eq]at G|-;omega
theorem Zms (t:Zb) (r i:Nat):Zb0 t r i<=(Xb t).length:=List.countP_le_length
def Zda (t:Zb) (r i:Nat):Bool:=decide ((i:Int)=((Zl (callsOf t) r).length:Int)-1)
def ZnP (t:Zb) (r i:Nat):Nat:=bif Zda t r i then Zb0 t r (i-1)else Zb0 t r i
def Zvu (t:Zb) (x:List Int) (w:W3) (r i:Nat):Prop:=w.co r i=Xa t x (goes t x) r i
def Zuu (t:Zb) (x:List Int) (w:W3) (r i:Nat):Prop:=w.co r i=(ZR t x r i).comes/\w.re r i=(ZR t x r i).ready/\w.go r i=(ZR t x r i).goes
def J3 (t:Zb) (x:List Int) (k a b:Nat) (w:W3):Prop:=∀r i:Nat,StopIn (callsOf t) r i->
 (0<i->Zb0 t r (i-1)<(if r<a\/r=a/\i<b then k+1 else k)->Zvu t x w r i)/\
 (ZnP t r i<(if r<a\/r=a/\i<b then k+1 else k)->Zuu t x w r i)
theorem ZlB {t:Zb} (J:Zx t) {cm A:Int->Int->Int} {r i:Int} (h:∀w∈t.waits,w.train=r->w.station=(callAt (callsOf t) r i).station->cm w.feeder (ZA (Zl (callsOf t) w.feeder) w.station)=A w.feeder (ZA (Zl (callsOf t) w.feeder) w.station)) (g:Int):
  t.waits.foldl (JF (callsOf t) cm r (callAt (callsOf t) r i)) g=t.waits.foldl (JF (callsOf t) A r (callAt (callsOf t) r i)) g:=by
 refine Zal _ _ fun w hw b=>?_;unfold JF;split
 ·rfl
 rename_i G;have I:w.train=r:=by
  by_cases he:w.train=r
  ·exact he
  exact absurd (.inl he) G
 have H:w.station=(callAt (callsOf t) r i).station:=by
  by_cases he:w.station=(callAt (callsOf t) r i).station
  ·exact he
  exact absurd (.inr he) G
 rw[h w hw I H]
theorem ZlV (t:Zb) (cm:Int->Int->Int) (r a c:Int) (h:0<a):(J7 t cm r a c).comes=c:=by
 unfold J7;simp only[if_neg (show¬a=0 by omega)]
theorem ZsE {t:Zb} (J:Zx t) (x:List Int) {k a b:Nat} {w:W3} (G:StopIn (callsOf t) a b) (hw:J3 t x k a b w):
  (0<b->Zb0 t a (b-1)<k+1->(J2 t x w a b).comes=Xa t x (goes t x) a b)/\(ZnP t a b<k+1->J2 t x w a b=ZR t x a b):=by
 have hc:0<b->Zb0 t a (b-1)<k+1->w.go a (b-1)+(callAt (callsOf t) a b).arrive-(callAt (callsOf t) a (b-1:Nat)).depart+Zdg t x a (b-1:Nat)=Xa t x (goes t x) a b:=fun H hr=>by
  have V:StopIn (callsOf t) a ((b-1:Nat):Int):=by
   have h:=G.prev (by omega);rwa [show(b:Int)-1=((b-1:Nat):Int) by omega]at h
  have I:Zda t a (b-1)=false:=by
   unfold Zda;rw[decide_eq_false_iff_not];have:=G.2.2.2;omega
  have h:=(hw a (b-1) V).2 (by
   unfold ZnP;rw[I,if_pos (.inr ⟨rfl,by omega⟩)]
   exact hr)
  unfold Xa;rw[h.2.2,show(b:Int)-1=((b-1:Nat):Int) by omega];rfl
 have aa:0<b->Zb0 t a (b-1)<k+1->(J2 t x w a b).comes=Xa t x (goes t x) a b:=fun H hr=>by
  unfold J2;rw[ZlV _ _ _ _ _ (by omega),if_pos H];exact hc H hr
 refine⟨aa,fun A=>?_⟩;rw[ZgE J x G];unfold J2 Zbu;have hn:=J.nn a b G;have h1:(if 0<b then w.go a (b-1)+(callAt (callsOf t) a b).arrive-(callAt (callsOf t) a (b-1:Nat)).depart+Zdg t x a (b-1:Nat)else 0)=(if(0:Int)<b then Xa t x (goes t x) a b else 0):=by
  by_cases H:0<b
  ·rw[if_pos H,if_pos (by omega)];refine hc H ?_;unfold ZnP at A;cases I:Zda t a b
   ·rw[I]at A;have V:StopIn (callsOf t) a ((b-1:Nat):Int):=by
     have h:=G.prev (by omega);rwa [show(b:Int)-1=((b-1:Nat):Int) by omega]at h
    have:=J.asc a b G (by omega);have h2:=Zmr (a:=a) (b:=b) V (by unfold QP;rw[show((b-1:Nat):Int)=(b:Int)-1 by omega];omega);simp only[cond_false]at A;omega
   rw[I]at A;exact A
  rw[if_neg H,if_neg (by omega)]
 rw[h1];generalize (if(0:Int)<b then Xa t x (goes t x) a b else 0)=c;unfold J7;have h2:∀q,ZaX t (fun f a=>w.co f.toNat a.toNat) a b q=ZaX t (Xa t x (goes t x)) a b q:=fun q=>by
  unfold ZaX;split
  ·rfl
  rename_i I;refine ZlB J (fun v hv Y e2=>?_) q;have U:=J.w v hv;have S:=YF J hv;generalize hq:ZA (Zl (callsOf t) v.feeder) v.station=q at*;have h3:=U.2.2.2.2.2 b (by rw[Y];exact G) (by rw[Y];exact I) (by rw[Y];exact e2.symm);rw[Y]at h3;have ah:=U.2.2.1;have ae:=U.1;have ha:=J.asc v.feeder q S (by omega);obtain⟨f,ac⟩:∃f:Nat,v.feeder=(f:Int):=⟨v.feeder.toNat,by omega⟩;obtain⟨m,ab⟩:∃m:Nat,q=(m:Int)+1:=⟨(q-1).toNat,by omega⟩;rw[ac,ab]at S ha h3|-;have V:StopIn (callsOf t) f (m:Int):=by
   have h:=S.prev (by omega);rwa [show(m:Int)+1-1=(m:Int) by omega]at h
  have Z:Zda t a b=false:=by
   unfold Zda;rw[decide_eq_false_iff_not];exact I
  rw[show(m:Int)+1-1=(m:Int) by omega]at ha;have h4:=Zmr (a:=a) (b:=b) V (by unfold QP;omega);unfold ZnP at A;rw[Z]at A;simp only[cond_false]at A
  have h5:=(hw f (m+1) (by rw[Int.natCast_succ];exact S)).1 (by omega) (by
   show Zb0 t f m<_
   split<;>omega)
  show w.co (f:Int).toNat ((m:Int)+1).toNat=_;rw[aV,show((m:Int)+1).toNat=m+1 by omega,h5];rfl
 simp only[h2]
theorem Znx {t:Zb} (U:Zx t) (x:List Int) {k a b:Nat} {w:W3} (S:StopIn (callsOf t) a b) (hw:J3 t x k a b w):J3 t x k a (b+1) (ZaU t x w a b):=by
 have H:=ZsE U x S hw;intro r i J;by_cases he:r=a/\i=b
 ·obtain⟨rfl,rfl⟩:=he;rw[if_pos (.inr ⟨rfl,by omega⟩)];refine⟨fun A hr=>?_,fun G=>?_⟩
  ·show Jw _ _ _ _ _ _=_;rw[Za8];exact H.1 A hr
  have h:=H.2 G;show Jw _ _ _ _ _ _=_/\Jw _ _ _ _ _ _=_/\Jw _ _ _ _ _ _=_;rw[Za8,Za8,Za8,h];exact⟨rfl,rfl,rfl⟩
 have h:=hw r i J;have I:(if r<a\/r=a/\i<b+1 then k+1 else k)=(if r<a\/r=a/\i<b then k+1 else k):=by
  by_cases h1:r<a\/r=a/\i<b
  ·rw[if_pos h1,if_pos (by omega)]
  rw[if_neg h1,if_neg (by omega)]
 rw[I];refine⟨fun A hr=>?_,fun G=>?_⟩
 ·show Jw _ _ _ _ _ _=_;rw[Zd5 he];exact h.1 A hr
 show Jw _ _ _ _ _ _=_/\Jw _ _ _ _ _ _=_/\Jw _ _ _ _ _ _=_;rw[Zd5 he,Zd5 he,Zd5 he];exact h.2 G
theorem ZpK {t:Zb} {r i:Nat} (hr:r<(callsOf t).length) (hi:i<J4 t r):StopIn (callsOf t) r i:=⟨by omega,by omega,by omega,by unfold J4 at hi;omega⟩
theorem Zuc {t:Zb} (A:Zx t) (x:List Int) {k a:Nat} {w:W3} (G:a<(callsOf t).length) (hw:J3 t x k a 0 w):∀b,b<=J4 t a->J3 t x k a b (Zng t x w a b)
 |0,_=>hw
 |b+1,h=>Znx A x (ZpK G (by omega)) (Zuc A x G hw b (by omega))
theorem Zp6 {t:Zb} (G:Zx t) (x:List Int) {k:Nat} {w:W3} (hw:J3 t x k 0 0 w):∀a,a<=(callsOf t).length->J3 t x k a 0 (Zf9 t x w a)
 |0,_=>hw
 |a+1,h=>fun r i A=>by
  have I:=Zuc G x (by omega) (Zp6 G x hw a (by omega)) (J4 t a) (aJ _) r i A;have H:(if r<a+1\/r=a+1/\i<0 then k+1 else k)=(if r<a\/r=a/\i<J4 t a then k+1 else k):=by
   by_cases h2:r<a
   ·rw[if_pos (by omega),if_pos (by omega)]
   by_cases h3:r=a
   ·subst h3;have:=A.2.2.2;rw[if_pos (by omega),if_pos (by unfold J4;omega)]
   rw[if_neg (by omega),if_neg (by omega)]
  rw[H];exact I
theorem Zmq {t:Zb} (G:Zx t) (x:List Int) (w:W3):∀k,J3 t x k 0 0 (Zd8 t x w k)
 |0=>fun r i _=>by
  rw[if_neg (by omega)];exact⟨fun _ h=>absurd h (by omega),fun h=>absurd h (by omega)⟩
 |k+1=>fun r i A=>by
  have h:=Zp6 G x (Zmq G x w k) (callsOf t).length (aJ _) r i A;have:=A.2.1;rw[if_pos (by omega)]at h;rw[if_neg (by omega)];exact h
theorem Zm2 (t:Zb):(Xb t).length=((aR (callsOf t).length).map (J4 t)).sum:=by
 unfold Xb;rw[List.length_flatMap];simp only[bA,List.length_range]
theorem Zio {t:Zb} (G:Zx t) (x:List Int) (w:W3) {k:Nat} (H:(Xb t).length<k) {r i:Nat} (A:StopIn (callsOf t) r i):Zuu t x (Zd8 t x w k) r i:=by
 refine(Zmq G x w k r i A).2 ?_;rw[if_neg (by omega)];unfold ZnP;cases Zda t r i
 ·have:=Zms t r i;simp only[cond_false];omega
 have:=Zms t r (i-1);simp only[cond_true];omega
end Sp
end Go.Proofs.YtjgpiclllehgmaaGreat
