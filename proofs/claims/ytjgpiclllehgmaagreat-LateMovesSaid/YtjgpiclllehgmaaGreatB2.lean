/- Lemmas. -/
import Derived.KernelRfl
import Derived.Test.YtjgpiclllehgmaaGreatB1
import Derived.Test.YtjgpiclllehgmaaGreatM5
import Derived.Test.YtjgpiclllehgmaaGreatB0
set_option linter.all false
open Bool renaming false_ne_true->aO,false_or->bZ,true_or->cS
open Decidable renaming of_not_not->bQ
open Int renaming le_refl->bS,toNat->fy,toNat_natCast->aV,zero_add->iL
open List renaming any_cons->eQ,any_nil->fJ,countP_cons->fU,drop_eq_nil_of_le->bB,drop_length->ir,foldl_cons->dR,getD_eq_getElem?_getD->aA,getElem?_append_left->bO,getElem?_cons_succ->cN,getElem?_cons_zero->bJ,getElem?_eq_getElem->aD,getElem?_eq_some_iff->aE,getElem?_set->bR,getElem_mem->bM,length_cons->bF,length_map->aX,length_set->bP,mem_append->cP,mem_cons->bG,mem_cons_of_mem->aS,mem_cons_self->aW,mem_map->bC,mem_range->bV,mem_singleton->aN,range->aP
open Nat renaming le_refl->aI,mul_le_mul_right->aL,not_lt_zero->fi,zero_le->aT
open Option.some renaming injEq->aC
open Go.Proofs.Tryz renaming prog->aB
namespace Go.Proofs.YtjgpiclllehgmaaGreat
namespace Vm
attribute [local irreducible] Dn
open Go Go.Proofs Sp
set_option maxRecDepth 100000
set_option maxHeartbeats 4000000
structure Jg (c:List (List Sp.Call)):Prop where
 len:c.length<=4
 row:∀l∈c,2<=l.length/\l.length<=4
theorem Zri {f:FuncId} {xs I:List AV} {h:List Zh} {A Q:AV->List Zh->Prop} {B:Prop} (H:SC (λ_=>aB) f I [] Q) (k:B) (t:SC (λ_=>aB) f I [] Q->HdW B->SC (λ_=>aB) f xs h A:=by intro S hW;refine ZN S (by first|rfl|(simp only[Ze,Zd,Zf,Zc,Za O];rfl)) λr J G=>?_;(try simp only[Ze,Zd,Zf,Zc,Za O]at G);obtain⟨rfl,rfl⟩:=G;exact hW.out):SC (λ_=>aB) f xs h A:=t H ⟨k⟩
theorem QE {n lo hi:Int} (h:Qw n lo hi=false):lo<=n/\n<=hi:=by
 unfold Qw Y5 at h;simp only[Bool.not_eq_false',Bool.and_eq_true,iU]at h;exact h
theorem YL (l:List Sp.Call) (f st:Int):ZP l f st<l.length/\(ZP l f st=-1\/(0<=ZP l f st/\f<=ZP l f st)):=by
 unfold ZP;obtain⟨m,hm⟩:∃m:Nat,max 0 f=(m:Int):=⟨(max 0 f).toNat,by omega⟩;have G:f<=m:=by omega
 rw[hm,aV];have A:=XX (q:=λc:Sp.Call=>decide (c.station=st)) (l:=l.drop m) (i:=(m:Int)) (by omega);by_cases h:m<=l.length
 ·rw[List.length_drop]at A;omega
 rw[bB (by omega)];exact⟨by simp only[Zu];omega,.inl rfl⟩
theorem ZaN {A:(α:Type)->α->List α->Int->α} (O:∀(α:Type) (d:α) (l:List α) (i:Int),A α d l i=l.getD i.toNat d) (c:List (List Sp.Call)):lst 1 Zc [] c= .isl 1 (λ_=>(c.length:Int)) (λe=>[.isl 3 (λ_=>((A (List Sp.Call) [] c (e ())).length:Int)) (λG=>XY (A Sp.Call default (A (List Sp.Call) [] c (e ())) (G ()))) .none]) .none:=by
 rw[Za O];simp only[Zc,Za O]
theorem Zyi (c:List (List Sp.Call)) (w:Sp.QH) (G:List Sp.QH) (hc:Jg c) (Y:G.length<=1000000):SC (λ_=>aB) 133 [lst 1 Zc [] c,.agg (Qz w),lst 4 Qz default G] [] λv h=>v= .int .i64 (λ_=>Qc c w G)/\h=[]:=by
 obtain⟨nt,O⟩:=Zm;rw[ZaN O,Za O];refine Qq Tryz.func133 (body:=Zj Tryz.f133) rfl (by decide+kernel) ?_;have ab:=hc.len;have k1:=Zdy w.feeder 0 (c.length-1);have k2:=Zdy w.train 0 (c.length-1);have k3:=Zdy w.minutes 0 60;have aa:∀i:Int,0<=i->i<=(c.length:Int)-1->nt (List Sp.Call) [] c i∈c:=λi h0 H=>by
  have:i.toNat<c.length:=by omega
  rw[O,aA,aD this];exact bM _
 generalize A:Qc c w G=e;unfold Qc at A;rw[<-O (List Sp.Call) [] c w.feeder,<-O (List Sp.Call) [] c w.train]at A;refine wS ?_;refine Zri (k1) ?_;refine wS ?_;refine⟨λH=>?_,λH=>?_⟩;case refine_2=>
  have H:=nb4 H;rw[H,cS,iP rfl]at A;subst A;refine wS ?_;refine Br.isT rfl ?_;exact zW
 have H:=nb2 H;rw[H,bZ]at A;refine wS ?_;refine Zri (k2) ?_;refine wS ?_;refine⟨λI=>?_,λI=>?_⟩
 ·rw[H]at I;have I:Qw w.train 0 (c.length-1)=true:=I;rw[iP I]at A;subst A;exact zW
 rw[H]at I;have I:Qw w.train 0 (c.length-1)=false:=I;rw[iN (by rw[I];exact aO)]at A;have b1:=QE H;have b2:=QE I;refine wS ?_;refine⟨λV=>?_,λV=>?_⟩
 ·have V:=eq_of_beq V;rw[iP V]at A;subst A;exact zW
 have V:=ne_of_beq_false V;rw[iN V]at A;have m1:=aa _ b1.1 b1.2;have m2:=aa _ b2.1 b2.2;refine vS ?_;generalize hF:nt (List Sp.Call) [] c w.feeder=F at*;generalize hT:nt (List Sp.Call) [] c w.train=U at*;have r1:=hc.row _ m1;have r2:=hc.row _ m2;have q1:=Zvz F w.station (by omega);have q2:=Zxn U w.station (by omega);have s1:Zv F w.station<F.length/\-1<=Zv F w.station:=by have:=YL F 1 w.station;unfold Zv;omega
 have s2:ZJ U w.station<(U.length:Int)-1/\-1<=ZJ U w.station:=by
  have:=YL U 0 w.station;unfold ZJ;split<;>omega
 simp only[Za O]at q1 q2;try simp only[hF,hT]
 try refine Chk.mk (ZH) ?_
 refine Zri (q1) ?_;refine vS ?_;try simp only[hF,hT]
 try refine Chk.mk (ZH) ?_
 refine Zri (q2) ?_;refine vS ?_;try simp only[hF,hT]
 try refine Chk.mk (ZH) ?_
 generalize Zv F w.station=a at*;generalize ZJ U w.station=b at*;refine⟨λJ=>?_,λJ=>?_⟩
 ·rw[iP (by
   cases ha:decide (a<0)with
   |true=>exact .inl (iW ha)
   |false=>rw[ha]at J;exact .inr (iW J))]at A
  subst A;exact zW
 have h5:0<=a:=by
  cases ha:decide (a<0)with
  |true=>rw[ha]at J;cases J
  |false=>have:=iX ha;omega
 have h6:0<=b:=by
  cases ha:decide (a<0)with
  |true=>rw[ha]at J;cases J
  |false=>rw[ha]at J;have:=iX J;omega
 rw[iN (by omega)]at A;clear q1 q2;refine wS ?_;refine Zri (k3) ?_;refine wS ?_;refine⟨λh7=>?_,λh7=>?_⟩
 ·rw[iP h7]at A;subst A;exact zW
 rw[iN (by rw[h7];exact aO)]at A;rw[<-O Sp.Call default U b,<-O Sp.Call default F a]at A;refine vS ?_;try simp only[hF,hT]
 try refine Chk.mk (ZH) ?_
 refine⟨λZ=>?_,λZ=>?_⟩
 ·have Z:=iW Z;rw[iP Z]at A;subst A;exact zW
 rw[iN (iX Z)]at A;clear Z h7 J;refine wS ?_;refine ZG false false [] [4,79,80,81] [] (λ(i:Nat)=>[(81,.int .i64 λ_=>i)]) (λ_=>[]) (λi=>i<=G.length/\G.any (λx=>decide (x.feeder=w.feeder/\x.train=w.train/\x.station=w.station))=(G.drop i).any (λx=>decide (x.feeder=w.feeder/\x.train=w.train/\x.station=w.station))) (λi=>G.length-i+0) 0 ⟨aT _,by simp⟩ ?_ ?_
 ·exact ZB
 rintro i ⟨hi,S⟩;refine wS ?_;refine⟨λY=>?_,λY=>?_⟩
 ·have Y:=iW Y;have hd:=Qs (d:=default) O (l:=G) (i:=i) (by omega);rw[hd,eQ]at S;generalize hx:nt Sp.QH default G i=x at*;refine vS ?_;try simp only[hx]
  try refine Chk.mk (ZH) ?_
  have he:(bif (bif x.feeder==w.feeder then x.train==w.train else false)then x.station==w.station else false)=decide (x.feeder=w.feeder/\x.train=w.train/\x.station=w.station):=by
   by_cases e1:x.feeder=w.feeder<;>by_cases e2:x.train=w.train<;>by_cases e3:x.station=w.station<;>simp[e1,e2,e3]
  refine⟨λh9=>?_,λh9=>?_⟩
  ·rw[he]at h9;rw[h9,cS]at S;rw[S,iP rfl]at A;subst A;exact zW
  rw[he]at h9;rw[h9,bZ]at S;refine wS ?_;refine⟨i+1,⟨by omega,S⟩,by show G.length-(i+1)+0<G.length-i+0;omega,?_⟩;exact ZB
 have Y:=iX Y;rw[bB (by omega)]at S;rw[S,fJ,iN aO]at A;subst A;exact zW
theorem Zyh (c:List (List Sp.Call)) (d:Sp.ZR) (S:List Sp.ZR) (hc:Jg c) (I:S.length<=1000000) (hd:d.by_.length<=1000000):SC (λ_=>aB) 134 [lst 1 Zc [] c,.agg (Zp d),lst 3 Zp default S] [] λv h=>v= .int .i64 (λ_=>Ql c d S)/\h=[]:=by
 obtain⟨H,O⟩:=Zm;rw[ZaN O,Za O (enc:=Zp),show AV.agg (Zp d)= .agg [.int .i64 λ_=>d.run,.int .i64 λ_=>d.leg,.isl 1 (λ_=>(d.by_.length:Int)) (λe=>QO (H Int 0 d.by_ (e ()))) .none] by unfold Zp;rw[Za O]];refine Qq Tryz.func134 (body:=Zj Tryz.f134) rfl (by decide+kernel) ?_;have ae:=hc.len;have k1:=Zdy d.run 0 (c.length-1);have aa:∀i:Int,0<=i->i<=(c.length:Int)-1->H (List Sp.Call) [] c i∈c:=λi h0 J=>by
  have:i.toNat<c.length:=by omega
  rw[O,aA,aD this];exact bM _
 generalize A:Ql c d S=e;unfold Ql at A;rw[<-O (List Sp.Call) [] c d.run]at A;refine wS ?_;refine Zri (k1) ?_;refine wS ?_;have ab:(!Qw d.run 0 ((c.length:Int)-1))=true->(0<=d.run/\d.run<c.length)/\((H (List Sp.Call) [] c d.run).length:Int)<=4:=λh=>by
  have b:=QE (nb2 h);have:=(hc.row _ (aa _ b.1 b.2)).2;omega
 refine Chk.mk ?_ ?_
 ·simp only[nc,Xx,Xw,XM,Xv,Cn.p,and_true,true_and];(repeat' (first|apply And.intro|intro _))<;>first|assumption|(have:=ab (by assumption);omega)
 refine⟨λJ=>?_,λJ=>?_⟩;case refine_2=>
  have J:=nb4 J;rw[J,cS,iP rfl]at A;subst A;refine wS ?_;refine Br.isT rfl ?_;exact zW
 have J:=nb2 J;rw[J,bZ]at A;have b1:=QE J;have m1:=aa _ b1.1 b1.2;have r1:=hc.row _ m1;clear ab;have k2:=Zdy d.leg 0 ((H (List Sp.Call) [] c d.run).length-2);refine wS ?_;refine Zri (k2) ?_;refine wS ?_;refine⟨λV=>?_,λV=>?_⟩
 ·rw[J]at V;have V:Qw d.leg 0 ((H (List Sp.Call) [] c d.run).length-2)=true:=V;rw[iP V]at A;subst A;exact zW
 rw[J]at V;have V:Qw d.leg 0 ((H (List Sp.Call) [] c d.run).length-2)=false:=V;rw[iN (by rw[V];exact aO)]at A;refine wS ?_;refine⟨λZ=>?_,λZ=>?_⟩
 ·have Z:=eq_of_beq Z;rw[iP (by omega)]at A;subst A;exact zW
 have Z:=ne_of_beq_false Z;rw[iN (by omega)]at A;refine wS ?_;refine⟨λY=>?_,λY=>?_⟩
 ·have Y:=iW Y;rw[iP (by omega)]at A;subst A;exact zW
 have Y:=iX Y;rw[iN (by omega)]at A;clear J V k1 k2;refine wS ?_;refine ZG false false [] [2,4,41,42,43] [] (λ(i:Nat)=>[(43,.int .i64 λ_=>i)]) (λ_=>[]) (λi=>i<=d.by_.length/\Zo (Zd9 d.by_) 0 d.by_.length=Zo (Zd9 d.by_) i (d.by_.length-i)) (λi=>d.by_.length-i+0) 0 ⟨aT _,by simp⟩ ?_ ?_
 ·exact ZB
 rintro i ⟨hi,G⟩;refine wS ?_;refine⟨λI=>?_,λI=>?_⟩
 ·have I:=iW I;rw[Qp (by omega)]at G;have U:Zd9 d.by_ i=if Qw (H Int 0 d.by_ i) 0 240 then 1 else if 0<i/\H Int 0 d.by_ i<=H Int 0 d.by_ ((i:Int)-1)then 5 else 0:=by
   unfold Zd9;rw[XL O];by_cases h0:0<i
   ·rw[XL O,show((i-1:Nat):Int)=(i:Int)-1 by omega]
   simp[h0]
  have k3:=Zdy (H Int 0 d.by_ i) 0 240;refine wS ?_;refine Zri (k3) ?_;refine wS ?_;refine⟨λh5=>?_,λh5=>?_⟩
  ·rw[iP h5]at U;rw[U,iP (by decide)]at G;rw[G,iP (by decide)]at A;subst A;exact zW
  rw[iN (by rw[h5];exact aO)]at U;refine vS ?_;refine Chk.mk ?_ ?_
  ·simp only[nc,Xx,Xw,XM,Xv,Cn.p,and_true,true_and,iU];(repeat' (first|apply And.intro|intro _))<;>first|assumption|omega
  have he:(bif decide (0<(i:Int))then decide (H Int 0 d.by_ i<=H Int 0 d.by_ ((i:Int)-1))else false)=decide (0<i/\H Int 0 d.by_ i<=H Int 0 d.by_ ((i:Int)-1)):=by
   by_cases e1:0<i
   ·have:(0:Int)<i:=by omega
    simp[e1,this]
   have:¬(0:Int)<i:=by omega
   simp[e1,this]
  refine⟨λh6=>?_,λh6=>?_⟩
  ·rw[he]at h6;rw[iP (iW h6)]at U;rw[U,iP (by decide)]at G;rw[G,iP (by decide)]at A;subst A;exact zW
  rw[he]at h6;rw[iN (iX h6)]at U;rw[U,iN (λh=>h rfl)]at G;refine wS ?_;refine⟨i+1,⟨by omega,G⟩,by show d.by_.length-(i+1)+0<d.by_.length-i+0;omega,?_⟩;exact ZB
 have I:=iX I;rw[QF (by omega)]at G;rw[G,iN (λh=>h rfl)]at A;refine wS ?_;refine ZG false false [] [4,65,66,67] [] (λ(i:Nat)=>[(67,.int .i64 λ_=>i)]) (λ_=>[]) (λi=>i<=S.length/\S.any (λx=>decide (x.run=d.run/\x.leg=d.leg))=(S.drop i).any (λx=>decide (x.run=d.run/\x.leg=d.leg))) (λi=>S.length-i+0) 0 ⟨aT _,by simp⟩ ?_ ?_
 ·exact ZB
 rintro i ⟨hi,G⟩;refine wS ?_;refine⟨λI=>?_,λI=>?_⟩
 ·have I:=iW I;have ac:=Qs (d:=default) O (l:=S) (i:=i) (by omega);rw[ac,eQ]at G;generalize hx:H Sp.ZR default S i=x at*;refine vS ?_;try simp only[hx]
  try refine Chk.mk (ZH) ?_
  have he:(bif x.run==d.run then x.leg==d.leg else false)=decide (x.run=d.run/\x.leg=d.leg):=by
   by_cases e1:x.run=d.run<;>by_cases e2:x.leg=d.leg<;>simp[e1,e2]
  refine⟨λh9=>?_,λh9=>?_⟩
  ·rw[he]at h9;rw[h9,cS]at G;rw[G,iP rfl]at A;subst A;exact zW
  rw[he]at h9;rw[h9,bZ]at G;refine wS ?_;refine⟨i+1,⟨by omega,G⟩,by show S.length-(i+1)+0<S.length-i+0;omega,?_⟩;exact ZB
 have I:=iX I;rw[bB (by omega)]at G;rw[G,fJ,iN aO]at A;subst A;exact zW
set_option maxHeartbeats 8000000
structure Qe (t:Zb):Prop where
 book:Xk t.book
 runs:t.runs.length<=1000000
 waits:t.waits.length<=1000000
 delays:t.delays.length<=1000000
 bys:∀d∈t.delays,d.by_.length<=1000000
def ZZ (t:Zb):List AV:=[lst 2 encZone default t.book.zones,lst 3 encTrain default t.book.old,lst 3 encTrain default t.book.new,.int .i64 λ_=>t.book.night,.int .i64 λ_=>t.book.last,
 lst 2 Zk default t.runs,lst 4 Qz default t.waits,lst 3 Zp default t.delays,lst 1 Zc [] (callsOf t)]
def QY (e:Int) (t:Zb):AV:=if e=0 then .iptr (ZZ t) 0 else .nilptr
theorem Zbj {t:Zb} (h:Q5 t=0):Jg (callsOf t):=by
 unfold Q5 at h;split at h
 ·cases h
 split at h
 ·cases h
 have I:=Qi h;refine⟨by unfold callsOf;rw[aX];omega,λl A=>?_⟩;obtain⟨r,hr,rfl⟩:=bC.1 A;obtain⟨j,S,H⟩:=Zah (d:=default) hr;have G:=I j (by omega) (by omega);have A:=ZdN t.book r.number r.day;unfold JM at G;rw[show t.runs.getD j default=r from H]at G;split at G
 ·exact absurd G (by assumption)
 rename_i J;exact⟨A.2 (bQ J),A.1⟩
theorem Ztn (t:Zb) (hf:Qe t):SC (λ_=>aB) 80 [Zf t] [] λv h=>v= .tup [QY (Zn t) t,.int .i64 λ_=>Zn t]/\h=[]:=by
 obtain⟨nt,O⟩:=Zm;refine SC.less (Qq Tryz.func80 (body:=Zj Tryz.f80) rfl (by decide+kernel) ?_);have aa:=c28 t.book hf.book;have Z:=Zyj t hf.book hf.runs;obtain⟨P,G⟩:∃P,P=QY (Zn t) t:=⟨_,rfl⟩;rw[<-G];generalize H:Zn t=e at*;unfold Zn at H;unfold Zf at*;unfold Zd at aa;simp only[Za O]at aa Z|-;refine wS ?_;refine ZN (aa) (by first|rfl|(simp only[Ze,Zd,Zf,Zc,Za O];rfl)) λr V A=>?_;(try simp only[Ze,Zd,Zf,Zc,Za O]at A);obtain⟨rfl,rfl⟩:=A;generalize Sp.Yl t.book=e1 at*;refine wS ?_;refine⟨λY=>?_,λY=>?_⟩
 ·have Y:e1≠0:=by simpa only[bne_iff_ne]using Y
  rw[iP Y]at H;subst H;unfold QY at G;rw[iN Y]at G;subst G;refine wS ?_;refine⟨_,[],?_,rfl,rfl⟩;exact ZB
 case refine_2=>
  have Y:e1=0:=by simpa only[iC]using Y
  rw[iN (by omega)]at H;have ab:= @Zbj t;refine wS ?_;refine ZN (Z) (by first|rfl|(simp only[Ze,Zd,Zf,Zc,Za O];rfl)) λr V A=>?_;(try simp only[Ze,Zd,Zf,Zc,Za O]at A);obtain⟨rfl,rfl⟩:=A;generalize Q5 t=e2 at*;refine wS ?_;refine⟨λJ=>?_,λJ=>?_⟩
  ·have J:e2≠0:=by simpa only[bne_iff_ne]using J
   rw[iP J]at H;subst H;unfold QY at G;rw[iN J]at G;subst G;refine wS ?_;refine⟨_,[],?_,rfl,rfl⟩;exact ZB
  have J:e2=0:=by simpa only[iC]using J
  subst J;rw[iN (λh=>h rfl)]at H;have ac:=ab rfl;clear aa Z ab;simp only[if_true];generalize ae:callsOf t=c at*;refine wS ?_;refine⟨λh3=>?_,λh3=>?_⟩
  ·simp only[iU]at h3;rw[iP (by omega)]at H;subst H;unfold QY at G;rw[iN (by decide)]at G;subst G;refine wS ?_;refine⟨_,[],?_,rfl,rfl⟩;exact ZB
  simp only[iV]at h3;rw[iN (by omega)]at H;refine wS ?_;refine ZG false false [] [1,5,32,33,34] [] (λ(i:Nat)=>[(34,.int .i64 λ_=>(i:Int))]) (λ_=>[]) (λi=>i<=t.waits.length/\Zo (λi=>Qc c (t.waits.getD i default) (t.waits.take i)) 0 t.waits.length=Zo (λi=>Qc c (t.waits.getD i default) (t.waits.take i)) i (t.waits.length-i)) (λi=>t.waits.length-i+0) 0 ⟨by omega,rfl⟩ ?_ ?_
  ·exact ZB
  rintro i ⟨hi,A⟩;refine wS ?_;refine⟨λS=>?_,λS=>?_⟩
  ·simp only[iU]at S;rw[Qp (by omega)]at A;have U:Qc c (t.waits.getD i default) (t.waits.take i)=Qc c (nt QH default t.waits i) (t.waits.take i):=by rw[XL O]
   generalize hd:nt QH default t.waits i=d at*;refine vS ?_;simp only[hd];refine Chk.mk (ZH) ?_;refine ZbQ (Zyi c d (t.waits.take i) ac (by have:=hf.waits;simp;omega)) (by(try simp only[Ze,Zd,Zf,Zc,Za O]);exact ZB) (by first|rfl|(simp only[Ze,Zd,Zf,Zc,Za O];rfl)) λr V A=>?_;(try simp only[Ze,Zd,Zf,Zc,Za O]at A);obtain⟨rfl,rfl⟩:=A;refine wS ?_;refine⟨λI=>?_,λI=>?_⟩
   ·simp only[bne_iff_ne,ne_eq]at I;rw[U,iP I]at A;rw[A,iP I]at H;rw[<-H]at G;unfold QY at G;rw[iN I]at G;subst G;subst H;refine wS ?_;refine⟨_,[],?_,rfl,rfl⟩;exact ZB
   simp only[iC]at I;rw[U,iN (λh=>h I)]at A;refine wS ?_;refine⟨i+1,⟨by omega,A⟩,by show t.waits.length-(i+1)+0<t.waits.length-i+0;omega,?_⟩;exact ZB
  simp only[iV]at S;rw[QF (by omega)]at A;rw[A,iN (λh=>h rfl)]at H;clear A S;refine wS ?_;refine⟨λh6=>?_,λh6=>?_⟩
  ·simp only[iU]at h6;rw[iP (by omega)]at H;subst H;unfold QY at G;rw[iN (by decide)]at G;subst G;refine wS ?_;refine⟨_,[],?_,rfl,rfl⟩;exact ZB
  simp only[iV]at h6;rw[iN (by omega)]at H;refine wS ?_;refine ZG false false [] [1,5,55,56,57] [] (λ(i:Nat)=>[(57,.int .i64 λ_=>(i:Int))]) (λ_=>[]) (λi=>i<=t.delays.length/\e=Zo (λi=>Ql c (t.delays.getD i default) (t.delays.take i)) i (t.delays.length-i)) (λi=>t.delays.length-i+0) 0 ⟨by omega,H.symm⟩ ?_ ?_
  ·exact ZB
  rintro i ⟨hi,A⟩;refine wS ?_;refine⟨λS=>?_,λS=>?_⟩
  ·simp only[iU]at S;rw[Qp (by omega)]at A;have U:Ql c (t.delays.getD i default) (t.delays.take i)=Ql c (nt ZR default t.delays i) (t.delays.take i):=by rw[XL O]
   have ah:(nt ZR default t.delays i).by_.length<=1000000:=by
    rw[O,aA,aD (by omega)];exact hf.bys _ (bM _)
   generalize hd:nt ZR default t.delays i=d at*;refine vS ?_;simp only[hd];refine Chk.mk (ZH) ?_;refine ZbQ (Zyh c d (t.delays.take i) ac (by have:=hf.delays;simp;omega) ah) (by(try simp only[Ze,Zd,Zf,Zc,Za O]);exact ZB) (by first|rfl|(simp only[Ze,Zd,Zf,Zc,Za O];rfl)) λr V A=>?_;(try simp only[Ze,Zd,Zf,Zc,Za O]at A);obtain⟨rfl,rfl⟩:=A;refine wS ?_;refine⟨λI=>?_,λI=>?_⟩
   ·simp only[bne_iff_ne,ne_eq]at I;rw[U,iP I]at A;rw[A]at G;unfold QY at G;rw[iN I]at G;subst G;subst A;refine wS ?_;refine⟨_,[],?_,rfl,rfl⟩;exact ZB
   simp only[iC]at I;rw[U,iN (λh=>h I)]at A;refine wS ?_;refine⟨i+1,⟨by omega,A⟩,by show t.delays.length-(i+1)+0<t.delays.length-i+0;omega,?_⟩;exact ZB
  simp only[iV]at S;rw[QF (by omega)]at A;subst A;unfold QY at G;rw[iP rfl]at G;subst G;refine wS ?_;unfold ZZ;simp only[ae,Za O,Zc];refine⟨_,[],?_,rfl,rfl⟩;exact ZB
end Vm
namespace Vm
open Go Go.Proofs Sp
set_option maxRecDepth 100000
set_option maxHeartbeats 800000
def X1 (s:Int):Zh:=.cells [.int .u64 λ_=>s]
theorem ZoH (n:Int):0<=IntKind.u64.wrap n/\IntKind.u64.wrap n<18446744073709551616:=by
 have h:IntKind.u64.wrap n=n%18446744073709551616:=by
  simp[IntKind.wrap,IntKind.signed,IntKind.bits]
 omega
theorem c60 (s:Int):SC (λ_=>aB) 79 [.ptr 0 0] [X1 s] λr h=>∃x A:Int,(0<=x/\x<18446744073709551616)/\r= .int .u64 (λ_=>x)/\h=[X1 A]:=by
 refine Qq Tryz.func79 (body:=Zj Tryz.f79) rfl (by decide+kernel) ?_;(cbv;(try simp only[nc]at*);(try refine Chk.mk (ZH) ?_));exact⟨_,_,ZoH _,rfl,rfl⟩
theorem ZuW (x m:Int) (J:0<=x/\x<18446744073709551616) (I:1<=m) (H:m<=1000000000):
  0<=(x.fdiv (2^ min (fy 13) IntKind.u64.bits)).tmod (IntKind.u64.wrap (m+1))/\(x.fdiv (2^ min (fy 13) IntKind.u64.bits)).tmod (IntKind.u64.wrap (m+1))<=m/\IntKind.u64.wrap (m+1)≠0:=by
 have hw:IntKind.u64.wrap (m+1)=m+1:=by
  have h:∀n,IntKind.u64.wrap n=n%18446744073709551616:=λn=>by simp[IntKind.wrap,IntKind.signed,IntKind.bits]
  rw[h];omega
 rw[hw];have G:(2:Int)^ min (fy 13) IntKind.u64.bits=8192:=by decide
 rw[G];have A:0<=x.fdiv 8192:=by rw[Int.fdiv_eq_ediv_of_nonneg _ (by omega)];omega
 rw[Int.tmod_eq_emod_of_nonneg A];have:=Int.emod_nonneg (x.fdiv 8192) (show m+1≠0 by omega);have:=Int.emod_lt_of_pos (x.fdiv 8192) (show 0<m+1 by omega);omega
theorem c17 (s m:Int) (hm:m<=1000000000):SC (λ_=>aB) 21 [.ptr 0 0,.int .i64 λ_=>m] [X1 s] λr h=>∃x A:Int,(0<=x/\(x<=m\/x=0))/\r= .int .i64 (λ_=>x)/\h=[X1 A]:=by
 refine Qq Tryz.func21 (body:=Zj Tryz.f21) rfl (by decide+kernel) ?_;cbv;refine⟨λG=>?_,λG=>?_⟩
 ·(cbv;(try simp only[nc]at*);(try refine Chk.mk (ZH) ?_))
  exact⟨0,s,⟨by omega,.inr rfl⟩,rfl,rfl⟩
 simp only[iV]at G;(cbv;(try simp only[nc]at*);(try refine Chk.mk (ZH) ?_));refine ZU [0] (c60 s) (by decide) (by simp) rfl rfl λr I H=>?_;obtain⟨x,A,J,rfl,rfl⟩:=H;have hv:=ZuW x m J (by omega) (by omega);(cbv;try simp only[nc]at*);generalize (x.fdiv (2^ min (fy 13) IntKind.u64.bits)).tmod (IntKind.u64.wrap (m+1))=y at*;generalize IntKind.u64.wrap (m+1)=z at*;refine Chk.mk (ZH) ?_;exact⟨y,A,⟨by omega,.inl (by omega)⟩,rfl,rfl⟩
theorem c22 (s l m:Int) (I:-1000000000<=l/\l<=1000000000) (hm:m-l<=1000000000/\-1000000000<=m):SC (λ_=>aB) 48 [.ptr 0 0,.int .i64 λ_=>l,.int .i64 λ_=>m] [X1 s] λr h=>∃x A:Int,(l<=x/\(x<=m\/x=l))/\r= .int .i64 (λ_=>x)/\h=[X1 A]:=by
 refine Qq Tryz.func48 (body:=Zj Tryz.f48) rfl (by decide+kernel) ?_;(cbv;(try simp only[nc]at*);(try refine Chk.mk (ZH) ?_));refine ZU [0] (c17 s (m-l) (by omega)) (by decide) (by simp) rfl rfl λr H G=>?_;obtain⟨x,A,J,rfl,rfl⟩:=G;(cbv;(try simp only[nc]at*);(try refine Chk.mk (ZH) ?_));exact⟨l+x,A,by omega,rfl,rfl⟩
theorem c37 (s n m:Int) (hm:0<=m/\m<=1000000000):SC (λ_=>aB) 72 [.ptr 0 0,.int .i64 λ_=>n,.int .i64 λ_=>m] [X1 s] λr h=>∃(b:Bool) (A:Int),r= .bool (λ_=>b)/\h=[X1 A]:=by
 refine Qq Tryz.func72 (body:=Zj Tryz.f72) rfl (by decide+kernel) ?_;(cbv;(try simp only[nc]at*);(try refine Chk.mk (ZH) ?_));refine ZU [0] (c17 s (m-1) (by omega)) (by decide) (by simp) rfl rfl λr H G=>?_;obtain⟨x,A,I,rfl,rfl⟩:=G;(cbv;(try simp only[nc]at*);(try refine Chk.mk (ZH) ?_));exact⟨_,A,rfl,rfl⟩
theorem c81 (s:Int) (l:List Int) (J:0<l.length/\l.length<=1000000):SC (λ_=>aB) 57 [.ptr 0 0,lst 1 QO 0 l] [X1 s] λr h=>∃x A:Int,x∈l/\r= .int .i64 (λ_=>x)/\h=[X1 A]:=by
 obtain⟨S,O⟩:=Zm;rw[Za O];refine Qq Tryz.func57 (body:=Zj Tryz.f57) rfl (by decide+kernel) ?_;cbv;refine⟨λG=>?_,λG=>?_⟩
 ·simp only[nc,beq_iff_eq]at G;omega
 (cbv;(try simp only[nc]at*);(try refine Chk.mk (ZH) ?_))
 refine ZU [0] (c17 s ((l.length:Int)-1) (by omega)) (by decide) (by simp) rfl rfl λr I H=>?_;obtain⟨x,A,U,rfl,rfl⟩:=H;(cbv;(try simp only[nc]at*);(try refine Chk.mk (ZH) ?_));obtain⟨i,rfl⟩:∃i:Nat,x=i:=⟨x.toNat,by omega⟩;exact⟨_,A,Qr O (by omega),rfl,rfl⟩
theorem c14 (l:List Int) (I:(l.length:Int)<=9223372036854775807):SC (λ_=>aB) 18 [lst 1 QO 0 l] [] λr h=>∃s:Int,r= .ptr 0 0/\h=[X1 s]:=by
 obtain⟨H,O⟩:=Zm;rw[Za O];refine Zx4 true false Tryz.func18 (body:=Zj Tryz.f18) rfl (by decide+kernel) ?_;(cbv;(try simp only[nc]at*);(try refine Chk.mk (ZH) ?_));refine ZwO true false [0,3,4] (λ(⟨i,s⟩:Nat×Int)=>mkS 41 [(0,.isl 1 (λ_=>(l.length:Int)) (λe=>QO (H Int 0 l (e ()))) .none),(3,.ptr 0 0),(4,.int .i64 λ_=>(i:Int))])
  (λ⟨i,s⟩=>[X1 s]) (λ⟨i,s⟩=>i<=l.length) (λi=>l.length-i.1+0) (0,11400714819323198485) 1 (λ_=>rfl) (aT _) (To.of [] ?_) ?_
 ·cbv
  exact⟨⟨.refl _,.refl _,.int rfl,trivial⟩,.refl _,trivial⟩
 rintro⟨i,s⟩ G;have G:i<=l.length:=G;(cbv;(try simp only[nc]at*);(try refine Chk.mk (ZH) ?_));refine⟨λA=>?_,λA=>?_⟩
 ·simp only[iU]at A;(cbv;(try simp only[nc]at*);(try refine Chk.mk (ZH) ?_))
  exact⟨(i+1,_),(by omega:i+1<=l.length),by show l.length-(i+1)+0<l.length-i+0;omega,To.of [] (by
   cbv
   exact⟨⟨.refl _,.refl _,.int rfl,trivial⟩,.refl _,trivial⟩)⟩
 (cbv;(try simp only[nc]at*);(try refine Chk.mk (ZH) ?_))
 exact⟨s,rfl,rfl⟩
attribute [local irreducible] Dn
def ZrF (n:Int):Prop:=n=60\/n=-60\/n=30\/n=-90\/(1<=n/\n<=20)
structure Zrp (k:Int) (z:Sp.Zone):Prop where
 base:-120<=z.base/\z.base<=120
 len:(z.chs.length:Int)<=k\/z.chs.length=0
 asc:z.chs.Pairwise λa b=>a.at_<b.at_
 at_:∀c∈z.chs,0<=c.at_/\c.at_<=1500+2000*((z.chs.length:Int)-1)
 by_:∀c∈z.chs,ZrF c.by_
theorem ZsZ {α:Type} {n k sz:Nat} (enc:α->List AV) (d:α) (l:List α):Zz n k (ZgR sz (l.map enc)) (lst sz enc d l):=
 .none (by simp) λi A=>by
  have A:i<l.length:=by simpa using A
  show(l.map enc).getD i _=enc (l.getD i d);simp[aA,aD A]
theorem ZkU (s:Int) (l:List Int) (A:0<l.length/\l.length<=1000000):SC (λ_=>aB) 57 [.ptr 0 0,ZgR 1 (l.map QO)] [X1 s] λr h=>∃x G:Int,x∈l/\r= .int .i64 (λ_=>x)/\h=[X1 G]:=
 SC.to (xs₂:=[.ptr 0 0,lst 1 QO 0 l]) (h₂:=[X1 s]) (To.of [] ⟨⟨.refl _,ZsZ QO 0 l,trivial⟩,.refl _,trivial⟩) (c81 s l A)
theorem c29 (s k:Int) (hk:k<=10):SC (λ_=>aB) 73 [.ptr 0 0,.int .i64 λ_=>k] [X1 s] λr h=>∃(z:Sp.Zone) (Y:Int),Zrp k z/\r=Ze z/\h=[X1 Y]:=by
 obtain⟨nt,O⟩:=Zm;refine SC.less (Qq Tryz.func73 (body:=Zj Tryz.f73) rfl (by decide+kernel) ?_);refine wS ?_;refine ZU [0] (c22 s (-4) 4 (by omega) (by omega)) (by decide) (by simp) rfl rfl λr G H=>?_;obtain⟨b,S,I,rfl,rfl⟩:=H;refine wS ?_;refine ZU [0] (c17 S 1500 (by omega)) (by decide) (by simp) rfl rfl λr G H=>?_;obtain⟨a,s2,ha,rfl,rfl⟩:=H;refine wS ?_;refine ZU [0] (c17 s2 k (by omega)) (by decide) (by simp) rfl rfl λr G H=>?_;obtain⟨n,s3,hn,rfl,rfl⟩:=H;refine wS ?_;refine Zkl [0,4,5,6,7] (λ(⟨i,t,s,l⟩:Int×Int×Int×List Chg)=>mkS 43 [(0,.ptr 0 0),(4,.ptr 1 0),(5,.ptr 2 0),(6,.int .i64 λ_=>t),(7,.int .i64 λ_=>i)])
  (λ⟨i,t,s,l⟩=>[X1 s,.cells [.int .i64 λ_=>0,.isl 0 (λ_=>0) (λ_=>[]) .nil],.cells [.int .i64 λ_=>30*b,.isl 2 (λ_=>(l.length:Int)) (λe=>Jo (nt Chg default l (e ()))) (.own 3)],.tok 2 λ_=>(l.length:Int)])
  (λ⟨i,t,s,l⟩=>0<=i/\(l.length+i<=k\/(l.length:Int)+i=0)/\0<=t/\t<=1500+2000*(l.length:Int)/\l.Pairwise (λa b=>a.at_<b.at_)/\(∀c∈l,0<=c.at_/\c.at_<t/\c.at_<=1500+2000*((l.length:Int)-1))/\∀c∈l,ZrF c.by_)
  (λi=>i.1.toNat+0) (n,a,s3,[]) 4 (λ_=>rfl) ⟨by omega,by simp;omega,by omega,by simp;omega,.nil,by simp,by simp⟩ (To.of [(2,false)] ?_) ?_
 ·cbv
  exact⟨⟨.refl _,.refl _,.refl _,.refl _,.refl _,trivial⟩,.refl _,.refl _,.cells ⟨.refl _,.nilOwn (by decide) (by decide) rfl,trivial⟩,.tok rfl,trivial⟩
 rintro⟨i,t,s,l⟩ ⟨hi,hlen,ht0,ht,hpw,hat,hby⟩;refine wS ?_;refine⟨λI=>?_,λI=>?_⟩
 ·simp only[gt_iff_lt,iU]at I;refine wS ?_;refine ZU [0] (c22 s 1 20 (by omega) (by omega)) (by decide) (by simp) rfl rfl λr G H=>?_;obtain⟨x,S,hx,rfl,rfl⟩:=H;refine wS ?_;refine ZU [0] (ZkU S [60,-60,30,-90,x] (by simp)) (by decide) (by simp) rfl rfl λr G H=>?_;obtain⟨y,s2,Z,rfl,rfl⟩:=H;refine wS ?_;refine ZU [0] (c22 s2 1 40 (by omega) (by omega)) (by decide) (by simp) rfl rfl λr G H=>?_;obtain⟨u,s3,hu,rfl,rfl⟩:=H;refine wS ?_;refine ZU [0] (c22 s3 100 2000 (by omega) (by omega)) (by decide) (by simp) rfl rfl λr G H=>?_;obtain⟨v,s4,hv,rfl,rfl⟩:=H;refine wS ?_;refine ZU [0] (ZkU s4 [u,v] (by simp)) (by decide) (by simp) rfl rfl λr G H=>?_;obtain⟨q,s5,V,rfl,rfl⟩:=H;have V:1<=q/\q<=2000:=by simp at V;omega
  refine wS ?_;have J:((l++[(⟨t,y⟩:Chg)]).length:Int)=l.length+1:=by simp
  refine⟨(i-1,t+q,s5,l++[⟨t,y⟩]),⟨by dsimp only;omega,by dsimp only;omega,by dsimp only;omega,by dsimp only;omega,?_,?_,?_⟩,by show(i-1).toNat+0<i.toNat+0;omega,To.of [] ?_⟩
  ·refine List.pairwise_append.2 ⟨hpw,List.pairwise_singleton _ _,λc A d U=>?_⟩;simp only[aN]at U;subst U;exact(hat c A).2.1
  ·intro c A;rw[J];dsimp only;rcases cP.1 A with A|A
   ·have:=hat c A;omega
   simp only[aN]at A;subst A;dsimp only;omega
  ·intro c A;rcases cP.1 A with A|A
   ·exact hby c A
   simp only[aN]at A;subst A;simp at Z;unfold ZrF;dsimp only;omega
  cbv
  exact⟨⟨.refl _,.refl _,.refl _,.refl _,.refl _,trivial⟩,.refl _,.refl _,.cells ⟨.refl _,.snoc O rfl rfl rfl,trivial⟩,.tok (by simp),trivial⟩
 simp only[iV]at I;refine wS ?_;exact⟨Ze ⟨30*b,l⟩,[X1 s],To.of [] ⟨⟨.agg ⟨.refl _,.lst O rfl,trivial⟩,trivial⟩,.refl _,trivial⟩,⟨30*b,l⟩,_,⟨by dsimp only;omega,by dsimp only;omega,hpw,λc A=>by have:=hat c A;dsimp only;omega,hby⟩,rfl,rfl⟩
set_option maxHeartbeats 1600000
structure Zix (n:Nat) (L:List Int):Prop where
 len:L.length=n
 bd:∀i,i<n->0<=L.getD i 0/\L.getD i 0<n
 inj:∀i j,i<n->j<n->L.getD i 0=L.getD j 0->i=j
theorem ZcF {L:List Int} {i k:Nat} (hi:i<L.length) (A:k<L.length) (x:Nat):((L.set i (L.getD k 0)).set k (L.getD i 0)).getD x 0=L.getD (if x=k then i else if x=i then k else x) 0:=by
 simp only[aA,bR,bP];by_cases h1:x=k
 ·subst h1;simp[A]
 rw[iN (Ne.symm h1),iN h1];by_cases h2:x=i
 ·subst h2;simp[hi]
 rw[iN (Ne.symm h2),iN h2]
theorem Zix.swap {n:Nat} {L:List Int} (h:Zix n L) {i k:Nat} (hi:i<n) (H:k<n):Zix n ((L.set i (L.getD k 0)).set k (L.getD i 0)):=by
 have A:=h.len;refine⟨by simpa using A,λx G=>?_,λx y G I e=>?_⟩
 ·rw[ZcF (by omega) (by omega)];exact h.bd _ (by split<;>(try split)<;>omega)
 rw[ZcF (by omega) (by omega),ZcF (by omega) (by omega)]at e;have:=h.inj _ _ (by split<;>(try split)<;>omega) (by split<;>(try split)<;>omega) e;split at this<;>split at this<;>(try split at this)<;>(try split at this)<;>omega
theorem ZsA {A:(α:Type)->α->List α->Int->α} (O:∀(α:Type) (d:α) (l:List α) (i:Int),A α d l i=l.getD i.toNat d) {L:List Int} {i x:Nat} {v:Int} (hi:i<L.length):(bif decide ((x:Int)=0+(i:Int))then v else A Int 0 L (x:Int))=A Int 0 (L.set i v) (x:Int):=by
 rw[O,O];simp only[aV,aA,bR];by_cases h:i=x
 ·subst h;rw[iZ (by omega)];simp[hi]
 rw[iY (by omega),iN h];rfl
theorem Zp4 {A:(α:Type)->α->List α->Int->α} (O:∀(α:Type) (d:α) (l:List α) (i:Int),A α d l i=l.getD i.toNat d) {L:List Int} {i k x:Nat} {p q:Int} (hi:i<L.length) (H:k<L.length) (G:p=i) (I:q=k):
  (bif decide ((x:Int)=0+q)then A Int 0 L (0+p)else bif decide ((x:Int)=0+p)then A Int 0 L (0+q)else A Int 0 L (x:Int))=A Int 0 ((L.set i (L.getD k 0)).set k (L.getD i 0)) (x:Int):=by
 subst G I;simp only[O,aV,iL];rw[ZcF hi H];by_cases h1:x=k
 ·rw[iZ (by omega),iP h1];rfl
 rw[iY (by omega),iN h1];by_cases h2:x=i
 ·rw[iZ (by omega),iP h2];rfl
 rw[iY (by omega),iN h2];rfl
theorem Zy0 (s:Int) (n:Nat) (hn:n<=1000):SC (λ_=>aB) 127 [.ptr 0 0,.int .i64 λ_=>(n:Int)] [X1 s] λv h=>∃(L:List Int) (U:Int),Zix n L/\v=lst 1 QO 0 L/\h=[X1 U]:=by
 obtain⟨J,O⟩:=Zm;obtain⟨Z,ac,Y⟩:∃Z:List Int,Z.length=n/\∀j:Nat,Z.getD j 0=0:=⟨List.replicate n 0,by simp,λj=>by simp only[aA,List.getElem?_replicate];split<;>rfl⟩;refine SC.less (Qq Tryz.func127 (body:=Zj Tryz.f127) rfl (by decide+kernel) ?_);refine vS ?_;simp only[show¬((n:Int)<0)from by omega,if_false];refine Chk.mk (ZH) ?_;refine ZG false false [] [0,1,5,6] [] (λ(⟨i,L⟩:Nat×List Int)=>[(6,.int .i64 λ_=>i)]) (λ⟨i,L⟩=>[(1,.arr 1 (λ_=>(n:Int)) (λe=>QO (J Int 0 L (e ()))))])
  (λ⟨i,L⟩=>i<=n/\L.length=n/\∀j,j<i->L.getD j 0=(j:Int)) (λi=>n-i.1+0) (0,Z) ⟨aT _,ac,λj G=>by omega⟩ ?_ ?_
 ·refine Ji ?_;refine .arr rfl λx S=>?_;show [AV.int .i64 λ_=>_]=[AV.int .i64 λ_=>_];refine congrArg (λy:Int=>[AV.int .i64 λ_=>y]) ?_;rw[O];exact(Y _).symm
 rintro⟨i,L⟩ ⟨hi,I,G⟩;refine wS ?_;refine⟨λA=>?_,λA=>?_⟩
 ·simp only[iU]at A;have ae:i<L.length:=by omega
  refine wS ?_;refine⟨(i+1,L.set i (i:Int)),⟨by omega,by simpa using I,λj ab=>?_⟩,by show n-(i+1)+0<n-i+0;omega,?_⟩
  ·simp only[aA,bR];by_cases h:i=j
   ·subst h;rw[iP rfl,iP (by omega)];rfl
   rw[iN h,<-aA];exact G j (by omega)
  refine Ji ?_;refine .arr rfl λx S=>?_;show [AV.int .i64 λ_=>_]=[AV.int .i64 λ_=>_];refine congrArg (λy:Int=>[AV.int .i64 λ_=>y]) ?_;exact ZsA O ae
 simp only[iV]at A;have H:Zix n L:=⟨I,λj ab=>by rw[G j (by omega)];omega,λj k h1 h2 e=>by rw[G j (by omega),G k (by omega)]at e;omega⟩;refine wS ?_;clear G I;refine ZG false false [] [0,5,7] [] (λ(⟨i,L,s⟩:Nat×List Int×Int)=>[(7,.int .i64 λ_=>(i:Int)-1)]) (λ⟨i,L,s⟩=>[(0,X1 s),(1,.arr 1 (λ_=>(n:Int)) (λe=>QO (J Int 0 L (e ()))))])
  (λ⟨i,L,s⟩=>i<=n/\Zix n L) (λi=>i.1+0) (n,L,s) ⟨aI _,H⟩ ?_ ?_
 ·exact ZB
 rintro⟨i,L,s⟩ ⟨hi,H⟩;have I:=H.len;refine wS ?_;refine⟨λA=>?_,λA=>?_⟩
 ·simp only[iU]at A;refine wS ?_;refine cL0 [0] (c17 s ((i:Int)-1) (by omega)) λr ah hp=>?_;(try simp only[Ze,Zd,Za O]at hp);obtain⟨x,U,S,rfl,rfl⟩:=hp;refine wS ?_;obtain⟨k,rfl⟩:∃k:Nat,x=k:=⟨x.toNat,by omega⟩;obtain⟨j,rfl⟩:∃j,i=j+1:=⟨i-1,by omega⟩;refine⟨(j,(L.set j (L.getD k 0)).set k (L.getD j 0),U),⟨by omega,H.swap (by omega) (by omega)⟩,by show j+0<j+1+0;omega,?_⟩;have aa:j<L.length:=by omega
  have V:k<L.length:=by omega
  refine Ji ?_;refine .arr rfl λx S=>?_;show [AV.int .i64 λ_=>_]=[AV.int .i64 λ_=>_];refine congrArg (λy:Int=>[AV.int .i64 λ_=>y]) ?_;exact Zp4 O aa V (by omega) rfl
 refine wS ?_;refine⟨lst 1 QO 0 L,[X1 s],?_,L,s,H,rfl,rfl⟩;rw[Za O];refine Ji ?_;refine .none (by omega) λx S=>?_;show QO (J Int 0 L (0+(x:Int)))=QO (J Int 0 L (x:Int));rw[iL]
structure Zis (zones:Int) (stations:Nat) (number:Int) (t:Train):Prop where
 number:t.number=number
 days:1<=t.days/\t.days<=127
 len:2<=t.stops.length/\t.stops.length<=4/\t.stops.length<=stations
 stop:∀s∈t.stops,(0<=s.station/\s.station<stations)/\(0<=s.zone/\s.zone<zones)/\0<=s.arrive/\s.arrive<=s.depart/\s.depart<=4319
 nodup:t.stops.Pairwise λa b=>a.station≠b.station
end Vm
namespace Vm
open Go Go.Proofs Sp
set_option maxRecDepth 100000
set_option maxHeartbeats 1600000
theorem Zis.with {zones n m:Int} {t u:Train} (G:Zis zones 4 n t) (A:Zis zones 4 m u):Zis zones 4 n ⟨t.number,t.days,u.stops⟩:=⟨G.number,G.days,A.len,A.stop,A.nodup⟩
attribute [local irreducible] Dn
set_option maxHeartbeats 800000
theorem c39 (a b:List Int) (Z:a.length<=1000000000):SC (λ_=>aB) 47 [lst 1 QO 0 a,lst 1 QO 0 b] [] λr h=>r= .bool (λ_=>decide (a=b))/\h=[]:=by
 obtain⟨S,O⟩:=Zm;rw[Za O,Za O];refine Qq Tryz.func47 (body:=Zj Tryz.f47) rfl (by decide+kernel) ?_;refine wS ?_;refine⟨λI=>?_,λI=>?_⟩
 ·simp only[bne_iff_ne,ne_eq]at I;refine wS ?_;refine⟨?_,trivial⟩;rw[iY (λh=>I (by rw[h]))]
 simp only[iC]at I;refine wS ?_;refine Zkl [0,1,5] (λi:Nat=>mkS 26 [(0,.isl 1 (λ_=>(a.length:Int)) (λe=>QO (S Int 0 a (e ()))) .none),(1,.isl 1 (λ_=>(b.length:Int)) (λe=>QO (S Int 0 b (e ()))) .none),(5,.int .i64 λ_=>(i:Int))]) (λ_=>[])
  (λi=>i<=a.length/\(a=b↔a.drop i=b.drop i)) (λi=>a.length-i+0) 0 0 (λ_=>rfl) ⟨aT _,by simp⟩ (To.of [] ?_) ?_
 ·cbv
  exact⟨⟨.refl _,.refl _,.int rfl,trivial⟩,trivial⟩
 rintro i ⟨hi,G⟩;refine wS ?_;refine⟨λH=>?_,λH=>?_⟩
 ·simp only[iU]at H;have U:=Qs (d:=(0:Int)) O (l:=a) (i:=i) (by omega);have J:=Qs (d:=(0:Int)) O (l:=b) (i:=i) (by omega);rw[U,J]at G;refine wS ?_;refine⟨λA=>?_,λA=>?_⟩
  ·simp only[bne_iff_ne,ne_eq]at A;refine wS ?_;exact⟨by rw[iY (λh=>A (List.cons.inj (G.1 h)).1)],trivial⟩
  simp only[iC]at A;refine wS ?_;refine⟨i+1,⟨by omega,by rw[G,A];simp⟩,by show a.length-(i+1)+0<a.length-i+0;omega,To.of [] ?_⟩;cbv;exact⟨⟨.refl _,.refl _,.int rfl,trivial⟩,trivial⟩
 simp only[iV]at H;have Y:a.drop i=[]:=bB (by omega);have V:b.drop i=[]:=bB (by omega);rw[Y,V]at G;have G:a=b:=G.2 rfl;subst G;refine wS ?_;exact⟨by simp,trivial⟩
end Vm
namespace Vm
open Go Go.Proofs Sp
set_option maxRecDepth 100000
set_option maxHeartbeats 800000
theorem Zev {z:Zone} (h:Zy z=0):(ZX z).length<=4/\∀p∈ZX z,0<=p.fr/\p.fr<=43200/\0<=p.bef/\p.bef<=1099511627776/\-1000000<=p.ahd/\p.ahd<=1000000:=by
 have Z:=ZaZ h;have hl:=Za6 z.chs 0 z.base;have U:z.chs.length<=3:=by
  unfold Zy at h;split at h
  ·cases h
  split at h
  ·cases h
  omega
 have V:∀c∈z.chs,0<=c.at_/\c.at_<=43200:=by
  unfold Zy at h;split at h
  ·cases h
  split at h
  ·cases h
  have H:∀(l:List Chg) (p:Option Int),Jp p l=0->∀c∈l,0<=c.at_/\c.at_<=43200:=by
   intro l;induction l with
   |nil=>intro p _ c G;cases G
   |cons a l I=>
    intro p A c G;rw[Y2]at A;split at A
    ·cases A
    rename_i U;split at A
    ·cases A
    split at A
    ·cases A
    rcases bG.1 G with rfl|G
    ·simp[Y5]at U;omega
    exact I _ A c G
  exact H _ _ h
 refine⟨by unfold ZX;omega,?_⟩;have H:∀(l:List Chg) (fr a:Int),(∀c∈l,0<=c.at_/\c.at_<=43200)->0<=fr/\fr<=43200->∀p∈Q7 fr a l,0<=p.fr/\p.fr<=43200/\0<=p.bef/\p.bef<=1099511627776:=by
  intro l;induction l with
  |nil=>intro fr a _ Y p A;simp[Q7,XJ]at A;subst A;simp;omega
  |cons c l I=>
   intro fr a G Y p A;have J:=G c (aW ..);simp only[Q7]at A;split at A
   ·rcases bG.1 A with rfl|A
    ·simp;omega
    exact I _ _ (λx S=>G x (aS _ S)) J p A
   exact I _ _ (λx S=>G x (aS _ S)) J p A
 intro p A;have J:=H z.chs 0 z.base V (by omega) p A;have h2:=(JV Z).2.2 p A;omega
def sl (s:Nat) (A:List (List AV)):AV:=.isl s (λ_=>(A.length:Int)) (λe=>A.getD (e ()).toNat (A.headD [])) .none
set_option maxHeartbeats 4000000
set_option maxHeartbeats 800000
open Sp
set_option maxHeartbeats 1600000
theorem nb5 {a b:Bool} (A:a=true) (G:b=true):(bif a then b else false)=true:=by rw[A,G];rfl
theorem nb6 {a b:Bool} (A:a=false) (G:b=false):(bif a then true else b)=false:=by rw[A,G];rfl
theorem c72 (n a b:Int):SC (λ_=>aB) 141 [.int .i64 λ_=>n,.int .i64 λ_=>a,.int .i64 λ_=>b] [] λr h=>r= .bool (λ_=>Y5 n a b)/\h=[]:=by
 refine Qq Tryz.func141 (body:=Zj Tryz.f141) rfl (by decide+kernel) ?_;cbv;try simp only[nc]at*
 refine⟨by simp[Xx,Xw,XM,Xv,Cn.p],?_,trivial⟩;congr 1;funext _;unfold Y5;cases decide (a<=n)<;>rfl
theorem c70 (z:Zone) (ae:z.chs.length<=1000000):SC (λ_=>aB) 139 [Ze z] [] λv h=>v= .int .i64 (λ_=>Zy z)/\h=[]:=by
 obtain⟨G,O⟩:=Zm;unfold Ze Zy;rw[Za O];refine Qq Tryz.func139 (body:=Zj Tryz.f139) rfl (by decide+kernel) ?_;(cbv;(try simp only[nc]at*);(try refine Chk.mk (ZH) ?_));refine ZN (c72 z.base (-720) 720) (by first|rfl|(simp only[Ze,Za O];rfl)) λr I A=>?_;(try simp only[Ze,Za O]at A);obtain⟨rfl,rfl⟩:=A;(cbv;(try simp only[nc]at*);(try refine Chk.mk (ZH) ?_));refine⟨λh1=>?_,λh1=>?_⟩
 ·rw[iP h1];exact zW
 rw[iN (by rw[h1];exact aO)];refine⟨λV=>?_,λV=>?_⟩
 ·simp only[iU]at V;rw[iP (by omega)];exact zW
 simp only[iV]at V;rw[iN (by omega)];generalize hC:Jp none z.chs=C at*;(cbv;(try simp only[nc]at*);(try refine Chk.mk (ZH) ?_));refine ZG false false [] [1,3] [] (λ(i:Nat)=>[(3,.int .i64 λ_=>(i:Int))]) (λ_=>[]) (λi=>i<=z.chs.length/\Jp (if i=0 then none else some (G Chg default z.chs ((i:Int)-1)).at_) (z.chs.drop i)=C) (λi=>z.chs.length-i+0) 0 ⟨aT _,by simpa using hC⟩ ?_ ?_
 ·(refine To.of [] ?_;cbv;(try simp only[nc]);(repeat' first|exact xT|refine⟨?_,?_⟩|refine ZK.cells ?_|refine Zz.agg ?_|refine Zz.tup ?_);all_goals try exact XU)
 rintro i ⟨hi,A⟩;(cbv;(try simp only[nc]at*);(try refine Chk.mk (ZH) ?_));refine⟨λY=>?_,λY=>?_⟩
 ·simp only[iU]at Y;have ab:i<z.chs.length:=by omega
  rw[Qs (d:=default) O ab,Y2]at A;have aa:(if i+1=0 then none else some (G Chg default z.chs (((i+1:Nat):Int)-1)).at_)=some (G Chg default z.chs (i:Int)).at_:=by
   rw[iN (by omega)];congr 3;omega
  generalize hc:G Chg default z.chs (i:Int)=c at*;have U:(bif decide (0<(i:Int))then decide (c.at_<=(G Chg default z.chs ((i:Int)-1)).at_)else false)=leP (if i=0 then none else some (G Chg default z.chs ((i:Int)-1)).at_) c.at_:=by
   by_cases h0:i=0
   ·subst h0;rfl
   rw[iN h0,iZ (show 0<(i:Int) by omega)];rfl
  rw[<-U]at A;have k1:=c72 c.at_ 0 43200;have k2:=c72 c.by_ (-180) 180;generalize Y5 c.at_ 0 43200=b1 at*;generalize Y5 c.by_ (-180) 180=S at*;(cbv;try simp only[nc]at*);simp only[hc];refine Chk.mk (ZH) ?_;refine ZN (k1) (by first|rfl|(simp only[Ze,Za O];rfl)) λr I A=>?_;(try simp only[Ze,Za O]at A);obtain⟨rfl,rfl⟩:=A;(cbv;(try simp only[nc]at*);(try refine Chk.mk (ZH) ?_));refine⟨λh3=>?_,λh3=>?_⟩
  ·rw[iP h3]at A;rw[<-A];exact zW
  rw[iN (by rw[h3];exact aO)]at A;(cbv;(try simp only[nc]at*);(try refine Chk.mk (ZH) ?_));refine⟨λZ=>?_,λZ=>?_⟩
  ·rw[iP Z]at A;rw[<-A];exact zW
  rw[iN (by rw[Z];exact aO)]at A;(cbv;(try simp only[nc]at*);(try refine Chk.mk (ZH) ?_));refine ZN (k2) (by first|rfl|(simp only[Ze,Za O];rfl)) λr I A=>?_;(try simp only[Ze,Za O]at A);obtain⟨rfl,rfl⟩:=A;(cbv;(try simp only[nc]at*);(try refine Chk.mk (ZH) ?_));refine⟨λJ=>?_,λJ=>?_⟩
  ·have H:(!S||decide (c.by_=0))=true:=by
    cases S
    ·rfl
    simpa using J
   rw[iP H]at A;rw[<-A];exact zW
  have H:¬(!S||decide (c.by_=0))=true:=by
   cases S
   ·simp at J
   simpa using J
  rw[iN H]at A;(cbv;(try simp only[nc]at*);(try refine Chk.mk (ZH) ?_));refine⟨i+1,⟨by omega,by rw[aa];exact A⟩,by show z.chs.length-(i+1)+0<z.chs.length-i+0;omega,?_⟩;(refine To.of [] ?_;cbv;(try simp only[nc]);(repeat' first|exact xT|refine⟨?_,?_⟩|refine ZK.cells ?_|refine Zz.agg ?_|refine Zz.tup ?_);all_goals try exact XU)
 have ac:z.chs.length<=i:=by simp only[iV]at Y;omega
 rw[bB ac,Zdv]at A;rw[<-A];exact zW
attribute [local irreducible] Dn
def Zj3:Int->List Chg->Int->Int
 |a,[],_=>a
 |a,c::r,k=>Zj3 (if c.at_<=k then a+c.by_ else a) r k
theorem ZmS {k:Int}:∀ {l:List Chg} {a lo:Int},Asc lo l->k<lo->Zj3 a l k=a
 |[],_,_,_,_=>rfl
 |c::r,a,lo,h,hk=>by
  unfold Zj3;rw[iN (by have:=h.1;omega)];exact ZmS h.2 (by have:=h.1;omega)
theorem ZmT {k:Int}:∀ {l:List Chg} {a lo:Int},Asc lo l->Zj3 a l k=af a l k
 |[],_,_,_=>rfl
 |c::r,a,lo,h=>by
  unfold Zj3 af;by_cases hc:c.at_<=k
  ·rw[iP hc,iP hc];exact ZmT h.2
  rw[iN hc,iN hc];exact ZmS h.2 (by omega)
theorem c97 (z:Zone) (t:Int) (hz:Zy z=0):SC (λ_=>aB) 198 [Ze z,.int .i64 λ_=>t] [] λv h=>v= .int .i64 (λ_=>af z.base z.chs t)/\h=[]:=by
 obtain⟨I,O⟩:=Zm;obtain⟨ha,Z,hl,h1,h2⟩:=Zcz hz;rw[<-ZmT (a:=z.base) (k:=t) ha];generalize hR:Zj3 z.base z.chs t=R at*;refine Qq Tryz.func198 (body:=Zj Tryz.f198) rfl (by decide+kernel) ?_;unfold Ze;simp only[Za O];refine wS ?_;refine ZG false false [] [1,2,5,6] [] (λ(⟨i,n⟩:Nat×Int)=>[(5,.int .i64 λ_=>n),(6,.int .i64 λ_=>(i:Int))]) (λ_=>[]) (λ⟨i,n⟩=>i<=z.chs.length/\(-720-180*(i:Int)<=n/\n<=720+180*(i:Int))/\Zj3 n (z.chs.drop i) t=R) (λi=>z.chs.length-i.1+0) (0,z.base) ⟨aT _,by simp;omega,by simpa using hR⟩ ?_ ?_
 ·exact ZB
 rintro⟨i,n⟩ ⟨S,V,A⟩;have S:i<=z.chs.length:=S;have V:-720-180*(i:Int)<=n/\n<=720+180*(i:Int):=V;refine wS ?_;refine⟨λG=>?_,λG=>?_⟩
 ·simp only[iU]at G;have H:i<z.chs.length:=by omega
  rw[Qs (d:=default) O H]at A;have hc:=Z _ (Qr (d:=default) O (l:=z.chs) (i:=i) H);have A:Zj3 (if(I Chg default z.chs (i:Int)).at_<=t then n+(I Chg default z.chs (i:Int)).by_ else n) (z.chs.drop (i+1)) t=R:=A;generalize U:I Chg default z.chs (i:Int)=c at*;refine vS ?_;simp only[U];refine Chk.mk (ZH) ?_;refine⟨λJ=>?_,λJ=>?_⟩
  ·rw[iP (by simpa using J)]at A;refine vS ?_;simp only[U];refine Chk.mk (ZH) ?_;refine⟨(i+1,n+c.by_),⟨by show i+1<=z.chs.length;omega,by dsimp only;omega,A⟩,by show z.chs.length-(i+1)+0<z.chs.length-i+0;omega,?_⟩;exact ZB
  rw[iN (by simpa using J)]at A;refine wS ?_;refine⟨(i+1,n),⟨by show i+1<=z.chs.length;omega,by dsimp only;omega,A⟩,by show z.chs.length-(i+1)+0<z.chs.length-i+0;omega,?_⟩;exact ZB
 have Y:z.chs.length<=i:=by simp only[iV]at G;omega
 rw[bB Y]at A;have A:n=R:=A;rw[<-A];exact zW
def cl (p:Pc):Pc:=if p.bef=XJ then⟨p.fr,-1,p.ahd⟩else p
def Zp5 (z:Zone):List Pc:=(ZX z).map cl
def YA (a:Int) (l:List Chg):Int:=l.foldl (λa c=>a+c.by_) a
theorem Zro:∀(G A:List Chg) (a k:Int),(∀c∈G,c.at_<=k)->af a (G++A) k=af (YA a G) A k
 |[],_,_,_,_=>rfl
 |c::r,A,a,k,h=>by
  have e:af a (c::r++A) k=if c.at_<=k then af (a+c.by_) (r++A) k else a:=rfl
  rw[e,iP (h c (aW ..)),Zro r A _ _ (λx H=>h x (aS _ H))];rfl
theorem Zlq (a:Int) (l:List Chg) (c:Chg):YA a (l++[c])=YA a l+c.by_:=by unfold YA;rw[List.foldl_append];rfl
structure Zbm (z:Zone) (i:Nat) (f:Int) (out:List Pc):Prop where
 le:i<=z.chs.length
 eq:Zp5 z=out++(Q7 f (YA z.base (z.chs.take i)) (z.chs.drop i)).map cl
 lo:∀c∈z.chs.take i,c.at_<=f
 fr:0<=f/\f<=43200
 asc:Asc (if i=0 then f else f+1) (z.chs.drop i)
 zero:i=0->f=0
 len:out.length<=i
theorem Zns {z:Zone} (h:Zy z=0):Zbm z 0 0 []:=by
 obtain⟨A,J,H,I,G⟩:=Zcz h;exact⟨aT _,rfl,by simp,by omega,by simpa using A,λ_=>rfl,by simp⟩
theorem Zbm.ahd {z:Zone} {i:Nat} {f:Int} {out:List Pc} (h:Zbm z i f out) (A:∀c∈(z.chs.drop i).head?,f<c.at_):af z.base z.chs f=YA z.base (z.chs.take i):=by
 have e:z.chs=z.chs.take i++z.chs.drop i:=(List.take_append_drop ..).symm;rw[e,Zro _ _ _ _ h.lo,<-e];cases hd:z.chs.drop i with
 |nil=>rfl
 |cons c r=>
  rw[hd]at A;have G:=A c rfl;unfold af;rw[iN (by omega)]
theorem Zbm.step {z:Zone} {i:Nat} {f:Int} {out:List Pc} {c:Chg} (hz:Zy z=0) (h:Zbm z i f out) (hi:i<z.chs.length) (V:z.chs.drop i=c::z.chs.drop (i+1)) (ht:z.chs.take (i+1)=z.chs.take i++[c]):
  (c.at_=0->Zbm z (i+1) c.at_ out)/\(c.at_≠0->af z.base z.chs f=YA z.base (z.chs.take i)/\Zbm z (i+1) c.at_ (out++[⟨f,c.at_,YA z.base (z.chs.take i)⟩])):=by
 obtain⟨ha,hb,hl,h1,h2⟩:=Zcz hz;have aa:c∈z.chs:=List.mem_of_mem_drop (i:=i) (by rw[V];exact aW ..);have ac:=hb c aa;have H:=h.asc;rw[V]at H;obtain⟨Z,U⟩:=H;have ae:=h.fr;have ai:f<=c.at_:=by split at Z<;>omega
 have I:YA z.base (z.chs.take (i+1))=YA z.base (z.chs.take i)+c.by_:=by rw[ht,Zlq]
 have S:∀x∈z.chs.take (i+1),x.at_<=c.at_:=λx A=>by
  rw[ht]at A;rcases cP.1 A with A|A
  ·have:=h.lo x A;omega
  simp at A;rw[A];exact bS _
 have G:Asc (if i+1=0 then c.at_ else c.at_+1) (z.chs.drop (i+1)):=by rw[iN (by omega)];exact U
 have J:=h.eq;rw[V]at J;have ab:=h.len;refine⟨λh0=>?_,λh0=>?_⟩
 ·have ah:f=0:=by omega
  refine⟨hi,?_,S,by omega,G,λh=>by omega,by omega⟩;rw[J,I];congr 1;have e:Q7 f (YA z.base (z.chs.take i)) (c::z.chs.drop (i+1))=Q7 c.at_ (YA z.base (z.chs.take i)+c.by_) (z.chs.drop (i+1)):=iN (by omega);rw[e]
 have Y:f<c.at_:=by
  by_cases hi0:i=0
  ·have:=h.zero hi0;omega
  rw[iN hi0]at Z;omega
 refine⟨h.ahd (by rw[V];intro x A;simp at A;rw[<-A];exact Y),hi,?_,S,by omega,G,λh=>by omega,by simp;omega⟩;have e:Q7 f (YA z.base (z.chs.take i)) (c::z.chs.drop (i+1))=⟨f,c.at_,YA z.base (z.chs.take i)⟩::Q7 c.at_ (YA z.base (z.chs.take i)+c.by_) (z.chs.drop (i+1)):=iP Y;have e2:cl ⟨f,c.at_,YA z.base (z.chs.take i)⟩=⟨f,c.at_,YA z.base (z.chs.take i)⟩:=iN (by unfold XJ;show¬c.at_=_;omega);rw[J,e,List.map_cons,e2,I,List.append_assoc];rfl
theorem Zbm.last {z:Zone} {f:Int} {out:List Pc} (h:Zbm z z.chs.length f out):af z.base z.chs f=YA z.base z.chs/\Zp5 z=out++[⟨f,-1,YA z.base z.chs⟩]:=by
 have G:=h.ahd (by rw[ir];intro c H;cases H);have A:=h.eq;rw[List.take_length]at G A;rw[ir]at A;exact⟨G,A⟩
theorem Zy1 (z:Zone) (hz:Zy z=0):SC (λ_=>aB) 195 [Ze z] [] λv h=>v=lst 3 Zfw default (Zp5 z)/\h=[]:=by
 obtain⟨nt,O⟩:=Zm;obtain⟨ha,hb,hl,h1,h2⟩:=Zcz hz;have H:=λt=>c97 z t hz;have ac:=Zns hz;generalize hS:Zp5 z=S at*;refine SC.less (Qq Tryz.func195 (body:=Zj Tryz.f195) rfl (by decide+kernel) ?_);unfold Ze at*;simp only[Za O]at*;refine wS ?_;refine ZG false false [] [1,3,4,5] [.tok 3 λ_=>0] (λ(⟨i,f,out⟩:Nat×Int×List Pc)=>[(3,.isl 3 (λ_=>(out.length:Int)) (λe=>Zfw (nt Pc default out (e ()))) (.own 1)),(4,.int .i64 λ_=>f),(5,.int .i64 λ_=>(i:Int))])
  (λ⟨i,f,out⟩=>[(1,.tok 3 λ_=>(out.length:Int))]) (λ⟨i,f,out⟩=>Zbm z i f out\/(i=z.chs.length+1/\out=S)) (λi=>z.chs.length+1-i.1+0) (0,0,[]) (.inl ac) ?_ ?_
 ·(refine To.of [(3,false)] ?_;cbv;(try simp only[nc]);(repeat' first|exact xT|refine⟨?_,?_⟩|refine ZK.cells ?_|refine Zz.agg ?_|refine Zz.tup ?_);all_goals try exact XU)
 rintro⟨i,f,out⟩ G;have G:Zbm z i f out\/(i=z.chs.length+1/\out=S):=G;have ah:out.length<=100\/out=S:=by
  rcases G with h|⟨_,h⟩
  ·have:=h.len;have:=h.le;omega
  exact .inr h
 refine wS ?_;refine⟨λY=>?_,λY=>?_⟩
 ·simp only[iU]at Y;have hs:Zbm z i f out:=by
   rcases G with h|⟨h,_⟩
   ·exact h
   omega
  have ai:=hs.le;have ae:=hs.len;have H:=H f;refine wS ?_;refine⟨λU=>?_,λU=>?_⟩
  ·simp only[iU]at U;have V:i<z.chs.length:=by omega
   have J:=hs.step hz V (Qs (d:=default) O V) (X9 (d:=default) O V);generalize hc:nt Chg default z.chs (i:Int)=c at*;refine vS ?_;simp only[hc];refine Chk.mk (ZH) ?_;refine⟨λZ=>?_,λZ=>?_⟩
   ·have h0:c.at_≠0:=by simpa using Z
    obtain⟨g1,I⟩:=J.2 h0;rw[g1]at H;generalize YA z.base (z.chs.take i)=A at*;refine wS ?_;refine ZN (H) (by first|rfl|(simp only[Ze,Za O];rfl)) λr ab G=>?_;(try simp only[Ze,Za O]at G);obtain⟨rfl,rfl⟩:=G;refine wS ?_;refine⟨(i+1,c.at_,out++[⟨f,c.at_,A⟩]),.inl I,by show z.chs.length+1-(i+1)+0<z.chs.length+1-i+0;omega,?_⟩;exact ZB
   have h0:c.at_=0:=by simpa using Z
   have I:=J.1 h0;refine wS ?_;refine⟨(i+1,c.at_,out),.inl I,by show z.chs.length+1-(i+1)+0<z.chs.length+1-i+0;omega,?_⟩;exact ZB
  simp only[iV]at U;have aa:i=z.chs.length:=by omega
  obtain⟨g1,I⟩:=(aa▸hs:Zbm z z.chs.length f out).last;rw[g1]at H;rw[hS]at I;generalize YA z.base z.chs=A at*;refine wS ?_;refine Br.isT rfl ?_;refine wS ?_;refine ZN (H) (by first|rfl|(simp only[Ze,Za O];rfl)) λr ab G=>?_;(try simp only[Ze,Za O]at G);obtain⟨rfl,rfl⟩:=G;refine wS ?_;refine⟨(i+1,-1,out++[⟨f,-1,A⟩]),.inr ⟨by rw[aa],I.symm⟩,by show z.chs.length+1-(i+1)+0<z.chs.length+1-i+0;omega,?_⟩;exact ZB
 simp only[iV]at Y;have ho:out=S:=by
  rcases G with h|⟨_,h⟩
  ·have:=h.le;omega
  exact h
 rw[<-ho];refine wS ?_;refine⟨_,[],?_,rfl,rfl⟩;exact ZB
theorem Zw0 {A:(α:Type)->α->List α->Int->α} (O:∀(α:Type) (d:α) (l:List α) (i:Int),A α d l i=l.getD i.toNat d) {l:List Pc} {i:Nat} (hi:i<l.length):A Pc default (l.map cl) (i:Int)=cl (A Pc default l (i:Int)):=by
 rw[O,O];simp[aA,hi]
theorem Zw1 (p:Pc):(cl p).fr=p.fr:=by unfold cl;split<;>rfl
theorem Zvs (p:Pc):(cl p).ahd=p.ahd:=by unfold cl;split<;>rfl
theorem Zgs:∀(l:List Chg) (fr a:Int),(∀c∈l,c.at_<=43200)->∀i,i<(Q7 fr a l).length->(((Q7 fr a l).getD i default).bef=XJ↔i+1=(Q7 fr a l).length)
 |[],fr,a,_,i,hi=>by
  have e:Q7 fr a []=[⟨fr,XJ,a⟩]:=rfl;rw[e]at hi|-;have:i=0:=by simpa using hi
  subst this;simp
 |c::r,fr,a,h,i,hi=>by
  have I:=h c (aW ..);have A:=Zgs r c.at_ (a+c.by_) (λx G=>h x (aS _ G));have H:=(Za6 r c.at_ (a+c.by_)).1;by_cases hlt:fr<c.at_
  ·have e:Q7 fr a (c::r)=⟨fr,c.at_,a⟩::Q7 c.at_ (a+c.by_) r:=iP hlt;rw[e]at hi|-;cases i with
   |zero=>
    simp only[List.getD_cons_zero,bF];unfold XJ;constructor<;>intro h<;>omega
   |succ i=>
    simp only[List.getD_cons_succ,bF];rw[A i (by simpa using hi)];omega
  have e:Q7 fr a (c::r)=Q7 c.at_ (a+c.by_) r:=iN hlt;rw[e]at hi|-;exact A i hi
theorem ZxB (z:Zone) (r a:Int) (Y:Zy z=0) (hr:-1000000<=r/\r<=1000000) (ha:0<=a/\a<XJ):SC (λ_=>aB) 190 [Ze z,.int .i64 λ_=>r,.int .i64 λ_=>a] [] λv h=>v= .int .i64 (λ_=>Xe (ZX z) r a)/\h=[]:=by
 obtain⟨nt,O⟩:=Zm;have k2:=Zy1 z Y;obtain⟨k4,k5⟩:=Zev Y;have V:=Zgs z.chs 0 z.base (λc S=>((Zcz Y).2.1 c S).2.1);have ae:=(Za6 z.chs 0 z.base).1;change∀i,i<(ZX z).length->(((ZX z).getD i default).bef=XJ↔i+1=(ZX z).length)at V;change 1<=(ZX z).length at ae;unfold XJ at*;refine Qq Tryz.func190 (body:=Zj Tryz.f190) rfl (by decide+kernel) ?_;unfold Ze at*;simp only[Za O]at*;unfold Zp5 at k2;generalize ZX z=L at*;have aj:(L.map cl).length=L.length:=aX ..;generalize hW:Xe L r a=W at*;refine wS ?_;refine ZN (k2) (by first|rfl|(simp only[Ze,Za O];rfl)) λr ai H=>?_;(try simp only[Ze,Za O]at H);obtain⟨rfl,rfl⟩:=H;refine wS ?_;refine ZG false false [] [1,2,7,8] [] (λ(i:Nat)=>[(8,.int .i64 λ_=>(i:Int))]) (λ_=>[]) (λi=>i<L.length/\Xe (L.drop i) r a=W) (λi=>L.length-i+0) 0 ⟨by omega,by simpa using hW⟩ ?_ ?_
 ·exact ZB
 intro i I;have U:i<L.length:=I.1;have H:Xe (L.drop i) r a=W:=I.2;clear I;have hq:=k5 _ (Qr (d:=default) O (l:=L) (i:=i) U);have J:=V i U;have e1:L.getD i default=nt Pc default L (i:Int):=by rw[O];rfl
 rw[e1]at J;rw[Qs (d:=default) O U,Xe]at H;have ah:=Zw0 O (l:=L) U;generalize nt Pc default L (i:Int)=p at*;have aa:=Zvs p;have Z:=Zw1 p;have G:(cl p).bef=if p.bef=1099511627776 then-1 else p.bef:=by
  unfold cl XJ;split<;>rfl
 generalize cl p=q at*;have ac:(if(if q.fr<a then a else q.fr)<r-q.ahd then r-q.ahd else(if q.fr<a then a else q.fr))=max p.fr (max a (r-p.ahd)):=by
  rw[Z,aa];split<;>split<;>omega
 have ak:0<=max p.fr (max a (r-p.ahd))/\max p.fr (max a (r-p.ahd))<1099511627776:=by omega
 refine vS ?_;simp only[ah];refine Chk.mk (ZH) ?_;simp only[ac];generalize max p.fr (max a (r-p.ahd))=M at*;refine⟨λA=>?_,λA=>?_⟩
 ·have S:M<p.bef:=by
   by_cases h:p.bef=1099511627776
   ·omega
   rw[iN h]at G;rw[G,iY (by omega)]at A;simpa using A
  rw[iP S]at H;rw[<-H];exact zW
 have S:¬M<p.bef:=by
  intro h';by_cases h:p.bef=1099511627776
  ·rw[iP h]at G;rw[G]at A;simp at A
  rw[iN h]at G;rw[G,iY (by omega),iZ h']at A;cases A
 rw[iN S]at H;have ab:i+1<L.length:=by
  rcases Nat.lt_or_ge (i+1) L.length with h|h
  ·exact h
  have:=J.2 (by omega);omega
 refine wS ?_;refine⟨i+1,⟨ab,H⟩,by show L.length-(i+1)+0<L.length-i+0;omega,?_⟩;exact ZB
theorem c36 (z:Zone) (G:z.chs.length<=1000000):SC (λ_=>aB) 142 [Ze z,Ze z] [] λv h=>v= .bool (λ_=>true)/\h=[]:=by
 obtain⟨H,O⟩:=Zm;refine Qq Tryz.func142 (body:=Zj Tryz.f142) rfl (by decide+kernel) ?_;unfold Ze;simp only[Za O];refine wS ?_;refine Br.isF (by simp) ?_;refine wS ?_;refine ZG false false [] [2,3,5] [] (λ(i:Nat)=>[(5,.int .i64 λ_=>(i:Int))]) (λ_=>[]) (λi=>i<=z.chs.length) (λi=>z.chs.length-i+0) 0 (aT _) ?_ ?_
 ·exact ZB
 intro i I;refine wS ?_;refine⟨λA=>?_,λA=>?_⟩
 ·simp only[iU]at A;refine wS ?_;refine Br.isF (by simp) ?_;refine wS ?_;refine⟨i+1,by omega,by omega,?_⟩;exact ZB
 (cbv;(try simp only[nc]at*);(try refine Chk.mk (ZH) ?_))
 (try first|exact⟨rfl,trivial⟩|exact⟨trivial,trivial⟩)
end Vm
namespace Vm
open Go Go.Proofs Sp
def Ya (r r':List AV):Prop:=r'.length=r.length/\∀(j:Nat) (A:AV),r'[j]? =some A->∃c,r[j]? =some c/\∀w ok v,PR w ok c v->PR w ok A v
theorem Ya.refl (r:List AV):Ya r r:=⟨rfl,λj c h=>⟨c,h,λ_ _ _ h=>h⟩⟩
theorem Ya.two {a b G:AV} (h:∀w ok v,PR w ok b v->PR w ok G v):Ya [a,b] [a,G]:=⟨rfl,λj c A=>by
 match j with
 |0=>simp only[bJ,aC]at A;subst A;exact⟨_,rfl,λ_ _ _ h=>h⟩
 |1=>simp only[cN,bJ,aC]at A;subst A;exact⟨_,rfl,h⟩
 |j+2=>simp at A⟩
theorem PR.elems {w:World} {ok:Nat->Nat->Nat->Prop} {s:Nat} {m m':Unit->Int} {f V:(Unit->Int)->List AV} {v:Value} (hm:m ()=m' ()) (G:∀i:Nat,(i:Int)<m ()->Ya (f λ_=>(i:Int)) (V λ_=>(i:Int))) (hv:PR w ok (.isl s m f .none) v):PR w ok (.isl s m' V .none) v:=by
 cases hv with
 |isl0 _ _ _ _ hz S=>exact .isl0 _ _ _ _ (by omega) rfl
 |islE _ _ _ _ a hz S=>exact .islE _ _ _ _ a (by omega) (.inl rfl)
 |isl _ _ _ _ b o len U us hn hc S he hl Y h3 h4=>
  refine .isl _ _ _ _ b o len U us (by omega) hc (.inl rfl) (λe=>by cases e) (λi A=>?_) (λi j c A I=>?_) (λi j c A I=>?_) h4
  ·rw[(G i (by omega)).1];exact hl i A
  ·obtain⟨J,H,_⟩:=(G i (by omega)).2 j c I;exact Y i j J A H
  obtain⟨J,H,Z⟩:=(G i (by omega)).2 j c I;exact Z _ _ _ (h3 i j J A H)
theorem Zz.elemsO {n k s id:Nat} {m m':Unit->Int} {f G:(Unit->Int)->List AV} (hm:m ()=m' ()) (I:∀i:Nat,(i:Int)<m ()->Ya (f λ_=>(i:Int)) (G λ_=>(i:Int))):Zz n k (.isl s m f (.own id)) (.isl s m' G (.own id)):=⟨λR v _ hv=>by
 cases hv with
 |pure _ _ H=>
  cases H with
  |isl0 _ _ _ _ hz A=>cases A
  |islE _ _ _ _ _ _ A=>rcases A with h|h<;>cases h
  |isl _ _ _ _ b o len U V hn Z A=>rcases A with h|h<;>cases h
 |own _ _ _ id _ A J Y S=>exact .own _ _ _ id v A (J.elems hm I) (by omega) (λe=>S (by omega))⟩
theorem Ya.three {a b c c':AV} (h:∀w ok v,PR w ok c v->PR w ok c' v):Ya [a,b,c] [a,b,c']:=⟨rfl,λj d A=>by
 match j with
 |0=>simp only[bJ,aC]at A;subst A;exact⟨_,rfl,λ_ _ _ h=>h⟩
 |1=>simp only[cN,bJ,aC]at A;subst A;exact⟨_,rfl,λ_ _ _ h=>h⟩
 |2=>simp only[cN,bJ,aC]at A;subst A;exact⟨_,rfl,h⟩
 |j+3=>simp at A⟩
theorem Zz.snocO {A:(α:Type)->α->List α->Int->α} (O:∀(α:Type) (d:α) (l:List α) (i:Int),A α d l i=l.getD i.toNat d) {α:Type} {n k s id:Nat} {enc:α->List AV} {d x:α} {l:List α} {n0 m m':Unit->Int} {g:(Unit->Int)->List AV} (G:n0 ()=(l.length:Int)) (hm:m ()=(l.length:Int)+1) (J:m' ()=(l.length:Int)+1) (H:Ya (g (λ_=>0)) (enc x)):
  Zz n k (.isl s m (Z0 n0 (λe=>enc (A α d l (e ()))) g) (.own id)) (.isl s m' (λe=>enc (A α d (l++[x]) (e ()))) (.own id)):=.elemsO (by omega) λi I=>by
 have I:i<l.length+1:=by omega
 by_cases h:i<l.length
 ·rw[QW G h];simp only[O,aV,aA,bO h];exact .refl _
 obtain rfl:i=l.length:=by omega
 rw[Qu G (aI _)];simpa [O]using H
theorem ZsP {w:World} {ok:Nat->Nat->Nat->Prop} {s:Nat} {m m' n0:Unit->Int} {J f A:(Unit->Int)->List AV} {v:Value} (H:n0 ()=0) (hm:m ()=m' ()) (G:∀i:Nat,(i:Int)<m ()->f (λ_=>(i:Int))=A (λ_=>(i:Int))) (h:PR w ok (.isl s m (Z0 n0 J f) .none) v):PR w ok (.isl s m' A .none) v:=
 h.elems hm λi I=>by
  rw[Qu (len:=0) H (aT _),Nat.sub_zero,<-G i I];exact .refl _
theorem Zz.elems {n k s:Nat} {m m':Unit->Int} {f A:(Unit->Int)->List AV} {tk:Tk} (hm:m ()=m' ()) (G:∀i:Nat,(i:Int)<m ()->Ya (f λ_=>(i:Int)) (A λ_=>(i:Int))):Zz n k (.isl s m f tk) (.isl s m' A .none):=⟨λR v _ hv=>.pure _ _ (hv.isl_inv.elems hm G)⟩
theorem Zjb {H:(α:Type)->α->List α->Int->α} (O:∀(α:Type) (d:α) (l:List α) (i:Int),H α d l i=l.getD i.toNat d) {α:Type} {n k sz:Nat} (enc:α->List AV) (d:α) (l:List α) (A:List (List AV)) (I:A.length=l.length) (hr:∀i,i<l.length->Ya (A.getD i (A.headD [])) (enc (l.getD i d))):
  Zz n k (.isl sz (λ_=>(A.length:Int)) (λe=>A.getD (e ()).toNat (A.headD [])) .exact) (.isl sz (λ_=>(l.length:Int)) (λe=>enc (H α d l (e ()))) .none):=
 .elems (by simp[I]) λi G=>by
  have G:i<l.length:=by have:(i:Int)<(A.length:Int):=G;omega
  simp only[O,aV];exact hr i G
set_option maxRecDepth 100000
set_option maxHeartbeats 1600000
open Sp
open Go Go.Proofs
theorem To.freeze {s:List AV} {h:List Zh} {id sz:Nat} {n:Unit->Int} {f:(Unit->Int)->List AV} (Y:h[id]? =some (.gar sz n f)):To s h s (h.set id (.fro sz n f)):=λG R t H hs=>by
 have am:=(aE.1 Y).1;let V:RC:={R with ok:=λb o k=>b<R.w.heap.size/\G b o k/\Zdh R (h.set id (.fro sz n f)) b o k};have J:∀ {j x},(h.set id (.fro sz n f))[j]? =some x->(j=id/\x= .fro sz n f)\/(j≠id/\h[j]? =some x):=λ{j x} A=>by
  rw[bR]at A;split at A
  ·rename_i e;simp only[aC]at A;exact .inl ⟨e.symm,A.symm⟩
  rename_i e;exact .inr ⟨λe'=>e e'.symm,A⟩
 have ae:∀b o k,R.ok b o k->V.ok b o k:=λb o k hk=>by
  obtain⟨h1,h2,h3⟩:=(H.okd _ _ _).1 hk;refine⟨h1,h2,λj x A=>?_⟩;rcases J A with⟨rfl,rfl⟩|⟨S,A⟩
  ·exact λh=>h
  exact h3 j x A
 have ah:R.le V:=⟨aI _,λ_ _=>rfl,λ_ _=>⟨bS _,λ_=>rfl⟩,λ_ _=>.refl _,ae,λ_ _ _ _ _ _=>rfl,λ_ _ _ _ h=>h,rfl⟩;have Z:∀ {j x b},(h.set id (.fro sz n f))[j]? =some x->ZC V j x b->j≠id/\h[j]? =some x/\ZC R j x b:=λ{j x b} A I=>by
  rcases J A with⟨rfl,rfl⟩|⟨S,A⟩
  ·exact I.elim
  exact⟨S,A,(ZC.congr (R:=R) rfl rfl).1 I⟩
 refine⟨V,rfl,⟨?_,λ_ _ _=>Iff.rfl,λj x A=>?_,λi j bi bj b aj U hj I ab=>?_,H.cl,H.fresh,λj x b A hk I o k=>?_,H.n0m⟩,⟨rfl,rfl,rfl,rfl,aI _,aI _,λ_ _=>rfl,ae,λ_ _ _ _ _ _=>rfl,λ_ _ _=>rfl,λj x b A I=>?_⟩,ah,hs.mono ah⟩
 ·rw[bP];exact H.len
 ·rcases J A with⟨rfl,rfl⟩|⟨S,A⟩
  ·obtain⟨e1,e2⟩:=H.blk _ _ Y;refine⟨e1,?_⟩;rcases e2 with⟨h0,a0,h1⟩|⟨b,o,len,ac,arr,ty,a1,a2,a3,a4,a5,a6⟩
   ·show PR V.w V.ok _ (R.hv _);rw[h1];cases a0 with
    |none=>exact .isl0 _ _ _ _ h0 rfl
    |some a0=>exact .islE _ _ _ _ a0 h0 (.inl rfl)
   show PR V.w V.ok _ (R.hv _);rw[a3];rcases Nat.eq_zero_or_pos ac with aa|aa
   ·rw[aa,show len=0 by omega];exact .islE _ _ _ _ ⟨b,o,none⟩ (by omega) (.inl rfl)
   have ak:len*sz<=ac*sz:=aL _ a2;have hb:ZC R j (.gar sz n f) b:=⟨_,_,_,a3,aa,rfl⟩;refine .isl _ _ _ _ b o len ac (λi j=>arr.getD (o+i*sz+j) undef) a1 a2 (.inl rfl) (λh=>by cases h) (λi U=>(a6 i U).1) (λi j c U hj=>?_) (λi j c U hj=>?_) ?_
   ·have ao:j<sz:=by rw[<-(a6 i U).1];exact(aE.1 hj).1
    have:(i+1)*sz<=len*sz:=aL _ U;rw[Nat.succ_mul]at this;exact Z1 (w:=R.w) a4 (by omega)
   ·exact((a6 i U).2 j c hj).mono ae (λ_ _ _ _ _ _=>rfl) λ_ _ _ _ h=>h
   refine⟨H.phys_lt Y hb,H.tokG _ _ _ Y rfl hb _ _,λi x A=>?_⟩;rcases J A with⟨rfl,rfl⟩|⟨S,A⟩
   ·exact λh=>h
   exact J1 λI=>H.dis _ _ _ _ b (λe=>S e.symm) Y A hb I
  exact(H.blk j x A).mono ah rfl rfl rfl rfl (λ_ _=>rfl)
 ·obtain⟨_,A,I⟩:=Z U I;obtain⟨_,ai,ab⟩:=Z hj ab;exact H.dis i j bi bj b aj A ai I ab
 ·obtain⟨_,A,I⟩:=Z A I;exact H.tokG j x b A hk I o k
 obtain⟨_,A,I⟩:=Z A I;exact .inr ⟨j,x,A,I,.inl rfl⟩
theorem To.froze {s:List AV} {h:List Zh} {id sz:Nat} {n:Unit->Int} {f:(Unit->Int)->List AV} (I:h[id]? =some (.gar sz n f)):To s h (s.map (rsv (h.set id (.fro sz n f)))) (h.set id (.fro sz n f)):=λG R t H Y=>by
 obtain⟨U,S,A,V,J,Z⟩:=To.freeze (s:=s) I G R t H Y;have:=SL.rsv A Z {tb with rs:=true};exact⟨U,S,A,V,J,this⟩
theorem ZvQ {A:(α:Type)->α->List α->Int->α} (O:∀(α:Type) (d:α) (l:List α) (i:Int),A α d l i=l.getD i.toNat d) {α:Type} {n k sz:Nat} {enc:α->List AV} {d:α} {l m:List α} {n0 G m':Unit->Int} {H:(Unit->Int)->List AV} {tk:Tk} (J:n0 ()=0) (I:G ()=(l.length:Int)) (hm:m' ()=((l++m).length:Int)):
  Zz n k (.isl sz m' (Z0 G (Z0 n0 H λe=>enc (A α d l (e ()))) λe=>enc (A α d m (e ()))) tk) (.isl sz (λ_=>((l++m).length:Int)) (λe=>enc (A α d (l++m) (e ()))) .none):=
 .none hm λi S=>by
  show(if(i:Int)<G ()then(if(i:Int)<n0 ()then H (λ_=>(i:Int))else enc (A α d l ((i:Int)-n0 ())))else enc (A α d m ((i:Int)-G ())))=enc (A α d (l++m) (i:Int));simp only[O,aA,aV];by_cases h:i<l.length
  ·rw[iP (by omega),iN (by omega),J,Int.sub_zero,aV,bO h]
  rw[iN (by omega),I,List.getElem?_append_right (by omega)];congr 3;omega
theorem ZkK {A:(α:Type)->α->List α->Int->α} (O:∀(α:Type) (d:α) (l:List α) (i:Int),A α d l i=l.getD i.toNat d) (t:Train):encTrain t=[.int .i64 λ_=>t.number,.int .i64 λ_=>t.days,.isl 4 (λ_=>(t.stops.length:Int)) (λe=>QK (A Stop default t.stops (e ()))) .none]:=by
 unfold encTrain;rw[Za O]
attribute [local irreducible] Dn
theorem Zxz (l:List Train) (Y:l.length<=1000000) (H:∀t∈l,t.stops.length<=1000000):SC (λ_=>aB) 143 [lst 3 encTrain default l,lst 3 encTrain default l] [] λv h=>v= .bool (λ_=>true)/\h=[]:=by
 obtain⟨G,O⟩:=Zm;refine Qq Tryz.func143 (body:=Zj Tryz.f143) rfl (by decide+kernel) ?_;simp only[Za O,ZkK O];refine wS ?_;refine Br.isF (by simp) ?_;refine wS ?_;refine ZG false false [] [0,1,5] [] (λ(i:Nat)=>[(5,.int .i64 λ_=>(i:Int))]) (λ_=>[]) (λi=>i<=l.length) (λi=>l.length-i+0) 0 (aT _) ?_ ?_
 ·exact ZB
 intro i Z;refine wS ?_;refine⟨λA=>?_,λA=>?_⟩
 ·simp only[iU]at A;have J:=H _ (Qr (d:=default) O (l:=l) (i:=i) (by omega));have S:((G Train default l (i:Int)).stops.length:Int)<=1000000:=by omega
  refine wS ?_;refine Br.isF (by simp) ?_;refine wS ?_;refine XD λQ I=>?_;refine ZG false false [] [0,1,5,6] [] (λ(k:Nat)=>[(6,.int .i64 λ_=>(k:Int))]) (λ_=>[]) (λk=>k<=(G Train default l (i:Int)).stops.length) (λk=>(G Train default l (i:Int)).stops.length-k+0) 0 (aT _) ?_ ?_
  ·exact ZB
  intro k V;refine wS ?_;refine⟨λA=>?_,λA=>?_⟩
  ·simp only[iU]at A;have U:(k:Int)<((G Train default l (i:Int)).stops.length:Int):=A;refine wS ?_;refine Br.isF (by simp) ?_;refine wS ?_;refine⟨k+1,by omega,by omega,?_⟩;exact ZB
  refine wS ?_;refine I _ _ _ ?_;refine wS ?_;refine⟨i+1,by omega,by omega,?_⟩;exact ZB
 (cbv;(try simp only[nc]at*);(try refine Chk.mk (ZH) ?_))
 (try first|exact⟨rfl,trivial⟩|exact⟨trivial,trivial⟩)
theorem ZyT (b:Xy) (A:Xk b):SC (λ_=>aB) 92 [Zd b,Zd b] [] λv h=>v= .bool (λ_=>true)/\h=[]:=by
 obtain⟨S,O⟩:=Zm;have I:=Zxz b.old A.old A.stops.1;have J:=Zxz b.new A.new A.stops.2;have Y:=A.zones;have U:=A.chs;refine Qq Tryz.func92 (body:=Zj Tryz.f92) rfl (by decide+kernel) ?_;unfold Zd at*;simp only[Za O]at*;refine wS ?_;refine Br.isF (by simp) ?_;refine wS ?_;refine ZG false false [] [2,3,5] [] (λ(i:Nat)=>[(5,.int .i64 λ_=>(i:Int))]) (λ_=>[]) (λi=>i<=b.zones.length) (λi=>b.zones.length-i+0) 0 (aT _) ?_ ?_
 ·exact ZB
 intro i V;refine wS ?_;refine⟨λG=>?_,λG=>?_⟩
 ·simp only[iU]at G;have H:=U _ (Qr (d:=default) O (l:=b.zones) (i:=i) (by omega));refine vS ?_;generalize S Zone default b.zones (i:Int)=z at*;refine Chk.mk (ZH) ?_;refine Zc5 (c36 z H) ?_;refine wS ?_;refine Br.isF (by simp) ?_;refine wS ?_;refine⟨i+1,by omega,by omega,?_⟩;exact ZB
 refine wS ?_;refine Zc5 (I) ?_;refine wS ?_;refine Br.isT rfl ?_;refine wS ?_;refine Zc5 (J) ?_;exact zW
structure ZrG (b:Xy):Prop where
 zones:(b.zones.length:Int)<=9223372036854775807
 old:(b.old.length:Int)<=9223372036854775807
 new:(b.new.length:Int)<=9223372036854775807
 chs:∀z∈b.zones,(z.chs.length:Int)<=9223372036854775807
 stops:∀t∈b.old++b.new,(t.stops.length:Int)<=9223372036854775807
def ZgO (b:Xy):Bool:=decide (20<b.zones.length)||decide (20<b.old.length)||decide (20<b.new.length)||b.zones.any (λz=>decide (20<z.chs.length))||(b.old++b.new).any (λt=>decide (20<t.stops.length))
theorem ZnX {b:Xy} (h:ZgO b=false):Xk b/\(b.zones.length<=20/\b.old.length<=20/\b.new.length<=20)/\(∀z∈b.zones,z.chs.length<=20)/\∀t∈b.old++b.new,t.stops.length<=20:=by
 unfold ZgO at h;simp only[Bool.or_eq_false_iff,iV,List.any_eq_false,iU]at h;obtain⟨⟨⟨⟨S,J⟩,U⟩,H⟩,A⟩:=h;have H:∀z∈b.zones,z.chs.length<=20:=λz I=>by have:=H z I;omega
 have A:∀t∈b.old++b.new,t.stops.length<=20:=λt G=>by have:=A t G;omega
 refine⟨⟨by omega,by omega,by omega,λz I=>by have:=H z I;omega,λt G=>?_,λt G=>?_⟩,⟨by omega,by omega,by omega⟩,H,A⟩
 ·have:=A t (List.mem_append_left _ G);omega
 have:=A t (List.mem_append_right _ G);omega
theorem Zk4 {α:Type} {d:α} {A:(α:Type)->α->List α->Int->α} (O:∀(α:Type) (d:α) (l:List α) (i:Int),A α d l i=l.getD i.toNat d) {q:α->Bool} {l:List α} {i:Nat} (hi:i<l.length):(l.drop i).any q=(q (A α d l (i:Int))||(l.drop (i+1)).any q):=by
 rw[Qs (d:=d) O hi,eQ]
end Vm
namespace Vm
open Go Go.Proofs Sp
open Go.ChangeShapes Go.WideShapes Go.ChangeAt Go.RowKit
theorem Zlc {w:World} {t:Nat->Question->Nat} {d:Nat} {a:AV} {v:Value} (h:VR (R0 w) a v):VR (R1 (Conc1.re w t d)) a v:=h.mono ⟨aT 1,λid A=>absurd A (fi _),λid A=>absurd A (fi _),λid A=>absurd A (fi _),λ_ _ _ h=>h,λ_ _ _ _ _ _=>rfl,λ_ _ _ _ h=>h,rfl⟩
section
variable {H:Type} {he:TypeId×Value->H} {w:World}
theorem ZuC {P:Program} {t:TypeId} {U V f2:Field} {α S I:Type} {v0:α->AV} {Y:S->AV} {Z:I->AV} {Q0:α->Prop} {Q1:S->Prop} {Q2:I->Prop} {δ:Type} {enc:δ->List AV} (mk:α->S->I->δ) (ht:P.underlying t=some (.struct #[U,V,f2])) (hc:P.cellsOf t=3)
  (h0:ZdE he P w U 0 v0 Q0) (h1:ZdE he P w V 1 Y Q1) (h2:ZdE he P w f2 2 Z Q2) (G:∀a b c,enc (mk a b c)=[v0 a,Y b,Z c]):Opn he P w t 3 enc (λz=>∃a b c,z=mk a b c/\Q0 a/\Q1 b/\Q2 c):=λaa cs x h=>by
 obtain⟨xs,m,_,_,H,A,J⟩:=DataW.trod_struct ht h;obtain⟨a,qa,pa⟩:=QJ (i:=0) rfl h0 J A;obtain⟨b,qb,pb⟩:=QJ (i:=1) rfl h1 J A;obtain⟨c,qc,pc⟩:=QJ (i:=2) rfl h2 J A;refine⟨H.trans hc,mk a b c,⟨a,b,c,rfl,qa,qb,qc⟩,by rw[G];rfl,?_⟩;rw[G];have:=QN (k:=0) pa (QN (k:=1) pb (QN (k:=2) pc ZcU));simpa using this
theorem ZuB {P:Program} {t:TypeId} {Y f1 f2 f3:Field} {α S J U:Type} {v0:α->AV} {v1:S->AV} {v2:J->AV} {V:U->AV} {Q0:α->Prop} {Q1:S->Prop} {Q2:J->Prop} {Z:U->Prop} {δ:Type} {enc:δ->List AV} (mk:α->S->J->U->δ) (ht:P.underlying t=some (.struct #[Y,f1,f2,f3])) (hc:P.cellsOf t=4)
  (h0:ZdE he P w Y 0 v0 Q0) (h1:ZdE he P w f1 1 v1 Q1) (h2:ZdE he P w f2 2 v2 Q2) (h3:ZdE he P w f3 3 V Z) (H:∀a b c d,enc (mk a b c d)=[v0 a,v1 b,v2 c,V d]):Opn he P w t 4 enc (λz=>∃a b c d,z=mk a b c d/\Q0 a/\Q1 b/\Q2 c/\Z d):=λaa cs x h=>by
 obtain⟨xs,m,_,_,I,A,G⟩:=DataW.trod_struct ht h;obtain⟨a,qa,pa⟩:=QJ (i:=0) rfl h0 G A;obtain⟨b,qb,pb⟩:=QJ (i:=1) rfl h1 G A;obtain⟨c,qc,pc⟩:=QJ (i:=2) rfl h2 G A;obtain⟨d,qd,pd⟩:=QJ (i:=3) rfl h3 G A;refine⟨I.trans hc,mk a b c d,⟨a,b,c,d,rfl,qa,qb,qc,qd⟩,by rw[H];rfl,?_⟩;rw[H];have:=QN (k:=0) pa (QN (k:=1) pb (QN (k:=2) pc (QN (k:=3) pd ZcU)));simpa using this
theorem ZwI {P:Program} {t:TypeId} {Z f1 f2 f3 f4:Field} {α U J V S:Type} {v0:α->AV} {v1:U->AV} {v2:J->AV} {Y:V->AV} {v4:S->AV} {Q0:α->Prop} {Q1:U->Prop} {Q2:J->Prop} {Q3:V->Prop} {Q4:S->Prop} {δ:Type} {enc:δ->List AV} (mk:α->U->J->V->S->δ) (ht:P.underlying t=some (.struct #[Z,f1,f2,f3,f4])) (hc:P.cellsOf t=5)
  (h0:ZdE he P w Z 0 v0 Q0) (h1:ZdE he P w f1 1 v1 Q1) (h2:ZdE he P w f2 2 v2 Q2) (h3:ZdE he P w f3 3 Y Q3) (h4:ZdE he P w f4 4 v4 Q4) (H:∀a b c d e,enc (mk a b c d e)=[v0 a,v1 b,v2 c,Y d,v4 e]):Opn he P w t 5 enc (λz=>∃a b c d e,z=mk a b c d e/\Q0 a/\Q1 b/\Q2 c/\Q3 d/\Q4 e):=λaa cs x h=>by
 obtain⟨xs,m,_,_,I,A,G⟩:=DataW.trod_struct ht h;obtain⟨a,qa,pa⟩:=QJ (i:=0) rfl h0 G A;obtain⟨b,qb,pb⟩:=QJ (i:=1) rfl h1 G A;obtain⟨c,qc,pc⟩:=QJ (i:=2) rfl h2 G A;obtain⟨d,qd,pd⟩:=QJ (i:=3) rfl h3 G A;obtain⟨e,qe,pe⟩:=QJ (i:=4) rfl h4 G A;refine⟨I.trans hc,mk a b c d e,⟨a,b,c,d,e,rfl,qa,qb,qc,qd,qe⟩,by rw[H];rfl,?_⟩;rw[H];have:=QN (k:=0) pa (QN (k:=1) pb (QN (k:=2) pc (QN (k:=3) pd (QN (k:=4) pe ZcU))));simpa using this
def ZvR (t:Train):Prop:=(t.stops.length:Int)<=9223372036854775807
def Zd6 (b:Xy):List AV:=[lst 2 encZone default b.zones,lst 3 encTrain default b.old,lst 3 encTrain default b.new,.int .i64 λ_=>b.night,.int .i64 λ_=>b.last]
def ZqZ (t:Zb):List AV:=Zd6 t.book++[lst 2 Zk default t.runs,lst 4 Qz default t.waits,lst 3 Zp default t.delays]
structure Zrt (t:Zb):Prop where
 book:ZrG t.book
 runs:(t.runs.length:Int)<=9223372036854775807
 waits:(t.waits.length:Int)<=9223372036854775807
 delays:(t.delays.length:Int)<=9223372036854775807
 bys:∀d∈t.delays,(d.by_.length:Int)<=9223372036854775807
theorem ost:Opn he aB w 196 4 QK λ_=>True:=(ZuB (enc:=QK) Stop.mk Tryz.underlying196 (by decide+kernel) ⟨rfl,by decide+kernel,on⟩ ⟨rfl,by decide+kernel,on⟩ ⟨rfl,by decide+kernel,on⟩ ⟨rfl,by decide+kernel,on⟩ λ_ _ _ _=>rfl).mono λ_ _=>trivial
theorem otr:Opn he aB w 118 3 encTrain ZvR:=(ZuC (enc:=encTrain) Train.mk Tryz.underlying118 (by decide+kernel) ⟨rfl,by decide+kernel,on⟩ ⟨rfl,by decide+kernel,on⟩ ⟨rfl,by decide+kernel,Yn (d:=default) Tryz.underlying116 (by decide+kernel) (by decide) ost⟩ λ_ _ _=>rfl).mono λ_ ⟨_,_,_,e,G,H,A⟩=>by subst e;exact A.2
theorem ZwJ:Opn he aB w 25 5 Zd6 ZrG:=(ZwI (enc:=Zd6) Xy.mk Tryz.underlying25 (by decide+kernel) ⟨rfl,by decide+kernel,Yn (d:=default) Tryz.underlying22 (by decide+kernel) (by decide) oz⟩ ⟨rfl,by decide+kernel,Yn (d:=default) Tryz.underlying23 (by decide+kernel) (by decide) otr⟩ ⟨rfl,by decide+kernel,Yn (d:=default) Tryz.underlying23 (by decide+kernel) (by decide) otr⟩ ⟨rfl,by decide+kernel,on⟩ ⟨rfl,by decide+kernel,on⟩ λ_ _ _ _ _=>rfl).mono λ_ ⟨_,_,_,_,_,e,G,A,H,S,U⟩=>by
 subst e;exact⟨G.2,A.2,H.2,λz J=>(G.1 z J).2.2,λt I=>(cP.1 I).elim (A.1 t) (H.1 t)⟩
theorem Zvh:Opn he aB w 121 2 Zk λ_=>True:=(Zqu (enc:=Zk) Sp.Z6.mk Tryz.underlying121 (by decide+kernel) ⟨rfl,by decide+kernel,on⟩ ⟨rfl,by decide+kernel,on⟩ λ_ _=>rfl).mono λ_ _=>trivial
theorem ZwG:Opn he aB w 32 4 Qz λ_=>True:=(ZuB (enc:=Qz) Sp.QH.mk Tryz.underlying32 (by decide+kernel) ⟨rfl,by decide+kernel,on⟩ ⟨rfl,by decide+kernel,on⟩ ⟨rfl,by decide+kernel,on⟩ ⟨rfl,by decide+kernel,on⟩ λ_ _ _ _=>rfl).mono λ_ _=>trivial
theorem Zvf:Opn he aB w 35 3 Zp λd=>(d.by_.length:Int)<=9223372036854775807:=(ZuC (enc:=Zp) Sp.ZR.mk Tryz.underlying35 (by decide+kernel) ⟨rfl,by decide+kernel,on⟩ ⟨rfl,by decide+kernel,on⟩ ⟨rfl,by decide+kernel,ol⟩ λ_ _ _=>rfl).mono λ_ ⟨_,_,_,e,G,H,A⟩=>by subst e;exact A
theorem Zvg:Opn he aB w 26 1 (λl:List Sp.Z6=>[lst 2 Zk default l]) λl=>(l.length:Int)<=9223372036854775807:=(Yn (d:=default) Tryz.underlying26 (by decide+kernel) (by decide) Zvh).mono λ_ h=>h.2
theorem Zvd:Opn he aB w 27 1 (λl:List Sp.QH=>[lst 4 Qz default l]) λl=>(l.length:Int)<=9223372036854775807:=(Yn (d:=default) Tryz.underlying27 (by decide+kernel) (by decide) ZwG).mono λ_ h=>h.2
theorem ZsO:Opn he aB w 28 1 (λl:List Sp.ZR=>[lst 3 Zp default l]) λl=>(∀d∈l,(d.by_.length:Int)<=9223372036854775807)/\(l.length:Int)<=9223372036854775807:=Yn (d:=default) Tryz.underlying28 (by decide+kernel) (by decide) Zvf
set_option maxRecDepth 100000 in
theorem ZwH:Opn he aB w 30 8 ZqZ Zrt:=λaa cs x h=>by
 obtain⟨xs,m,_,_,J,G,I⟩:=DataW.trod_struct Tryz.underlying30 h;have V:=I 0 _ rfl;have hi:0<xs.length:=by rw[G];decide
 rw[aD hi]at V;obtain⟨h5,b,Z,ab,pb⟩:=ZwJ _ _ _ V;obtain⟨r,qr,pr⟩:=QJ (i:=1) rfl ⟨rfl,by decide+kernel,Zvg⟩ I G;obtain⟨v,qv,Y⟩:=QJ (i:=2) rfl ⟨rfl,by decide+kernel,Zvd⟩ I G;obtain⟨d,U,pd⟩:=QJ (i:=3) rfl ⟨rfl,by decide+kernel,ZsO⟩ I G;refine⟨J.trans (by decide+kernel),⟨b,r,v,d⟩,⟨Z,qr,qv,U.2,U.1⟩,rfl,λj c A=>?_⟩;have H:∀j c,j<5->(Zd6 b)[j]? =some c->PR w (λb _ _=>b<w.heap.size) c (cs.getD j undef):=λj c S A=>by
  have:=pb j c A;have e:((cs.drop 0).take 5).getD j undef=cs.getD j undef:=by
   simp[aA,List.getElem?_take,S]
  exact e▸this
 match j,A with
 |0,A=>exact H 0 c (by decide) A
 |1,A=>exact H 1 c (by decide) A
 |2,A=>exact H 2 c (by decide) A
 |3,A=>exact H 3 c (by decide) A
 |4,A=>exact H 4 c (by decide) A
 |5,A=>cases A;exact pr
 |6,A=>cases A;exact Y
 |7,A=>cases A;exact pd
 |j+8,A=>cases A
end
end Vm
namespace Sp
open Vm
structure Ziv where
 comes:Int
 ready:Int
 goes:Int
deriving DecidableEq,Inhabited
def Zl (c:List (List Call)) (r:Int):List Call:=c.getD r.toNat []
def Zs (c:List (List Call)) (r a:Int):Call:=(Zl c r).getD a.toNat default
def Zhe (x:List Int) (run leg:Int):Nat->List ZR->Int
 |_,[]=>0
 |i,d::r=>if d.run=run/\d.leg=leg then d.by_.getD (x.getD i 0).toNat 0 else Zhe x run leg (i+1) r
def Zdz (t:Zb) (x:List Int) (run leg:Int):Int:=Zhe x run leg 0 t.delays
def Xg (t:Zb) (x:List Int) (g:Int->Int->Int) (r a:Int):Int:=
 g r (a-1)+(Zs (callsOf t) r a).arrive-(Zs (callsOf t) r (a-1)).depart+Zdz t x r (a-1)
def JS (c:List (List Call)) (cm:Int->Int->Int) (r:Int) (call:Call) (g:Int) (w:QH):Int:=
 if w.train≠r\/w.station≠call.station then g
 else if cm w.feeder (Zv (Zl c w.feeder) w.station)<=call.depart+w.minutes then max g (cm w.feeder (Zv (Zl c w.feeder) w.station))else g
def Zdo (c:List (List Call)) (r a comes:Int):Int:=
 if a=((Zl c r).length:Int)-1 then comes else max (Zs c r a).depart comes
def Zbg (t:Zb) (cm:Int->Int->Int) (r a ready:Int):Int:=
 if a=((Zl (callsOf t) r).length:Int)-1 then ready else t.waits.foldl (JS (callsOf t) cm r (Zs (callsOf t) r a)) ready
def Zal (t:Zb) (cm:Int->Int->Int) (r a comes:Int):Ziv:=
 let ready:=Zdo (callsOf t) r a comes;let goes:=Zbg t cm r a ready
 ⟨if a=0 then goes else comes,ready,goes⟩
def ZbL (t:Zb) (x:List Int) (g:Int->Int->Int) (r a:Int):Ziv:=
 Zal t (Xg t x g) r a (if 0<a then Xg t x g r a else 0)
def ZeJ (t:Zb) (x:List Int):Nat->Int->Int->Ziv
 |0=>λ_ _=>default
 |n+1=>λr a=>ZbL t x (λr a=>(ZeJ t x n r a).goes) r a
def ZE (t:Zb) (x:List Int) (r a:Int):Ziv:=ZeJ t x ((Zs (callsOf t) r a).depart.toNat+1) r a
def goes (t:Zb) (x:List Int) (r a:Int):Int:=(ZE t x r a).goes
def comes (t:Zb) (x:List Int) (r a:Int):Int:=Xg t x (goes t x) r a
def StopIn (c:List (List Call)) (r a:Int):Prop:=0<=r/\r<c.length/\0<=a/\a<(Zl c r).length
structure ZA (t:Zb):Prop where
 calls:Jg (callsOf t)
 nn:∀r a,StopIn (callsOf t) r a->0<=(Zs (callsOf t) r a).arrive/\(Zs (callsOf t) r a).arrive<=(Zs (callsOf t) r a).depart/\(Zs (callsOf t) r a).depart<=1099511627776
 asc:∀r a,StopIn (callsOf t) r a->0<a->(Zs (callsOf t) r (a-1)).depart<(Zs (callsOf t) r a).arrive
 wlen:t.waits.length<=4
 dlen:t.delays.length<=6
 w:∀w∈t.waits,0<=w.feeder/\w.feeder<(callsOf t).length/\1<=Zv (Zl (callsOf t) w.feeder) w.station/\0<=w.minutes/\w.minutes<=60
  /\∀a,StopIn (callsOf t) w.train a->a≠((Zl (callsOf t) w.train).length:Int)-1->(Zs (callsOf t) w.train a).station=w.station->
   (Zs (callsOf t) w.feeder (Zv (Zl (callsOf t) w.feeder) w.station)).arrive<=(Zs (callsOf t) w.train a).depart
 d:∀d∈t.delays,1<=d.by_.length/\d.by_.length<=3/\∀n∈d.by_,0<=n/\n<=240
structure YH (t:Zb) (x:List Int):Prop where
 len:x.length=6
 d:∀i,i<t.delays.length->0<=x.getD i 0/\x.getD i 0<(t.delays.getD i default).by_.length
theorem YR {t:Zb} (A:ZA t) {w:QH} (hw:w∈t.waits):StopIn (callsOf t) w.feeder (Zv (Zl (callsOf t) w.feeder) w.station):=by
 have h:=A.w w hw;have:=YL (Zl (callsOf t) w.feeder) 1 w.station;exact⟨h.1,h.2.1,by unfold Zv at*;omega,by unfold Zv;omega⟩
theorem StopIn.prev {c:List (List Call)} {r a:Int} (h:StopIn c r a) (A:0<a):StopIn c r (a-1):=⟨h.1,h.2.1,by have:=h.2.2.2;omega,by have:=h.2.2.2;omega⟩
theorem Zng {x:List Int} {run leg:Int}:∀(l:List ZR) (i:Nat),(∀d∈l,∀n∈d.by_,0<=n/\n<=240)->0<=Zhe x run leg i l/\Zhe x run leg i l<=240
 |[],i,_=>by unfold Zhe;omega
 |d::r,i,h=>by
  unfold Zhe;split
  ·rw[aA];cases hq:d.by_[(x.getD i 0).toNat]? with
   |none=>simp
   |some n=>exact h d (aW ..) n (List.mem_of_getElem? hq)
  exact Zng r (i+1) λd A=>h d (aS _ A)
theorem Zd8 {t:Zb} (G:ZA t) (x:List Int) (run leg:Int):0<=Zdz t x run leg/\Zdz t x run leg<=240:=Zng _ _ λd A=>(G.d d A).2.2
theorem ZaD {α A:Type} {f g:α->A->α}:∀(l:List A) (a:α),(∀b∈l,∀a,f a b=g a b)->l.foldl f a=l.foldl g a
 |[],_,_=>rfl
 |b::r,a,h=>by
  rw[dR,dR,h b (aW ..) a];exact ZaD r _ λb G=>h b (aS _ G)
theorem Zd2 {t:Zb} (H:ZA t) (x:List Int) {g g':Int->Int->Int} {r a:Int} (S:StopIn (callsOf t) r a)
  (h:∀G A,StopIn (callsOf t) G A->(Zs (callsOf t) G A).depart<(Zs (callsOf t) r a).depart->g G A=g' G A):ZbL t x g r a=ZbL t x g' r a:=by
 have Y:∀G A,StopIn (callsOf t) G A->0<A->(Zs (callsOf t) G A).arrive<=(Zs (callsOf t) r a).depart->Xg t x g G A=Xg t x g' G A:=λG A I J ab=>by
  unfold Xg;rw[h G (A-1) (I.prev J) (by have:=H.asc G A I J;omega)]
 have h1:(if 0<a then Xg t x g r a else 0)=(if 0<a then Xg t x g' r a else 0):=by
  split
  ·exact Y r a S (by assumption) (H.nn r a S).2.1
  rfl
 have h2:∀q,Zbg t (Xg t x g) r a q=Zbg t (Xg t x g') r a q:=λq=>by
  unfold Zbg;split
  ·rfl
  rename_i hl;refine ZaD _ _ λw hw b=>?_;unfold JS;split
  ·rfl
  rename_i V;have aa:=H.w w hw;have U:w.train=r:=by
   by_cases he:w.train=r
   ·exact he
   exact absurd (.inl he) V
  have Z:w.station=(Zs (callsOf t) r a).station:=by
   by_cases he:w.station=(Zs (callsOf t) r a).station
   ·exact he
   exact absurd (.inr he) V
  rw[Y _ _ (YR H hw) (by omega) (by subst U;exact aa.2.2.2.2.2 a S hl Z.symm)]
 unfold ZbL Zal;rw[h1];simp only[h2]
theorem Zft {t:Zb} (A:ZA t) (x:List Int):∀(n m:Nat) (r a:Int),StopIn (callsOf t) r a->(Zs (callsOf t) r a).depart<n->(Zs (callsOf t) r a).depart<m->ZeJ t x n r a=ZeJ t x m r a
 |0,_,r,a,hs,h,_=>by have:=A.nn r a hs;omega
 |_+1,0,r,a,hs,_,h=>by have:=A.nn r a hs;omega
 |n+1,m+1,r,a,hs,h1,h2=>Zd2 A x hs λG H I J=>by
  show(ZeJ t x n G H).goes=(ZeJ t x m G H).goes;rw[Zft A x n m G H I (by omega) (by omega)]
theorem ZgU {t:Zb} (A:ZA t) (x:List Int) {r a:Int} (J:StopIn (callsOf t) r a):ZE t x r a=ZbL t x (goes t x) r a:=by
 show ZbL t x _ r a=_;refine Zd2 A x J λH I G S=>?_;have:=A.nn H I G;have:=A.nn r a J;unfold goes ZE;rw[Zft A x _ ((Zs (callsOf t) H I).depart.toNat+1) H I G (by omega) (by omega)]
theorem ZdF {t:Zb} (A:ZA t) {cm:Int->Int->Int} {r:Int} {call:Call} {M:Int} (G:call.depart+60<=M):∀(l:List QH) (g:Int),(∀w∈l,w∈t.waits)->g<=M->g<=l.foldl (JS (callsOf t) cm r call) g/\l.foldl (JS (callsOf t) cm r call) g<=M
 |[],g,_,h=>⟨bS _,h⟩
 |w::l,g,hl,h=>by
  rw[dR];have hw:=A.w w (hl w (aW ..));have H:g<=JS (callsOf t) cm r call g w/\JS (callsOf t) cm r call g w<=M:=by
   unfold JS;split
   ·omega
   split<;>omega
  have I:=ZdF A (cm:=cm) (r:=r) G l (JS (callsOf t) cm r call g w) (λw hw=>hl w (aS _ hw)) H.2;omega
theorem Zs5 {t:Zb} (G:ZA t) (x:List Int) {r a:Int} (A:StopIn (callsOf t) r a):goes t x r a=(ZbL t x (goes t x) r a).goes:=by
 show(ZE t x r a).goes=_;rw[ZgU G x A]
theorem ZgV {t:Zb} (A:ZA t) (x:List Int):∀(n:Nat) (r a:Int),StopIn (callsOf t) r a->(Zs (callsOf t) r a).depart<n->
  (Zs (callsOf t) r a).arrive<=goes t x r a/\goes t x r a<=(Zs (callsOf t) r a).depart+60+240*a/\(a≠((Zl (callsOf t) r).length:Int)-1->(Zs (callsOf t) r a).depart<=goes t x r a)
 |0,r,a,hs,h=>by have:=A.nn r a hs;omega
 |n+1,r,a,hs,h=>by
  have Z:=A.nn r a hs;have I:0<a->(Zs (callsOf t) r a).arrive<=Xg t x (goes t x) r a/\Xg t x (goes t x) r a<=(Zs (callsOf t) r a).arrive+60+240*a:=λJ=>by
   have U:=A.asc r a hs J;have H:=ZgV A x n r (a-1) (hs.prev J) (by omega);have V:=H.2.2 (by have:=hs.2.2.2;omega);have S:=Zd8 A x r (a-1);show _<=goes t x r (a-1)+_-_+_/\goes t x r (a-1)+_-_+_<=_;omega
  rw[Zs5 A x hs];generalize Y:goes t x=G at*;unfold ZbL Zal Zdo Zbg;have J:=hs.2.2.1;by_cases hl:a=((Zl (callsOf t) r).length:Int)-1
  ·have H:0<a:=by
    have hr:=A.calls.row (Zl (callsOf t) r) (by
     unfold Zl;have:r.toNat<(callsOf t).length:=by have:=hs.2.1;have:=hs.1;omega
     rw[aA,aD this]
     exact bM _)
    omega
   simp only[iP hl,iP H];have:=I H;omega
  simp only[iN hl];by_cases h0:0<a
  ·simp only[iP h0];have:=I h0;have hw:=ZdF A (cm:=Xg t x G) (r:=r) (call:=Zs (callsOf t) r a) (M:=(Zs (callsOf t) r a).depart+60+240*a) (by omega) t.waits (max (Zs (callsOf t) r a).depart (Xg t x G r a)) (λw hw=>hw) (by omega);omega
  simp only[iN h0];have hw:=ZdF A (cm:=Xg t x G) (r:=r) (call:=Zs (callsOf t) r a) (M:=(Zs (callsOf t) r a).depart+60+240*a) (by omega) t.waits (max (Zs (callsOf t) r a).depart 0) (λw hw=>hw) (by omega);omega
theorem Zjh {t:Zb} (G:ZA t) (x:List Int) {r a:Int} (A:StopIn (callsOf t) r a):0<=goes t x r a/\goes t x r a<=1099511640000/\(a≠((Zl (callsOf t) r).length:Int)-1->(Zs (callsOf t) r a).depart<=goes t x r a):=by
 have h:=ZgV G x ((Zs (callsOf t) r a).depart.toNat+1) r a A (by have:=G.nn r a A;omega);have H:=G.nn r a A
 have hr:=G.calls.row (Zl (callsOf t) r) (by
  unfold Zl;have:r.toNat<(callsOf t).length:=by have:=A.2.1;have:=A.1;omega
  rw[aA,aD this]
  exact bM _)
 have:=A.2.2.2;exact⟨by omega,by omega,h.2.2⟩
theorem Zq9 {t:Zb} (G:ZA t) (x:List Int) {r a:Int} (A:StopIn (callsOf t) r a) (H:0<a):(Zs (callsOf t) r a).arrive<=comes t x r a/\comes t x r a<=1099511650000:=by
 have Y:=G.asc r a A H;have I:=Zjh G x (A.prev H);have h3:=I.2.2 (by have:=A.2.2.2;omega);have V:=Zd8 G x r (a-1);have h5:=G.nn r a A;have J:=G.nn r (a-1) (A.prev H);have Z:=(ZgV G x ((Zs (callsOf t) r (a-1)).depart.toNat+1) r (a-1) (A.prev H) (by omega)).2.1
 have U:=G.calls.row (Zl (callsOf t) r) (by
  unfold Zl;have:r.toNat<(callsOf t).length:=by have:=A.2.1;have:=A.1;omega
  rw[aA,aD this]
  exact bM _)
 have S:=A.2.2.2;show _<=goes t x r (a-1)+_-_+_/\goes t x r (a-1)+_-_+_<=_;omega
structure W3 where
 co:Nat->Nat->Int
 re:Nat->Nat->Int
 go:Nat->Nat->Int
def JK (f:Nat->Nat->Int) (r i:Nat) (v:Int):Nat->Nat->Int:=λa b=>bif a==r&&b==i then v else f a b
theorem Zbs (f:Nat->Nat->Int) (r i:Nat) (v:Int):JK f r i v r i=v:=by simp[JK]
theorem Zeo {f:Nat->Nat->Int} {r i a b:Nat} {v:Int} (h:¬(a=r/\b=i)):JK f r i v a b=f a b:=by
 unfold JK;by_cases h1:a=r
 ·by_cases h2:b=i
  ·exact absurd ⟨h1,h2⟩ h
  rw[show(b==i)=false by simp[h2],Bool.and_false];rfl
 rw[show(a==r)=false by simp[h1],Bool.false_and];rfl
def Zai (t:Zb) (x:List Int) (w:W3) (r i:Nat):Ziv:=
 Zal t (λf a=>w.co f.toNat a.toNat) r i (if 0<i then w.go r (i-1)+(Zs (callsOf t) r i).arrive-(Zs (callsOf t) r (i-1:Nat)).depart+Zdz t x r (i-1:Nat)else 0)
def Zbb (t:Zb) (x:List Int) (w:W3) (r i:Nat):W3:=
 ⟨JK w.co r i (Zai t x w r i).comes,JK w.re r i (Zai t x w r i).ready,JK w.go r i (Zai t x w r i).goes⟩
def ZnG (t:Zb) (x:List Int) (w:W3) (r:Nat):Nat->W3
 |0=>w
 |i+1=>Zbb t x (ZnG t x w r i) r i
def YF (t:Zb) (r:Nat):Nat:=(Zl (callsOf t) r).length
def Zgt (t:Zb) (x:List Int) (w:W3):Nat->W3
 |0=>w
 |r+1=>ZnG t x (Zgt t x w r) r (YF t r)
def Zer (t:Zb) (x:List Int) (w:W3):Nat->W3
 |0=>w
 |k+1=>Zgt t x (Zer t x w k) (callsOf t).length
theorem Zii {α:Type} {p q:α->Bool} {a:α}:∀ {l:List α},(∀b∈l,p b=true->q b=true)->a∈l->p a=false->q a=true->l.countP p<l.countP q
 |b::l,h,hm,hp,hq=>by
  have H:l.countP p<=l.countP q:=List.countP_mono_left λc A=>h c (aS _ A);rw[fU,fU];rcases bG.mp hm with rfl|hm
  ·simp only[hp,hq];simp;omega
  have:=Zii (λc A=>h c (aS _ A)) hm hp hq;have G:=h b (aW ..);cases hpb:p b
  ·simp;omega
  simp only[G hpb];simp;omega
def Xh (t:Zb):List (Nat×Nat):=(aP (callsOf t).length).flatMap λr=>(aP (YF t r)).map λi=>(r,i)
def QX (t:Zb) (r i:Nat):Int:=(Zs (callsOf t) r i).depart
def Zcb (t:Zb) (r i:Nat):Nat:=(Xh t).countP λp=>decide (QX t p.1 p.2<QX t r i)
theorem ZjB {t:Zb} {r i:Nat} (h:StopIn (callsOf t) r i):(r,i)∈Xh t:=by
 unfold Xh;rw[List.mem_flatMap];refine⟨r,bV.mpr (by have:=h.2.1;omega),bC.mpr ⟨i,bV.mpr ?_,rfl⟩⟩;have:=h.2.2.2;unfold YF;omega
theorem ZmQ {t:Zb} {r i a b:Nat} (h:StopIn (callsOf t) r i) (A:QX t r i<QX t a b):Zcb t r i<Zcb t a b:=by
 unfold Zcb;refine Zii (a:=(r,i)) (λp _ G=>?_) (ZjB h) (by simp) (by simp[A]);simp only[iU]at G|-;omega
theorem ZmR (t:Zb) (r i:Nat):Zcb t r i<=(Xh t).length:=List.countP_le_length
def Zds (t:Zb) (r i:Nat):Bool:=decide ((i:Int)=((Zl (callsOf t) r).length:Int)-1)
def Zoc (t:Zb) (r i:Nat):Nat:=bif Zds t r i then Zcb t r (i-1)else Zcb t r i
def ZvV (t:Zb) (x:List Int) (w:W3) (r i:Nat):Prop:=w.co r i=Xg t x (goes t x) r i
def ZuQ (t:Zb) (x:List Int) (w:W3) (r i:Nat):Prop:=w.co r i=(ZE t x r i).comes/\w.re r i=(ZE t x r i).ready/\w.go r i=(ZE t x r i).goes
def J3 (t:Zb) (x:List Int) (k a b:Nat) (w:W3):Prop:=∀r i:Nat,StopIn (callsOf t) r i->
 (0<i->Zcb t r (i-1)<(if r<a\/r=a/\i<b then k+1 else k)->ZvV t x w r i)/\
 (Zoc t r i<(if r<a\/r=a/\i<b then k+1 else k)->ZuQ t x w r i)
theorem Zl4 {t:Zb} (J:ZA t) {cm A:Int->Int->Int} {r i:Int} (h:∀w∈t.waits,w.train=r->w.station=(Zs (callsOf t) r i).station->cm w.feeder (Zv (Zl (callsOf t) w.feeder) w.station)=A w.feeder (Zv (Zl (callsOf t) w.feeder) w.station)) (g:Int):
  t.waits.foldl (JS (callsOf t) cm r (Zs (callsOf t) r i)) g=t.waits.foldl (JS (callsOf t) A r (Zs (callsOf t) r i)) g:=by
 refine ZaD _ _ λw hw b=>?_;unfold JS;split
 ·rfl
 rename_i H;have G:w.train=r:=by
  by_cases he:w.train=r
  ·exact he
  exact absurd (.inl he) H
 have I:w.station=(Zs (callsOf t) r i).station:=by
  by_cases he:w.station=(Zs (callsOf t) r i).station
  ·exact he
  exact absurd (.inr he) H
 rw[h w hw G I]
theorem Zmm (t:Zb) (cm:Int->Int->Int) (r a c:Int) (h:0<a):(Zal t cm r a c).comes=c:=by
 unfold Zal;simp only[iN (show¬a=0 by omega)]
theorem ZsX {t:Zb} (H:ZA t) (x:List Int) {k a b:Nat} {w:W3} (J:StopIn (callsOf t) a b) (hw:J3 t x k a b w):
  (0<b->Zcb t a (b-1)<k+1->(Zai t x w a b).comes=Xg t x (goes t x) a b)/\(Zoc t a b<k+1->Zai t x w a b=ZE t x a b):=by
 have hc:0<b->Zcb t a (b-1)<k+1->w.go a (b-1)+(Zs (callsOf t) a b).arrive-(Zs (callsOf t) a (b-1:Nat)).depart+Zdz t x a (b-1:Nat)=Xg t x (goes t x) a b:=λG hr=>by
  have V:StopIn (callsOf t) a ((b-1:Nat):Int):=by
   have h:=J.prev (by omega);rwa [show(b:Int)-1=((b-1:Nat):Int) by omega]at h
  have I:Zds t a (b-1)=false:=by
   unfold Zds;rw[iV];have:=J.2.2.2;omega
  have h:=(hw a (b-1) V).2 (by
   unfold Zoc;rw[I,iP (.inr ⟨rfl,by omega⟩)]
   exact hr)
  unfold Xg;rw[h.2.2,show(b:Int)-1=((b-1:Nat):Int) by omega];rfl
 have aa:0<b->Zcb t a (b-1)<k+1->(Zai t x w a b).comes=Xg t x (goes t x) a b:=λG hr=>by
  unfold Zai;rw[Zmm _ _ _ _ _ (by omega),iP G];exact hc G hr
 refine⟨aa,λA=>?_⟩;rw[ZgU H x J];unfold Zai ZbL;have hn:=H.nn a b J;have h1:(if 0<b then w.go a (b-1)+(Zs (callsOf t) a b).arrive-(Zs (callsOf t) a (b-1:Nat)).depart+Zdz t x a (b-1:Nat)else 0)=(if(0:Int)<b then Xg t x (goes t x) a b else 0):=by
  by_cases G:0<b
  ·rw[iP G,iP (by omega)];refine hc G ?_;unfold Zoc at A;cases I:Zds t a b
   ·rw[I]at A;have V:StopIn (callsOf t) a ((b-1:Nat):Int):=by
     have h:=J.prev (by omega);rwa [show(b:Int)-1=((b-1:Nat):Int) by omega]at h
    have:=H.asc a b J (by omega);have Z:=ZmQ (a:=a) (b:=b) V (by unfold QX;rw[show((b-1:Nat):Int)=(b:Int)-1 by omega];omega);simp only[cond_false]at A;omega
   rw[I]at A;exact A
  rw[iN G,iN (by omega)]
 rw[h1];generalize (if(0:Int)<b then Xg t x (goes t x) a b else 0)=c;unfold Zal;have Z:∀q,Zbg t (λf a=>w.co f.toNat a.toNat) a b q=Zbg t (Xg t x (goes t x)) a b q:=λq=>by
  unfold Zbg;split
  ·rfl
  rename_i I;refine Zl4 H (λv hv Y e2=>?_) q;have U:=H.w v hv;have S:=YR H hv;generalize hq:Zv (Zl (callsOf t) v.feeder) v.station=q at*;have h3:=U.2.2.2.2.2 b (by rw[Y];exact J) (by rw[Y];exact I) (by rw[Y];exact e2.symm);rw[Y]at h3;have ah:=U.2.2.1;have ai:=U.1;have ha:=H.asc v.feeder q S (by omega);obtain⟨f,ac⟩:∃f:Nat,v.feeder=(f:Int):=⟨v.feeder.toNat,by omega⟩;obtain⟨m,ab⟩:∃m:Nat,q=(m:Int)+1:=⟨(q-1).toNat,by omega⟩;rw[ac,ab]at S ha h3|-;have V:StopIn (callsOf t) f (m:Int):=by
   have h:=S.prev (by omega);rwa [show(m:Int)+1-1=(m:Int) by omega]at h
  have ae:Zds t a b=false:=by
   unfold Zds;rw[iV];exact I
  rw[show(m:Int)+1-1=(m:Int) by omega]at ha;have h4:=ZmQ (a:=a) (b:=b) V (by unfold QX;omega);unfold Zoc at A;rw[ae]at A;simp only[cond_false]at A
  have h5:=(hw f (m+1) (by rw[Int.natCast_succ];exact S)).1 (by omega) (by
   show Zcb t f m<_
   split<;>omega)
  show w.co (f:Int).toNat ((m:Int)+1).toNat=_;rw[aV,show((m:Int)+1).toNat=m+1 by omega,h5];rfl
 simp only[Z]
theorem ZnU {t:Zb} (S:ZA t) (x:List Int) {k a b:Nat} {w:W3} (U:StopIn (callsOf t) a b) (hw:J3 t x k a b w):J3 t x k a (b+1) (Zbb t x w a b):=by
 have H:=ZsX S x U hw;intro r i J;by_cases he:r=a/\i=b
 ·obtain⟨rfl,rfl⟩:=he;rw[iP (.inr ⟨rfl,by omega⟩)];refine⟨λG hr=>?_,λA=>?_⟩
  ·show JK _ _ _ _ _ _=_;rw[Zbs];exact H.1 G hr
  have h:=H.2 A;show JK _ _ _ _ _ _=_/\JK _ _ _ _ _ _=_/\JK _ _ _ _ _ _=_;rw[Zbs,Zbs,Zbs,h];exact⟨rfl,rfl,rfl⟩
 have h:=hw r i J;have I:(if r<a\/r=a/\i<b+1 then k+1 else k)=(if r<a\/r=a/\i<b then k+1 else k):=by
  by_cases h1:r<a\/r=a/\i<b
  ·rw[iP h1,iP (by omega)]
  rw[iN h1,iN (by omega)]
 rw[I];refine⟨λG hr=>?_,λA=>?_⟩
 ·show JK _ _ _ _ _ _=_;rw[Zeo he];exact h.1 G hr
 show JK _ _ _ _ _ _=_/\JK _ _ _ _ _ _=_/\JK _ _ _ _ _ _=_;rw[Zeo he,Zeo he,Zeo he];exact h.2 A
theorem Zp7 {t:Zb} {r i:Nat} (hr:r<(callsOf t).length) (hi:i<YF t r):StopIn (callsOf t) r i:=⟨by omega,by omega,by omega,by unfold YF at hi;omega⟩
theorem ZuA {t:Zb} (G:ZA t) (x:List Int) {k a:Nat} {w:W3} (A:a<(callsOf t).length) (hw:J3 t x k a 0 w):∀b,b<=YF t a->J3 t x k a b (ZnG t x w a b)
 |0,_=>hw
 |b+1,h=>ZnU G x (Zp7 A (by omega)) (ZuA G x A hw b (by omega))
theorem Zqs {t:Zb} (G:ZA t) (x:List Int) {k:Nat} {w:W3} (hw:J3 t x k 0 0 w):∀a,a<=(callsOf t).length->J3 t x k a 0 (Zgt t x w a)
 |0,_=>hw
 |a+1,h=>λr i A=>by
  have I:=ZuA G x (by omega) (Zqs G x hw a (by omega)) (YF t a) (aI _) r i A;have H:(if r<a+1\/r=a+1/\i<0 then k+1 else k)=(if r<a\/r=a/\i<YF t a then k+1 else k):=by
   by_cases h2:r<a
   ·rw[iP (by omega),iP (by omega)]
   by_cases h3:r=a
   ·subst h3;have:=A.2.2.2;rw[iP (by omega),iP (by unfold YF;omega)]
   rw[iN (by omega),iN (by omega)]
  rw[H];exact I
theorem ZmP {t:Zb} (G:ZA t) (x:List Int) (w:W3):∀k,J3 t x k 0 0 (Zer t x w k)
 |0=>λr i _=>by
  rw[iN (by omega)];exact⟨λ_ h=>absurd h (by omega),λh=>absurd h (by omega)⟩
 |k+1=>λr i A=>by
  have h:=Zqs G x (ZmP G x w k) (callsOf t).length (aI _) r i A;have:=A.2.1;rw[iP (by omega)]at h;rw[iN (by omega)];exact h
theorem Znt (t:Zb):(Xh t).length=((aP (callsOf t).length).map (YF t)).sum:=by
 unfold Xh;rw[List.length_flatMap];simp only[aX,List.length_range]
theorem ZiM {t:Zb} (G:ZA t) (x:List Int) (w:W3) {k:Nat} (H:(Xh t).length<k) {r i:Nat} (A:StopIn (callsOf t) r i):ZuQ t x (Zer t x w k) r i:=by
 refine(ZmP G x w k r i A).2 ?_;rw[iN (by omega)];unfold Zoc;cases Zds t r i
 ·have:=ZmR t r i;simp only[cond_false];omega
 have:=ZmR t r (i-1);simp only[cond_true];omega
end Sp
end Go.Proofs.YtjgpiclllehgmaaGreat
