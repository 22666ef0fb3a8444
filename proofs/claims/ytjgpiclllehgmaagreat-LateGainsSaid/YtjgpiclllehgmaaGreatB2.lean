/- Lemmas. -/
import Derived.KernelRfl
import Derived.Test.YtjgpiclllehgmaaGreatB1
import Derived.Test.YtjgpiclllehgmaaGreatM5
import Derived.Test.YtjgpiclllehgmaaGreatB0
set_option linter.all false
open Bool renaming false_ne_true->aO,false_or->cC,not_eq_false'->eI,true_or->cO
open Decidable renaming of_not_not->bO
open Int renaming le_refl->bR,toNat->ft,toNat_natCast->aW,zero_add->g8
open List renaming any_cons->eM,any_nil->fF,drop_eq_nil_of_le->bB,drop_length->im,foldl_cons->dR,getD_eq_getElem?_getD->aA,getElem?_append_left->bP,getElem?_cons_succ->cM,getElem?_cons_zero->bJ,getElem?_eq_getElem->aC,getElem?_eq_some_iff->aE,getElem?_set->bQ,getElem_mem->bL,length_cons->bF,length_map->bA,length_set->bW,mem_append->cK,mem_cons->bG,mem_cons_of_mem->aR,mem_cons_self->aU,mem_singleton->aN
open Nat renaming le_refl->aJ,mul_le_mul_right->aL,not_lt_zero->fc,zero_le->aV
open Option.some renaming injEq->aD
open Go.Proofs.Tryz renaming prog->aB
namespace Go.Proofs.YtjgpiclllehgmaaGreat
namespace Vm
attribute [local irreducible] Dn
open Go Go.Proofs Sp
set_option maxRecDepth 100000
set_option maxHeartbeats 4000000
structure YJ (c:List (List Sp.Call)):Prop where
 len:c.length<=4
 row:∀l∈c,2<=l.length/\l.length<=4
theorem Zrk {f:FuncId} {xs I:List AV} {h:List Zi} {A Q:AV->List Zi->Prop} {B:Prop} (H:SC (λ_=>aB) f I [] Q) (k:B) (t:SC (λ_=>aB) f I [] Q->HdW B->SC (λ_=>aB) f xs h A:=by intro S hW;refine ZL S (by first|rfl|(simp only[Ze,Zd,Zf,Zc,Za O];rfl)) λr J G=>?_;(try simp only[Ze,Zd,Zf,Zc,Za O]at G);obtain⟨rfl,rfl⟩:=G;exact hW.out):SC (λ_=>aB) f xs h A:=t H ⟨k⟩
theorem QK {n lo hi:Int} (h:Qq n lo hi=false):lo<=n/\n<=hi:=by
 unfold Qq Y6 at h;simp only[eI,Bool.and_eq_true,iR]at h;exact h
theorem XK (l:List Sp.Call) (f st:Int):Zx l f st<l.length/\(Zx l f st=-1\/(0<=Zx l f st/\f<=Zx l f st)):=by
 unfold Zx;obtain⟨m,hm⟩:∃m:Nat,max 0 f=(m:Int):=⟨(max 0 f).toNat,by omega⟩;have G:f<=m:=by omega
 rw[hm,aW];have A:=Xi (q:=λc:Sp.Call=>decide (c.station=st)) (l:=l.drop m) (i:=(m:Int)) (by omega);by_cases h:m<=l.length
 ·rw[List.length_drop]at A;omega
 rw[bB (by omega)];exact⟨by simp only[Zr];omega,.inl rfl⟩
theorem JK {A:(α:Type)->α->List α->Int->α} (O:∀(α:Type) (d:α) (l:List α) (i:Int),A α d l i=l.getD i.toNat d) (c:List (List Sp.Call)):lst 1 Zc [] c= .isl 1 (λ_=>(c.length:Int)) (λe=>[.isl 3 (λ_=>((A (List Sp.Call) [] c (e ())).length:Int)) (λG=>X2 (A Sp.Call default (A (List Sp.Call) [] c (e ())) (G ()))) .none]) .none:=by
 rw[Za O];simp only[Zc,Za O]
theorem Zx0 (c:List (List Sp.Call)) (w:Sp.QR) (G:List Sp.QR) (hc:YJ c) (Y:G.length<=1000000):SC (λ_=>aB) 133 [lst 1 Zc [] c,.agg (QM w),lst 4 QM default G] [] λv h=>v= .int .i64 (λ_=>Qf c w G)/\h=[]:=by
 obtain⟨nt,O⟩:=Zn;rw[JK O,Za O];refine QO Tryz.func133 (body:=Zj Tryz.f133) rfl (by decide+kernel) ?_;have ab:=hc.len;have k1:=Zdp w.feeder 0 (c.length-1);have k2:=Zdp w.train 0 (c.length-1);have k3:=Zdp w.minutes 0 60;have aa:∀i:Int,0<=i->i<=(c.length:Int)-1->nt (List Sp.Call) [] c i∈c:=λi h0 H=>by
  have:i.toNat<c.length:=by omega
  rw[O,aA,aC this];exact bL _
 generalize A:Qf c w G=e;unfold Qf at A;rw[<-O (List Sp.Call) [] c w.feeder,<-O (List Sp.Call) [] c w.train]at A;refine wS ?_;refine Zrk (k1) ?_;refine wS ?_;refine⟨λH=>?_,λH=>?_⟩;case refine_2=>
  have H:=nb4 H;rw[H,cO,iQ rfl]at A;subst A;refine wS ?_;refine Br.isT rfl ?_;exact zW
 have H:=nb2 H;rw[H,cC]at A;refine wS ?_;refine Zrk (k2) ?_;refine wS ?_;refine⟨λI=>?_,λI=>?_⟩
 ·rw[H]at I;have I:Qq w.train 0 (c.length-1)=true:=I;rw[iQ I]at A;subst A;exact zW
 rw[H]at I;have I:Qq w.train 0 (c.length-1)=false:=I;rw[iP (by rw[I];exact aO)]at A;have b1:=QK H;have b2:=QK I;refine wS ?_;refine⟨λV=>?_,λV=>?_⟩
 ·have V:=eq_of_beq V;rw[iQ V]at A;subst A;exact zW
 have V:=ne_of_beq_false V;rw[iP V]at A;have m1:=aa _ b1.1 b1.2;have m2:=aa _ b2.1 b2.2;refine vS ?_;generalize hF:nt (List Sp.Call) [] c w.feeder=F at*;generalize hT:nt (List Sp.Call) [] c w.train=U at*;have r1:=hc.row _ m1;have r2:=hc.row _ m2;have q1:=Zvv F w.station (by omega);have q2:=Zw6 U w.station (by omega);have s1:ZD F w.station<F.length/\-1<=ZD F w.station:=by have:=XK F 1 w.station;unfold ZD;omega
 have s2:ZQ U w.station<(U.length:Int)-1/\-1<=ZQ U w.station:=by
  have:=XK U 0 w.station;unfold ZQ;split<;>omega
 simp only[Za O]at q1 q2;try simp only[hF,hT]
 try refine Chk.mk (ZH) ?_
 refine Zrk (q1) ?_;refine vS ?_;try simp only[hF,hT]
 try refine Chk.mk (ZH) ?_
 refine Zrk (q2) ?_;refine vS ?_;try simp only[hF,hT]
 try refine Chk.mk (ZH) ?_
 generalize ZD F w.station=a at*;generalize ZQ U w.station=b at*;refine⟨λJ=>?_,λJ=>?_⟩
 ·rw[iQ (by
   cases ha:decide (a<0)with
   |true=>exact .inl (iU ha)
   |false=>rw[ha]at J;exact .inr (iU J))]at A
  subst A;exact zW
 have h5:0<=a:=by
  cases ha:decide (a<0)with
  |true=>rw[ha]at J;cases J
  |false=>have:=iV ha;omega
 have h6:0<=b:=by
  cases ha:decide (a<0)with
  |true=>rw[ha]at J;cases J
  |false=>rw[ha]at J;have:=iV J;omega
 rw[iP (by omega)]at A;clear q1 q2;refine wS ?_;refine Zrk (k3) ?_;refine wS ?_;refine⟨λh7=>?_,λh7=>?_⟩
 ·rw[iQ h7]at A;subst A;exact zW
 rw[iP (by rw[h7];exact aO)]at A;rw[<-O Sp.Call default U b,<-O Sp.Call default F a]at A;refine vS ?_;try simp only[hF,hT]
 try refine Chk.mk (ZH) ?_
 refine⟨λZ=>?_,λZ=>?_⟩
 ·have Z:=iU Z;rw[iQ Z]at A;subst A;exact zW
 rw[iP (iV Z)]at A;clear Z h7 J;refine wS ?_;refine ZJ false false [] [4,79,80,81] [] (λ(i:Nat)=>[(81,.int .i64 λ_=>i)]) (λ_=>[]) (λi=>i<=G.length/\G.any (λx=>decide (x.feeder=w.feeder/\x.train=w.train/\x.station=w.station))=(G.drop i).any (λx=>decide (x.feeder=w.feeder/\x.train=w.train/\x.station=w.station))) (λi=>G.length-i+0) 0 ⟨aV _,by simp⟩ ?_ ?_
 ·exact ZG
 rintro i ⟨hi,S⟩;refine wS ?_;refine⟨λY=>?_,λY=>?_⟩
 ·have Y:=iU Y;have hd:=Qs (d:=default) O (l:=G) (i:=i) (by omega);rw[hd,eM]at S;generalize hx:nt Sp.QR default G i=x at*;refine vS ?_;try simp only[hx]
  try refine Chk.mk (ZH) ?_
  have he:(bif (bif x.feeder==w.feeder then x.train==w.train else false)then x.station==w.station else false)=decide (x.feeder=w.feeder/\x.train=w.train/\x.station=w.station):=by
   by_cases e1:x.feeder=w.feeder<;>by_cases e2:x.train=w.train<;>by_cases e3:x.station=w.station<;>simp[e1,e2,e3]
  refine⟨λh9=>?_,λh9=>?_⟩
  ·rw[he]at h9;rw[h9,cO]at S;rw[S,iQ rfl]at A;subst A;exact zW
  rw[he]at h9;rw[h9,cC]at S;refine wS ?_;refine⟨i+1,⟨by omega,S⟩,by show G.length-(i+1)+0<G.length-i+0;omega,?_⟩;exact ZG
 have Y:=iV Y;rw[bB (by omega)]at S;rw[S,fF,iP aO]at A;subst A;exact zW
theorem ZxZ (c:List (List Sp.Call)) (d:Sp.ZU) (S:List Sp.ZU) (hc:YJ c) (I:S.length<=1000000) (hd:d.by_.length<=1000000):SC (λ_=>aB) 134 [lst 1 Zc [] c,.agg (Zt d),lst 3 Zt default S] [] λv h=>v= .int .i64 (λ_=>Qy c d S)/\h=[]:=by
 obtain⟨H,O⟩:=Zn;rw[JK O,Za O (enc:=Zt),show AV.agg (Zt d)= .agg [.int .i64 λ_=>d.run,.int .i64 λ_=>d.leg,.isl 1 (λ_=>(d.by_.length:Int)) (λe=>Xd (H Int 0 d.by_ (e ()))) .none] by unfold Zt;rw[Za O]];refine QO Tryz.func134 (body:=Zj Tryz.f134) rfl (by decide+kernel) ?_;have ae:=hc.len;have k1:=Zdp d.run 0 (c.length-1);have aa:∀i:Int,0<=i->i<=(c.length:Int)-1->H (List Sp.Call) [] c i∈c:=λi h0 J=>by
  have:i.toNat<c.length:=by omega
  rw[O,aA,aC this];exact bL _
 generalize A:Qy c d S=e;unfold Qy at A;rw[<-O (List Sp.Call) [] c d.run]at A;refine wS ?_;refine Zrk (k1) ?_;refine wS ?_;have ab:(!Qq d.run 0 ((c.length:Int)-1))=true->(0<=d.run/\d.run<c.length)/\((H (List Sp.Call) [] c d.run).length:Int)<=4:=λh=>by
  have b:=QK (nb2 h);have:=(hc.row _ (aa _ b.1 b.2)).2;omega
 refine Chk.mk ?_ ?_
 ·simp only[nc,XD,XC,XS,XB,Cn.p,and_true,true_and];(repeat' (first|apply And.intro|intro _))<;>first|assumption|(have:=ab (by assumption);omega)
 refine⟨λJ=>?_,λJ=>?_⟩;case refine_2=>
  have J:=nb4 J;rw[J,cO,iQ rfl]at A;subst A;refine wS ?_;refine Br.isT rfl ?_;exact zW
 have J:=nb2 J;rw[J,cC]at A;have b1:=QK J;have m1:=aa _ b1.1 b1.2;have r1:=hc.row _ m1;clear ab;have k2:=Zdp d.leg 0 ((H (List Sp.Call) [] c d.run).length-2);refine wS ?_;refine Zrk (k2) ?_;refine wS ?_;refine⟨λV=>?_,λV=>?_⟩
 ·rw[J]at V;have V:Qq d.leg 0 ((H (List Sp.Call) [] c d.run).length-2)=true:=V;rw[iQ V]at A;subst A;exact zW
 rw[J]at V;have V:Qq d.leg 0 ((H (List Sp.Call) [] c d.run).length-2)=false:=V;rw[iP (by rw[V];exact aO)]at A;refine wS ?_;refine⟨λZ=>?_,λZ=>?_⟩
 ·have Z:=eq_of_beq Z;rw[iQ (by omega)]at A;subst A;exact zW
 have Z:=ne_of_beq_false Z;rw[iP (by omega)]at A;refine wS ?_;refine⟨λY=>?_,λY=>?_⟩
 ·have Y:=iU Y;rw[iQ (by omega)]at A;subst A;exact zW
 have Y:=iV Y;rw[iP (by omega)]at A;clear J V k1 k2;refine wS ?_;refine ZJ false false [] [2,4,41,42,43] [] (λ(i:Nat)=>[(43,.int .i64 λ_=>i)]) (λ_=>[]) (λi=>i<=d.by_.length/\Zo (ZeO d.by_) 0 d.by_.length=Zo (ZeO d.by_) i (d.by_.length-i)) (λi=>d.by_.length-i+0) 0 ⟨aV _,by simp⟩ ?_ ?_
 ·exact ZG
 rintro i ⟨hi,G⟩;refine wS ?_;refine⟨λI=>?_,λI=>?_⟩
 ·have I:=iU I;rw[Qn (by omega)]at G;have U:ZeO d.by_ i=if Qq (H Int 0 d.by_ i) 0 240 then 1 else if 0<i/\H Int 0 d.by_ i<=H Int 0 d.by_ ((i:Int)-1)then 5 else 0:=by
   unfold ZeO;rw[XH O];by_cases h0:0<i
   ·rw[XH O,show((i-1:Nat):Int)=(i:Int)-1 by omega]
   simp[h0]
  have k3:=Zdp (H Int 0 d.by_ i) 0 240;refine wS ?_;refine Zrk (k3) ?_;refine wS ?_;refine⟨λh5=>?_,λh5=>?_⟩
  ·rw[iQ h5]at U;rw[U,iQ (by decide)]at G;rw[G,iQ (by decide)]at A;subst A;exact zW
  rw[iP (by rw[h5];exact aO)]at U;refine vS ?_;refine Chk.mk ?_ ?_
  ·simp only[nc,XD,XC,XS,XB,Cn.p,and_true,true_and,iR];(repeat' (first|apply And.intro|intro _))<;>first|assumption|omega
  have he:(bif decide (0<(i:Int))then decide (H Int 0 d.by_ i<=H Int 0 d.by_ ((i:Int)-1))else false)=decide (0<i/\H Int 0 d.by_ i<=H Int 0 d.by_ ((i:Int)-1)):=by
   by_cases e1:0<i
   ·have:(0:Int)<i:=by omega
    simp[e1,this]
   have:¬(0:Int)<i:=by omega
   simp[e1,this]
  refine⟨λh6=>?_,λh6=>?_⟩
  ·rw[he]at h6;rw[iQ (iU h6)]at U;rw[U,iQ (by decide)]at G;rw[G,iQ (by decide)]at A;subst A;exact zW
  rw[he]at h6;rw[iP (iV h6)]at U;rw[U,iP (λh=>h rfl)]at G;refine wS ?_;refine⟨i+1,⟨by omega,G⟩,by show d.by_.length-(i+1)+0<d.by_.length-i+0;omega,?_⟩;exact ZG
 have I:=iV I;rw[Qv (by omega)]at G;rw[G,iP (λh=>h rfl)]at A;refine wS ?_;refine ZJ false false [] [4,65,66,67] [] (λ(i:Nat)=>[(67,.int .i64 λ_=>i)]) (λ_=>[]) (λi=>i<=S.length/\S.any (λx=>decide (x.run=d.run/\x.leg=d.leg))=(S.drop i).any (λx=>decide (x.run=d.run/\x.leg=d.leg))) (λi=>S.length-i+0) 0 ⟨aV _,by simp⟩ ?_ ?_
 ·exact ZG
 rintro i ⟨hi,G⟩;refine wS ?_;refine⟨λI=>?_,λI=>?_⟩
 ·have I:=iU I;have ac:=Qs (d:=default) O (l:=S) (i:=i) (by omega);rw[ac,eM]at G;generalize hx:H Sp.ZU default S i=x at*;refine vS ?_;try simp only[hx]
  try refine Chk.mk (ZH) ?_
  have he:(bif x.run==d.run then x.leg==d.leg else false)=decide (x.run=d.run/\x.leg=d.leg):=by
   by_cases e1:x.run=d.run<;>by_cases e2:x.leg=d.leg<;>simp[e1,e2]
  refine⟨λh9=>?_,λh9=>?_⟩
  ·rw[he]at h9;rw[h9,cO]at G;rw[G,iQ rfl]at A;subst A;exact zW
  rw[he]at h9;rw[h9,cC]at G;refine wS ?_;refine⟨i+1,⟨by omega,G⟩,by show S.length-(i+1)+0<S.length-i+0;omega,?_⟩;exact ZG
 have I:=iV I;rw[bB (by omega)]at G;rw[G,fF,iP aO]at A;subst A;exact zW
set_option maxHeartbeats 8000000
structure Qm (t:Zb):Prop where
 book:Xt t.book
 runs:t.runs.length<=1000000
 waits:t.waits.length<=1000000
 delays:t.delays.length<=1000000
 bys:∀d∈t.delays,d.by_.length<=1000000
def Z1 (t:Zb):List AV:=[lst 2 encZone default t.book.zones,lst 3 encTrain default t.book.old,lst 3 encTrain default t.book.new,.int .i64 λ_=>t.book.night,.int .i64 λ_=>t.book.last,
 lst 2 Zh default t.runs,lst 4 QM default t.waits,lst 3 Zt default t.delays,lst 1 Zc [] (callsOf t)]
def Q8 (e:Int) (t:Zb):AV:=if e=0 then .iptr (Z1 t) 0 else .nilptr
theorem J6 {t:Zb} (h:QJ t=0):YJ (callsOf t):=by
 unfold QJ at h;split at h
 ·cases h
 split at h
 ·cases h
 have I:=ZZ h;refine⟨by unfold callsOf;rw[bA];omega,λl A=>?_⟩;obtain⟨r,hr,rfl⟩:=List.mem_map.1 A;obtain⟨j,S,H⟩:=JB (d:=default) hr;have G:=I j (by omega) (by omega);have A:=ZdF t.book r.number r.day;unfold Y9 at G;rw[show t.runs.getD j default=r from H]at G;split at G
 ·exact absurd G (by assumption)
 rename_i J;exact⟨A.2 (bO J),A.1⟩
theorem Ztq (t:Zb) (hf:Qm t):SC (λ_=>aB) 80 [Zf t] [] λv h=>v= .tup [Q8 (Zq t) t,.int .i64 λ_=>Zq t]/\h=[]:=by
 obtain⟨nt,O⟩:=Zn;refine SC.less (QO Tryz.func80 (body:=Zj Tryz.f80) rfl (by decide+kernel) ?_);have aa:=c28 t.book hf.book;have Z:=Zx1 t hf.book hf.runs;obtain⟨P,G⟩:∃P,P=Q8 (Zq t) t:=⟨_,rfl⟩;rw[<-G];generalize H:Zq t=e at*;unfold Zq at H;unfold Zf at*;unfold Zd at aa;simp only[Za O]at aa Z|-;refine wS ?_;refine ZL (aa) (by first|rfl|(simp only[Ze,Zd,Zf,Zc,Za O];rfl)) λr V A=>?_;(try simp only[Ze,Zd,Zf,Zc,Za O]at A);obtain⟨rfl,rfl⟩:=A;generalize Sp.Yq t.book=e1 at*;refine wS ?_;refine⟨λY=>?_,λY=>?_⟩
 ·have Y:e1≠0:=by simpa only[bne_iff_ne]using Y
  rw[iQ Y]at H;subst H;unfold Q8 at G;rw[iP Y]at G;subst G;refine wS ?_;refine⟨_,[],?_,rfl,rfl⟩;exact ZG
 case refine_2=>
  have Y:e1=0:=by simpa only[iY]using Y
  rw[iP (by omega)]at H;have ab:= @J6 t;refine wS ?_;refine ZL (Z) (by first|rfl|(simp only[Ze,Zd,Zf,Zc,Za O];rfl)) λr V A=>?_;(try simp only[Ze,Zd,Zf,Zc,Za O]at A);obtain⟨rfl,rfl⟩:=A;generalize QJ t=e2 at*;refine wS ?_;refine⟨λJ=>?_,λJ=>?_⟩
  ·have J:e2≠0:=by simpa only[bne_iff_ne]using J
   rw[iQ J]at H;subst H;unfold Q8 at G;rw[iP J]at G;subst G;refine wS ?_;refine⟨_,[],?_,rfl,rfl⟩;exact ZG
  have J:e2=0:=by simpa only[iY]using J
  subst J;rw[iP (λh=>h rfl)]at H;have ac:=ab rfl;clear aa Z ab;simp only[if_true];generalize ae:callsOf t=c at*;refine wS ?_;refine⟨λh3=>?_,λh3=>?_⟩
  ·simp only[iR]at h3;rw[iQ (by omega)]at H;subst H;unfold Q8 at G;rw[iP (by decide)]at G;subst G;refine wS ?_;refine⟨_,[],?_,rfl,rfl⟩;exact ZG
  simp only[iS]at h3;rw[iP (by omega)]at H;refine wS ?_;refine ZJ false false [] [1,5,32,33,34] [] (λ(i:Nat)=>[(34,.int .i64 λ_=>(i:Int))]) (λ_=>[]) (λi=>i<=t.waits.length/\Zo (λi=>Qf c (t.waits.getD i default) (t.waits.take i)) 0 t.waits.length=Zo (λi=>Qf c (t.waits.getD i default) (t.waits.take i)) i (t.waits.length-i)) (λi=>t.waits.length-i+0) 0 ⟨by omega,rfl⟩ ?_ ?_
  ·exact ZG
  rintro i ⟨hi,A⟩;refine wS ?_;refine⟨λS=>?_,λS=>?_⟩
  ·simp only[iR]at S;rw[Qn (by omega)]at A;have U:Qf c (t.waits.getD i default) (t.waits.take i)=Qf c (nt QR default t.waits i) (t.waits.take i):=by rw[XH O]
   generalize hd:nt QR default t.waits i=d at*;refine vS ?_;simp only[hd];refine Chk.mk (ZH) ?_;refine ZbH (Zx0 c d (t.waits.take i) ac (by have:=hf.waits;simp;omega)) (by(try simp only[Ze,Zd,Zf,Zc,Za O]);exact ZG) (by first|rfl|(simp only[Ze,Zd,Zf,Zc,Za O];rfl)) λr V A=>?_;(try simp only[Ze,Zd,Zf,Zc,Za O]at A);obtain⟨rfl,rfl⟩:=A;refine wS ?_;refine⟨λI=>?_,λI=>?_⟩
   ·simp only[bne_iff_ne,ne_eq]at I;rw[U,iQ I]at A;rw[A,iQ I]at H;rw[<-H]at G;unfold Q8 at G;rw[iP I]at G;subst G;subst H;refine wS ?_;refine⟨_,[],?_,rfl,rfl⟩;exact ZG
   simp only[iY]at I;rw[U,iP (λh=>h I)]at A;refine wS ?_;refine⟨i+1,⟨by omega,A⟩,by show t.waits.length-(i+1)+0<t.waits.length-i+0;omega,?_⟩;exact ZG
  simp only[iS]at S;rw[Qv (by omega)]at A;rw[A,iP (λh=>h rfl)]at H;clear A S;refine wS ?_;refine⟨λh6=>?_,λh6=>?_⟩
  ·simp only[iR]at h6;rw[iQ (by omega)]at H;subst H;unfold Q8 at G;rw[iP (by decide)]at G;subst G;refine wS ?_;refine⟨_,[],?_,rfl,rfl⟩;exact ZG
  simp only[iS]at h6;rw[iP (by omega)]at H;refine wS ?_;refine ZJ false false [] [1,5,55,56,57] [] (λ(i:Nat)=>[(57,.int .i64 λ_=>(i:Int))]) (λ_=>[]) (λi=>i<=t.delays.length/\e=Zo (λi=>Qy c (t.delays.getD i default) (t.delays.take i)) i (t.delays.length-i)) (λi=>t.delays.length-i+0) 0 ⟨by omega,H.symm⟩ ?_ ?_
  ·exact ZG
  rintro i ⟨hi,A⟩;refine wS ?_;refine⟨λS=>?_,λS=>?_⟩
  ·simp only[iR]at S;rw[Qn (by omega)]at A;have U:Qy c (t.delays.getD i default) (t.delays.take i)=Qy c (nt ZU default t.delays i) (t.delays.take i):=by rw[XH O]
   have ah:(nt ZU default t.delays i).by_.length<=1000000:=by
    rw[O,aA,aC (by omega)];exact hf.bys _ (bL _)
   generalize hd:nt ZU default t.delays i=d at*;refine vS ?_;simp only[hd];refine Chk.mk (ZH) ?_;refine ZbH (ZxZ c d (t.delays.take i) ac (by have:=hf.delays;simp;omega) ah) (by(try simp only[Ze,Zd,Zf,Zc,Za O]);exact ZG) (by first|rfl|(simp only[Ze,Zd,Zf,Zc,Za O];rfl)) λr V A=>?_;(try simp only[Ze,Zd,Zf,Zc,Za O]at A);obtain⟨rfl,rfl⟩:=A;refine wS ?_;refine⟨λI=>?_,λI=>?_⟩
   ·simp only[bne_iff_ne,ne_eq]at I;rw[U,iQ I]at A;rw[A]at G;unfold Q8 at G;rw[iP I]at G;subst G;subst A;refine wS ?_;refine⟨_,[],?_,rfl,rfl⟩;exact ZG
   simp only[iY]at I;rw[U,iP (λh=>h I)]at A;refine wS ?_;refine⟨i+1,⟨by omega,A⟩,by show t.delays.length-(i+1)+0<t.delays.length-i+0;omega,?_⟩;exact ZG
  simp only[iS]at S;rw[Qv (by omega)]at A;subst A;unfold Q8 at G;rw[iQ rfl]at G;subst G;refine wS ?_;unfold Z1;simp only[ae,Za O,Zc];refine⟨_,[],?_,rfl,rfl⟩;exact ZG
end Vm
namespace Vm
open Go Go.Proofs Sp
set_option maxRecDepth 100000
set_option maxHeartbeats 800000
def XI (s:Int):Zi:=.cells [.int .u64 λ_=>s]
theorem ZoE (n:Int):0<=IntKind.u64.wrap n/\IntKind.u64.wrap n<18446744073709551616:=by
 have h:IntKind.u64.wrap n=n%18446744073709551616:=by
  simp[IntKind.wrap,IntKind.signed,IntKind.bits]
 omega
theorem c60 (s:Int):SC (λ_=>aB) 79 [.ptr 0 0] [XI s] λr h=>∃x A:Int,(0<=x/\x<18446744073709551616)/\r= .int .u64 (λ_=>x)/\h=[XI A]:=by
 refine QO Tryz.func79 (body:=Zj Tryz.f79) rfl (by decide+kernel) ?_;(cbv;(try simp only[nc]at*);(try refine Chk.mk (ZH) ?_));exact⟨_,_,ZoE _,rfl,rfl⟩
theorem ZuS (x m:Int) (J:0<=x/\x<18446744073709551616) (I:1<=m) (H:m<=1000000000):
  0<=(x.fdiv (2^ min (ft 13) IntKind.u64.bits)).tmod (IntKind.u64.wrap (m+1))/\(x.fdiv (2^ min (ft 13) IntKind.u64.bits)).tmod (IntKind.u64.wrap (m+1))<=m/\IntKind.u64.wrap (m+1)≠0:=by
 have hw:IntKind.u64.wrap (m+1)=m+1:=by
  have h:∀n,IntKind.u64.wrap n=n%18446744073709551616:=λn=>by simp[IntKind.wrap,IntKind.signed,IntKind.bits]
  rw[h];omega
 rw[hw];have G:(2:Int)^ min (ft 13) IntKind.u64.bits=8192:=by decide
 rw[G];have A:0<=x.fdiv 8192:=by rw[Int.fdiv_eq_ediv_of_nonneg _ (by omega)];omega
 rw[Int.tmod_eq_emod_of_nonneg A];have:=Int.emod_nonneg (x.fdiv 8192) (show m+1≠0 by omega);have:=Int.emod_lt_of_pos (x.fdiv 8192) (show 0<m+1 by omega);omega
theorem c17 (s m:Int) (hm:m<=1000000000):SC (λ_=>aB) 21 [.ptr 0 0,.int .i64 λ_=>m] [XI s] λr h=>∃x A:Int,(0<=x/\(x<=m\/x=0))/\r= .int .i64 (λ_=>x)/\h=[XI A]:=by
 refine QO Tryz.func21 (body:=Zj Tryz.f21) rfl (by decide+kernel) ?_;cbv;refine⟨λG=>?_,λG=>?_⟩
 ·(cbv;(try simp only[nc]at*);(try refine Chk.mk (ZH) ?_))
  exact⟨0,s,⟨by omega,.inr rfl⟩,rfl,rfl⟩
 simp only[iS]at G;(cbv;(try simp only[nc]at*);(try refine Chk.mk (ZH) ?_));refine ZP [0] (c60 s) (by decide) (by simp) rfl rfl λr I H=>?_;obtain⟨x,A,J,rfl,rfl⟩:=H;have hv:=ZuS x m J (by omega) (by omega);(cbv;try simp only[nc]at*);generalize (x.fdiv (2^ min (ft 13) IntKind.u64.bits)).tmod (IntKind.u64.wrap (m+1))=y at*;generalize IntKind.u64.wrap (m+1)=z at*;refine Chk.mk (ZH) ?_;exact⟨y,A,⟨by omega,.inl (by omega)⟩,rfl,rfl⟩
theorem c22 (s l m:Int) (I:-1000000000<=l/\l<=1000000000) (hm:m-l<=1000000000/\-1000000000<=m):SC (λ_=>aB) 48 [.ptr 0 0,.int .i64 λ_=>l,.int .i64 λ_=>m] [XI s] λr h=>∃x A:Int,(l<=x/\(x<=m\/x=l))/\r= .int .i64 (λ_=>x)/\h=[XI A]:=by
 refine QO Tryz.func48 (body:=Zj Tryz.f48) rfl (by decide+kernel) ?_;(cbv;(try simp only[nc]at*);(try refine Chk.mk (ZH) ?_));refine ZP [0] (c17 s (m-l) (by omega)) (by decide) (by simp) rfl rfl λr H G=>?_;obtain⟨x,A,J,rfl,rfl⟩:=G;(cbv;(try simp only[nc]at*);(try refine Chk.mk (ZH) ?_));exact⟨l+x,A,by omega,rfl,rfl⟩
theorem c37 (s n m:Int) (hm:0<=m/\m<=1000000000):SC (λ_=>aB) 72 [.ptr 0 0,.int .i64 λ_=>n,.int .i64 λ_=>m] [XI s] λr h=>∃(b:Bool) (A:Int),r= .bool (λ_=>b)/\h=[XI A]:=by
 refine QO Tryz.func72 (body:=Zj Tryz.f72) rfl (by decide+kernel) ?_;(cbv;(try simp only[nc]at*);(try refine Chk.mk (ZH) ?_));refine ZP [0] (c17 s (m-1) (by omega)) (by decide) (by simp) rfl rfl λr H G=>?_;obtain⟨x,A,I,rfl,rfl⟩:=G;(cbv;(try simp only[nc]at*);(try refine Chk.mk (ZH) ?_));exact⟨_,A,rfl,rfl⟩
theorem c81 (s:Int) (l:List Int) (J:0<l.length/\l.length<=1000000):SC (λ_=>aB) 57 [.ptr 0 0,lst 1 Xd 0 l] [XI s] λr h=>∃x A:Int,x∈l/\r= .int .i64 (λ_=>x)/\h=[XI A]:=by
 obtain⟨S,O⟩:=Zn;rw[Za O];refine QO Tryz.func57 (body:=Zj Tryz.f57) rfl (by decide+kernel) ?_;cbv;refine⟨λG=>?_,λG=>?_⟩
 ·simp only[nc,beq_iff_eq]at G;omega
 (cbv;(try simp only[nc]at*);(try refine Chk.mk (ZH) ?_))
 refine ZP [0] (c17 s ((l.length:Int)-1) (by omega)) (by decide) (by simp) rfl rfl λr I H=>?_;obtain⟨x,A,U,rfl,rfl⟩:=H;(cbv;(try simp only[nc]at*);(try refine Chk.mk (ZH) ?_));obtain⟨i,rfl⟩:∃i:Nat,x=i:=⟨x.toNat,by omega⟩;exact⟨_,A,QC O (by omega),rfl,rfl⟩
theorem c14 (l:List Int) (I:(l.length:Int)<=9223372036854775807):SC (λ_=>aB) 18 [lst 1 Xd 0 l] [] λr h=>∃s:Int,r= .ptr 0 0/\h=[XI s]:=by
 obtain⟨H,O⟩:=Zn;rw[Za O];refine ZxL true false Tryz.func18 (body:=Zj Tryz.f18) rfl (by decide+kernel) ?_;(cbv;(try simp only[nc]at*);(try refine Chk.mk (ZH) ?_));refine ZwJ true false [0,3,4] (λ(⟨i,s⟩:Nat×Int)=>mkS 41 [(0,.isl 1 (λ_=>(l.length:Int)) (λe=>Xd (H Int 0 l (e ()))) .none),(3,.ptr 0 0),(4,.int .i64 λ_=>(i:Int))])
  (λ⟨i,s⟩=>[XI s]) (λ⟨i,s⟩=>i<=l.length) (λi=>l.length-i.1+0) (0,11400714819323198485) 1 (λ_=>rfl) (aV _) (To.of [] ?_) ?_
 ·cbv
  exact⟨⟨.refl _,.refl _,.int rfl,trivial⟩,.refl _,trivial⟩
 rintro⟨i,s⟩ G;have G:i<=l.length:=G;(cbv;(try simp only[nc]at*);(try refine Chk.mk (ZH) ?_));refine⟨λA=>?_,λA=>?_⟩
 ·simp only[iR]at A;(cbv;(try simp only[nc]at*);(try refine Chk.mk (ZH) ?_))
  exact⟨(i+1,_),(by omega:i+1<=l.length),by show l.length-(i+1)+0<l.length-i+0;omega,To.of [] (by
   cbv
   exact⟨⟨.refl _,.refl _,.int rfl,trivial⟩,.refl _,trivial⟩)⟩
 (cbv;(try simp only[nc]at*);(try refine Chk.mk (ZH) ?_))
 exact⟨s,rfl,rfl⟩
attribute [local irreducible] Dn
def ZrH (n:Int):Prop:=n=60\/n=-60\/n=30\/n=-90\/(1<=n/\n<=20)
structure Zrs (k:Int) (z:Sp.Zone):Prop where
 base:-120<=z.base/\z.base<=120
 len:(z.chs.length:Int)<=k\/z.chs.length=0
 asc:z.chs.Pairwise λa b=>a.at_<b.at_
 at_:∀c∈z.chs,0<=c.at_/\c.at_<=1500+2000*((z.chs.length:Int)-1)
 by_:∀c∈z.chs,ZrH c.by_
theorem Zs1 {α:Type} {n k sz:Nat} (enc:α->List AV) (d:α) (l:List α):ZC n k (ZgO sz (l.map enc)) (lst sz enc d l):=
 .none (by simp) λi A=>by
  have A:i<l.length:=by simpa using A
  show(l.map enc).getD i _=enc (l.getD i d);simp[aA,aC A]
theorem Zg9 (s:Int) (l:List Int) (A:0<l.length/\l.length<=1000000):SC (λ_=>aB) 57 [.ptr 0 0,ZgO 1 (l.map Xd)] [XI s] λr h=>∃x G:Int,x∈l/\r= .int .i64 (λ_=>x)/\h=[XI G]:=
 SC.to (xs₂:=[.ptr 0 0,lst 1 Xd 0 l]) (h₂:=[XI s]) (To.of [] ⟨⟨.refl _,Zs1 Xd 0 l,trivial⟩,.refl _,trivial⟩) (c81 s l A)
theorem c29 (s k:Int) (hk:k<=10):SC (λ_=>aB) 73 [.ptr 0 0,.int .i64 λ_=>k] [XI s] λr h=>∃(z:Sp.Zone) (Y:Int),Zrs k z/\r=Ze z/\h=[XI Y]:=by
 obtain⟨nt,O⟩:=Zn;refine SC.less (QO Tryz.func73 (body:=Zj Tryz.f73) rfl (by decide+kernel) ?_);refine wS ?_;refine ZP [0] (c22 s (-4) 4 (by omega) (by omega)) (by decide) (by simp) rfl rfl λr G H=>?_;obtain⟨b,S,I,rfl,rfl⟩:=H;refine wS ?_;refine ZP [0] (c17 S 1500 (by omega)) (by decide) (by simp) rfl rfl λr G H=>?_;obtain⟨a,s2,ha,rfl,rfl⟩:=H;refine wS ?_;refine ZP [0] (c17 s2 k (by omega)) (by decide) (by simp) rfl rfl λr G H=>?_;obtain⟨n,s3,hn,rfl,rfl⟩:=H;refine wS ?_;refine Zke [0,4,5,6,7] (λ(⟨i,t,s,l⟩:Int×Int×Int×List Chg)=>mkS 43 [(0,.ptr 0 0),(4,.ptr 1 0),(5,.ptr 2 0),(6,.int .i64 λ_=>t),(7,.int .i64 λ_=>i)])
  (λ⟨i,t,s,l⟩=>[XI s,.cells [.int .i64 λ_=>0,.isl 0 (λ_=>0) (λ_=>[]) .nil],.cells [.int .i64 λ_=>30*b,.isl 2 (λ_=>(l.length:Int)) (λe=>ZaL (nt Chg default l (e ()))) (.own 3)],.tok 2 λ_=>(l.length:Int)])
  (λ⟨i,t,s,l⟩=>0<=i/\(l.length+i<=k\/(l.length:Int)+i=0)/\0<=t/\t<=1500+2000*(l.length:Int)/\l.Pairwise (λa b=>a.at_<b.at_)/\(∀c∈l,0<=c.at_/\c.at_<t/\c.at_<=1500+2000*((l.length:Int)-1))/\∀c∈l,ZrH c.by_)
  (λi=>i.1.toNat+0) (n,a,s3,[]) 4 (λ_=>rfl) ⟨by omega,by simp;omega,by omega,by simp;omega,.nil,by simp,by simp⟩ (To.of [(2,false)] ?_) ?_
 ·cbv
  exact⟨⟨.refl _,.refl _,.refl _,.refl _,.refl _,trivial⟩,.refl _,.refl _,.cells ⟨.refl _,.nilOwn (by decide) (by decide) rfl,trivial⟩,.tok rfl,trivial⟩
 rintro⟨i,t,s,l⟩ ⟨hi,hlen,ht0,ht,hpw,hat,hby⟩;refine wS ?_;refine⟨λI=>?_,λI=>?_⟩
 ·simp only[gt_iff_lt,iR]at I;refine wS ?_;refine ZP [0] (c22 s 1 20 (by omega) (by omega)) (by decide) (by simp) rfl rfl λr G H=>?_;obtain⟨x,S,hx,rfl,rfl⟩:=H;refine wS ?_;refine ZP [0] (Zg9 S [60,-60,30,-90,x] (by simp)) (by decide) (by simp) rfl rfl λr G H=>?_;obtain⟨y,s2,Z,rfl,rfl⟩:=H;refine wS ?_;refine ZP [0] (c22 s2 1 40 (by omega) (by omega)) (by decide) (by simp) rfl rfl λr G H=>?_;obtain⟨u,s3,hu,rfl,rfl⟩:=H;refine wS ?_;refine ZP [0] (c22 s3 100 2000 (by omega) (by omega)) (by decide) (by simp) rfl rfl λr G H=>?_;obtain⟨v,s4,hv,rfl,rfl⟩:=H;refine wS ?_;refine ZP [0] (Zg9 s4 [u,v] (by simp)) (by decide) (by simp) rfl rfl λr G H=>?_;obtain⟨q,s5,V,rfl,rfl⟩:=H;have V:1<=q/\q<=2000:=by simp at V;omega
  refine wS ?_;have J:((l++[(⟨t,y⟩:Chg)]).length:Int)=l.length+1:=by simp
  refine⟨(i-1,t+q,s5,l++[⟨t,y⟩]),⟨by dsimp only;omega,by dsimp only;omega,by dsimp only;omega,by dsimp only;omega,?_,?_,?_⟩,by show(i-1).toNat+0<i.toNat+0;omega,To.of [] ?_⟩
  ·refine List.pairwise_append.2 ⟨hpw,List.pairwise_singleton _ _,λc A d U=>?_⟩;simp only[aN]at U;subst U;exact(hat c A).2.1
  ·intro c A;rw[J];dsimp only;rcases cK.1 A with A|A
   ·have:=hat c A;omega
   simp only[aN]at A;subst A;dsimp only;omega
  ·intro c A;rcases cK.1 A with A|A
   ·exact hby c A
   simp only[aN]at A;subst A;simp at Z;unfold ZrH;dsimp only;omega
  cbv
  exact⟨⟨.refl _,.refl _,.refl _,.refl _,.refl _,trivial⟩,.refl _,.refl _,.cells ⟨.refl _,.snoc O rfl rfl rfl,trivial⟩,.tok (by simp),trivial⟩
 simp only[iS]at I;refine wS ?_;exact⟨Ze ⟨30*b,l⟩,[XI s],To.of [] ⟨⟨.agg ⟨.refl _,.lst O rfl,trivial⟩,trivial⟩,.refl _,trivial⟩,⟨30*b,l⟩,_,⟨by dsimp only;omega,by dsimp only;omega,hpw,λc A=>by have:=hat c A;dsimp only;omega,hby⟩,rfl,rfl⟩
set_option maxHeartbeats 1600000
structure Ziz (n:Nat) (L:List Int):Prop where
 len:L.length=n
 bd:∀i,i<n->0<=L.getD i 0/\L.getD i 0<n
 inj:∀i j,i<n->j<n->L.getD i 0=L.getD j 0->i=j
theorem Zcy {L:List Int} {i k:Nat} (hi:i<L.length) (A:k<L.length) (x:Nat):((L.set i (L.getD k 0)).set k (L.getD i 0)).getD x 0=L.getD (if x=k then i else if x=i then k else x) 0:=by
 simp only[aA,bQ,bW];by_cases h1:x=k
 ·subst h1;simp[A]
 rw[iP (Ne.symm h1),iP h1];by_cases h2:x=i
 ·subst h2;simp[hi]
 rw[iP (Ne.symm h2),iP h2]
theorem Ziz.swap {n:Nat} {L:List Int} (h:Ziz n L) {i k:Nat} (hi:i<n) (H:k<n):Ziz n ((L.set i (L.getD k 0)).set k (L.getD i 0)):=by
 have A:=h.len;refine⟨by simpa using A,λx G=>?_,λx y G I e=>?_⟩
 ·rw[Zcy (by omega) (by omega)];exact h.bd _ (by split<;>(try split)<;>omega)
 rw[Zcy (by omega) (by omega),Zcy (by omega) (by omega)]at e;have:=h.inj _ _ (by split<;>(try split)<;>omega) (by split<;>(try split)<;>omega) e;split at this<;>split at this<;>(try split at this)<;>(try split at this)<;>omega
theorem ZsE {A:(α:Type)->α->List α->Int->α} (O:∀(α:Type) (d:α) (l:List α) (i:Int),A α d l i=l.getD i.toNat d) {L:List Int} {i x:Nat} {v:Int} (hi:i<L.length):(bif decide ((x:Int)=0+(i:Int))then v else A Int 0 L (x:Int))=A Int 0 (L.set i v) (x:Int):=by
 rw[O,O];simp only[aW,aA,bQ];by_cases h:i=x
 ·subst h;rw[iX (by omega)];simp[hi]
 rw[iW (by omega),iP h];rfl
theorem Zp1 {A:(α:Type)->α->List α->Int->α} (O:∀(α:Type) (d:α) (l:List α) (i:Int),A α d l i=l.getD i.toNat d) {L:List Int} {i k x:Nat} {p q:Int} (hi:i<L.length) (H:k<L.length) (G:p=i) (I:q=k):
  (bif decide ((x:Int)=0+q)then A Int 0 L (0+p)else bif decide ((x:Int)=0+p)then A Int 0 L (0+q)else A Int 0 L (x:Int))=A Int 0 ((L.set i (L.getD k 0)).set k (L.getD i 0)) (x:Int):=by
 subst G I;simp only[O,aW,g8];rw[Zcy hi H];by_cases h1:x=k
 ·rw[iX (by omega),iQ h1];rfl
 rw[iW (by omega),iP h1];by_cases h2:x=i
 ·rw[iX (by omega),iQ h2];rfl
 rw[iW (by omega),iP h2];rfl
theorem ZyM (s:Int) (n:Nat) (hn:n<=1000):SC (λ_=>aB) 127 [.ptr 0 0,.int .i64 λ_=>(n:Int)] [XI s] λv h=>∃(L:List Int) (U:Int),Ziz n L/\v=lst 1 Xd 0 L/\h=[XI U]:=by
 obtain⟨J,O⟩:=Zn;obtain⟨Z,ac,Y⟩:∃Z:List Int,Z.length=n/\∀j:Nat,Z.getD j 0=0:=⟨List.replicate n 0,by simp,λj=>by simp only[aA,List.getElem?_replicate];split<;>rfl⟩;refine SC.less (QO Tryz.func127 (body:=Zj Tryz.f127) rfl (by decide+kernel) ?_);refine vS ?_;simp only[show¬((n:Int)<0)from by omega,if_false];refine Chk.mk (ZH) ?_;refine ZJ false false [] [0,1,5,6] [] (λ(⟨i,L⟩:Nat×List Int)=>[(6,.int .i64 λ_=>i)]) (λ⟨i,L⟩=>[(1,.arr 1 (λ_=>(n:Int)) (λe=>Xd (J Int 0 L (e ()))))])
  (λ⟨i,L⟩=>i<=n/\L.length=n/\∀j,j<i->L.getD j 0=(j:Int)) (λi=>n-i.1+0) (0,Z) ⟨aV _,ac,λj G=>by omega⟩ ?_ ?_
 ·refine toR ?_;refine .arr rfl λx S=>?_;show [AV.int .i64 λ_=>_]=[AV.int .i64 λ_=>_];refine congrArg (λy:Int=>[AV.int .i64 λ_=>y]) ?_;rw[O];exact(Y _).symm
 rintro⟨i,L⟩ ⟨hi,I,G⟩;refine wS ?_;refine⟨λA=>?_,λA=>?_⟩
 ·simp only[iR]at A;have ae:i<L.length:=by omega
  refine wS ?_;refine⟨(i+1,L.set i (i:Int)),⟨by omega,by simpa using I,λj ab=>?_⟩,by show n-(i+1)+0<n-i+0;omega,?_⟩
  ·simp only[aA,bQ];by_cases h:i=j
   ·subst h;rw[iQ rfl,iQ (by omega)];rfl
   rw[iP h,<-aA];exact G j (by omega)
  refine toR ?_;refine .arr rfl λx S=>?_;show [AV.int .i64 λ_=>_]=[AV.int .i64 λ_=>_];refine congrArg (λy:Int=>[AV.int .i64 λ_=>y]) ?_;exact ZsE O ae
 simp only[iS]at A;have H:Ziz n L:=⟨I,λj ab=>by rw[G j (by omega)];omega,λj k h1 h2 e=>by rw[G j (by omega),G k (by omega)]at e;omega⟩;refine wS ?_;clear G I;refine ZJ false false [] [0,5,7] [] (λ(⟨i,L,s⟩:Nat×List Int×Int)=>[(7,.int .i64 λ_=>(i:Int)-1)]) (λ⟨i,L,s⟩=>[(0,XI s),(1,.arr 1 (λ_=>(n:Int)) (λe=>Xd (J Int 0 L (e ()))))])
  (λ⟨i,L,s⟩=>i<=n/\Ziz n L) (λi=>i.1+0) (n,L,s) ⟨aJ _,H⟩ ?_ ?_
 ·exact ZG
 rintro⟨i,L,s⟩ ⟨hi,H⟩;have I:=H.len;refine wS ?_;refine⟨λA=>?_,λA=>?_⟩
 ·simp only[iR]at A;refine wS ?_;refine cL0 [0] (c17 s ((i:Int)-1) (by omega)) λr ah hp=>?_;(try simp only[Ze,Zd,Za O]at hp);obtain⟨x,U,S,rfl,rfl⟩:=hp;refine wS ?_;obtain⟨k,rfl⟩:∃k:Nat,x=k:=⟨x.toNat,by omega⟩;obtain⟨j,rfl⟩:∃j,i=j+1:=⟨i-1,by omega⟩;refine⟨(j,(L.set j (L.getD k 0)).set k (L.getD j 0),U),⟨by omega,H.swap (by omega) (by omega)⟩,by show j+0<j+1+0;omega,?_⟩;have aa:j<L.length:=by omega
  have V:k<L.length:=by omega
  refine toR ?_;refine .arr rfl λx S=>?_;show [AV.int .i64 λ_=>_]=[AV.int .i64 λ_=>_];refine congrArg (λy:Int=>[AV.int .i64 λ_=>y]) ?_;exact Zp1 O aa V (by omega) rfl
 refine wS ?_;refine⟨lst 1 Xd 0 L,[XI s],?_,L,s,H,rfl,rfl⟩;rw[Za O];refine toR ?_;refine .none (by omega) λx S=>?_;show Xd (J Int 0 L (0+(x:Int)))=Xd (J Int 0 L (x:Int));rw[g8]
structure Ziu (zones:Int) (stations:Nat) (number:Int) (t:Train):Prop where
 number:t.number=number
 days:1<=t.days/\t.days<=127
 len:2<=t.stops.length/\t.stops.length<=4/\t.stops.length<=stations
 stop:∀s∈t.stops,(0<=s.station/\s.station<stations)/\(0<=s.zone/\s.zone<zones)/\0<=s.arrive/\s.arrive<=s.depart/\s.depart<=4319
 nodup:t.stops.Pairwise λa b=>a.station≠b.station
end Vm
namespace Vm
open Go Go.Proofs Sp
set_option maxRecDepth 100000
set_option maxHeartbeats 1600000
theorem Ziu.with {zones n m:Int} {t u:Train} (G:Ziu zones 4 n t) (A:Ziu zones 4 m u):Ziu zones 4 n ⟨t.number,t.days,u.stops⟩:=⟨G.number,G.days,A.len,A.stop,A.nodup⟩
attribute [local irreducible] Dn
set_option maxHeartbeats 800000
theorem c39 (a b:List Int) (Z:a.length<=1000000000):SC (λ_=>aB) 47 [lst 1 Xd 0 a,lst 1 Xd 0 b] [] λr h=>r= .bool (λ_=>decide (a=b))/\h=[]:=by
 obtain⟨S,O⟩:=Zn;rw[Za O,Za O];refine QO Tryz.func47 (body:=Zj Tryz.f47) rfl (by decide+kernel) ?_;refine wS ?_;refine⟨λI=>?_,λI=>?_⟩
 ·simp only[bne_iff_ne,ne_eq]at I;refine wS ?_;refine⟨?_,trivial⟩;rw[iW (λh=>I (by rw[h]))]
 simp only[iY]at I;refine wS ?_;refine Zke [0,1,5] (λi:Nat=>mkS 26 [(0,.isl 1 (λ_=>(a.length:Int)) (λe=>Xd (S Int 0 a (e ()))) .none),(1,.isl 1 (λ_=>(b.length:Int)) (λe=>Xd (S Int 0 b (e ()))) .none),(5,.int .i64 λ_=>(i:Int))]) (λ_=>[])
  (λi=>i<=a.length/\(a=b↔a.drop i=b.drop i)) (λi=>a.length-i+0) 0 0 (λ_=>rfl) ⟨aV _,by simp⟩ (To.of [] ?_) ?_
 ·cbv
  exact⟨⟨.refl _,.refl _,.int rfl,trivial⟩,trivial⟩
 rintro i ⟨hi,G⟩;refine wS ?_;refine⟨λH=>?_,λH=>?_⟩
 ·simp only[iR]at H;have U:=Qs (d:=(0:Int)) O (l:=a) (i:=i) (by omega);have J:=Qs (d:=(0:Int)) O (l:=b) (i:=i) (by omega);rw[U,J]at G;refine wS ?_;refine⟨λA=>?_,λA=>?_⟩
  ·simp only[bne_iff_ne,ne_eq]at A;refine wS ?_;exact⟨by rw[iW (λh=>A (List.cons.inj (G.1 h)).1)],trivial⟩
  simp only[iY]at A;refine wS ?_;refine⟨i+1,⟨by omega,by rw[G,A];simp⟩,by show a.length-(i+1)+0<a.length-i+0;omega,To.of [] ?_⟩;cbv;exact⟨⟨.refl _,.refl _,.int rfl,trivial⟩,trivial⟩
 simp only[iS]at H;have Y:a.drop i=[]:=bB (by omega);have V:b.drop i=[]:=bB (by omega);rw[Y,V]at G;have G:a=b:=G.2 rfl;subst G;refine wS ?_;exact⟨by simp,trivial⟩
end Vm
namespace Vm
open Go Go.Proofs Sp
set_option maxRecDepth 100000
set_option maxHeartbeats 800000
theorem Zeo {z:Zone} (h:ZB z=0):(ZW z).length<=4/\∀p∈ZW z,0<=p.fr/\p.fr<=43200/\0<=p.bef/\p.bef<=1099511627776/\-1000000<=p.ahd/\p.ahd<=1000000:=by
 have Z:=ZaQ h;have hl:=ZaX z.chs 0 z.base;have U:z.chs.length<=3:=by
  unfold ZB at h;split at h
  ·cases h
  split at h
  ·cases h
  omega
 have V:∀c∈z.chs,0<=c.at_/\c.at_<=43200:=by
  unfold ZB at h;split at h
  ·cases h
  split at h
  ·cases h
  have H:∀(l:List Chg) (p:Option Int),Jo p l=0->∀c∈l,0<=c.at_/\c.at_<=43200:=by
   intro l;induction l with
   |nil=>intro p _ c G;cases G
   |cons a l I=>
    intro p A c G;rw[Y3]at A;split at A
    ·cases A
    rename_i U;split at A
    ·cases A
    split at A
    ·cases A
    rcases bG.1 G with rfl|G
    ·simp[Y6]at U;omega
    exact I _ A c G
  exact H _ _ h
 refine⟨by unfold ZW;omega,?_⟩;have H:∀(l:List Chg) (fr a:Int),(∀c∈l,0<=c.at_/\c.at_<=43200)->0<=fr/\fr<=43200->∀p∈Xa fr a l,0<=p.fr/\p.fr<=43200/\0<=p.bef/\p.bef<=1099511627776:=by
  intro l;induction l with
  |nil=>intro fr a _ Y p A;simp[Xa,XO]at A;subst A;simp;omega
  |cons c l I=>
   intro fr a G Y p A;have J:=G c (aU ..);simp only[Xa]at A;split at A
   ·rcases bG.1 A with rfl|A
    ·simp;omega
    exact I _ _ (λx S=>G x (aR _ S)) J p A
   exact I _ _ (λx S=>G x (aR _ S)) J p A
 intro p A;have J:=H z.chs 0 z.base V (by omega) p A;have h2:=(JU Z).2.2 p A;omega
def sl (s:Nat) (A:List (List AV)):AV:=.isl s (λ_=>(A.length:Int)) (λe=>A.getD (e ()).toNat (A.headD [])) .none
set_option maxHeartbeats 4000000
set_option maxHeartbeats 800000
open Sp
set_option maxHeartbeats 1600000
theorem nb5 {a b:Bool} (A:a=true) (G:b=true):(bif a then b else false)=true:=by rw[A,G];rfl
theorem nb6 {a b:Bool} (A:a=false) (G:b=false):(bif a then true else b)=false:=by rw[A,G];rfl
theorem c72 (n a b:Int):SC (λ_=>aB) 141 [.int .i64 λ_=>n,.int .i64 λ_=>a,.int .i64 λ_=>b] [] λr h=>r= .bool (λ_=>Y6 n a b)/\h=[]:=by
 refine QO Tryz.func141 (body:=Zj Tryz.f141) rfl (by decide+kernel) ?_;cbv;try simp only[nc]at*
 refine⟨by simp[XD,XC,XS,XB,Cn.p],?_,trivial⟩;congr 1;funext _;unfold Y6;cases decide (a<=n)<;>rfl
theorem c70 (z:Zone) (ae:z.chs.length<=1000000):SC (λ_=>aB) 139 [Ze z] [] λv h=>v= .int .i64 (λ_=>ZB z)/\h=[]:=by
 obtain⟨G,O⟩:=Zn;unfold Ze ZB;rw[Za O];refine QO Tryz.func139 (body:=Zj Tryz.f139) rfl (by decide+kernel) ?_;(cbv;(try simp only[nc]at*);(try refine Chk.mk (ZH) ?_));refine ZL (c72 z.base (-720) 720) (by first|rfl|(simp only[Ze,Za O];rfl)) λr I A=>?_;(try simp only[Ze,Za O]at A);obtain⟨rfl,rfl⟩:=A;(cbv;(try simp only[nc]at*);(try refine Chk.mk (ZH) ?_));refine⟨λh1=>?_,λh1=>?_⟩
 ·rw[iQ h1];exact zW
 rw[iP (by rw[h1];exact aO)];refine⟨λV=>?_,λV=>?_⟩
 ·simp only[iR]at V;rw[iQ (by omega)];exact zW
 simp only[iS]at V;rw[iP (by omega)];generalize hC:Jo none z.chs=C at*;(cbv;(try simp only[nc]at*);(try refine Chk.mk (ZH) ?_));refine ZJ false false [] [1,3] [] (λ(i:Nat)=>[(3,.int .i64 λ_=>(i:Int))]) (λ_=>[]) (λi=>i<=z.chs.length/\Jo (if i=0 then none else some (G Chg default z.chs ((i:Int)-1)).at_) (z.chs.drop i)=C) (λi=>z.chs.length-i+0) 0 ⟨aV _,by simpa using hC⟩ ?_ ?_
 ·(refine To.of [] ?_;cbv;(try simp only[nc]);(repeat' first|exact xT|refine⟨?_,?_⟩|refine ZM.cells ?_|refine ZC.agg ?_|refine ZC.tup ?_);all_goals try exact XZ)
 rintro i ⟨hi,A⟩;(cbv;(try simp only[nc]at*);(try refine Chk.mk (ZH) ?_));refine⟨λY=>?_,λY=>?_⟩
 ·simp only[iR]at Y;have ab:i<z.chs.length:=by omega
  rw[Qs (d:=default) O ab,Y3]at A;have aa:(if i+1=0 then none else some (G Chg default z.chs (((i+1:Nat):Int)-1)).at_)=some (G Chg default z.chs (i:Int)).at_:=by
   rw[iP (by omega)];congr 3;omega
  generalize hc:G Chg default z.chs (i:Int)=c at*;have U:(bif decide (0<(i:Int))then decide (c.at_<=(G Chg default z.chs ((i:Int)-1)).at_)else false)=leP (if i=0 then none else some (G Chg default z.chs ((i:Int)-1)).at_) c.at_:=by
   by_cases h0:i=0
   ·subst h0;rfl
   rw[iP h0,iX (show 0<(i:Int) by omega)];rfl
  rw[<-U]at A;have k1:=c72 c.at_ 0 43200;have k2:=c72 c.by_ (-180) 180;generalize Y6 c.at_ 0 43200=b1 at*;generalize Y6 c.by_ (-180) 180=S at*;(cbv;try simp only[nc]at*);simp only[hc];refine Chk.mk (ZH) ?_;refine ZL (k1) (by first|rfl|(simp only[Ze,Za O];rfl)) λr I A=>?_;(try simp only[Ze,Za O]at A);obtain⟨rfl,rfl⟩:=A;(cbv;(try simp only[nc]at*);(try refine Chk.mk (ZH) ?_));refine⟨λh3=>?_,λh3=>?_⟩
  ·rw[iQ h3]at A;rw[<-A];exact zW
  rw[iP (by rw[h3];exact aO)]at A;(cbv;(try simp only[nc]at*);(try refine Chk.mk (ZH) ?_));refine⟨λZ=>?_,λZ=>?_⟩
  ·rw[iQ Z]at A;rw[<-A];exact zW
  rw[iP (by rw[Z];exact aO)]at A;(cbv;(try simp only[nc]at*);(try refine Chk.mk (ZH) ?_));refine ZL (k2) (by first|rfl|(simp only[Ze,Za O];rfl)) λr I A=>?_;(try simp only[Ze,Za O]at A);obtain⟨rfl,rfl⟩:=A;(cbv;(try simp only[nc]at*);(try refine Chk.mk (ZH) ?_));refine⟨λJ=>?_,λJ=>?_⟩
  ·have H:(!S||decide (c.by_=0))=true:=by
    cases S
    ·rfl
    simpa using J
   rw[iQ H]at A;rw[<-A];exact zW
  have H:¬(!S||decide (c.by_=0))=true:=by
   cases S
   ·simp at J
   simpa using J
  rw[iP H]at A;(cbv;(try simp only[nc]at*);(try refine Chk.mk (ZH) ?_));refine⟨i+1,⟨by omega,by rw[aa];exact A⟩,by show z.chs.length-(i+1)+0<z.chs.length-i+0;omega,?_⟩;(refine To.of [] ?_;cbv;(try simp only[nc]);(repeat' first|exact xT|refine⟨?_,?_⟩|refine ZM.cells ?_|refine ZC.agg ?_|refine ZC.tup ?_);all_goals try exact XZ)
 have ac:z.chs.length<=i:=by simp only[iS]at Y;omega
 rw[bB ac,Zdm]at A;rw[<-A];exact zW
attribute [local irreducible] Dn
def ZjY:Int->List Chg->Int->Int
 |a,[],_=>a
 |a,c::r,k=>ZjY (if c.at_<=k then a+c.by_ else a) r k
theorem ZmP {k:Int}:∀ {l:List Chg} {a lo:Int},Asc lo l->k<lo->ZjY a l k=a
 |[],_,_,_,_=>rfl
 |c::r,a,lo,h,hk=>by
  unfold ZjY;rw[iP (by have:=h.1;omega)];exact ZmP h.2 (by have:=h.1;omega)
theorem ZmQ {k:Int}:∀ {l:List Chg} {a lo:Int},Asc lo l->ZjY a l k=af a l k
 |[],_,_,_=>rfl
 |c::r,a,lo,h=>by
  unfold ZjY af;by_cases hc:c.at_<=k
  ·rw[iQ hc,iQ hc];exact ZmQ h.2
  rw[iP hc,iP hc];exact ZmP h.2 (by omega)
theorem c97 (z:Zone) (t:Int) (hz:ZB z=0):SC (λ_=>aB) 198 [Ze z,.int .i64 λ_=>t] [] λv h=>v= .int .i64 (λ_=>af z.base z.chs t)/\h=[]:=by
 obtain⟨I,O⟩:=Zn;obtain⟨ha,Z,hl,h1,h2⟩:=Zcv hz;rw[<-ZmQ (a:=z.base) (k:=t) ha];generalize hR:ZjY z.base z.chs t=R at*;refine QO Tryz.func198 (body:=Zj Tryz.f198) rfl (by decide+kernel) ?_;unfold Ze;simp only[Za O];refine wS ?_;refine ZJ false false [] [1,2,5,6] [] (λ(⟨i,n⟩:Nat×Int)=>[(5,.int .i64 λ_=>n),(6,.int .i64 λ_=>(i:Int))]) (λ_=>[]) (λ⟨i,n⟩=>i<=z.chs.length/\(-720-180*(i:Int)<=n/\n<=720+180*(i:Int))/\ZjY n (z.chs.drop i) t=R) (λi=>z.chs.length-i.1+0) (0,z.base) ⟨aV _,by simp;omega,by simpa using hR⟩ ?_ ?_
 ·exact ZG
 rintro⟨i,n⟩ ⟨S,V,A⟩;have S:i<=z.chs.length:=S;have V:-720-180*(i:Int)<=n/\n<=720+180*(i:Int):=V;refine wS ?_;refine⟨λG=>?_,λG=>?_⟩
 ·simp only[iR]at G;have H:i<z.chs.length:=by omega
  rw[Qs (d:=default) O H]at A;have hc:=Z _ (QC (d:=default) O (l:=z.chs) (i:=i) H);have A:ZjY (if(I Chg default z.chs (i:Int)).at_<=t then n+(I Chg default z.chs (i:Int)).by_ else n) (z.chs.drop (i+1)) t=R:=A;generalize U:I Chg default z.chs (i:Int)=c at*;refine vS ?_;simp only[U];refine Chk.mk (ZH) ?_;refine⟨λJ=>?_,λJ=>?_⟩
  ·rw[iQ (by simpa using J)]at A;refine vS ?_;simp only[U];refine Chk.mk (ZH) ?_;refine⟨(i+1,n+c.by_),⟨by show i+1<=z.chs.length;omega,by dsimp only;omega,A⟩,by show z.chs.length-(i+1)+0<z.chs.length-i+0;omega,?_⟩;exact ZG
  rw[iP (by simpa using J)]at A;refine wS ?_;refine⟨(i+1,n),⟨by show i+1<=z.chs.length;omega,by dsimp only;omega,A⟩,by show z.chs.length-(i+1)+0<z.chs.length-i+0;omega,?_⟩;exact ZG
 have Y:z.chs.length<=i:=by simp only[iS]at G;omega
 rw[bB Y]at A;have A:n=R:=A;rw[<-A];exact zW
def cl (p:Pc):Pc:=if p.bef=XO then⟨p.fr,-1,p.ahd⟩else p
def Zp2 (z:Zone):List Pc:=(ZW z).map cl
def YD (a:Int) (l:List Chg):Int:=l.foldl (λa c=>a+c.by_) a
theorem Zrr:∀(G A:List Chg) (a k:Int),(∀c∈G,c.at_<=k)->af a (G++A) k=af (YD a G) A k
 |[],_,_,_,_=>rfl
 |c::r,A,a,k,h=>by
  have e:af a (c::r++A) k=if c.at_<=k then af (a+c.by_) (r++A) k else a:=rfl
  rw[e,iQ (h c (aU ..)),Zrr r A _ _ (λx H=>h x (aR _ H))];rfl
theorem Zlj (a:Int) (l:List Chg) (c:Chg):YD a (l++[c])=YD a l+c.by_:=by unfold YD;rw[List.foldl_append];rfl
structure Zbb (z:Zone) (i:Nat) (f:Int) (out:List Pc):Prop where
 le:i<=z.chs.length
 eq:Zp2 z=out++(Xa f (YD z.base (z.chs.take i)) (z.chs.drop i)).map cl
 lo:∀c∈z.chs.take i,c.at_<=f
 fr:0<=f/\f<=43200
 asc:Asc (if i=0 then f else f+1) (z.chs.drop i)
 zero:i=0->f=0
 len:out.length<=i
theorem Znr {z:Zone} (h:ZB z=0):Zbb z 0 0 []:=by
 obtain⟨A,J,H,I,G⟩:=Zcv h;exact⟨aV _,rfl,by simp,by omega,by simpa using A,λ_=>rfl,by simp⟩
theorem Zbb.ahd {z:Zone} {i:Nat} {f:Int} {out:List Pc} (h:Zbb z i f out) (A:∀c∈(z.chs.drop i).head?,f<c.at_):af z.base z.chs f=YD z.base (z.chs.take i):=by
 have e:z.chs=z.chs.take i++z.chs.drop i:=(List.take_append_drop ..).symm;rw[e,Zrr _ _ _ _ h.lo,<-e];cases hd:z.chs.drop i with
 |nil=>rfl
 |cons c r=>
  rw[hd]at A;have G:=A c rfl;unfold af;rw[iP (by omega)]
theorem Zbb.step {z:Zone} {i:Nat} {f:Int} {out:List Pc} {c:Chg} (hz:ZB z=0) (h:Zbb z i f out) (hi:i<z.chs.length) (V:z.chs.drop i=c::z.chs.drop (i+1)) (ht:z.chs.take (i+1)=z.chs.take i++[c]):
  (c.at_=0->Zbb z (i+1) c.at_ out)/\(c.at_≠0->af z.base z.chs f=YD z.base (z.chs.take i)/\Zbb z (i+1) c.at_ (out++[⟨f,c.at_,YD z.base (z.chs.take i)⟩])):=by
 obtain⟨ha,hb,hl,h1,h2⟩:=Zcv hz;have aa:c∈z.chs:=List.mem_of_mem_drop (i:=i) (by rw[V];exact aU ..);have ac:=hb c aa;have H:=h.asc;rw[V]at H;obtain⟨Z,U⟩:=H;have ae:=h.fr;have ai:f<=c.at_:=by split at Z<;>omega
 have I:YD z.base (z.chs.take (i+1))=YD z.base (z.chs.take i)+c.by_:=by rw[ht,Zlj]
 have S:∀x∈z.chs.take (i+1),x.at_<=c.at_:=λx A=>by
  rw[ht]at A;rcases cK.1 A with A|A
  ·have:=h.lo x A;omega
  simp at A;rw[A];exact bR _
 have G:Asc (if i+1=0 then c.at_ else c.at_+1) (z.chs.drop (i+1)):=by rw[iP (by omega)];exact U
 have J:=h.eq;rw[V]at J;have ab:=h.len;refine⟨λh0=>?_,λh0=>?_⟩
 ·have ah:f=0:=by omega
  refine⟨hi,?_,S,by omega,G,λh=>by omega,by omega⟩;rw[J,I];congr 1;have e:Xa f (YD z.base (z.chs.take i)) (c::z.chs.drop (i+1))=Xa c.at_ (YD z.base (z.chs.take i)+c.by_) (z.chs.drop (i+1)):=iP (by omega);rw[e]
 have Y:f<c.at_:=by
  by_cases hi0:i=0
  ·have:=h.zero hi0;omega
  rw[iP hi0]at Z;omega
 refine⟨h.ahd (by rw[V];intro x A;simp at A;rw[<-A];exact Y),hi,?_,S,by omega,G,λh=>by omega,by simp;omega⟩;have e:Xa f (YD z.base (z.chs.take i)) (c::z.chs.drop (i+1))=⟨f,c.at_,YD z.base (z.chs.take i)⟩::Xa c.at_ (YD z.base (z.chs.take i)+c.by_) (z.chs.drop (i+1)):=iQ Y;have e2:cl ⟨f,c.at_,YD z.base (z.chs.take i)⟩=⟨f,c.at_,YD z.base (z.chs.take i)⟩:=iP (by unfold XO;show¬c.at_=_;omega);rw[J,e,List.map_cons,e2,I,List.append_assoc];rfl
theorem Zbb.last {z:Zone} {f:Int} {out:List Pc} (h:Zbb z z.chs.length f out):af z.base z.chs f=YD z.base z.chs/\Zp2 z=out++[⟨f,-1,YD z.base z.chs⟩]:=by
 have G:=h.ahd (by rw[im];intro c H;cases H);have A:=h.eq;rw[List.take_length]at G A;rw[im]at A;exact⟨G,A⟩
theorem ZyN (z:Zone) (hz:ZB z=0):SC (λ_=>aB) 195 [Ze z] [] λv h=>v=lst 3 Zfn default (Zp2 z)/\h=[]:=by
 obtain⟨nt,O⟩:=Zn;obtain⟨ha,hb,hl,h1,h2⟩:=Zcv hz;have H:=λt=>c97 z t hz;have ac:=Znr hz;generalize hS:Zp2 z=S at*;refine SC.less (QO Tryz.func195 (body:=Zj Tryz.f195) rfl (by decide+kernel) ?_);unfold Ze at*;simp only[Za O]at*;refine wS ?_;refine ZJ false false [] [1,3,4,5] [.tok 3 λ_=>0] (λ(⟨i,f,out⟩:Nat×Int×List Pc)=>[(3,.isl 3 (λ_=>(out.length:Int)) (λe=>Zfn (nt Pc default out (e ()))) (.own 1)),(4,.int .i64 λ_=>f),(5,.int .i64 λ_=>(i:Int))])
  (λ⟨i,f,out⟩=>[(1,.tok 3 λ_=>(out.length:Int))]) (λ⟨i,f,out⟩=>Zbb z i f out\/(i=z.chs.length+1/\out=S)) (λi=>z.chs.length+1-i.1+0) (0,0,[]) (.inl ac) ?_ ?_
 ·(refine To.of [(3,false)] ?_;cbv;(try simp only[nc]);(repeat' first|exact xT|refine⟨?_,?_⟩|refine ZM.cells ?_|refine ZC.agg ?_|refine ZC.tup ?_);all_goals try exact XZ)
 rintro⟨i,f,out⟩ G;have G:Zbb z i f out\/(i=z.chs.length+1/\out=S):=G;have ah:out.length<=100\/out=S:=by
  rcases G with h|⟨_,h⟩
  ·have:=h.len;have:=h.le;omega
  exact .inr h
 refine wS ?_;refine⟨λY=>?_,λY=>?_⟩
 ·simp only[iR]at Y;have hs:Zbb z i f out:=by
   rcases G with h|⟨h,_⟩
   ·exact h
   omega
  have ai:=hs.le;have ae:=hs.len;have H:=H f;refine wS ?_;refine⟨λU=>?_,λU=>?_⟩
  ·simp only[iR]at U;have V:i<z.chs.length:=by omega
   have J:=hs.step hz V (Qs (d:=default) O V) (Yb (d:=default) O V);generalize hc:nt Chg default z.chs (i:Int)=c at*;refine vS ?_;simp only[hc];refine Chk.mk (ZH) ?_;refine⟨λZ=>?_,λZ=>?_⟩
   ·have h0:c.at_≠0:=by simpa using Z
    obtain⟨g1,I⟩:=J.2 h0;rw[g1]at H;generalize YD z.base (z.chs.take i)=A at*;refine wS ?_;refine ZL (H) (by first|rfl|(simp only[Ze,Za O];rfl)) λr ab G=>?_;(try simp only[Ze,Za O]at G);obtain⟨rfl,rfl⟩:=G;refine wS ?_;refine⟨(i+1,c.at_,out++[⟨f,c.at_,A⟩]),.inl I,by show z.chs.length+1-(i+1)+0<z.chs.length+1-i+0;omega,?_⟩;exact ZG
   have h0:c.at_=0:=by simpa using Z
   have I:=J.1 h0;refine wS ?_;refine⟨(i+1,c.at_,out),.inl I,by show z.chs.length+1-(i+1)+0<z.chs.length+1-i+0;omega,?_⟩;exact ZG
  simp only[iS]at U;have aa:i=z.chs.length:=by omega
  obtain⟨g1,I⟩:=(aa▸hs:Zbb z z.chs.length f out).last;rw[g1]at H;rw[hS]at I;generalize YD z.base z.chs=A at*;refine wS ?_;refine Br.isT rfl ?_;refine wS ?_;refine ZL (H) (by first|rfl|(simp only[Ze,Za O];rfl)) λr ab G=>?_;(try simp only[Ze,Za O]at G);obtain⟨rfl,rfl⟩:=G;refine wS ?_;refine⟨(i+1,-1,out++[⟨f,-1,A⟩]),.inr ⟨by rw[aa],I.symm⟩,by show z.chs.length+1-(i+1)+0<z.chs.length+1-i+0;omega,?_⟩;exact ZG
 simp only[iS]at Y;have ho:out=S:=by
  rcases G with h|⟨_,h⟩
  ·have:=h.le;omega
  exact h
 rw[<-ho];refine wS ?_;refine⟨_,[],?_,rfl,rfl⟩;exact ZG
theorem ZwW {A:(α:Type)->α->List α->Int->α} (O:∀(α:Type) (d:α) (l:List α) (i:Int),A α d l i=l.getD i.toNat d) {l:List Pc} {i:Nat} (hi:i<l.length):A Pc default (l.map cl) (i:Int)=cl (A Pc default l (i:Int)):=by
 rw[O,O];simp[aA,hi]
theorem ZwX (p:Pc):(cl p).fr=p.fr:=by unfold cl;split<;>rfl
theorem Zvp (p:Pc):(cl p).ahd=p.ahd:=by unfold cl;split<;>rfl
theorem Zgm:∀(l:List Chg) (fr a:Int),(∀c∈l,c.at_<=43200)->∀i,i<(Xa fr a l).length->(((Xa fr a l).getD i default).bef=XO↔i+1=(Xa fr a l).length)
 |[],fr,a,_,i,hi=>by
  have e:Xa fr a []=[⟨fr,XO,a⟩]:=rfl;rw[e]at hi|-;have:i=0:=by simpa using hi
  subst this;simp
 |c::r,fr,a,h,i,hi=>by
  have I:=h c (aU ..);have A:=Zgm r c.at_ (a+c.by_) (λx G=>h x (aR _ G));have H:=(ZaX r c.at_ (a+c.by_)).1;by_cases hlt:fr<c.at_
  ·have e:Xa fr a (c::r)=⟨fr,c.at_,a⟩::Xa c.at_ (a+c.by_) r:=iQ hlt;rw[e]at hi|-;cases i with
   |zero=>
    simp only[List.getD_cons_zero,bF];unfold XO;constructor<;>intro h<;>omega
   |succ i=>
    simp only[List.getD_cons_succ,bF];rw[A i (by simpa using hi)];omega
  have e:Xa fr a (c::r)=Xa c.at_ (a+c.by_) r:=iP hlt;rw[e]at hi|-;exact A i hi
theorem Zxi (z:Zone) (r a:Int) (Y:ZB z=0) (hr:-1000000<=r/\r<=1000000) (ha:0<=a/\a<XO):SC (λ_=>aB) 190 [Ze z,.int .i64 λ_=>r,.int .i64 λ_=>a] [] λv h=>v= .int .i64 (λ_=>Xl (ZW z) r a)/\h=[]:=by
 obtain⟨nt,O⟩:=Zn;have k2:=ZyN z Y;obtain⟨k4,k5⟩:=Zeo Y;have V:=Zgm z.chs 0 z.base (λc S=>((Zcv Y).2.1 c S).2.1);have ae:=(ZaX z.chs 0 z.base).1;change∀i,i<(ZW z).length->(((ZW z).getD i default).bef=XO↔i+1=(ZW z).length)at V;change 1<=(ZW z).length at ae;unfold XO at*;refine QO Tryz.func190 (body:=Zj Tryz.f190) rfl (by decide+kernel) ?_;unfold Ze at*;simp only[Za O]at*;unfold Zp2 at k2;generalize ZW z=L at*;have aj:(L.map cl).length=L.length:=bA ..;generalize hW:Xl L r a=W at*;refine wS ?_;refine ZL (k2) (by first|rfl|(simp only[Ze,Za O];rfl)) λr ai H=>?_;(try simp only[Ze,Za O]at H);obtain⟨rfl,rfl⟩:=H;refine wS ?_;refine ZJ false false [] [1,2,7,8] [] (λ(i:Nat)=>[(8,.int .i64 λ_=>(i:Int))]) (λ_=>[]) (λi=>i<L.length/\Xl (L.drop i) r a=W) (λi=>L.length-i+0) 0 ⟨by omega,by simpa using hW⟩ ?_ ?_
 ·exact ZG
 intro i I;have U:i<L.length:=I.1;have H:Xl (L.drop i) r a=W:=I.2;clear I;have hq:=k5 _ (QC (d:=default) O (l:=L) (i:=i) U);have J:=V i U;have e1:L.getD i default=nt Pc default L (i:Int):=by rw[O];rfl
 rw[e1]at J;rw[Qs (d:=default) O U,Xl]at H;have ah:=ZwW O (l:=L) U;generalize nt Pc default L (i:Int)=p at*;have aa:=Zvp p;have Z:=ZwX p;have G:(cl p).bef=if p.bef=1099511627776 then-1 else p.bef:=by
  unfold cl XO;split<;>rfl
 generalize cl p=q at*;have ac:(if(if q.fr<a then a else q.fr)<r-q.ahd then r-q.ahd else(if q.fr<a then a else q.fr))=max p.fr (max a (r-p.ahd)):=by
  rw[Z,aa];split<;>split<;>omega
 have ak:0<=max p.fr (max a (r-p.ahd))/\max p.fr (max a (r-p.ahd))<1099511627776:=by omega
 refine vS ?_;simp only[ah];refine Chk.mk (ZH) ?_;simp only[ac];generalize max p.fr (max a (r-p.ahd))=M at*;refine⟨λA=>?_,λA=>?_⟩
 ·have S:M<p.bef:=by
   by_cases h:p.bef=1099511627776
   ·omega
   rw[iP h]at G;rw[G,iW (by omega)]at A;simpa using A
  rw[iQ S]at H;rw[<-H];exact zW
 have S:¬M<p.bef:=by
  intro h';by_cases h:p.bef=1099511627776
  ·rw[iQ h]at G;rw[G]at A;simp at A
  rw[iP h]at G;rw[G,iW (by omega),iX h']at A;cases A
 rw[iP S]at H;have ab:i+1<L.length:=by
  rcases Nat.lt_or_ge (i+1) L.length with h|h
  ·exact h
  have:=J.2 (by omega);omega
 refine wS ?_;refine⟨i+1,⟨ab,H⟩,by show L.length-(i+1)+0<L.length-i+0;omega,?_⟩;exact ZG
theorem c36 (z:Zone) (G:z.chs.length<=1000000):SC (λ_=>aB) 142 [Ze z,Ze z] [] λv h=>v= .bool (λ_=>true)/\h=[]:=by
 obtain⟨H,O⟩:=Zn;refine QO Tryz.func142 (body:=Zj Tryz.f142) rfl (by decide+kernel) ?_;unfold Ze;simp only[Za O];refine wS ?_;refine Br.isF (by simp) ?_;refine wS ?_;refine ZJ false false [] [2,3,5] [] (λ(i:Nat)=>[(5,.int .i64 λ_=>(i:Int))]) (λ_=>[]) (λi=>i<=z.chs.length) (λi=>z.chs.length-i+0) 0 (aV _) ?_ ?_
 ·exact ZG
 intro i I;refine wS ?_;refine⟨λA=>?_,λA=>?_⟩
 ·simp only[iR]at A;refine wS ?_;refine Br.isF (by simp) ?_;refine wS ?_;refine⟨i+1,by omega,by omega,?_⟩;exact ZG
 (cbv;(try simp only[nc]at*);(try refine Chk.mk (ZH) ?_))
 (try first|exact⟨rfl,trivial⟩|exact⟨trivial,trivial⟩)
end Vm
namespace Vm
open Go Go.Proofs Sp
def Yd (r r':List AV):Prop:=r'.length=r.length/\∀(j:Nat) (A:AV),r'[j]? =some A->∃c,r[j]? =some c/\∀w ok v,PR w ok c v->PR w ok A v
theorem Yd.refl (r:List AV):Yd r r:=⟨rfl,λj c h=>⟨c,h,λ_ _ _ h=>h⟩⟩
theorem Yd.two {a b G:AV} (h:∀w ok v,PR w ok b v->PR w ok G v):Yd [a,b] [a,G]:=⟨rfl,λj c A=>by
 match j with
 |0=>simp only[bJ,aD]at A;subst A;exact⟨_,rfl,λ_ _ _ h=>h⟩
 |1=>simp only[cM,bJ,aD]at A;subst A;exact⟨_,rfl,h⟩
 |j+2=>simp at A⟩
theorem PR.elems {w:World} {ok:Nat->Nat->Nat->Prop} {s:Nat} {m m':Unit->Int} {f V:(Unit->Int)->List AV} {v:Value} (hm:m ()=m' ()) (G:∀i:Nat,(i:Int)<m ()->Yd (f λ_=>(i:Int)) (V λ_=>(i:Int))) (hv:PR w ok (.isl s m f .none) v):PR w ok (.isl s m' V .none) v:=by
 cases hv with
 |isl0 _ _ _ _ hz S=>exact .isl0 _ _ _ _ (by omega) rfl
 |islE _ _ _ _ a hz S=>exact .islE _ _ _ _ a (by omega) (.inl rfl)
 |isl _ _ _ _ b o len U us hn hc S he hl Y h3 h4=>
  refine .isl _ _ _ _ b o len U us (by omega) hc (.inl rfl) (λe=>by cases e) (λi A=>?_) (λi j c A I=>?_) (λi j c A I=>?_) h4
  ·rw[(G i (by omega)).1];exact hl i A
  ·obtain⟨J,H,_⟩:=(G i (by omega)).2 j c I;exact Y i j J A H
  obtain⟨J,H,Z⟩:=(G i (by omega)).2 j c I;exact Z _ _ _ (h3 i j J A H)
theorem ZC.elemsO {n k s id:Nat} {m m':Unit->Int} {f G:(Unit->Int)->List AV} (hm:m ()=m' ()) (I:∀i:Nat,(i:Int)<m ()->Yd (f λ_=>(i:Int)) (G λ_=>(i:Int))):ZC n k (.isl s m f (.own id)) (.isl s m' G (.own id)):=⟨λR v _ hv=>by
 cases hv with
 |pure _ _ H=>
  cases H with
  |isl0 _ _ _ _ hz A=>cases A
  |islE _ _ _ _ _ _ A=>rcases A with h|h<;>cases h
  |isl _ _ _ _ b o len U V hn Z A=>rcases A with h|h<;>cases h
 |own _ _ _ id _ A J Y S=>exact .own _ _ _ id v A (J.elems hm I) (by omega) (λe=>S (by omega))⟩
theorem Yd.three {a b c c':AV} (h:∀w ok v,PR w ok c v->PR w ok c' v):Yd [a,b,c] [a,b,c']:=⟨rfl,λj d A=>by
 match j with
 |0=>simp only[bJ,aD]at A;subst A;exact⟨_,rfl,λ_ _ _ h=>h⟩
 |1=>simp only[cM,bJ,aD]at A;subst A;exact⟨_,rfl,λ_ _ _ h=>h⟩
 |2=>simp only[cM,bJ,aD]at A;subst A;exact⟨_,rfl,h⟩
 |j+3=>simp at A⟩
theorem ZC.snocO {A:(α:Type)->α->List α->Int->α} (O:∀(α:Type) (d:α) (l:List α) (i:Int),A α d l i=l.getD i.toNat d) {α:Type} {n k s id:Nat} {enc:α->List AV} {d x:α} {l:List α} {n0 m m':Unit->Int} {g:(Unit->Int)->List AV} (G:n0 ()=(l.length:Int)) (hm:m ()=(l.length:Int)+1) (J:m' ()=(l.length:Int)+1) (H:Yd (g (λ_=>0)) (enc x)):
  ZC n k (.isl s m (Z2 n0 (λe=>enc (A α d l (e ()))) g) (.own id)) (.isl s m' (λe=>enc (A α d (l++[x]) (e ()))) (.own id)):=.elemsO (by omega) λi I=>by
 have I:i<l.length+1:=by omega
 by_cases h:i<l.length
 ·rw[Q6 G h];simp only[O,aW,aA,bP h];exact .refl _
 obtain rfl:i=l.length:=by omega
 rw[QG G (aJ _)];simpa [O]using H
theorem ZsT {w:World} {ok:Nat->Nat->Nat->Prop} {s:Nat} {m m' n0:Unit->Int} {J f A:(Unit->Int)->List AV} {v:Value} (H:n0 ()=0) (hm:m ()=m' ()) (G:∀i:Nat,(i:Int)<m ()->f (λ_=>(i:Int))=A (λ_=>(i:Int))) (h:PR w ok (.isl s m (Z2 n0 J f) .none) v):PR w ok (.isl s m' A .none) v:=
 h.elems hm λi I=>by
  rw[QG (len:=0) H (aV _),Nat.sub_zero,<-G i I];exact .refl _
theorem ZC.elems {n k s:Nat} {m m':Unit->Int} {f A:(Unit->Int)->List AV} {tk:Tk} (hm:m ()=m' ()) (G:∀i:Nat,(i:Int)<m ()->Yd (f λ_=>(i:Int)) (A λ_=>(i:Int))):ZC n k (.isl s m f tk) (.isl s m' A .none):=⟨λR v _ hv=>.pure _ _ (hv.isl_inv.elems hm G)⟩
theorem ZgI {H:(α:Type)->α->List α->Int->α} (O:∀(α:Type) (d:α) (l:List α) (i:Int),H α d l i=l.getD i.toNat d) {α:Type} {n k sz:Nat} (enc:α->List AV) (d:α) (l:List α) (A:List (List AV)) (I:A.length=l.length) (hr:∀i,i<l.length->Yd (A.getD i (A.headD [])) (enc (l.getD i d))):
  ZC n k (.isl sz (λ_=>(A.length:Int)) (λe=>A.getD (e ()).toNat (A.headD [])) .exact) (.isl sz (λ_=>(l.length:Int)) (λe=>enc (H α d l (e ()))) .none):=
 .elems (by simp[I]) λi G=>by
  have G:i<l.length:=by have:(i:Int)<(A.length:Int):=G;omega
  simp only[O,aW];exact hr i G
set_option maxRecDepth 100000
set_option maxHeartbeats 1600000
open Sp
open Go Go.Proofs
theorem To.freeze {s:List AV} {h:List Zi} {id sz:Nat} {n:Unit->Int} {f:(Unit->Int)->List AV} (Y:h[id]? =some (.gar sz n f)):To s h s (h.set id (.fro sz n f)):=λG R t H hs=>by
 have al:=(aE.1 Y).1;let V:RC:={R with ok:=λb o k=>b<R.w.heap.size/\G b o k/\Zdb R (h.set id (.fro sz n f)) b o k};have J:∀ {j x},(h.set id (.fro sz n f))[j]? =some x->(j=id/\x= .fro sz n f)\/(j≠id/\h[j]? =some x):=λ{j x} A=>by
  rw[bQ]at A;split at A
  ·rename_i e;simp only[aD]at A;exact .inl ⟨e.symm,A.symm⟩
  rename_i e;exact .inr ⟨λe'=>e e'.symm,A⟩
 have ae:∀b o k,R.ok b o k->V.ok b o k:=λb o k hk=>by
  obtain⟨h1,h2,h3⟩:=(H.okd _ _ _).1 hk;refine⟨h1,h2,λj x A=>?_⟩;rcases J A with⟨rfl,rfl⟩|⟨S,A⟩
  ·exact λh=>h
  exact h3 j x A
 have ah:R.le V:=⟨aJ _,λ_ _=>rfl,λ_ _=>⟨bR _,λ_=>rfl⟩,λ_ _=>.refl _,ae,λ_ _ _ _ _ _=>rfl,λ_ _ _ _ h=>h,rfl⟩;have Z:∀ {j x b},(h.set id (.fro sz n f))[j]? =some x->ZE V j x b->j≠id/\h[j]? =some x/\ZE R j x b:=λ{j x b} A I=>by
  rcases J A with⟨rfl,rfl⟩|⟨S,A⟩
  ·exact I.elim
  exact⟨S,A,(ZE.congr (R:=R) rfl rfl).1 I⟩
 refine⟨V,rfl,⟨?_,λ_ _ _=>Iff.rfl,λj x A=>?_,λi j bi bj b aj U hj I ab=>?_,H.cl,H.fresh,λj x b A hk I o k=>?_,H.n0m⟩,⟨rfl,rfl,rfl,rfl,aJ _,aJ _,λ_ _=>rfl,ae,λ_ _ _ _ _ _=>rfl,λ_ _ _=>rfl,λj x b A I=>?_⟩,ah,hs.mono ah⟩
 ·rw[bW];exact H.len
 ·rcases J A with⟨rfl,rfl⟩|⟨S,A⟩
  ·obtain⟨e1,e2⟩:=H.blk _ _ Y;refine⟨e1,?_⟩;rcases e2 with⟨h0,a0,h1⟩|⟨b,o,len,ac,arr,ty,a1,a2,a3,a4,a5,a6⟩
   ·show PR V.w V.ok _ (R.hv _);rw[h1];cases a0 with
    |none=>exact .isl0 _ _ _ _ h0 rfl
    |some a0=>exact .islE _ _ _ _ a0 h0 (.inl rfl)
   show PR V.w V.ok _ (R.hv _);rw[a3];rcases Nat.eq_zero_or_pos ac with aa|aa
   ·rw[aa,show len=0 by omega];exact .islE _ _ _ _ ⟨b,o,none⟩ (by omega) (.inl rfl)
   have ak:len*sz<=ac*sz:=aL _ a2;have hb:ZE R j (.gar sz n f) b:=⟨_,_,_,a3,aa,rfl⟩;refine .isl _ _ _ _ b o len ac (λi j=>arr.getD (o+i*sz+j) undef) a1 a2 (.inl rfl) (λh=>by cases h) (λi U=>(a6 i U).1) (λi j c U hj=>?_) (λi j c U hj=>?_) ?_
   ·have am:j<sz:=by rw[<-(a6 i U).1];exact(aE.1 hj).1
    have:(i+1)*sz<=len*sz:=aL _ U;rw[Nat.succ_mul]at this;exact Z4 (w:=R.w) a4 (by omega)
   ·exact((a6 i U).2 j c hj).mono ae (λ_ _ _ _ _ _=>rfl) λ_ _ _ _ h=>h
   refine⟨H.phys_lt Y hb,H.tokG _ _ _ Y rfl hb _ _,λi x A=>?_⟩;rcases J A with⟨rfl,rfl⟩|⟨S,A⟩
   ·exact λh=>h
   exact J0 λI=>H.dis _ _ _ _ b (λe=>S e.symm) Y A hb I
  exact(H.blk j x A).mono ah rfl rfl rfl rfl (λ_ _=>rfl)
 ·obtain⟨_,A,I⟩:=Z U I;obtain⟨_,ai,ab⟩:=Z hj ab;exact H.dis i j bi bj b aj A ai I ab
 ·obtain⟨_,A,I⟩:=Z A I;exact H.tokG j x b A hk I o k
 obtain⟨_,A,I⟩:=Z A I;exact .inr ⟨j,x,A,I,.inl rfl⟩
theorem To.froze {s:List AV} {h:List Zi} {id sz:Nat} {n:Unit->Int} {f:(Unit->Int)->List AV} (I:h[id]? =some (.gar sz n f)):To s h (s.map (rsv (h.set id (.fro sz n f)))) (h.set id (.fro sz n f)):=λG R t H Y=>by
 obtain⟨U,S,A,V,J,Z⟩:=To.freeze (s:=s) I G R t H Y;have:=SL.rsv A Z {tb with rs:=true};exact⟨U,S,A,V,J,this⟩
theorem ZvK {A:(α:Type)->α->List α->Int->α} (O:∀(α:Type) (d:α) (l:List α) (i:Int),A α d l i=l.getD i.toNat d) {α:Type} {n k sz:Nat} {enc:α->List AV} {d:α} {l m:List α} {n0 G m':Unit->Int} {H:(Unit->Int)->List AV} {tk:Tk} (J:n0 ()=0) (I:G ()=(l.length:Int)) (hm:m' ()=((l++m).length:Int)):
  ZC n k (.isl sz m' (Z2 G (Z2 n0 H λe=>enc (A α d l (e ()))) λe=>enc (A α d m (e ()))) tk) (.isl sz (λ_=>((l++m).length:Int)) (λe=>enc (A α d (l++m) (e ()))) .none):=
 .none hm λi S=>by
  show(if(i:Int)<G ()then(if(i:Int)<n0 ()then H (λ_=>(i:Int))else enc (A α d l ((i:Int)-n0 ())))else enc (A α d m ((i:Int)-G ())))=enc (A α d (l++m) (i:Int));simp only[O,aA,aW];by_cases h:i<l.length
  ·rw[iQ (by omega),iP (by omega),J,Int.sub_zero,aW,bP h]
  rw[iP (by omega),I,List.getElem?_append_right (by omega)];congr 3;omega
theorem ZkE {A:(α:Type)->α->List α->Int->α} (O:∀(α:Type) (d:α) (l:List α) (i:Int),A α d l i=l.getD i.toNat d) (t:Train):encTrain t=[.int .i64 λ_=>t.number,.int .i64 λ_=>t.days,.isl 4 (λ_=>(t.stops.length:Int)) (λe=>Q5 (A Stop default t.stops (e ()))) .none]:=by
 unfold encTrain;rw[Za O]
attribute [local irreducible] Dn
theorem Zxg (l:List Train) (Y:l.length<=1000000) (H:∀t∈l,t.stops.length<=1000000):SC (λ_=>aB) 143 [lst 3 encTrain default l,lst 3 encTrain default l] [] λv h=>v= .bool (λ_=>true)/\h=[]:=by
 obtain⟨G,O⟩:=Zn;refine QO Tryz.func143 (body:=Zj Tryz.f143) rfl (by decide+kernel) ?_;simp only[Za O,ZkE O];refine wS ?_;refine Br.isF (by simp) ?_;refine wS ?_;refine ZJ false false [] [0,1,5] [] (λ(i:Nat)=>[(5,.int .i64 λ_=>(i:Int))]) (λ_=>[]) (λi=>i<=l.length) (λi=>l.length-i+0) 0 (aV _) ?_ ?_
 ·exact ZG
 intro i Z;refine wS ?_;refine⟨λA=>?_,λA=>?_⟩
 ·simp only[iR]at A;have J:=H _ (QC (d:=default) O (l:=l) (i:=i) (by omega));have S:((G Train default l (i:Int)).stops.length:Int)<=1000000:=by omega
  refine wS ?_;refine Br.isF (by simp) ?_;refine wS ?_;refine X3 λQ I=>?_;refine ZJ false false [] [0,1,5,6] [] (λ(k:Nat)=>[(6,.int .i64 λ_=>(k:Int))]) (λ_=>[]) (λk=>k<=(G Train default l (i:Int)).stops.length) (λk=>(G Train default l (i:Int)).stops.length-k+0) 0 (aV _) ?_ ?_
  ·exact ZG
  intro k V;refine wS ?_;refine⟨λA=>?_,λA=>?_⟩
  ·simp only[iR]at A;have U:(k:Int)<((G Train default l (i:Int)).stops.length:Int):=A;refine wS ?_;refine Br.isF (by simp) ?_;refine wS ?_;refine⟨k+1,by omega,by omega,?_⟩;exact ZG
  refine wS ?_;refine I _ _ _ ?_;refine wS ?_;refine⟨i+1,by omega,by omega,?_⟩;exact ZG
 (cbv;(try simp only[nc]at*);(try refine Chk.mk (ZH) ?_))
 (try first|exact⟨rfl,trivial⟩|exact⟨trivial,trivial⟩)
theorem ZyF (b:Xv) (A:Xt b):SC (λ_=>aB) 92 [Zd b,Zd b] [] λv h=>v= .bool (λ_=>true)/\h=[]:=by
 obtain⟨S,O⟩:=Zn;have I:=Zxg b.old A.old A.stops.1;have J:=Zxg b.new A.new A.stops.2;have Y:=A.zones;have U:=A.chs;refine QO Tryz.func92 (body:=Zj Tryz.f92) rfl (by decide+kernel) ?_;unfold Zd at*;simp only[Za O]at*;refine wS ?_;refine Br.isF (by simp) ?_;refine wS ?_;refine ZJ false false [] [2,3,5] [] (λ(i:Nat)=>[(5,.int .i64 λ_=>(i:Int))]) (λ_=>[]) (λi=>i<=b.zones.length) (λi=>b.zones.length-i+0) 0 (aV _) ?_ ?_
 ·exact ZG
 intro i V;refine wS ?_;refine⟨λG=>?_,λG=>?_⟩
 ·simp only[iR]at G;have H:=U _ (QC (d:=default) O (l:=b.zones) (i:=i) (by omega));refine vS ?_;generalize S Zone default b.zones (i:Int)=z at*;refine Chk.mk (ZH) ?_;refine ZcX (c36 z H) ?_;refine wS ?_;refine Br.isF (by simp) ?_;refine wS ?_;refine⟨i+1,by omega,by omega,?_⟩;exact ZG
 refine wS ?_;refine ZcX (I) ?_;refine wS ?_;refine Br.isT rfl ?_;refine wS ?_;refine ZcX (J) ?_;exact zW
structure ZrI (b:Xv):Prop where
 zones:(b.zones.length:Int)<=9223372036854775807
 old:(b.old.length:Int)<=9223372036854775807
 new:(b.new.length:Int)<=9223372036854775807
 chs:∀z∈b.zones,(z.chs.length:Int)<=9223372036854775807
 stops:∀t∈b.old++b.new,(t.stops.length:Int)<=9223372036854775807
def ZgK (b:Xv):Bool:=decide (20<b.zones.length)||decide (20<b.old.length)||decide (20<b.new.length)||b.zones.any (λz=>decide (20<z.chs.length))||(b.old++b.new).any (λt=>decide (20<t.stops.length))
theorem ZnX {b:Xv} (h:ZgK b=false):Xt b/\(b.zones.length<=20/\b.old.length<=20/\b.new.length<=20)/\(∀z∈b.zones,z.chs.length<=20)/\∀t∈b.old++b.new,t.stops.length<=20:=by
 unfold ZgK at h;simp only[Bool.or_eq_false_iff,iS,List.any_eq_false,iR]at h;obtain⟨⟨⟨⟨S,J⟩,U⟩,H⟩,A⟩:=h;have H:∀z∈b.zones,z.chs.length<=20:=λz I=>by have:=H z I;omega
 have A:∀t∈b.old++b.new,t.stops.length<=20:=λt G=>by have:=A t G;omega
 refine⟨⟨by omega,by omega,by omega,λz I=>by have:=H z I;omega,λt G=>?_,λt G=>?_⟩,⟨by omega,by omega,by omega⟩,H,A⟩
 ·have:=A t (List.mem_append_left _ G);omega
 have:=A t (List.mem_append_right _ G);omega
theorem ZkY {α:Type} {d:α} {A:(α:Type)->α->List α->Int->α} (O:∀(α:Type) (d:α) (l:List α) (i:Int),A α d l i=l.getD i.toNat d) {q:α->Bool} {l:List α} {i:Nat} (hi:i<l.length):(l.drop i).any q=(q (A α d l (i:Int))||(l.drop (i+1)).any q):=by
 rw[Qs (d:=d) O hi,eM]
end Vm
namespace Vm
open Go Go.Proofs Sp
open Go.ChangeShapes Go.WideShapes Go.ChangeAt Go.RowKit
theorem Zk7 {w:World} {t:Nat->Question->Nat} {d:Nat} {a:AV} {v:Value} (h:VR (R0 w) a v):VR (R1 (Conc1.re w t d)) a v:=h.mono ⟨aV 1,λid A=>absurd A (fc _),λid A=>absurd A (fc _),λid A=>absurd A (fc _),λ_ _ _ h=>h,λ_ _ _ _ _ _=>rfl,λ_ _ _ _ h=>h,rfl⟩
section
variable {H:Type} {he:TypeId×Value->H} {w:World}
theorem Zqv {P:Program} {t:TypeId} {U V f2:Field} {α S I:Type} {v0:α->AV} {Y:S->AV} {Z:I->AV} {Q0:α->Prop} {Q1:S->Prop} {Q2:I->Prop} {δ:Type} {enc:δ->List AV} (mk:α->S->I->δ) (ht:P.underlying t=some (.struct #[U,V,f2])) (hc:P.cellsOf t=3)
  (h0:Zdu he P w U 0 v0 Q0) (h1:Zdu he P w V 1 Y Q1) (h2:Zdu he P w f2 2 Z Q2) (G:∀a b c,enc (mk a b c)=[v0 a,Y b,Z c]):Opn he P w t 3 enc (λz=>∃a b c,z=mk a b c/\Q0 a/\Q1 b/\Q2 c):=λaa cs x h=>by
 obtain⟨xs,m,_,_,H,A,J⟩:=DataW.trod_struct ht h;obtain⟨a,qa,pa⟩:=QH (i:=0) rfl h0 J A;obtain⟨b,qb,pb⟩:=QH (i:=1) rfl h1 J A;obtain⟨c,qc,pc⟩:=QH (i:=2) rfl h2 J A;refine⟨H.trans hc,mk a b c,⟨a,b,c,rfl,qa,qb,qc⟩,by rw[G];rfl,?_⟩;rw[G];have:=QQ (k:=0) pa (QQ (k:=1) pb (QQ (k:=2) pc ZcN));simpa using this
theorem Zqu {P:Program} {t:TypeId} {Y f1 f2 f3:Field} {α S J U:Type} {v0:α->AV} {v1:S->AV} {v2:J->AV} {V:U->AV} {Q0:α->Prop} {Q1:S->Prop} {Q2:J->Prop} {Z:U->Prop} {δ:Type} {enc:δ->List AV} (mk:α->S->J->U->δ) (ht:P.underlying t=some (.struct #[Y,f1,f2,f3])) (hc:P.cellsOf t=4)
  (h0:Zdu he P w Y 0 v0 Q0) (h1:Zdu he P w f1 1 v1 Q1) (h2:Zdu he P w f2 2 v2 Q2) (h3:Zdu he P w f3 3 V Z) (H:∀a b c d,enc (mk a b c d)=[v0 a,v1 b,v2 c,V d]):Opn he P w t 4 enc (λz=>∃a b c d,z=mk a b c d/\Q0 a/\Q1 b/\Q2 c/\Z d):=λaa cs x h=>by
 obtain⟨xs,m,_,_,I,A,G⟩:=DataW.trod_struct ht h;obtain⟨a,qa,pa⟩:=QH (i:=0) rfl h0 G A;obtain⟨b,qb,pb⟩:=QH (i:=1) rfl h1 G A;obtain⟨c,qc,pc⟩:=QH (i:=2) rfl h2 G A;obtain⟨d,qd,pd⟩:=QH (i:=3) rfl h3 G A;refine⟨I.trans hc,mk a b c d,⟨a,b,c,d,rfl,qa,qb,qc,qd⟩,by rw[H];rfl,?_⟩;rw[H];have:=QQ (k:=0) pa (QQ (k:=1) pb (QQ (k:=2) pc (QQ (k:=3) pd ZcN)));simpa using this
theorem ZwD {P:Program} {t:TypeId} {Z f1 f2 f3 f4:Field} {α U J V S:Type} {v0:α->AV} {v1:U->AV} {v2:J->AV} {Y:V->AV} {v4:S->AV} {Q0:α->Prop} {Q1:U->Prop} {Q2:J->Prop} {Q3:V->Prop} {Q4:S->Prop} {δ:Type} {enc:δ->List AV} (mk:α->U->J->V->S->δ) (ht:P.underlying t=some (.struct #[Z,f1,f2,f3,f4])) (hc:P.cellsOf t=5)
  (h0:Zdu he P w Z 0 v0 Q0) (h1:Zdu he P w f1 1 v1 Q1) (h2:Zdu he P w f2 2 v2 Q2) (h3:Zdu he P w f3 3 Y Q3) (h4:Zdu he P w f4 4 v4 Q4) (H:∀a b c d e,enc (mk a b c d e)=[v0 a,v1 b,v2 c,Y d,v4 e]):Opn he P w t 5 enc (λz=>∃a b c d e,z=mk a b c d e/\Q0 a/\Q1 b/\Q2 c/\Q3 d/\Q4 e):=λaa cs x h=>by
 obtain⟨xs,m,_,_,I,A,G⟩:=DataW.trod_struct ht h;obtain⟨a,qa,pa⟩:=QH (i:=0) rfl h0 G A;obtain⟨b,qb,pb⟩:=QH (i:=1) rfl h1 G A;obtain⟨c,qc,pc⟩:=QH (i:=2) rfl h2 G A;obtain⟨d,qd,pd⟩:=QH (i:=3) rfl h3 G A;obtain⟨e,qe,pe⟩:=QH (i:=4) rfl h4 G A;refine⟨I.trans hc,mk a b c d e,⟨a,b,c,d,e,rfl,qa,qb,qc,qd,qe⟩,by rw[H];rfl,?_⟩;rw[H];have:=QQ (k:=0) pa (QQ (k:=1) pb (QQ (k:=2) pc (QQ (k:=3) pd (QQ (k:=4) pe ZcN))));simpa using this
def ZvL (t:Train):Prop:=(t.stops.length:Int)<=9223372036854775807
def ZdW (b:Xv):List AV:=[lst 2 encZone default b.zones,lst 3 encTrain default b.old,lst 3 encTrain default b.new,.int .i64 λ_=>b.night,.int .i64 λ_=>b.last]
def Zq1 (t:Zb):List AV:=ZdW t.book++[lst 2 Zh default t.runs,lst 4 QM default t.waits,lst 3 Zt default t.delays]
structure Zrv (t:Zb):Prop where
 book:ZrI t.book
 runs:(t.runs.length:Int)<=9223372036854775807
 waits:(t.waits.length:Int)<=9223372036854775807
 delays:(t.delays.length:Int)<=9223372036854775807
 bys:∀d∈t.delays,(d.by_.length:Int)<=9223372036854775807
theorem ost:Opn he aB w 196 4 Q5 λ_=>True:=(Zqu (enc:=Q5) Stop.mk Tryz.underlying196 (by decide+kernel) ⟨rfl,by decide+kernel,on⟩ ⟨rfl,by decide+kernel,on⟩ ⟨rfl,by decide+kernel,on⟩ ⟨rfl,by decide+kernel,on⟩ λ_ _ _ _=>rfl).mono λ_ _=>trivial
theorem otr:Opn he aB w 118 3 encTrain ZvL:=(Zqv (enc:=encTrain) Train.mk Tryz.underlying118 (by decide+kernel) ⟨rfl,by decide+kernel,on⟩ ⟨rfl,by decide+kernel,on⟩ ⟨rfl,by decide+kernel,X8 (d:=default) Tryz.underlying116 (by decide+kernel) (by decide) ost⟩ λ_ _ _=>rfl).mono λ_ ⟨_,_,_,e,G,H,A⟩=>by subst e;exact A.2
theorem ZwE:Opn he aB w 25 5 ZdW ZrI:=(ZwD (enc:=ZdW) Xv.mk Tryz.underlying25 (by decide+kernel) ⟨rfl,by decide+kernel,X8 (d:=default) Tryz.underlying22 (by decide+kernel) (by decide) oz⟩ ⟨rfl,by decide+kernel,X8 (d:=default) Tryz.underlying23 (by decide+kernel) (by decide) otr⟩ ⟨rfl,by decide+kernel,X8 (d:=default) Tryz.underlying23 (by decide+kernel) (by decide) otr⟩ ⟨rfl,by decide+kernel,on⟩ ⟨rfl,by decide+kernel,on⟩ λ_ _ _ _ _=>rfl).mono λ_ ⟨_,_,_,_,_,e,G,A,H,S,U⟩=>by
 subst e;exact⟨G.2,A.2,H.2,λz J=>(G.1 z J).2.2,λt I=>(cK.1 I).elim (A.1 t) (H.1 t)⟩
theorem Zvd:Opn he aB w 121 2 Zh λ_=>True:=(Zqw (enc:=Zh) Sp.Z3.mk Tryz.underlying121 (by decide+kernel) ⟨rfl,by decide+kernel,on⟩ ⟨rfl,by decide+kernel,on⟩ λ_ _=>rfl).mono λ_ _=>trivial
theorem Zwz:Opn he aB w 32 4 QM λ_=>True:=(Zqu (enc:=QM) Sp.QR.mk Tryz.underlying32 (by decide+kernel) ⟨rfl,by decide+kernel,on⟩ ⟨rfl,by decide+kernel,on⟩ ⟨rfl,by decide+kernel,on⟩ ⟨rfl,by decide+kernel,on⟩ λ_ _ _ _=>rfl).mono λ_ _=>trivial
theorem Zvb:Opn he aB w 35 3 Zt λd=>(d.by_.length:Int)<=9223372036854775807:=(Zqv (enc:=Zt) Sp.ZU.mk Tryz.underlying35 (by decide+kernel) ⟨rfl,by decide+kernel,on⟩ ⟨rfl,by decide+kernel,on⟩ ⟨rfl,by decide+kernel,ol⟩ λ_ _ _=>rfl).mono λ_ ⟨_,_,_,e,G,H,A⟩=>by subst e;exact A
theorem Zvc:Opn he aB w 26 1 (λl:List Sp.Z3=>[lst 2 Zh default l]) λl=>(l.length:Int)<=9223372036854775807:=(X8 (d:=default) Tryz.underlying26 (by decide+kernel) (by decide) Zvd).mono λ_ h=>h.2
theorem Zu9:Opn he aB w 27 1 (λl:List Sp.QR=>[lst 4 QM default l]) λl=>(l.length:Int)<=9223372036854775807:=(X8 (d:=default) Tryz.underlying27 (by decide+kernel) (by decide) Zwz).mono λ_ h=>h.2
theorem ZsS:Opn he aB w 28 1 (λl:List Sp.ZU=>[lst 3 Zt default l]) λl=>(∀d∈l,(d.by_.length:Int)<=9223372036854775807)/\(l.length:Int)<=9223372036854775807:=X8 (d:=default) Tryz.underlying28 (by decide+kernel) (by decide) Zvb
set_option maxRecDepth 100000 in
theorem ZwB:Opn he aB w 30 8 Zq1 Zrv:=λaa cs x h=>by
 obtain⟨xs,m,_,_,J,G,I⟩:=DataW.trod_struct Tryz.underlying30 h;have V:=I 0 _ rfl;have hi:0<xs.length:=by rw[G];decide
 rw[aC hi]at V;obtain⟨h5,b,Z,ab,pb⟩:=ZwE _ _ _ V;obtain⟨r,qr,pr⟩:=QH (i:=1) rfl ⟨rfl,by decide+kernel,Zvc⟩ I G;obtain⟨v,qv,Y⟩:=QH (i:=2) rfl ⟨rfl,by decide+kernel,Zu9⟩ I G;obtain⟨d,U,pd⟩:=QH (i:=3) rfl ⟨rfl,by decide+kernel,ZsS⟩ I G;refine⟨J.trans (by decide+kernel),⟨b,r,v,d⟩,⟨Z,qr,qv,U.2,U.1⟩,rfl,λj c A=>?_⟩;have H:∀j c,j<5->(ZdW b)[j]? =some c->PR w (λb _ _=>b<w.heap.size) c (cs.getD j undef):=λj c S A=>by
  have:=pb j c A;have e:((cs.drop 0).take 5).getD j undef=cs.getD j undef:=by
   simp[aA,List.getElem?_take,S]
  exact e▸this
 match j,A with
 |0,A=>exact H 0 c (by decide) A
 |1,A=>exact H 1 c (by decide) A
 |2,A=>exact H 2 c (by decide) A
 |3,A=>exact H 3 c (by decide) A
 |4,A=>exact H 4 c (by decide) A
 |5,A=>cases A;exact pr
 |6,A=>cases A;exact Y
 |7,A=>cases A;exact pd
 |j+8,A=>cases A
end
end Vm
namespace Vm
attribute [local irreducible] Dn
open Go Go.Proofs Sp
set_option maxRecDepth 100000
set_option maxHeartbeats 4000000
def X7 (t:Zb) (w:Int):Int:=if Zq t=0 then(if Qq w 0 ((t.waits.length:Int)-1)then 3 else 0)else Zq t
theorem Zx8 (t:Zb) (w:Int) (G:Qm t):SC (λ_=>aB) 106 [Zf t,.int .i64 λ_=>w] [] λv h=>v= .tup [Q8 (Zq t) t,.int .i64 λ_=>X7 t w]/\h=[]:=by
 obtain⟨I,O⟩:=Zn;refine SC.less (QO Tryz.func106 (body:=Zj Tryz.f106) rfl (by decide+kernel) ?_);have k:=Ztq t G;have hw:=G.waits;have H:=Zdp w 0 ((t.waits.length:Int)-1);generalize A:X7 t w=e;unfold X7 at A;unfold Zf at*;simp only[Za O]at k|-;by_cases he:Zq t=0
 ·unfold Q8 at k|-;rw[iQ he]at k|-;rw[iQ he]at A;unfold Z1 at k|-;simp only[Za O,Zc]at k|-;rw[he]at k;refine wS ?_;refine Zrk (k) ?_;refine wS ?_;refine Br.isT rfl ?_;refine wS ?_;refine Zrk (H) ?_;refine wS ?_;refine⟨λh=>?_,λh=>?_⟩
  ·have h:Qq w 0 ((t.waits.length:Int)-1)=true:=h;rw[iQ h]at A;subst A;refine wS ?_;refine⟨_,[],?_,rfl,rfl⟩;exact ZG
  have h:Qq w 0 ((t.waits.length:Int)-1)=false:=h;rw[iP (by rw[h];exact aO)]at A;subst A;refine wS ?_;refine⟨_,[],?_,rfl,rfl⟩;exact ZG
 unfold Q8 at k|-;rw[iP he]at k|-;rw[iP he]at A;rw[A]at k he;refine wS ?_;refine Zrk (k) ?_;refine wS ?_;refine⟨λh=>?_,λh=>?_⟩
 ·exact absurd (eq_of_beq h) he
 refine wS ?_;refine Br.isF rfl ?_;refine wS ?_;refine⟨_,[],?_,rfl,rfl⟩;exact ZG
end Vm
namespace Sp
def Xw (c:List (List Call)) (n:Int) (s:Step):Int:=
 if Qq s.run 0 (n-1)then 3
 else if Zx (c.getD s.run.toNat []) 0 s.from_<0\/Zx (c.getD s.run.toNat []) (Zx (c.getD s.run.toNat []) 0 s.from_+1) s.to_<0 then 3 else 0
def Xh (c:List (List Call)) (n:Int) (a:Zl):Int:=
 if Qq a.from_ 0 9||(Qq a.goal 0 9||Qq a.since 0 43200)then 1
 else if 6<a.steps.length then 6
 else Zo (λi=>Xw c n (a.steps.getD i default)) 0 a.steps.length
end Sp
namespace Vm
attribute [local irreducible] Dn
open Go Go.Proofs Sp
set_option maxRecDepth 100000
set_option maxHeartbeats 4000000
def QU (s:Sp.Step):List AV:=[.int .i64 λ_=>s.run,.int .i64 λ_=>s.from_,.int .i64 λ_=>s.to_]
def Qa (a:Zl):AV:=.agg [.int .i64 λ_=>a.from_,.int .i64 λ_=>a.since,.int .i64 λ_=>a.goal,lst 3 QU default a.steps]
theorem ZxW (t:Zb) (a:Zl) (hc:YJ (callsOf t)) (hr:t.runs.length<=1000000) (ha:a.steps.length<=1000000):SC (λ_=>aB) 162 [.iptr (Z1 t) 0,Qa a] [] λv h=>v= .int .i64 (λ_=>Xh (callsOf t) t.runs.length a)/\h=[]:=by
 obtain⟨Y,O⟩:=Zn;unfold Z1 Qa;simp only[Za O,Zc];refine SC.less (QO Tryz.func162 (body:=Zj Tryz.f162) rfl (by decide+kernel) ?_);generalize G:Xh (callsOf t) t.runs.length a=e;have ac:t.runs.length=(callsOf t).length:=by unfold callsOf;rw[bA]
 generalize ae:callsOf t=c at*;have aa:∀i:Int,0<=i->i<=(t.runs.length:Int)-1->Y (List Sp.Call) [] c i∈c:=λi h0 h1=>by
  have:i.toNat<c.length:=by omega
  rw[O,aA,aC this];exact bL _
 unfold Xh at G;have k1:=Zdp a.from_ 0 9;have k2:=Zdp a.goal 0 9;have k3:=Zdp a.since 0 43200;generalize Qq a.from_ 0 9=U at*;generalize Qq a.goal 0 9=b2 at*;generalize Qq a.since 0 43200=b3 at*;refine wS ?_;refine Zrk (k1) ?_;refine wS ?_;cases U;case true=>
  rw[cO,iQ rfl]at G;subst G;refine Br.isF rfl ?_;refine wS ?_;refine Br.isF rfl ?_;refine wS ?_;refine Br.isT rfl ?_;refine wS ?_;refine⟨_,[],?_,rfl,rfl⟩;exact ZG
 refine Br.isT rfl ?_;refine wS ?_;refine Zrk (k2) ?_;refine wS ?_;cases b2;case true=>
  rw[cO,Bool.or_true,iQ rfl]at G;subst G;refine Br.isF rfl ?_;refine wS ?_;refine Br.isT rfl ?_;refine wS ?_;refine⟨_,[],?_,rfl,rfl⟩;exact ZG
 refine Br.isT rfl ?_;refine wS ?_;refine Zrk (k3) ?_;refine wS ?_;cases b3;case true=>
  rw[iQ (show(false||(false||true))=true from rfl)]at G;subst G;refine Br.isT rfl ?_;refine wS ?_;refine⟨_,[],?_,rfl,rfl⟩;exact ZG
 rw[iP (show¬(false||(false||false))=true by decide)]at G;refine Br.isF rfl ?_;refine wS ?_;refine⟨λS=>?_,λS=>?_⟩
 ·have S:=iU S;rw[iQ (by omega)]at G;subst G;refine wS ?_;refine⟨_,[],?_,rfl,rfl⟩;exact ZG
 have S:=iV S;rw[iP (by omega)]at G;clear k1 k2 k3;refine wS ?_;refine ZJ false false [] [0,29,30,31] [] (λ(i:Nat)=>[(31,.int .i64 λ_=>(i:Int))]) (λ_=>[]) (λi=>i<=a.steps.length/\e=Zo (λi=>Xw c t.runs.length (a.steps.getD i default)) i (a.steps.length-i)) (λi=>a.steps.length-i+0) 0 ⟨by omega,G.symm⟩ ?_ ?_
 ·exact ZG
 rintro i ⟨hi,A⟩;refine wS ?_;refine⟨λZ=>?_,λZ=>?_⟩;case refine_2=>
  simp only[iS]at Z;rw[Qv (by omega)]at A;subst A;refine wS ?_;refine⟨_,[],?_,rfl,rfl⟩;exact ZG
 simp only[iR]at Z;rw[Qn (by omega)]at A;have ab:Xw c t.runs.length (a.steps.getD i default)=Xw c t.runs.length (Y Step default a.steps i):=by rw[XH O]
 rw[ab]at A;generalize hd:Y Step default a.steps i=d at*;refine vS ?_;simp only[hd];refine Chk.mk (ZH) ?_;have k5:=Zdp d.run 0 ((t.runs.length:Int)-1);generalize H:Xw c t.runs.length d=e5 at A;unfold Xw at H;rw[<-O (List Sp.Call) [] c d.run]at H;refine Zrk (k5) ?_;refine wS ?_;refine⟨λV=>?_,λV=>?_⟩
 ·rw[iQ V]at H;subst H;rw[iQ (by decide)]at A;subst A;refine wS ?_;refine⟨_,[],?_,rfl,rfl⟩;exact ZG
 rw[iP (by rw[V];exact aO)]at H;have U:=QK V;have m1:=aa _ U.1 U.2;refine vS ?_;generalize hF:Y (List Sp.Call) [] c d.run=F at*;have r1:=hc.row _ m1;have q1:=Zoh F 0 d.from_ (by omega) (by omega);have s1:=XK F 0 d.from_;have q2:=Zoh F (Zx F 0 d.from_+1) d.to_ (by omega) (by omega);simp only[Za O]at q1 q2;try simp only[hF]
 try refine Chk.mk (ZH) ?_
 refine Zrk (q1) ?_;generalize Zx F 0 d.from_=f at*;refine vS ?_;try simp only[hF]
 try refine Chk.mk (ZH) ?_
 refine⟨λI=>?_,λI=>?_⟩;case refine_2=>
  have I:f<0:=by simpa only[eI,iR]using I
  rw[iQ (.inl I)]at H;subst H;rw[iQ (by decide)]at A;subst A;refine wS ?_;refine Br.isT (by simpa using I) ?_;refine wS ?_;refine⟨_,[],?_,rfl,rfl⟩;exact ZG
 have I:¬f<0:=by simpa only[Bool.not_eq_true',iS]using I
 refine vS ?_;try simp only[hF]
 try refine Chk.mk (ZH) ?_
 refine Zrk (q2) ?_;generalize Zx F (f+1) d.to_=g at*;refine wS ?_;refine⟨λJ=>?_,λJ=>?_⟩
 ·have J:g<0:=by
   cases hf0:decide (f<0)with
   |true=>exact absurd (iU hf0) I
   |false=>rw[hf0]at J;exact iU J
  rw[iQ (.inr J)]at H;subst H;rw[iQ (by decide)]at A;subst A;refine wS ?_;refine⟨_,[],?_,rfl,rfl⟩;exact ZG
 have J:¬g<0:=by
  cases hf0:decide (f<0)with
  |true=>exact absurd (iU hf0) I
  |false=>rw[hf0]at J;exact iV J
 rw[iP (by omega)]at H;subst H;rw[iP (λh=>h rfl)]at A;refine wS ?_;refine⟨i+1,⟨by omega,A⟩,by show a.steps.length-(i+1)+0<a.steps.length-i+0;omega,?_⟩;exact ZG
end Vm
namespace Vm
open Go Go.Proofs Sp
open Go.ChangeShapes Go.WideShapes Go.ChangeAt Go.RowKit
section
variable {H:Type} {he:TypeId×Value->H} {w:World}
def Znc (a:Zl):List AV:=[.int .i64 λ_=>a.from_,.int .i64 λ_=>a.since,.int .i64 λ_=>a.goal,lst 3 QU default a.steps]
theorem ZwC:Opn he aB w 163 3 QU λ_=>True:=(Zqv (enc:=QU) Sp.Step.mk Tryz.underlying163 (by decide+kernel) ⟨rfl,by decide+kernel,on⟩ ⟨rfl,by decide+kernel,on⟩ ⟨rfl,by decide+kernel,on⟩ λ_ _ _=>rfl).mono λ_ _=>trivial
theorem ZwA:Opn he aB w 66 4 Znc λa=>(a.steps.length:Int)<=9223372036854775807:=(Zqu (enc:=Znc) (λf s g l=>Zl.mk f s g l) Tryz.underlying66 (by decide+kernel) ⟨rfl,by decide+kernel,on⟩ ⟨rfl,by decide+kernel,on⟩ ⟨rfl,by decide+kernel,on⟩ ⟨rfl,by decide+kernel,X8 (d:=default) Tryz.underlying64 (by decide+kernel) (by decide) ZwC⟩ λ_ _ _ _=>rfl).mono λ_ ⟨_,_,_,_,e,G,H,I,A⟩=>by subst e;exact A.2
end
end Vm
namespace Sp
open Vm
structure Zix where
 comes:Int
 ready:Int
 goes:Int
deriving DecidableEq,Inhabited
def Zm (c:List (List Call)) (r:Int):List Call:=c.getD r.toNat []
def Zu (c:List (List Call)) (r a:Int):Call:=(Zm c r).getD a.toNat default
def Zha (x:List Int) (run leg:Int):Nat->List ZU->Int
 |_,[]=>0
 |i,d::r=>if d.run=run/\d.leg=leg then d.by_.getD (x.getD i 0).toNat 0 else Zha x run leg (i+1) r
def Zdq (t:Zb) (x:List Int) (run leg:Int):Int:=Zha x run leg 0 t.delays
def Xn (t:Zb) (x:List Int) (g:Int->Int->Int) (r a:Int):Int:=
 g r (a-1)+(Zu (callsOf t) r a).arrive-(Zu (callsOf t) r (a-1)).depart+Zdq t x r (a-1)
def JR (c:List (List Call)) (cm:Int->Int->Int) (r:Int) (call:Call) (g:Int) (w:QR):Int:=
 if w.train≠r\/w.station≠call.station then g
 else if cm w.feeder (ZD (Zm c w.feeder) w.station)<=call.depart+w.minutes then max g (cm w.feeder (ZD (Zm c w.feeder) w.station))else g
def Zdg (c:List (List Call)) (r a comes:Int):Int:=
 if a=((Zm c r).length:Int)-1 then comes else max (Zu c r a).depart comes
def Za5 (t:Zb) (cm:Int->Int->Int) (r a ready:Int):Int:=
 if a=((Zm (callsOf t) r).length:Int)-1 then ready else t.waits.foldl (JR (callsOf t) cm r (Zu (callsOf t) r a)) ready
def Zai (t:Zb) (cm:Int->Int->Int) (r a comes:Int):Zix:=
 let ready:=Zdg (callsOf t) r a comes;let goes:=Za5 t cm r a ready
 ⟨if a=0 then goes else comes,ready,goes⟩
def ZbB (t:Zb) (x:List Int) (g:Int->Int->Int) (r a:Int):Zix:=
 Zai t (Xn t x g) r a (if 0<a then Xn t x g r a else 0)
def ZeA (t:Zb) (x:List Int):Nat->Int->Int->Zix
 |0=>λ_ _=>default
 |n+1=>λr a=>ZbB t x (λr a=>(ZeA t x n r a).goes) r a
def ZR (t:Zb) (x:List Int) (r a:Int):Zix:=ZeA t x ((Zu (callsOf t) r a).depart.toNat+1) r a
def goes (t:Zb) (x:List Int) (r a:Int):Int:=(ZR t x r a).goes
def comes (t:Zb) (x:List Int) (r a:Int):Int:=Xn t x (goes t x) r a
def StopIn (c:List (List Call)) (r a:Int):Prop:=0<=r/\r<c.length/\0<=a/\a<(Zm c r).length
structure Zz (t:Zb):Prop where
 calls:YJ (callsOf t)
 nn:∀r a,StopIn (callsOf t) r a->0<=(Zu (callsOf t) r a).arrive/\(Zu (callsOf t) r a).arrive<=(Zu (callsOf t) r a).depart/\(Zu (callsOf t) r a).depart<=1099511627776
 asc:∀r a,StopIn (callsOf t) r a->0<a->(Zu (callsOf t) r (a-1)).depart<(Zu (callsOf t) r a).arrive
 wlen:t.waits.length<=4
 dlen:t.delays.length<=6
 w:∀w∈t.waits,0<=w.feeder/\w.feeder<(callsOf t).length/\1<=ZD (Zm (callsOf t) w.feeder) w.station/\0<=w.minutes/\w.minutes<=60
  /\∀a,StopIn (callsOf t) w.train a->a≠((Zm (callsOf t) w.train).length:Int)-1->(Zu (callsOf t) w.train a).station=w.station->
   (Zu (callsOf t) w.feeder (ZD (Zm (callsOf t) w.feeder) w.station)).arrive<=(Zu (callsOf t) w.train a).depart
 d:∀d∈t.delays,1<=d.by_.length/\d.by_.length<=3/\∀n∈d.by_,0<=n/\n<=240
structure JE (t:Zb) (x:List Int):Prop where
 len:x.length=6
 d:∀i,i<t.delays.length->0<=x.getD i 0/\x.getD i 0<(t.delays.getD i default).by_.length
theorem YP {t:Zb} (A:Zz t) {w:QR} (hw:w∈t.waits):StopIn (callsOf t) w.feeder (ZD (Zm (callsOf t) w.feeder) w.station):=by
 have h:=A.w w hw;have:=XK (Zm (callsOf t) w.feeder) 1 w.station;exact⟨h.1,h.2.1,by unfold ZD at*;omega,by unfold ZD;omega⟩
theorem StopIn.prev {c:List (List Call)} {r a:Int} (h:StopIn c r a) (A:0<a):StopIn c r (a-1):=⟨h.1,h.2.1,by have:=h.2.2.2;omega,by have:=h.2.2.2;omega⟩
theorem Zng {x:List Int} {run leg:Int}:∀(l:List ZU) (i:Nat),(∀d∈l,∀n∈d.by_,0<=n/\n<=240)->0<=Zha x run leg i l/\Zha x run leg i l<=240
 |[],i,_=>by unfold Zha;omega
 |d::r,i,h=>by
  unfold Zha;split
  ·rw[aA];cases hq:d.by_[(x.getD i 0).toNat]? with
   |none=>simp
   |some n=>exact h d (aU ..) n (List.mem_of_getElem? hq)
  exact Zng r (i+1) λd A=>h d (aR _ A)
theorem ZdZ {t:Zb} (G:Zz t) (x:List Int) (run leg:Int):0<=Zdq t x run leg/\Zdq t x run leg<=240:=Zng _ _ λd A=>(G.d d A).2.2
theorem Zau {α A:Type} {f g:α->A->α}:∀(l:List A) (a:α),(∀b∈l,∀a,f a b=g a b)->l.foldl f a=l.foldl g a
 |[],_,_=>rfl
 |b::r,a,h=>by
  rw[dR,dR,h b (aU ..) a];exact Zau r _ λb G=>h b (aR _ G)
theorem ZdT {t:Zb} (H:Zz t) (x:List Int) {g g':Int->Int->Int} {r a:Int} (S:StopIn (callsOf t) r a)
  (h:∀G A,StopIn (callsOf t) G A->(Zu (callsOf t) G A).depart<(Zu (callsOf t) r a).depart->g G A=g' G A):ZbB t x g r a=ZbB t x g' r a:=by
 have Y:∀G A,StopIn (callsOf t) G A->0<A->(Zu (callsOf t) G A).arrive<=(Zu (callsOf t) r a).depart->Xn t x g G A=Xn t x g' G A:=λG A I J ab=>by
  unfold Xn;rw[h G (A-1) (I.prev J) (by have:=H.asc G A I J;omega)]
 have h1:(if 0<a then Xn t x g r a else 0)=(if 0<a then Xn t x g' r a else 0):=by
  split
  ·exact Y r a S (by assumption) (H.nn r a S).2.1
  rfl
 have h2:∀q,Za5 t (Xn t x g) r a q=Za5 t (Xn t x g') r a q:=λq=>by
  unfold Za5;split
  ·rfl
  rename_i hl;refine Zau _ _ λw hw b=>?_;unfold JR;split
  ·rfl
  rename_i V;have aa:=H.w w hw;have U:w.train=r:=by
   by_cases he:w.train=r
   ·exact he
   exact absurd (.inl he) V
  have Z:w.station=(Zu (callsOf t) r a).station:=by
   by_cases he:w.station=(Zu (callsOf t) r a).station
   ·exact he
   exact absurd (.inr he) V
  rw[Y _ _ (YP H hw) (by omega) (by subst U;exact aa.2.2.2.2.2 a S hl Z.symm)]
 unfold ZbB Zai;rw[h1];simp only[h2]
theorem Zfj {t:Zb} (A:Zz t) (x:List Int):∀(n m:Nat) (r a:Int),StopIn (callsOf t) r a->(Zu (callsOf t) r a).depart<n->(Zu (callsOf t) r a).depart<m->ZeA t x n r a=ZeA t x m r a
 |0,_,r,a,hs,h,_=>by have:=A.nn r a hs;omega
 |_+1,0,r,a,hs,_,h=>by have:=A.nn r a hs;omega
 |n+1,m+1,r,a,hs,h1,h2=>ZdT A x hs λG H I J=>by
  show(ZeA t x n G H).goes=(ZeA t x m G H).goes;rw[Zfj A x n m G H I (by omega) (by omega)]
theorem ZgR {t:Zb} (A:Zz t) (x:List Int) {r a:Int} (J:StopIn (callsOf t) r a):ZR t x r a=ZbB t x (goes t x) r a:=by
 show ZbB t x _ r a=_;refine ZdT A x J λH I G S=>?_;have:=A.nn H I G;have:=A.nn r a J;unfold goes ZR;rw[Zfj A x _ ((Zu (callsOf t) H I).depart.toNat+1) H I G (by omega) (by omega)]
theorem Zdv {t:Zb} (A:Zz t) {cm:Int->Int->Int} {r:Int} {call:Call} {M:Int} (G:call.depart+60<=M):∀(l:List QR) (g:Int),(∀w∈l,w∈t.waits)->g<=M->g<=l.foldl (JR (callsOf t) cm r call) g/\l.foldl (JR (callsOf t) cm r call) g<=M
 |[],g,_,h=>⟨bR _,h⟩
 |w::l,g,hl,h=>by
  rw[dR];have hw:=A.w w (hl w (aU ..));have H:g<=JR (callsOf t) cm r call g w/\JR (callsOf t) cm r call g w<=M:=by
   unfold JR;split
   ·omega
   split<;>omega
  have I:=Zdv A (cm:=cm) (r:=r) G l (JR (callsOf t) cm r call g w) (λw hw=>hl w (aR _ hw)) H.2;omega
theorem Zs6 {t:Zb} (G:Zz t) (x:List Int) {r a:Int} (A:StopIn (callsOf t) r a):goes t x r a=(ZbB t x (goes t x) r a).goes:=by
 show(ZR t x r a).goes=_;rw[ZgR G x A]
theorem ZgS {t:Zb} (A:Zz t) (x:List Int):∀(n:Nat) (r a:Int),StopIn (callsOf t) r a->(Zu (callsOf t) r a).depart<n->
  (Zu (callsOf t) r a).arrive<=goes t x r a/\goes t x r a<=(Zu (callsOf t) r a).depart+60+240*a/\(a≠((Zm (callsOf t) r).length:Int)-1->(Zu (callsOf t) r a).depart<=goes t x r a)
 |0,r,a,hs,h=>by have:=A.nn r a hs;omega
 |n+1,r,a,hs,h=>by
  have Z:=A.nn r a hs;have I:0<a->(Zu (callsOf t) r a).arrive<=Xn t x (goes t x) r a/\Xn t x (goes t x) r a<=(Zu (callsOf t) r a).arrive+60+240*a:=λJ=>by
   have U:=A.asc r a hs J;have H:=ZgS A x n r (a-1) (hs.prev J) (by omega);have V:=H.2.2 (by have:=hs.2.2.2;omega);have S:=ZdZ A x r (a-1);show _<=goes t x r (a-1)+_-_+_/\goes t x r (a-1)+_-_+_<=_;omega
  rw[Zs6 A x hs];generalize Y:goes t x=G at*;unfold ZbB Zai Zdg Za5;have J:=hs.2.2.1;by_cases hl:a=((Zm (callsOf t) r).length:Int)-1
  ·have H:0<a:=by
    have hr:=A.calls.row (Zm (callsOf t) r) (by
     unfold Zm;have:r.toNat<(callsOf t).length:=by have:=hs.2.1;have:=hs.1;omega
     rw[aA,aC this]
     exact bL _)
    omega
   simp only[iQ hl,iQ H];have:=I H;omega
  simp only[iP hl];by_cases h0:0<a
  ·simp only[iQ h0];have:=I h0;have hw:=Zdv A (cm:=Xn t x G) (r:=r) (call:=Zu (callsOf t) r a) (M:=(Zu (callsOf t) r a).depart+60+240*a) (by omega) t.waits (max (Zu (callsOf t) r a).depart (Xn t x G r a)) (λw hw=>hw) (by omega);omega
  simp only[iP h0];have hw:=Zdv A (cm:=Xn t x G) (r:=r) (call:=Zu (callsOf t) r a) (M:=(Zu (callsOf t) r a).depart+60+240*a) (by omega) t.waits (max (Zu (callsOf t) r a).depart 0) (λw hw=>hw) (by omega);omega
theorem Zji {t:Zb} (G:Zz t) (x:List Int) {r a:Int} (A:StopIn (callsOf t) r a):0<=goes t x r a/\goes t x r a<=1099511640000/\(a≠((Zm (callsOf t) r).length:Int)-1->(Zu (callsOf t) r a).depart<=goes t x r a):=by
 have h:=ZgS G x ((Zu (callsOf t) r a).depart.toNat+1) r a A (by have:=G.nn r a A;omega);have H:=G.nn r a A
 have hr:=G.calls.row (Zm (callsOf t) r) (by
  unfold Zm;have:r.toNat<(callsOf t).length:=by have:=A.2.1;have:=A.1;omega
  rw[aA,aC this]
  exact bL _)
 have:=A.2.2.2;exact⟨by omega,by omega,h.2.2⟩
theorem Zra {t:Zb} (G:Zz t) (x:List Int) {r a:Int} (A:StopIn (callsOf t) r a) (H:0<a):(Zu (callsOf t) r a).arrive<=comes t x r a/\comes t x r a<=1099511650000:=by
 have Y:=G.asc r a A H;have I:=Zji G x (A.prev H);have h3:=I.2.2 (by have:=A.2.2.2;omega);have V:=ZdZ G x r (a-1);have h5:=G.nn r a A;have J:=G.nn r (a-1) (A.prev H);have Z:=(ZgS G x ((Zu (callsOf t) r (a-1)).depart.toNat+1) r (a-1) (A.prev H) (by omega)).2.1
 have U:=G.calls.row (Zm (callsOf t) r) (by
  unfold Zm;have:r.toNat<(callsOf t).length:=by have:=A.2.1;have:=A.1;omega
  rw[aA,aC this]
  exact bL _)
 have S:=A.2.2.2;show _<=goes t x r (a-1)+_-_+_/\goes t x r (a-1)+_-_+_<=_;omega
end Sp
end Go.Proofs.YtjgpiclllehgmaaGreat
