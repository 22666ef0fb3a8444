/- Lemmas. -/
import Derived.Maps.RangeRun
import Derived.Test.YtjgpiclllehgmaaGreatB3
import Derived.Test.YtjgpiclllehgmaaGreatB4
import Derived.Test.YtjgpiclllehgmaaGreatB2
import Derived.Test.YtjgpiclllehgmaaGreatB0
import Derived.Test.YtjgpiclllehgmaaGreatB1
set_option linter.all false
open Array renaming getElem?_setIfInBounds_ne->aF,toList_filter->gZ
open Bool renaming and_eq_true->aS,eq_iff_iff->eo,false_ne_true->aO,not_eq_true'->cG,or_eq_true->cX
open Decidable renaming of_not_not->bO
open Int renaming toNat->ft,toNat_natCast->aW
open List renaming all_eq_true->bM,any_eq_true->dY,contains_eq_mem->eT,drop->iG,filter_cons->fR,foldl_append->eR,getD_eq_getElem?_getD->aA,getElem?_append_left->bP,getElem?_eq_getElem->aC,getElem?_map->aP,getElem?_set_ne->cQ,getElem?_set_self->cS,getElem_mem->bL,length->fA,length_append->bf,length_cons->bF,length_map->bA,length_nil->cE,length_range->cZ,length_set->bW,length_take->bT,lookup->eV,map->eN,mem_append->cK,mem_cons->bG,mem_filter->fe,mem_map->bE,mem_of_getElem?->aZ,mem_range->bZ,mem_singleton->aN,range->aT,take->gL,take_of_length_le->dT
open List.cons renaming injEq->cB
open Nat renaming le_refl->aJ,lt_succ_self->fS,mul_comm->ea,zero_le->aV
open Go.Proofs.Tryz renaming prog->aB
namespace Go.Proofs.YtjgpiclllehgmaaGreat
namespace Vm
attribute [local irreducible] Dn
open Go Go.Proofs Sp
set_option maxRecDepth 100000
set_option maxHeartbeats 4000000
def vB (A:(α:Type)->α->List α->Int->α) (q:Nat) (c:List (List Sp.Call)):Zi:=.vgar 1 (λ_=>(c.length:Int)) (λe=>[.nsub q e λ_=>((A (List Sp.Call) [] c (e ())).length:Int)])
def fB (A:(α:Type)->α->List α->Int->α) (z:Nat) (c:List (List Sp.Call)) (f:Nat->Nat->Int):Zi:=.fam z 1 (λ_=>(c.length:Int)) (λe _=>((A (List Sp.Call) [] c (e ())).length:Int)) (λe k=>[.int .i64 λ_=>f (e ()).toNat (k ()).toNat])
def Zle (n:Int):AV:=.agg [.gsl 0 λ_=>n,.gsl 2 λ_=>n,.gsl 4 λ_=>n]
def ZiC (A:(α:Type)->α->List α->Int->α) (c:List (List Sp.Call)) (w:W3):List Zi:=[vB A 1 c,fB A 6 c w.co,vB A 3 c,fB A 6 c w.re,vB A 5 c,fB A 6 c w.go]
theorem Zu7 {g:List AV} {F v:Int} {A:Unit->Bool} {V:Unit->Int} (h:g=[.int .i64 λ_=>F]) (hv:V ()=v):putC g 0 ((Qt A (eN purify (AV.int .i64 V).cellsOf) (gL 1 (iG 0 g))).getD [])=[.int .i64 λ_=>bif A ()then v else F]:=by
 subst h;subst hv;rfl
theorem Zm2 (a r:Nat):decide ((a:Int)=r)=(a==r):=by
 by_cases h:a=r
 ·subst h;simp
 rw[iW (by omega)];exact(beq_eq_false_iff_ne.mpr h).symm
theorem ZuT (f:Nat->Nat->Int) (r i a b:Nat) (v:Int):(bif decide ((a:Int)=r)&&decide ((b:Int)=i)then v else f a b)=JH f r i v a b:=by
 unfold JH;rw[Zm2,Zm2]
theorem JT {g:(Unit->Int)->(Unit->Int)->List AV} {F:Nat->Nat->Int} {r i:Nat} {v:Int} {V:Unit->Int} (H:∀a b:Nat,g (λ_=>(a:Int)) (λ_=>(b:Int))=[.int .i64 λ_=>F a b]) (hv:V ()=v):
  ∀a b:Nat,(λ(G A:Unit->Int)=>putC (g G A) 0 ((Qt (λ_=>decide (G ()=(r:Int))&&decide (A ()=(i:Int))) (eN purify (AV.int .i64 V).cellsOf) (gL 1 (iG 0 (g G A)))).getD [])) (λ_=>(a:Int)) (λ_=>(b:Int))=[.int .i64 λ_=>JH F r i v a b]:=λa b=>by
 show putC (g (λ_=>(a:Int)) (λ_=>(b:Int))) 0 _=_;rw[Zu7 (H a b) hv,<-ZuT]
theorem ZiF (f:Nat->Nat->Int) (r i:Nat) (a b:Int):JH (JH f r i a) r i b=JH f r i b:=by
 funext p q;unfold JH;cases (p==r&&q==i)<;>rfl
theorem JS {n k z:Nat} {N:Unit->Int} {m:(Unit->Int)->Unit->Int} {g:(Unit->Int)->(Unit->Int)->List AV} {F A:Nat->Nat->Int} (G:∀a b:Nat,g (λ_=>(a:Int)) (λ_=>(b:Int))=[.int .i64 λ_=>F a b]) (H:F=A):
  ZM n k (.fam z 1 N m g) (.fam z 1 N m λe k=>[.int .i64 λ_=>A (e ()).toNat (k ()).toNat]):=.fam rfl (λ_ _=>rfl) λa _ b _=>by
 subst H;rw[G a b];rfl
def ZwH (t:Zb) (x:List Int) (w:W3) (r i:Nat):W3:=
 ⟨bif decide (0<i)then JH w.co r i (YH t x w r i)else w.co,JH w.re r i (bif decide (0<i)then max (Q7 t r i) (YH t x w r i)else Q7 t r i),w.go⟩
theorem ZxR {H:(α:Type)->α->List α->Int->α} (O:∀(α:Type) (d:α) (l:List α) (i:Int),H α d l i=l.getD i.toNat d) (t:Zb) (U:Zz t) (be:∀w∈t.waits,w.feeder≠w.train) (x:List Int) (w:W3) (hw:BdW t w) (r i:Nat) (hs:StopIn (callsOf t) r i):
  SC (λ_=>aB) 180 [Zf t,lst 1 Zc [] (callsOf t),lst 1 Xd 0 (Y8 t x),Zle (callsOf t).length,.int .i64 λ_=>(r:Int),.int .i64 λ_=>(i:Int)] (ZiC H (callsOf t) w) λv h=>h=ZiC H (callsOf t) (Za2 t x w r i):=by
 have k1:=ZxP t (Y8 t x) r ((i:Int)-1) (by have:=U.dlen;omega) (ZoJ t x);rw[ZvH]at k1;refine SC.less (ZwV false [6] [0,1,2,3,4,5] Tryz.func180 (body:=Zj Tryz.f180) rfl (by decide+kernel) ?_);have hn:=U.nn r i hs;have ap:=Zne U x hw hs;have A:ZwH t x w r i=⟨bif decide (0<i)then JH w.co r i (YH t x w r i)else w.co,JH w.re r i (bif decide (0<i)then max (Q7 t r i) (YH t x w r i)else Q7 t r i),w.go⟩:=rfl;have aa:0<i->YH t x w r i=w.go r (i-1)+(Zu (callsOf t) r i).arrive-(Zu (callsOf t) r (i-1:Nat)).depart+Zdq t x r ((i:Int)-1):=λh=>by
  unfold YH;rw[show((i-1:Nat):Int)=(i:Int)-1 by omega]
 have ao:0<i->0<=w.go r (i-1)/\w.go r (i-1)<=1099511640000/\0<=(Zu (callsOf t) r (i-1:Nat)).depart/\(Zu (callsOf t) r (i-1:Nat)).depart<=1099511627776:=λh=>by
  have hp:=ZhX hs h;have h1:=(hw r (i-1) hp).2.2;have h2:=U.nn r (i-1:Nat) hp
  have h3:=U.calls.row (Sp.Zm (callsOf t) r) (by
   unfold Sp.Zm;have:(r:Int).toNat<(callsOf t).length:=by have:=hs.2.1;omega
   rw[aA,aC this]
   exact bL _)
  have h4:=hs.2.2.2;unfold Q7 at h1;omega
 have bz:=ZdZ U x r ((i:Int)-1);have ca:=hs.2.1;have bo:=hs.2.2.2
 have bm:=U.calls.row (Sp.Zm (callsOf t) r) (by
  unfold Sp.Zm;have:(r:Int).toNat<(callsOf t).length:=by omega
  rw[aA,aC this]
  exact bL _)
 have J:=ZnV x w (r:=r) (i:=i) (t:=t);have G:=ZqC x w (r:=r) (i:=i) (t:=t);have ah:Q7 t r i=(Zu (callsOf t) r i).depart:=rfl;generalize Q7 t r i=D at*;generalize ZwH t x w r i=w1 at*;generalize YH t x w r i=C at*;generalize Zdq t x r ((i:Int)-1)=B at*;have ab:Sp.Zm (callsOf t) r=H (List Sp.Call) [] (callsOf t) r:=by rw[O];rfl
 have S:Zu (callsOf t) r i=H Sp.Call default (H (List Sp.Call) [] (callsOf t) r) i:=by unfold Zu;rw[ab,O Sp.Call]
 have Z:0<i->Zu (callsOf t) r (i-1:Nat)=H Sp.Call default (H (List Sp.Call) [] (callsOf t) r) ((i:Int)-1):=λh=>by unfold Zu;rw[ab,O Sp.Call,show((i-1:Nat):Int)=(i:Int)-1 by omega]
 rw[ab]at bo bm J G;unfold Zf Zle ZiC vB fB;unfold Zf at k1;simp only[Za O]at k1;rw[JK O];simp only[Za O];have ci:=U.calls.len;have b9:=U.dlen;have cg:=U.wlen;generalize bu:Za2 t x w r i=wE at*;generalize Y:callsOf t=c at*;rw[S]at hn aa ah;refine vS ?_;refine Chk.mk (ZH) ?_;refine Zq8 false false [] 50 [1,4,5,6,9,12] (λ_=>[]) (λw1:W3=>[(1,fB H 6 c w1.co),(3,fB H 6 c w1.re)]) (λX=>X=w1) (λ_ _ h=>h) (by decide) ?_ ?_
 ·refine wS ?_;refine⟨λh0=>?_,λh0=>?_⟩
  ·have h0:=iU h0;have ao:=ao (by omega);have aa:=aa (by omega);have Z:=Z (by omega);rw[Z]at ao aa;have e1:((i:Int)-1).toNat=i-1:=by omega
   refine vS ?_;simp only[aW,e1];refine Chk.mk (ZH) ?_;refine ZL (k1) (by first|rfl|(simp only[Ze,Zd,Zf,Zc,Z0,Za O];rfl)) λr aw hp=>?_;(try simp only[Ze,Zd,Zf,Zc,Z0,Za O]at hp);obtain⟨rfl,rfl⟩:=hp;refine vS ?_;simp only[aW,e1];refine Chk.mk (ZH) ?_;have V:decide (0<i)=true:=iX (by omega);rw[V]at A;have hV:w.go r (i-1)+(H Sp.Call default (H (List Sp.Call) [] c r) i).arrive-(H Sp.Call default (H (List Sp.Call) [] c r) ((i:Int)-1)).depart+B=C:=by rw[aa]
   refine vS ?_;refine⟨w1,rfl,?_⟩;refine Zv1 ?_ ?_
   ·refine JS (F:=JH w.co r i C) (λa b=>?_) (by rw[A];rfl);exact JT (g:=λe k=>[.int .i64 λ_=>w.co (e ()).toNat (k ()).toNat]) (F:=w.co) (λ_ _=>rfl) hV a b
   refine JS (F:=JH (JH w.re r i D) r i (max D C)) (λa b=>?_) (by rw[A,ZiF];rfl);refine JT (g:=λ(e' k':Unit->Int)=>putC ((λ(e k:Unit->Int)=>[AV.int .i64 λ_=>w.re (e ()).toNat (k ()).toNat]) e' k') 0 ((Qt (λ_=>decide (e' ()=(r:Int))&&decide (k' ()=(i:Int))) (eN purify (AV.int .i64 λ_=>(H Sp.Call default (H (List Sp.Call) [] c r) i).depart).cellsOf) (gL 1 (iG 0 ((λ(e k:Unit->Int)=>[AV.int .i64 λ_=>w.re (e ()).toNat (k ()).toNat]) e' k')))).getD [])) (F:=JH w.re r i D) (JT (g:=λe k=>[.int .i64 λ_=>w.re (e ()).toNat (k ()).toNat]) (F:=w.re) (λ_ _=>rfl) ah.symm) ?_ a b;show(if _<(bif (decide True&&decide True)then _ else _)then(bif (decide True&&decide True)then _ else _)else _)=_;rw[iX trivial,Bool.and_self,cond_true,hV,<-ah];split<;>omega
  have h0:=iV h0;have V:decide (0<i)=false:=iW (by omega);rw[V]at A;refine wS ?_;refine⟨w1,rfl,?_⟩;refine Zv1 ?_ ?_
  ·exact JS (λa b=>rfl) (by rw[A];rfl)
  refine JS (F:=JH w.re r i D) (λa b=>?_) (by rw[A];rfl);exact JT (g:=λe k=>[.int .i64 λ_=>w.re (e ()).toNat (k ()).toNat]) (F:=w.re) (λ_ _=>rfl) ah.symm a b
 intro X hX;subst hX;refine wS ?_;refine⟨λh3=>?_,λh3=>?_⟩
 ·have h3:=eq_of_beq h3;have h0:0<i:=by omega
  have V:decide (0<i)=true:=iX h0;rw[V]at A;have ap:=ap h0;have J:=J (by omega) h0;have ar:X.co r i=C:=by rw[A];exact Zbg _ _ _ _
  refine vS ?_;refine Chk.mk (ZH) ?_;refine vS ?_;refine⟨.tup [],_,?_,rfl⟩;(refine To.of [] ?_;cbv;(try simp only[nc]);(repeat' first|exact xT|refine⟨?_,?_⟩|refine ZM.cells ?_|refine ZC.agg ?_|refine ZC.tup ?_);all_goals try exact XZ)
  ·exact JS (F:=X.co) (λ_ _=>rfl) (by rw[J,A];rfl)
  ·refine JS (F:=JH X.re r i C) (λa b=>?_) (by rw[J,A];exact ZiF _ _ _ _ _);exact JT (g:=λe k=>[.int .i64 λ_=>X.re (e ()).toNat (k ()).toNat]) (F:=X.re) (λ_ _=>rfl) ar a b
  refine JS (F:=JH w.go r i C) (λa b=>?_) (by rw[J]);exact JT (g:=λe k=>[.int .i64 λ_=>w.go (e ()).toNat (k ()).toNat]) (F:=w.go) (λ_ _=>rfl) ar a b
 have h3:=ne_of_beq_false h3;have G:=G h3 (by omega);generalize ac:(bif decide (0<i)then max D C else D)=rd at*;have bc:X.re r i=rd:=by rw[A];exact Zbg _ _ _ _
 refine vS ?_;simp only[aW,bc];refine Chk.mk (ZH) ?_;refine vS ?_;refine Zkd false [6] [1,4,5,6,9,12,13] [] (λ(⟨k,g⟩:Nat×Int)=>[(13,.int .i64 λ_=>(k:Int))]) (λ⟨k,g⟩=>[(5,fB H 6 c (JH w.go r i g))])
  (λ⟨k,g⟩=>k<=t.waits.length/\g=(t.waits.take k).foldl (JR c (λf a=>w.co f.toNat a.toNat) r (Zu c r i)) rd) (λk=>t.waits.length-k.1+0) (0,rd) ⟨aV _,rfl⟩ ?_ ?_
 ·refine toR ?_;refine JS (F:=JH w.go r i rd) (λa b=>?_) rfl;exact JT (g:=λe k=>[.int .i64 λ_=>w.go (e ()).toNat (k ()).toNat]) (F:=w.go) (λ_ _=>rfl) rfl a b
 rintro⟨k,g⟩ ⟨hk,hg⟩;refine wS ?_;refine⟨λhb=>?_,λhb=>?_⟩
 ·have hb:=iU hb;have ai:=QC (d:=default) O (l:=t.waits) (i:=k) (by omega);have al:=Yb (d:=default) O (l:=t.waits) (i:=k) (by omega);refine vS ?_;generalize hv:H QR default t.waits (k:Int)=v at*;have ak:=U.w v ai;have a9:=be v ai;have ae:=YP U ai;have I:∀g,JR c (λf a=>w.co f.toNat a.toNat) r (Zu c r i) g v=if v.train≠r\/v.station≠(Zu c r i).station then g
   else if w.co v.feeder.toNat (ZD (Sp.Zm c v.feeder) v.station).toNat<=(Zu c r i).depart+v.minutes then max g (w.co v.feeder.toNat (ZD (Sp.Zm c v.feeder) v.station).toNat)else g:=λ_=>rfl
  rw[Y]at ak ae;try simp only[hv]
  refine Chk.mk (ZH) ?_;refine vS ?_;rw[S]at I;refine⟨λh6=>?_,λh6=>?_⟩
  ·have hq:v.train≠r\/v.station≠(H Sp.Call default (H (List Sp.Call) [] c r) i).station:=by
    by_cases e1:v.train=r
    ·rw[bne_eq_false_iff_eq.mpr e1]at h6;exact .inr (bne_iff_ne.mp h6)
    exact .inl e1
   refine wS ?_;refine⟨(k+1,g),⟨by omega,by rw[al,eR,<-hg,S];exact((I g).trans (iQ hq)).symm⟩,by show t.waits.length-(k+1)+0<t.waits.length-k+0;omega,?_⟩;exact ZG
  have aq:v.train=r:=by
   by_cases e1:v.train=r
   ·exact e1
   rw[bne_iff_ne.mpr e1]at h6;cases h6
  have bh:v.station=(H Sp.Call default (H (List Sp.Call) [] c r) i).station:=by
   rw[bne_eq_false_iff_eq.mpr aq]at h6;exact bne_eq_false_iff_eq.mp h6
  have bl:Sp.Zm c v.feeder=H (List Sp.Call) [] c v.feeder:=by rw[O];rfl
  have ba:H (List Sp.Call) [] c v.feeder∈c:=by
   have:v.feeder.toNat<c.length:=by omega
   rw[O,aA,aC this];exact bL _
  have ce:=U.calls.row (H (List Sp.Call) [] c v.feeder) (by rw[Y];exact ba);rw[bl]at ak ae I;have I:=λg=>(I g).trans (iP (λh=>h.elim (λh=>h aq) (λh=>h bh)));refine vS ?_;generalize hF:H (List Sp.Call) [] c v.feeder=F at*;have k2:=Zmk F v.station 1 (F.length-1) (by omega) (by omega) (by omega) (by omega) (by omega);rw[ZdC]at k2;have bg:=XK F 1 v.station;have bw:=ak.2.2.1;have bq:X.co v.feeder.toNat (ZD F v.station).toNat=w.co v.feeder.toNat (ZD F v.station).toNat:=by
   have az:¬(v.feeder.toNat=r/\(ZD F v.station).toNat=i):=λh=>a9 (by omega);rw[A];show(bif decide (0<i)then JH w.co r i C else w.co) _ _=_;cases decide (0<i)
   ·rfl
   exact Zeh az
  have cf:=(hw v.feeder.toNat (ZD F v.station).toNat (by
   rw[Y,show((v.feeder.toNat:Nat):Int)=v.feeder by omega,show(((ZD F v.station).toNat:Nat):Int)=ZD F v.station by omega]
   exact ae)).1
  have bt:ZD F v.station<F.length:=by unfold ZD;exact bg.1
  have bx:Q7 t v.feeder.toNat (ZD F v.station).toNat<=1099511627776:=by
   unfold Q7;rw[Y,show((v.feeder.toNat:Nat):Int)=v.feeder by omega,show(((ZD F v.station).toNat:Nat):Int)=ZD F v.station by omega];have h:=(U.nn _ _ (by rw[Y];exact ae)).2.2;rw[Y]at h;exact h
  simp only[Za O]at k2;try simp only[hF,hv]
  refine Chk.mk (ZH) ?_;refine ZL (k2) (by first|rfl|(simp only[Ze,Zd,Zf,Zc,Z0,Za O];rfl)) λr aw hp=>?_;(try simp only[Ze,Zd,Zf,Zc,Z0,Za O]at hp);obtain⟨rfl,rfl⟩:=hp;generalize ZD F v.station=m at*;refine vS ?_;try simp only[hF,hv,bq]
  refine Chk.mk (ZH) ?_;refine vS ?_;refine⟨λh7=>?_,λh7=>?_⟩
  ·have I:=λg=>(I g).trans (iQ (iU h7));have aj:JH w.go r i g r i=g:=Zbg _ _ _ _;generalize w.co v.feeder.toNat m.toNat=cm at*;refine vS ?_;simp only[aW,aj];refine Chk.mk (ZH) ?_;refine vS ?_;have au:=I g;generalize bk:max g cm=g2 at au;refine⟨(k+1,g2),⟨by omega,by rw[al,eR,<-hg,S];exact au.symm⟩,by show t.waits.length-(k+1)+0<t.waits.length-k+0;omega,?_⟩;refine toR ?_;refine JS (F:=JH (JH w.go r i g) r i g2) (λa b=>?_) (ZiF _ _ _ _ _);refine JT (g:=λe k=>[.int .i64 λ_=>JH w.go r i g (e ()).toNat (k ()).toNat]) (F:=JH w.go r i g) (λ_ _=>rfl) ?_ a b;show(if g<cm then cm else g)=g2;rw[<-bk];split<;>omega
  have I:=λg=>(I g).trans (iP (iV h7));refine wS ?_;refine⟨(k+1,g),⟨by omega,by rw[al,eR,<-hg,S];exact(I g).symm⟩,by show t.waits.length-(k+1)+0<t.waits.length-k+0;omega,?_⟩;exact ZG
 have hb:=iV hb;have bp:t.waits.take k=t.waits:=dT (by omega);rw[bp]at hg;refine wS ?_;have am:g=goW t w r i rd:=by unfold goW;rw[Y];exact hg
 refine⟨λh5=>?_,λh5=>?_⟩
 ·have h5:=eq_of_beq h5;have V:decide (0<i)=false:=iW (by omega);rw[V]at A G ac;have ac:D=rd:=ac;have aj:JH w.go r i g r i=g:=Zbg _ _ _ _;refine wS ?_;refine⟨.tup [],_,?_,rfl⟩;(refine To.of [] ?_;cbv;(try simp only[nc]);(repeat' first|exact xT|refine⟨?_,?_⟩|refine ZM.cells ?_|refine ZC.agg ?_|refine ZC.tup ?_);all_goals try exact XZ)
  ·refine JS (F:=JH X.co r i g) (λa b=>?_) (by rw[G,A,am,<-ac];rfl);exact JT (g:=λe k=>[.int .i64 λ_=>X.co (e ()).toNat (k ()).toNat]) (F:=X.co) (λ_ _=>rfl) aj a b
  ·exact JS (F:=X.re) (λ_ _=>rfl) (by rw[G,A])
  exact JS (F:=JH w.go r i g) (λ_ _=>rfl) (by rw[G,am])
 have h5:=ne_of_beq_false h5;have V:decide (0<i)=true:=iX (by omega);rw[V]at A G;refine wS ?_;refine⟨.tup [],_,?_,rfl⟩;(refine To.of [] ?_;cbv;(try simp only[nc]);(repeat' first|exact xT|refine⟨?_,?_⟩|refine ZM.cells ?_|refine ZC.agg ?_|refine ZC.tup ?_);all_goals try exact XZ)
 ·exact JS (F:=X.co) (λ_ _=>rfl) (by rw[G,A];rfl)
 ·exact JS (F:=X.re) (λ_ _=>rfl) (by rw[G,A])
 exact JS (F:=JH w.go r i g) (λ_ _=>rfl) (by rw[G,am])
set_option maxHeartbeats 8000000
set_option cbv.maxSteps 3000000
def ZnM:AV:=.isl 0 (λ_=>0) (λ_=>[]) .nil
theorem ZwF {s:List AV} {b0 b1:Zi}:To s [b0,b1,.cells [ZnM,ZnM,ZnM]] s ([b0,b1,.cells [.gsl 3 λ_=>0,.gsl 5 λ_=>0,.gsl 7 λ_=>0]]++Zca 9 1 1++Zca 9 1 1++Zca 9 1 1):=by
 refine(To.nest 1 1 (h₂:=[b0,b1,.cells [.gsl 3 λ_=>0,ZnM,ZnM]]++Zca 9 1 1) ⟨Yz.refl _,?_⟩).trans ((To.nest 1 1 (h₂:=[b0,b1,.cells [.gsl 3 λ_=>0,.gsl 5 λ_=>0,ZnM]]++Zca 9 1 1++Zca 9 1 1) ⟨Yz.refl _,?_⟩).trans (To.nest 1 1 ⟨Yz.refl _,?_⟩))
 ·exact⟨.refl _,.refl _,.cells ⟨.nilGar (show 3<=3 by decide) (show 3<4 by decide) rfl,.refl _,.refl _,trivial⟩,.refl _,.famZ (show 3<=9 by decide),trivial⟩
 ·exact⟨.refl _,.refl _,.cells ⟨.refl _,.nilGar (show 5<=5 by decide) (show 5<6 by decide) rfl,.refl _,trivial⟩,.refl _,.refl _,.refl _,.famZ (show 5<=9 by decide),trivial⟩
 exact⟨.refl _,.refl _,.cells ⟨.refl _,.refl _,.nilGar (show 7<=7 by decide) (show 7<8 by decide) rfl,trivial⟩,.refl _,.refl _,.refl _,.refl _,.refl _,.famZ (show 7<=9 by decide),trivial⟩
theorem Zlt {n k q id:Nat} {A:(α:Type)->α->List α->Int->α} (O:∀(α:Type) (d:α) (l:List α) (i:Int),A α d l i=l.getD i.toNat d) {l:List (List Sp.Call)} {C:List Sp.Call} {T:AV->AV} (hT:∀(x:List Sp.Call) (e:Unit->Int),[AV.nsub q e λ_=>(x.length:Int)].map T=[AV.nsub q e λ_=>(x.length:Int)])
  (G:Yz n k ([AV.nsub q (λ_=>(l.length:Int)) λ_=>(C.length:Int)].map T) [AV.nsub q (λ_=>(l.length:Int)) λ_=>(C.length:Int)]):
  ZM n k (.vgar 1 (λ_=>(l.length:Int)+1) λe=>(Z2 (λ_=>(l.length:Int)) (λe=>[AV.nsub q e λ_=>((A (List Sp.Call) [] l (e ())).length:Int)]) (λ_=>[AV.gsl id λ_=>(C.length:Int)].set 0 (AV.nsub q (λ_=>(l.length:Int)) λ_=>(C.length:Int))) e).map T)
   (.vgar 1 (λ_=>((l++[C]).length:Int)) λe=>[AV.nsub q e λ_=>((A (List Sp.Call) [] (l++[C]) (e ())).length:Int)]):=
 ZM.snocVT (encV:=λ(x:List Sp.Call) e=>[AV.nsub q e λ_=>(x.length:Int)]) (d:=[]) (x:=C) O hT rfl rfl G
theorem Zlu {n k z:Nat} {A:(α:Type)->α->List α->Int->α} (O:∀(α:Type) (d:α) (l:List α) (i:Int),A α d l i=l.getD i.toNat d) {l:List (List Sp.Call)} {C:List Sp.Call}:
  ZM n k (.fam z 1 (λ_=>(l.length:Int)+1) (ZbD (λ_=>(l.length:Int)) (λe _=>((A (List Sp.Call) [] l (e ())).length:Int)) λ_=>(C.length:Int)) (Jc (λ_=>(l.length:Int)) (λ_ _=>[AV.int .i64 λ_=>0]) λ_=>eN purify (XQ (Value.int .i64 0)).cellsOf))
   (.fam z 1 (λ_=>((l++[C]).length:Int)) (λe _=>((A (List Sp.Call) [] (l++[C]) (e ())).length:Int)) λ_ _=>[AV.int .i64 λ_=>0]):=
 ZM.snocM (inner:=λx:List Sp.Call=>x) (enc:=λ_:Sp.Call=>[AV.int .i64 λ_=>0]) (dβ:=default) (d:=[]) (l:=l) (x:=C) O rfl rfl rfl λ_ _=>rfl
theorem Zgt {q:Nat} {H:(α:Type)->α->List α->Int->α} {l:List (List Sp.Call)} {n:Int}:∀i:Nat,(i:Int)<n->∀c∈ [AV.nsub q (λ_=>(i:Int)) λ_=>((H (List Sp.Call) [] l (i:Int)).length:Int)],∀e m:Unit->Int,c=AV.nsub q e m->m ()=((H (List Sp.Call) [] l (e ())).length:Int):=λi _ c G e m A=>by
 subst A;simp only[aN,AV.nsub.injEq,true_and]at G;obtain⟨rfl,rfl⟩:=G;rfl
theorem Zjh {n k:Nat} {A:(α:Type)->α->List α->Int->α} (O:∀(α:Type) (d:α) (l:List α) (i:Int),A α d l i=l.getD i.toNat d) {t:Zb} {F f:Nat->Nat->Int} (S:∀r i:Nat,StopIn (callsOf t) r i->F r i=f r i) {tk:Tk}:
  ZC n k (.isl 1 (λ_=>((callsOf t).length:Int)) (λe=>[.isl 1 (λ_=>((A (List Sp.Call) [] (callsOf t) (e ())).length:Int)) (λq=>[.int .i64 λ_=>F (e ()).toNat (q ()).toNat]) .none]) tk) (lst 1 Z0 [] (Zaj t f)):=by
 refine .elems (by rw[Zks]) λi H=>.one λw ok v h=>?_;have H:(i:Int)<((callsOf t).length:Int):=H;have e:(Zaj t f).getD i []=(aT (ZaE t i)).map λj=>f i j:=ZgU t f (by omega);have I:(A (List Sp.Call) [] (callsOf t) (i:Int))=Sp.Zm (callsOf t) i:=by rw[O];rfl
 refine h.elems ?_ λj G=>?_
 ·show((A (List Sp.Call) [] (callsOf t) (i:Int)).length:Int)=(((Zaj t f).getD (ft i) []).length:Int);rw[aW,e,I,bA,cZ];rfl
 have G:(j:Int)<((A (List Sp.Call) [] (callsOf t) (i:Int)).length:Int):=G;rw[I]at G;have J:StopIn (callsOf t) (i:Int) (j:Int):=⟨by omega,H,by omega,G⟩;show Yd [.int .i64 λ_=>F (ft i) (ft j)] [.int .i64 λ_=>((Zaj t f).getD (ft i) []).getD (ft j) 0];rw[aW,aW,S i j J,Zm6 t f (by omega) (by unfold ZaE;omega)];exact .refl _
theorem cL2 (l:List Nat) {f:FuncId} {xs I:List AV} {h J:List Zi} {G Q:AV->List Zi->Prop} (H:SC (λ_=>aB) f I J Q) (S:∀ r A,Q r A->G (ren (Jg l h.length) 5 r) (back l h A)) (Z:l.Nodup:=by decide) (U:∀ i∈l,i<h.length:=by simp) (Y:xs.map (QE false l h 5)=I:=by first|rfl|(simp only[Ze,Zd,Zf,Zc,Z0,Za O];rfl)) (V:sel false l h=J:=by first|rfl|(simp only[Ze,Zd,Zf,Zc,Z0,Za O];rfl)):SC (λ_=>aB) f xs h G:=ZP l H Z U Y V S
theorem ZxY (t:Zb) (H:Xt t.book) (hf:Zz t) (al:∀w∈t.waits,w.feeder≠w.train) (hr:t.runs.length<=1000000) (x:List Int):
  SC (λ_=>aB) 138 [Zf t,lst 1 Xd 0 (Y8 t x)] [] λv h=>v= .agg (QL (ZfU t x))/\h=[]:=by
 obtain⟨A,O⟩:=Zn;obtain⟨wx,ab⟩:∃wx,wx=ZfU t x:=⟨_,rfl⟩;rw[<-ab];have k1:=Zto t H hr;refine SC.less (ZwV false [19] [] Tryz.func138 (body:=Zj Tryz.f138) rfl (by decide+kernel) ?_);unfold Zf at*;rw[JK O]at k1;simp only[Za O]at k1|-;have J:=hf.calls;generalize S:callsOf t=c at*;refine wS ?_;refine ZL (k1) (by first|rfl|(simp only[Ze,Zd,Zf,Zc,Z0,Za O];rfl)) λr ah hp=>?_;(try simp only[Ze,Zd,Zf,Zc,Z0,Za O]at hp);obtain⟨rfl,rfl⟩:=hp;refine wS ?_;refine Zvf false [] ZwF ?_;refine Zkd false [] [1,2,4,5,6,7,8] [] (λ(⟨k,l,n⟩:Nat×List (List Sp.Call)×Int)=>[(7,.int .i64 λ_=>n),(8,.int .i64 λ_=>(k:Int))])
  (λ⟨k,l,n⟩=>[(2,.cells [.gsl 3 λ_=>(l.length:Int),.gsl 5 λ_=>(l.length:Int),.gsl 7 λ_=>(l.length:Int)]),
   (3,.vgar 1 (λ_=>(l.length:Int)) (λe=>[.nsub 4 e λ_=>((A (List Sp.Call) [] l (e ())).length:Int)])),(4,.fam 9 1 (λ_=>(l.length:Int)) (λe _=>((A (List Sp.Call) [] l (e ())).length:Int)) (λ_ _=>[.int .i64 λ_=>0])),
   (5,.vgar 1 (λ_=>(l.length:Int)) (λe=>[.nsub 6 e λ_=>((A (List Sp.Call) [] l (e ())).length:Int)])),(6,.fam 9 1 (λ_=>(l.length:Int)) (λe _=>((A (List Sp.Call) [] l (e ())).length:Int)) (λ_ _=>[.int .i64 λ_=>0])),
   (7,.vgar 1 (λ_=>(l.length:Int)) (λe=>[.nsub 8 e λ_=>((A (List Sp.Call) [] l (e ())).length:Int)])),(8,.fam 9 1 (λ_=>(l.length:Int)) (λe _=>((A (List Sp.Call) [] l (e ())).length:Int)) (λ_ _=>[.int .i64 λ_=>0]))])
  (λ⟨k,l,n⟩=>k<=c.length/\l=c.take k/\0<=n/\n<=4*k/\n=((l.map fA).sum:Nat)) (λk=>c.length-k.1+0) (0,[],0) ⟨aV _,rfl,by decide,by decide,rfl⟩ ?_ ?_
 ·(refine To.of [] ?_;cbv;(try simp only[nc]);(repeat' first|exact xT|refine⟨?_,?_⟩|refine ZM.cells ?_|refine ZC.agg ?_|refine ZC.tup ?_);all_goals try exact XZ)
  ·exact .vgar0 rfl rfl
  ·exact .fam0 rfl rfl
  ·exact .vgar0 rfl rfl
  ·exact .fam0 rfl rfl
  ·exact .vgar0 rfl rfl
  exact .fam0 rfl rfl
 intro ⟨k,l,n⟩ G;have bh:=J.len;have hk:=G.1;have az:=G.2.2.1;have be:=G.2.2.2.1;have Z:=G.2.2.2.2;have aj:l.length=k:=by rw[G.2.1,bT];omega
 refine vS ?_;refine⟨λH=>?_,λH=>?_⟩
 ·have H:=iU H;have ar:=J.row (A (List Sp.Call) [] c k) (QC (d:=[]) O (l:=c) (i:=k) (by omega));have ak:=Yb (d:=[]) O (l:=c) (i:=k) (by omega);refine vS ?_;refine Chk.mk (ZH) ?_;generalize A (List Sp.Call) [] c k=C at*;have I:(k+1<=c.length/\l++[C]=c.take (k+1)/\0<=n+C.length/\n+C.length<=4*((k+1:Nat):Int)/\n+C.length=(((l++[C]).map fA).sum:Nat))/\c.length-(k+1)+0<c.length-k+0:=⟨⟨by omega,by rw[G.2.1,ak],by omega,by omega,by rw[Z,List.map_append,List.sum_append];simp⟩,by omega⟩;clear G Z;(repeat' (first|refine Zho.mk ?_ ?_|refine Chk.mk (ZH) ?_));all_goals (try refine vS ?_)
  all_goals (try refine Chk.mk (ZH) ?_)
  all_goals refine⟨(k+1,l++[C],n+C.length),I.1,I.2,?_⟩
  all_goals
   (refine To.of [] ?_;cbv;(try simp only[nc]);(repeat' first|exact xT|refine⟨?_,?_⟩|refine ZM.cells ?_|refine ZC.agg ?_|refine ZC.tup ?_);all_goals try exact XZ)
   ·exact Zlt O (λ_ _=>rfl) ⟨.nsub rfl rfl,trivial⟩
   ·exact Zlu O
   ·exact Zlt O (λ_ _=>rfl) ⟨.nsub rfl rfl,trivial⟩
   ·exact Zlu O
   ·exact Zlt O (λ_ _=>rfl) ⟨.nsub rfl rfl,trivial⟩
   exact Zlu O
 have H:=iV H;have am:k=c.length:=by omega
 have ae:l=c:=by rw[G.2.1,am,List.take_length]
 have ba:n=((Xp t).length:Nat):=by
  rw[ZhQ,S,Z,ae]
 clear G Z aj;subst ae;refine vS ?_;have hN:∀a b:Nat,a<l.length->b<(A (List Sp.Call) [] l a).length->StopIn (callsOf t) a b:=λa b h1 h2=>by
  have ai:Sp.Zm l a=A (List Sp.Call) [] l a:=by rw[O];rfl
  rw[S];exact⟨by omega,by omega,by omega,by rw[ai];omega⟩
 refine Zq8 false false [] 50 [4,6] (λ_:Unit=>[]) (λ_=>[(2,.cells [lst 1 Z0 [] wx.come,lst 1 Z0 [] wx.ready,lst 1 Z0 [] wx.go]),(3,.dead),(4,.dead),(5,.dead),(6,.dead),(7,.dead),(8,.dead)]) (λ_=>True) (λ_ _ h=>h) (by decide) ?_ (λ_ _=>?_);rotate_left
 ·unfold QL;refine wS ?_;refine⟨_,[],?_,rfl,rfl⟩;exact ZG
 refine wS ?_;refine Zkd false [] [1,2,4,5,6,7,9] [] (λ(⟨k,w⟩:Nat×W3)=>[(9,.int .i64 λ_=>(k:Int))])
  (λ⟨k,w⟩=>[(4,fB A 9 l w.co),(6,fB A 9 l w.re),(8,fB A 9 l w.go)])
  (λ⟨k,w⟩=>k<=(Xp t).length+1/\w=Sp.Zel t x W0 k/\BdW t w) (λk=>(Xp t).length+1-k.1+0) (0,W0) ⟨aV _,rfl,ZrK hf⟩ ?_ ?_
 ·(refine To.of [] ?_;cbv;(try simp only[nc]);(repeat' first|exact xT|refine⟨?_,?_⟩|refine ZM.cells ?_|refine ZC.agg ?_|refine ZC.tup ?_);all_goals try exact XZ)
  all_goals exact JS (F:=λ_ _=>0) (λ_ _=>rfl) rfl
 intro ⟨j,w⟩ hj;have aw:=hj.1;have bc:=Zp3 hf;refine vS ?_;refine⟨λH=>?_,λH=>?_⟩
 ·have H:=iU H;refine vS ?_;refine X3 λQ hQ=>?_;refine Zkd false [] [1,2,4,5,6,7,9,10] [] (λ(⟨a,w⟩:Nat×W3)=>[(10,.int .i64 λ_=>(a:Int))])
   (λ⟨a,w⟩=>[(4,fB A 9 l w.co),(6,fB A 9 l w.re),(8,fB A 9 l w.go)])
   (λ⟨a,v⟩=>a<=l.length/\v=Sp.Zgn t x w a/\BdW t v) (λa=>l.length-a.1+0) (0,w) ⟨aV _,rfl,hj.2.2⟩ ?_ ?_
  ·exact ZG
  intro ⟨a,v⟩ ha;have au:=ha.1;refine vS ?_;refine⟨λH=>?_,λH=>?_⟩
  ·have H:=iU H;refine vS ?_;refine X3 λQ2 ao=>?_;refine Zkd false [] [1,2,4,5,6,7,9,10,11] [] (λ(⟨b,w⟩:Nat×W3)=>[(11,.int .i64 λ_=>(b:Int))])
    (λ⟨b,w⟩=>[(4,fB A 9 l w.co),(6,fB A 9 l w.re),(8,fB A 9 l w.go)])
    (λ⟨b,u⟩=>b<=(A (List Sp.Call) [] l a).length/\u=Sp.ZnH t x v a b/\BdW t u) (λb=>(A (List Sp.Call) [] l a).length-b.1+0) (0,v) ⟨aV _,rfl,ha.2.2⟩ ?_ ?_
   ·exact ZG
   intro ⟨b,u⟩ U;have bg:=U.1;have bk:=J.row (A (List Sp.Call) [] l a) (QC (d:=[]) O (l:=l) (i:=a) (by omega));refine vS ?_;refine Chk.mk (ZH) ?_;refine⟨λV=>?_,λV=>?_⟩
   ·have V:=iU V;have ac:=hN a b (by omega) (by omega);have k2:=ZxR O t hf al x u U.2.2 a b ac;have aq:=Zs0 hf x U.2.2 ac;have I:Sp.ZnH t x v a (b+1)=Za2 t x u a b:=by rw[U.2.1];rfl
    generalize Za2 t x u a b=u2 at*;rw[S]at k2;unfold Zf Zle ZiC vB fB at k2;rw[JK O]at k2;simp only[Za O]at k2;refine vS ?_;refine cL2 [3,4,5,6,7,8] (k2) λr ah hp=>?_;(try simp only[Ze,Zd,Zf,Zc,Z0,Za O]at hp);obtain rfl:=hp;refine vS ?_;refine Chk.mk (ZH) ?_;refine⟨(b+1,u2),⟨by omega,I.symm,aq⟩,by show(A (List Sp.Call) [] l a).length-(b+1)+0<(A (List Sp.Call) [] l a).length-b+0;omega,?_⟩;exact ZG
   have V:=iV V;refine vS ?_;refine ao _ _ _ ?_;refine vS ?_;refine Chk.mk (ZH) ?_;have ap:ZaE t a=(A (List Sp.Call) [] l a).length:=by unfold ZaE;rw[S,O];rfl
   have I:u=Sp.Zgn t x w (a+1):=by
    show u=Sp.ZnH t x (Sp.Zgn t x w a) a (ZaE t a);rw[U.2.1,ha.2.1,ap,show b=(A (List Sp.Call) [] l a).length by omega]
   refine⟨(a+1,u),⟨by omega,I,U.2.2⟩,by show l.length-(a+1)+0<l.length-a+0;omega,?_⟩;(refine To.of [] ?_;cbv;(try simp only[nc]);(repeat' first|exact xT|refine⟨?_,?_⟩|refine ZM.cells ?_|refine ZC.agg ?_|refine ZC.tup ?_);all_goals try exact XZ);all_goals exact ZM.vgarT rfl λ_=>rfl
  have H:=iV H;have I:v=Sp.Zel t x W0 (j+1):=by
   show v=Sp.Zgn t x (Sp.Zel t x W0 j) (callsOf t).length;rw[ha.2.1,hj.2.1,S,show a=l.length by omega]
  refine vS ?_;refine hQ _ _ _ ?_;refine vS ?_;refine Chk.mk (ZH) ?_;refine⟨(j+1,v),⟨by omega,I,ha.2.2⟩,by show(Xp t).length+1-(j+1)+0<(Xp t).length+1-j+0;omega,?_⟩;(refine To.of [] ?_;cbv;(try simp only[nc]);(repeat' first|exact xT|refine⟨?_,?_⟩|refine ZM.cells ?_|refine ZC.agg ?_|refine ZC.tup ?_);all_goals try exact XZ);all_goals exact ZM.vgarT rfl λ_=>rfl
 have H:=iV H;have a9:j=(Xp t).length+1:=by omega
 have aa:=λr i (Y:StopIn (callsOf t) (r:Nat) (i:Nat))=>ZiO hf x W0 (k:=j) (by omega) Y;rw[<-hj.2.1]at aa;refine vS ?_;refine⟨(),trivial,?_⟩;refine(To.frozeV (q:=3) rfl rfl Zgt (λi hi=>rfl) rfl).trans ((To.frozeV (q:=5) rfl rfl Zgt (λi hi=>rfl) rfl).trans ((To.frozeV (q:=7) rfl rfl Zgt (λi hi=>rfl) rfl).trans ?_));subst S;(refine To.of [] ?_;cbv;(try simp only[nc]);(repeat' first|exact xT|refine⟨?_,?_⟩|refine ZM.cells ?_|refine ZC.agg ?_|refine ZC.tup ?_);all_goals try exact XZ);all_goals (try exact ZM.dead)
 all_goals subst ab
 ·exact .gd rfl (Zjh O (F:=w.co) λr i Y=>(aa r i Y).1)
 ·exact .gd rfl (Zjh O (F:=w.re) λr i Y=>(aa r i Y).2.1)
 exact .gd rfl (Zjh O (F:=w.go) λr i Y=>(aa r i Y).2.2)
set_option maxHeartbeats 4000000
theorem Zfm {A : (α : Type) -> α -> List α -> Int -> α} (O : ∀ (α : Type) (d : α) (l : List α) (i : Int), A α d l i = l.getD i.toNat d) (w : WorldL) : QL w =
    [.isl 1 (λ_ => (w.come.length : Int)) (λe => [.isl 1 (λ_ => ((A (List Int) [] w.come (e ())).length : Int)) (λq => Xd (A Int 0 (A (List Int) [] w.come (e ())) (q ()))) .none]) .none,
     .isl 1 (λ_ => (w.ready.length : Int)) (λe => [.isl 1 (λ_ => ((A (List Int) [] w.ready (e ())).length : Int)) (λq => Xd (A Int 0 (A (List Int) [] w.ready (e ())) (q ()))) .none]) .none,
     .isl 1 (λ_ => (w.go.length : Int)) (λe => [.isl 1 (λ_ => ((A (List Int) [] w.go (e ())).length : Int)) (λq => Xd (A Int 0 (A (List Int) [] w.go (e ())) (q ()))) .none]) .none] := by
  unfold QL;simp only [Za O, Zav O]
theorem Zyf (t:Zb) (A:Xt t.book) (H:Zz t) (ac:∀w∈t.waits,w.feeder≠w.train) (hr:t.runs.length<=1000000) (J:∀d∈t.delays,d.by_.length<=3):
  SC (λ_=>aB) 85 [Zf t] [] λv h=>v=lst 3 QL default (Xq t)/\h=[]:=by
 obtain⟨I,O⟩:=Zn;have S:=Zw2 t.delays H.dlen J;have k2:=λx=>ZxY t A H ac hr x;rw[ZfY H.dlen]at S;have ae:((aT (manyT t)).map λn=>Y8 t (Zk t n)).length=manyT t:=by rw[bA,cZ]
 have aa:∀i:Nat,i<manyT t->I (List Int) [] ((aT (manyT t)).map λn=>Y8 t (Zk t n)) (i:Int)=Y8 t (Zk t i):=λi hi=>by
  rw[O,aW,aA,aP,List.getElem?_range hi];rfl
 have aj:=Zkb H.dlen J;generalize (aT (manyT t)).map (λn=>Y8 t (Zk t n))=L at*;have ai:=ZfT t;have Z:= @ZhK t;generalize Xq t=W at*;refine SC.less (QO Tryz.func85 (body:=Zj Tryz.f85) rfl (by decide+kernel) ?_);unfold Zf at*;simp only[Za O,Zav O]at S k2|-;refine wS ?_;refine ZL (S) (by first|rfl|(simp only[Ze,Zd,Zf,Zc,Z0,QL,Za O];rfl)) λr V G=>?_;(try simp only[Ze,Zd,Zf,Zc,Z0,QL,Za O]at G);obtain⟨rfl,rfl⟩:=G;refine wS ?_;refine ZJ false false [] [1,3,4,5] [.tok 3 λ_=>0] (λ(⟨i,out⟩:Nat×List WorldL)=>[(4,.isl 3 (λ_=>(out.length:Int)) (λe=>QL (I WorldL default out (e ()))) (.own 1)),(5,.int .i64 λ_=>i)])
  (λ⟨i,out⟩=>[(1,.tok 3 λ_=>(out.length:Int))])
  (λ⟨i,out⟩=>i<=L.length/\out=W.take i) (λi=>L.length-i.1+0) (0,[]) ⟨aV _,by simp⟩ ?_ ?_
 ·(refine To.of [(3,false)] ?_;cbv;(try simp only[nc]);(repeat' first|exact xT|refine⟨?_,?_⟩|refine ZM.cells ?_|refine ZC.agg ?_|refine ZC.tup ?_);all_goals try exact XZ)
 rintro⟨i,out⟩ ⟨hi,ho⟩;have ah:out.length=i:=by rw[ho,bT];omega
 refine wS ?_;refine⟨λA=>?_,λA=>?_⟩
 ·have A:=iU A;have ab:=Yb (d:=default) O (l:=W) (i:=i) (by omega);have U:=k2 (Zk t i);rw[<-aa i (by omega)]at U;have hw:I WorldL default W (i:Int)=ZfU t (Zk t i):=by rw[O];exact Z (by omega)
  rw[<-hw]at U;refine vS ?_;refine Chk.mk (ZH) ?_;refine ZL (U) (by first|rfl|(simp only[Ze,Zd,Zf,Zc,Z0,QL,Za O];rfl)) λr V G=>?_;(try simp only[Ze,Zd,Zf,Zc,Z0,QL,Za O]at G);obtain⟨rfl,rfl⟩:=G;refine wS ?_;refine⟨(i+1,out++[I WorldL default W (i:Int)]),⟨by omega,by rw[ab,ho]⟩,by show L.length-(i+1)+0<L.length-i+0;omega,?_⟩;refine toR ?_;exact .snoc O rfl rfl (by simp only[QL,Za O,Zav O];rfl)
 have A:=iV A;have Y:out=W:=by rw[ho,dT (by omega)]
 subst Y;refine wS ?_;refine⟨_,[],?_,rfl,rfl⟩;exact ZG
end Vm
namespace Sp
open Vm
def QB (a:Zl) (i:Nat):Step:=a.steps.getD i default
def Yy (t:Zb) (s:Step):Int:=Zx (Zm (callsOf t) s.run) 0 s.from_
def Zf0 (t:Zb) (s:Step):Int:=Zx (Zm (callsOf t) s.run) (Yy t s+1) s.to_
def ZbG (t:Zb) (x:List Int) (a:Zl) (taken:List Int) (at_ A:Int) (i:Nat):Bool:=
 !taken.contains (i:Int)&&(decide ((QB a i).from_=at_)&&decide (A<=(ZR t x (QB a i).run (Yy t (QB a i))).goes))
def Xm (t:Zb) (x:List Int) (a:Zl) (taken:List Int) (at_ A:Int):Nat->Nat->Option Nat
 |_,0=>none
 |i,n+1=>if ZbG t x a taken at_ A i then some i else Xm t x a taken at_ A (i+1) n
def Jh (t:Zb) (x:List Int) (a:Zl):Nat->List Int->Int->Int->List Int×Int×Bool
 |0,l,_,_=>(l,0,false)
 |f+1,l,at_,now=>if at_=a.goal then(l,now,true)else match Xm t x a l at_ now 0 a.steps.length with
  |none=>(l,0,false)
  |some i=>Jh t x a f (l++[(i:Int)]) (QB a i).to_ (ZR t x (QB a i).run (Zf0 t (QB a i))).comes
def X9 (t:Zb) (x:List Int) (a:Zl):List Int×Int×Bool:=Jh t x a (a.steps.length+1) [] a.from_ a.since
def Zh7 (a:Zl) (l:List Int):Nat:=((aT a.steps.length).filter λ(i:Nat)=> !l.contains (i:Int)).length
theorem ZeH {α:Type} {p q:α->Bool} (H:∀x,q x=true->p x=true):∀ {l:List α} {x:α},x∈l->p x=true->q x=false->(l.filter q).length<(l.filter p).length
 |a::l,x,G,h1,h2=>by
  have I:∀l:List α,(l.filter q).length<=(l.filter p).length:=λl=>by
   induction l with
   |nil=>exact aJ _
   |cons a l A=>
    rw[fR,fR];cases h:q a with
    |true=>rw[H a h];simpa using A
    |false=>cases p a<;>simp<;>omega
  rw[fR,fR];rcases bG.1 G with rfl|G
  ·rw[h1,h2];have:=I l;simp;omega
  have A:=ZeH H G h1 h2;cases h:q a with
  |true=>rw[H a h];simpa using A
  |false=>cases p a<;>simp<;>omega
theorem Zm0 {a:Zl} {l:List Int} {i:Nat} (hi:i<a.steps.length) (h:l.contains (i:Int)=false):Zh7 a (l++[(i:Int)])<Zh7 a l:=by
 refine ZeH (x:=i) (λj A=>?_) (bZ.2 hi) (by rw[h];rfl) (by simp);simp only[cG,eT,cK,iS]at A|-;exact λh=>A (.inl h)
theorem Zkj {a:Zl}:Zh7 a []=a.steps.length:=by
 unfold Zh7;rw[show(aT a.steps.length).filter (λ(i:Nat)=> !([]:List Int).contains (i:Int))=aT a.steps.length from List.filter_eq_self.2 λ_ _=>rfl,cZ]
theorem ZhN {t:Zb} {x:List Int} {a:Zl} {f:Nat} {l:List Int} {at_ A:Int} (G:0<f) (h:at_=a.goal):Jh t x a f l at_ A=(l,A,true):=by
 cases f with
 |zero=>omega
 |succ f=>rw[Jh,iQ h]
theorem ZhM {t:Zb} {x:List Int} {a:Zl} {f:Nat} {l:List Int} {at_ A:Int} (H:0<f) (h:at_≠a.goal) (G:Xm t x a l at_ A 0 a.steps.length=none):Jh t x a f l at_ A=(l,0,false):=by
 cases f with
 |zero=>omega
 |succ f=>rw[Jh,iP h,G]
theorem ZhL {t:Zb} {x:List Int} {a:Zl} {f:Nat} {l:List Int} {at_ A:Int} {i:Nat} (H:0<f) (h:at_≠a.goal) (G:Xm t x a l at_ A 0 a.steps.length=some i):
  Jh t x a f l at_ A=Jh t x a (f-1) (l++[(i:Int)]) (QB a i).to_ (ZR t x (QB a i).run (Zf0 t (QB a i))).comes:=by
 cases f with
 |zero=>omega
 |succ f=>rw[Jh,iP h,G];rfl
theorem ZmB {t:Zb} {a:Zl} (V:Zz t) (h:Xh (callsOf t) t.runs.length a=0) {i:Nat} (hi:i<a.steps.length):
  a.steps.length<=6/\StopIn (callsOf t) (QB a i).run (Yy t (QB a i))/\StopIn (callsOf t) (QB a i).run (Zf0 t (QB a i)):=by
 have U:t.runs.length=(callsOf t).length:=by unfold callsOf;rw[bA]
 unfold Xh at h;split at h
 ·cases h
 split at h
 ·cases h
 have A:=ZZ h i (by omega) (by omega);unfold Xw at A;split at A
 ·cases A
 split at A
 ·cases A
 rename_i J S;have G:0<=(QB a i).run/\(QB a i).run<=(t.runs.length:Int)-1:=QK (by cases hq:Qq (QB a i).run 0 ((t.runs.length:Int)-1)with|false=>rfl|true=>exact absurd hq J);have I:Yy t (QB a i)<(Zm (callsOf t) (QB a i).run).length:=(XK _ _ _).1;have H:Zf0 t (QB a i)<(Zm (callsOf t) (QB a i).run).length:=(XK _ _ _).1;change¬(Yy t (QB a i)<0\/Zf0 t (QB a i)<0)at S;exact⟨by omega,⟨G.1,by omega,by omega,I⟩,G.1,by omega,by omega,H⟩
end Sp
namespace Vm
attribute [local irreducible] Dn
open Go Go.Proofs Sp
set_option maxRecDepth 100000
set_option maxHeartbeats 4000000
theorem ZwN {rd:Bool} {nb:Nat} {K:Ex->List AV->List Zi->Cd->Prop} {k:List Item} {s:List AV} {h:List Zi} {ι:Type} (L:List Nat) (n:Nat) (S:ι->List AV) (G:ι->List Zi) (inv:ι->Prop) (A:ι->Nat) (i:ι)
  (hi:inv i) (Y:Qd n h.length=true) (V:Qd nb n=true) (I:To (trimS n h (Vm.keep L s)) (Vm.sel true (aT n) h) (S i) (G i))
  (step:∀i,inv i->(∀j,inv j->A j<A i->HP rd nb (λ_=>aB) k K (S j) (G j))->HP rd nb (λ_=>aB) k K (S i) (G i)):HP rd nb (λ_=>aB) k K s h:=by
 have H:∀(m:Nat) (i:ι),A i<m->inv i->HP rd nb (λ_=>aB) k K (S i) (G i):=by
  intro m;induction m with
  |zero=>intro i h;omega
  |succ m U=>exact λi hm hi=>step i hi λj J Z=>U j (by omega) J
 exact Zcj L n Y V I (H (A i+1) i (fS _) hi)
theorem ZqL {rd:Bool} {nb:Nat} {K:Ex->List AV->List Zi->Cd->Prop} {k:List Item} {s:List AV} {h:List Zi} {ι:Type} (L:List Nat) (n:Nat) (ex:List Zi) (ch:ι->List (Nat×AV)) (A:ι->List (Nat×Zi)) (inv:ι->Prop) (G:ι->Nat) (i:ι)
  (hi:inv i) (J:Qd n h.length=true) (I:Qd nb n=true) (H:To (trimS n h (Vm.keep L s)) (Vm.sel true (aT n) h) (Jj (Vm.keep L s) (ch i)) (Yx (Vm.sel true (aT n) h++ex) (A i)))
  (step:∀i,inv i->(∀j,inv j->G j<G i->HP rd nb (λ_=>aB) k K (Jj (Vm.keep L s) (ch j)) (Yx (Vm.sel true (aT n) h++ex) (A j)))->HP rd nb (λ_=>aB) k K (Jj (Vm.keep L s) (ch i)) (Yx (Vm.sel true (aT n) h++ex) (A i))):HP rd nb (λ_=>aB) k K s h:=
 ZwN L n (λi=>Jj (Vm.keep L s) (ch i)) (λi=>Yx (Vm.sel true (aT n) h++ex) (A i)) inv G i hi J I H step
theorem Zsy (tk:List Int->Int->Bool) {l:List Int} {e:Int} {i:Nat} (A:e=i) (hi:i<6):ZjS [λ_=>tk l 0,λ_=>tk l 1,λ_=>tk l 2,λ_=>tk l 3,λ_=>tk l 4,λ_=>tk l 5] e=tk l (i:Int):=by
 subst A;match i,hi with
 |0,_=>rfl
 |1,_=>rfl
 |2,_=>rfl
 |3,_=>rfl
 |4,_=>rfl
 |5,_=>rfl
theorem Zsx {tk:List Int->Int->Bool} (A:∀l i,tk l i=l.contains i) {l:List Int} {e:Int} {i j:Nat} (G:e=i):(bif decide (e=(j:Int))then true else tk l (j:Int))=tk (l++[(i:Int)]) (j:Int):=by
 subst G;rw[A,A];by_cases h:(i:Int)=j
 ·rw[iX h,h];simp
 rw[iW h];have H:¬(j:Int)=i:=λe=>h e.symm;simp[H]
theorem Zh1 {t:Zb} {x:List Int} {a:Zl} {l:List Int} {at_ A:Int} {i n:Nat} (h:0<n):Xm t x a l at_ A i n=if ZbG t x a l at_ A i then some i else Xm t x a l at_ A (i+1) (n-1):=by
 cases n with
 |zero=>omega
 |succ n=>rfl
theorem Zx5 (t:Zb) (x:List Int) (a:Zl) (hf:Zz t) (hx:JE t x) (ha:Xh (callsOf t) t.runs.length a=0):SC (λ_=>aB) 115 [.iptr (Z1 t) 0,Qa a,.imap 2 3 λ_=>Qu t x] [] λv h=>
  v= .tup [lst 1 Xd 0 (X9 t x a).1,.int .i64 λ_=>(X9 t x a).2.1,.bool λ_=>(X9 t x a).2.2]/\h=[]:=by
 obtain⟨A,O⟩:=Zn;have I:=λi h=> @ZmB t a hf ha i h;have aq:=λr k (h:StopIn (callsOf t) r k)=> @Za3 t x r k h;have a9:=λr k (h:StopIn (callsOf t) r k)=>(Jy hf.calls h).2.2;have aj:=λf l at_ aa=> @ZhN t x a f l at_ aa;have ak:=λf l at_ aa=> @ZhM t x a f l at_ aa;have ai:=λf l at_ aa i=> @ZhL t x a f l at_ aa i;have bm:=λr k (h:StopIn (callsOf t) r k)=>Zji hf x h;obtain⟨tk,ac⟩:∃tk:List Int->Int->Bool,∀l i,tk l i=l.contains i:=⟨λl i=>l.contains i,λ_ _=>rfl⟩;have bo:a.steps.length<=6:=by
  by_cases h:0<a.steps.length
  ·exact(I 0 h).1
  omega
 have az:= @Zkj a;have Y:=λl i h=> @Zm0 a l i h;have bh:Jh t x a (a.steps.length+1) [] a.from_ a.since=X9 t x a:=rfl;generalize X9 t x a=R at*;generalize hG:Jh t x a=G at*;generalize Zh7 a=LN at*;generalize Qu t x=HL at*;unfold Z1 Qa;simp only[Za O,Zc,QU];refine SC.less (Zvn false false [] [3] true 0 Tryz.func115 (body:=Zj Tryz.f115) rfl (by decide+kernel) rfl ?_);refine wS ?_;refine ZqL [0,2,4,6,9,10,11] 2 [.tok 1 λ_=>0] (λp:List Int×Int×Int×Nat=>[(6,.isl 1 (λ_=>(p.1.length:Int)) (λe=>Xd (A Int 0 p.1 (e ()))) (.own 2)),(9,.int .i64 λ_=>p.2.1),(10,.int .i64 λ_=>p.2.2.1)])
  (λp=>[(1,.cells [.bool λ_=>tk p.1 0,.bool λ_=>tk p.1 1,.bool λ_=>tk p.1 2,.bool λ_=>tk p.1 3,.bool λ_=>tk p.1 4,.bool λ_=>tk p.1 5]),(2,.tok 1 λ_=>(p.1.length:Int))])
  (λp=>LN p.1<p.2.2.2/\p.1.length+LN p.1<=a.steps.length/\G p.2.2.2 p.1 p.2.1 p.2.2.1=R) (λp=>LN p.1) ([],a.from_,a.since,a.steps.length+1) ⟨by show LN []<_;rw[az];exact fS _,by show 0+LN []<=_;omega,bh⟩ rfl rfl ?_ ?_
 ·(refine To.of [(1,false)] ?_;cbv;(try simp only[nc]);(repeat' first|exact xT|refine⟨?_,?_⟩|refine ZM.cells ?_|refine ZC.agg ?_|refine ZC.tup ?_);all_goals try exact XZ)
  all_goals exact .bool (by rw[ac];rfl)
 intro p J ih;refine Zfk false false [] [] true ?_;refine wS ?_;refine⟨λZ=>?_,λZ=>?_⟩
 ·have Z:p.2.1=a.goal:=eq_of_beq Z;have hr:=J.2.2;rw[aj _ _ _ _ (by have:=J.1;omega) Z]at hr;subst hr;refine wS ?_;refine⟨_,[],?_,rfl,rfl⟩;exact ZG
 have Z:p.2.1≠a.goal:=ne_of_beq_false Z;refine wS ?_;refine ZqL [0,2,4,6,9,10,11,27,28,29] 3 [] (λi:Nat=>[(29,.int .i64 λ_=>(i:Int))]) (λ_=>[]) (λi=>i<=a.steps.length/\Xm t x a p.1 p.2.1 p.2.2.1 0 a.steps.length=Xm t x a p.1 p.2.1 p.2.2.1 i (a.steps.length-i)) (λi=>a.steps.length-i) 0 ⟨by omega,rfl⟩ rfl rfl ?_ ?_
 ·exact ZG
 intro i hi ap;refine Zfk false false [] [] true ?_;refine wS ?_;refine⟨λh2=>?_,λh2=>?_⟩;case refine_2=>
  simp only[iS]at h2;have hn:=hi.2;rw[show a.steps.length-i=0 by omega,Xm]at hn;have hr:=J.2.2;rw[ak _ _ _ _ (by have:=J.1;omega) Z hn]at hr;subst hr;refine wS ?_;refine⟨_,[],?_,rfl,rfl⟩;exact ZG
 simp only[iR]at h2;have ar:i<a.steps.length:=by omega
 have U:= @Zh1 t x a p.1 p.2.1 p.2.2.1 i (a.steps.length-i) (by omega);have H:ZbG t x a p.1 p.2.1 p.2.2.1 i=(!tk p.1 (i:Int)&&(decide ((QB a i).from_=p.2.1)&&decide (p.2.2.1<=(ZR t x (QB a i).run (Yy t (QB a i))).goes))):=by rw[ac];rfl
 have I:=I i ar;have ae:=ai p.2.2.2 p.1 p.2.1 p.2.2.1 i (by have:=J.1;omega) Z;have Y:=Y p.1 i ar;have e1:= @Zsy tk p.1 i i rfl (by omega);have al:=a9 _ _ I.2.1;have au:=aq _ _ I.2.1;have am:=aq _ _ I.2.2;have bk:=bm _ _ I.2.1;have bc:QB a i=A Sp.Step default a.steps i:=by rw[O];rfl
 rw[bc]at H I ae al au am bk;have ao:=I.2.1;have ah:=I.2.2;unfold StopIn at ao ah;rw[JJ O]at al ao ah;have bg:Zx (A (List Sp.Call) [] (callsOf t) (A Sp.Step default a.steps i).run) 0 (A Sp.Step default a.steps i).from_=Yy t (A Sp.Step default a.steps i):=by unfold Yy;rw[JJ O]
 have be:Zx (A (List Sp.Call) [] (callsOf t) (A Sp.Step default a.steps i).run) (Yy t (A Sp.Step default a.steps i)+1) (A Sp.Step default a.steps i).to_=Zf0 t (A Sp.Step default a.steps i):=by unfold Zf0;rw[JJ O]
 have ab:=Zoh (A (List Sp.Call) [] (callsOf t) (A Sp.Step default a.steps i).run) 0 (A Sp.Step default a.steps i).from_ (by omega) (by omega);have V:=Zoh (A (List Sp.Call) [] (callsOf t) (A Sp.Step default a.steps i).run) (Yy t (A Sp.Step default a.steps i)+1) (A Sp.Step default a.steps i).to_ (by omega) (by omega);rw[bg]at ab;rw[be]at V;simp only[Za O]at ab V;generalize hd:A Sp.Step default a.steps i=d at*;refine vS ?_;simp only[hd,e1];refine Chk.mk (ZH) ?_;refine⟨λS=>?_,λS=>?_⟩
 ·have bl:ZbG t x a p.1 p.2.1 p.2.2.1 i=false:=by
   rw[H];cases hc:tk p.1 (i:Int)with
   |true=>rfl
   |false=>
    rw[hc]at S;have S:(d.from_ !=p.2.1)=true:=S;rw[iW (by simpa using S)];rfl
  rw[bl]at U;refine wS ?_;refine Zcj [0,2,4,6,9,10,11,27,28,29] 3 rfl rfl ?_ (ap (i+1) ⟨by omega,?_⟩ (by show a.steps.length-(i+1)<a.steps.length-i;omega))
  ·exact ZG
  rw[hi.2,U,iP aO,show a.steps.length-i-1=a.steps.length-(i+1) by omega]
 have hc:tk p.1 (i:Int)=false/\d.from_=p.2.1:=by
  cases hc:tk p.1 (i:Int)with
  |true=>rw[hc]at S;cases S
  |false=>
   rw[hc]at S;have S:(d.from_ !=p.2.1)=false:=S;exact⟨rfl,by simpa using S⟩
 rw[hc.1]at H;rw[iX hc.2]at H;generalize hF:A (List Sp.Call) [] (callsOf t) d.run=F at*;generalize Yy t d=fo at*;generalize Zf0 t d=to at*;have hg:((eV [d.run,fo] (HL)).getD []).tail.tail.headD 0=(ZR t x d.run fo).goes:=by rw[au];rfl
 have ba:((eV [d.run,to] (HL)).getD []).headD 0=(ZR t x d.run to).comes:=by rw[am];rfl
 generalize (ZR t x d.run fo).goes=gs at*;generalize (ZR t x d.run to).comes=cs at*;refine vS ?_;simp only[hF];refine Chk.mk (ZH) ?_;refine ZL (ab) (by first|rfl|(simp only[Ze,Zd,Zf,Zc,Za O];rfl)) λr aw J=>?_;(try simp only[Ze,Zd,Zf,Zc,Za O]at J);obtain⟨rfl,rfl⟩:=J;refine vS ?_;simp only[hg];try refine Chk.mk (ZH) ?_
 refine⟨λh4=>?_,λh4=>?_⟩
 ·have h4:=iU h4;rw[iW (by omega)]at H;rw[H]at U;refine wS ?_;refine Zcj [0,2,4,6,9,10,11,27,28,29] 3 rfl rfl ?_ (ap (i+1) ⟨by omega,?_⟩ (by show a.steps.length-(i+1)<a.steps.length-i;omega))
  ·exact ZG
  rw[hi.2,U,show a.steps.length-i-1=a.steps.length-(i+1) by omega];rfl
 have h4:=iV h4;rw[iX (by omega)]at H;rw[H]at U;have ae:=ae (by rw[hi.2,U];rfl);have Y:=Y (by rw[<-ac];exact hc.1);refine wS ?_;refine ZL (V) (by first|rfl|(simp only[Ze,Zd,Zf,Zc,Za O];rfl)) λr aw J=>?_;(try simp only[Ze,Zd,Zf,Zc,Za O]at J);obtain⟨rfl,rfl⟩:=J;refine vS ?_;simp only[ba];try refine Chk.mk (ZH) ?_
 refine Zfk false false [] [3] true ?_;refine wS ?_;refine Zcj [0,2,4,6,9,10,11] 3 rfl rfl ?_ (ih (p.1++[(i:Int)],d.to_,cs,p.2.2.2-1) ⟨?_,?_,?_⟩ Y)
 ·(refine To.of [] ?_;cbv;(try simp only[nc]);(repeat' first|exact xT|refine⟨?_,?_⟩|refine ZM.cells ?_|refine ZC.agg ?_|refine ZC.tup ?_);all_goals try exact XZ)
  all_goals exact .bool (Zsx ac rfl)
 ·show LN (p.1++[(i:Int)])<p.2.2.2-1;have:=J.1;omega
 ·show(p.1++[(i:Int)]).length+LN (p.1++[(i:Int)])<=a.steps.length;have:=J.2.1;rw[bf];show p.1.length+1+_<=_;omega
 show G (p.2.2.2-1) (p.1++[(i:Int)]) d.to_ cs=R;rw[<-ae];exact J.2.2
end Vm
namespace Sp
open Vm
def wdS (stop:Nat->Bool) (f:Nat->Int):Nat->Wd
 |0=>⟨0,0,false⟩
 |n+1=>if stop n then wdS stop f n else(wdS stop f n).add (f n)
def Xo (t:Zb) (a:Zl) (i:Nat):Bool:=(X9 t (Zk t i) a).2.2
def YQ (t:Zb) (a:Zl) (i:Nat):Int:=(X9 t (Zk t i) a).2.1
def Qk (t:Zb) (a:Zl):Bool:=(aT (manyT t)).all (Xo t a)
def Ql (t:Zb) (a:Zl):ZbV:=if Qk t a then⟨(ZbS (YQ t a) (manyT t)).fr,(ZbS (YQ t a) (manyT t)).to_⟩else⟨0,0⟩
theorem ZoG {stop:Nat->Bool} {f:Nat->Int}:∀(n:Nat),(∀j,j<n->stop j=false)->wdS stop f n=ZbS f n
 |0,_=>rfl
 |n+1,h=>by
  rw[wdS,iP (by rw[h n (by omega)];exact aO),ZoG n λj A=>h j (by omega)];rfl
end Sp
namespace Vm
attribute [local irreducible] Dn
open Go Go.Proofs Sp
set_option maxRecDepth 100000
set_option maxHeartbeats 4000000
theorem Ztn (t:Zb) (a:Zl) (hw:Zz t) (ha:Xh (callsOf t) t.runs.length a=0):SC (λ_=>aB) 99 [.iptr (Z1 t) 0,Qa a] [] λv h=>
  v= .tup [.agg (encSp (Ql t a)),.bool λ_=>Qk t a]/\h=[]:=by
 obtain⟨nt,O⟩:=Zn;have aa:=λi=>Zx5 t (Zk t i) a hw (YT hw i) ha;have ae:=Ztp t;have ak:=λB0 B1 B2 B3 B4 B5 stop=>Ztm t hw B0 B1 B2 B3 B4 B5 stop;obtain⟨A,V⟩:∃s:Nat->Bool,∀i,s i= !Xo t a i:=⟨_,λ_=>rfl⟩;obtain⟨WD,H⟩:∃w:Nat->Wd,∀i,w i=wdS A (YQ t a) i:=⟨_,λ_=>rfl⟩;have ao:WD 0=⟨0,0,false⟩:=by rw[H];rfl
 have aq:∀i,A i=true->WD (i+1)=WD i:=λi h=>by rw[H,H,wdS,iQ h]
 have am:∀i,A i=false->WD (i+1)=(WD i).add (YQ t a i):=λi h=>by rw[H,H,wdS,iP (by rw[h];exact aO)]
 have ap:∀i,(X9 t (Zk t i) a).2.2=Xo t a i:=λ_=>rfl;have al:∀i,(X9 t (Zk t i) a).2.1=YQ t a i:=λ_=>rfl;have aj:(∀j,j<manyT t->A j=false)->Qk t a=true/\Ql t a=⟨(WD (manyT t)).fr,(WD (manyT t)).to_⟩:=λh=>by
  have I:Qk t a=true:=bM.2 λj Z=>by
   have:=h j (bZ.1 Z);rw[V]at this;simpa using this
  refine⟨I,?_⟩;unfold Ql;rw[iQ I,H,ZoG _ h]
 have ah:∀j,j<manyT t->A j=true->Qk t a=false/\Ql t a=⟨0,0⟩:=λj Z h=>by
  have I:Qk t a=false:=by
   cases hc:Qk t a with
   |false=>rfl
   |true=>
    have:=bM.1 hc j (bZ.2 Z);rw[V,this]at h;cases h
  refine⟨I,?_⟩;unfold Ql;rw[iP (by rw[I];exact aO)]
 simp only[ap,al]at aa;generalize Ql t a=AS at*;generalize Qk t a=CA at*;generalize hTR:X9 t=TR at*;generalize Zk t=TA at*;generalize Qu t=HL at*;generalize Xo t a=CI at*;generalize YQ t a=CT at*;unfold YA Z1 Qa at*;simp only[Za O,Zc,Zt,QU]at*;refine SC.less (QO Tryz.func99 (body:=Zj Tryz.f99) rfl (by decide+kernel) ?_);refine wS ?_;refine ZL (ae) (by first|rfl|(simp only[Ze,Zd,Zf,Zc,Za O];rfl)) λr ab S=>?_;(try simp only[Ze,Zd,Zf,Zc,Za O]at S);obtain⟨rfl,rfl⟩:=S;refine wS ?_;refine Zgi [2,3,4,5,6,13] [] [(4,.cells [.int .i64 λ_=>(WD 0).fr,.int .i64 λ_=>(WD 0).to_,.bool λ_=>(WD 0).some_])] (fid:=135) (first:=[]) ?_ rfl ?_ ?_
 ·rw[ao];exact ZG
 ·exact Yp
 refine SC.mono (ak (λ_=>_) (λ_=>_) (λ_=>_) (λ_=>_) (λi=>.cells [.int .i64 λ_=>(WD i).fr,.int .i64 λ_=>(WD i).to_,.bool λ_=>(WD i).some_]) (λi=>.loop _ ⟨_,_,_,bif QZ A i then .done else .ready,bif QZ A i then some .ret else none⟩) A ?_ ?_ ?_ ?_ ?_ ?_ ?_) ?_;iterate 6 exact λi=>QT.of rfl
 ·intro i hi J;have G:QZ A i=false:=by
   cases i with
   |zero=>rfl
   |succ j=>exact J j (by omega)
  simp only[G,cond_false];refine YC.less (Zdc false false [] rfl rfl ?_);refine wS ?_;refine ZL (aa i) (by first|rfl|(simp only[Ze,Zd,Zf,Zc,Za O];rfl)) λr ab S=>?_;(try simp only[Ze,Zd,Zf,Zc,Za O]at S);obtain⟨rfl,rfl⟩:=S;refine wS ?_;refine⟨λI=>?_,λI=>?_⟩
  ·have U:A i=true:=by rw[V];exact I
   have ac:QZ A (i+1)=true:=U;refine wS ?_;simp only[ac,cond_true,aq i U];refine⟨.bool λ_=> !A i,_,?_,rfl,rfl⟩;refine toR ?_;exact .bool (by rw[U];rfl)
  have U:A i=false:=by rw[V];exact I
  have ac:QZ A (i+1)=false:=U;have k:=Zw7 (WD i) (CT i);rw[<-am i U]at k;unfold Y2 at k;refine wS ?_;refine cL1 [4] (k) λr ab S=>?_;(try simp only[Ze,Zd,Zf,Zc,Za O]at S);obtain rfl:=S;refine wS ?_;simp only[ac,cond_false];refine⟨.bool λ_=> !A i,_,?_,rfl,rfl⟩;refine toR ?_;exact .bool (by rw[U];rfl)
 intro v h hh;obtain⟨m,hm,rfl⟩:=hh;unfold encSp;rcases hm with⟨hm,J⟩|⟨j,hm,Z,G,J⟩
 ·have G:QZ A m=false:=by
   cases m with
   |zero=>rfl
   |succ j=>exact J j (by omega)
  have Y:=aj λj Z=>J j (by omega);rw[<-hm]at Y;simp only[G,cond_false];refine wS ?_;rw[Y.1,Y.2];refine⟨_,[],?_,rfl,rfl⟩;exact ZG
 have ai:QZ A m=true:=by rw[hm];exact G
 have Y:=ah j Z G;simp only[ai,cond_true];refine wS ?_;rw[Y.1,Y.2];refine⟨_,[],?_,rfl,rfl⟩;exact ZG
theorem ZxX {A:(α:Type)->α->List α->Int->α} (O:∀(α:Type) (d:α) (l:List α) (i:Int),A α d l i=l.getD i.toNat d) (l:List Sp.QR) (G:0<l.length/\l.length<=1000000):SC (λ_=>aB) 152 [lst 4 QM default l] [] λv h=>v= .gsl 0 (λ_=>(l.length:Int))/\h=[.gar 4 (λ_=>(l.length:Int)) (λe=>QM (A Sp.QR default l (e ())))]:=by
 simp only[Za O];refine SC.less (Zvo true false [] Tryz.func152 (body:=Zj Tryz.f152) rfl (by decide+kernel) ?_);refine wS ?_;refine Br.isF rfl ?_;refine wS ?_;refine⟨_,_,?_,rfl,rfl⟩;refine toR ?_;exact .gar (by simp) λi H=>by rw[QG (len:=0) rfl (aV _)];rfl
def Zw (t:Zb) (w n:Int):Zb:={t with waits:=t.waits.set w.toNat {t.waits.getD w.toNat default with minutes:=n}}
theorem Zvu (t:Zb) (w n:Int) (Y:Qm t) (hw:0<=w/\w<t.waits.length):SC (λ_=>aB) 100 [Zf t,.int .i64 λ_=>w,.int .i64 λ_=>n] [] λv h=>v=Zf (Zw t w n)/\h=[]:=by
 obtain⟨H,O⟩:=Zn;have aa:=Y.waits;have k:=ZxX O t.waits ⟨by omega,by omega⟩;obtain⟨G,A⟩:∃G,G=Zw t w n:=⟨_,rfl⟩;have J:G.waits.length=t.waits.length:=by rw[A];unfold Zw;simp
 have I:∀i:Nat,i<t.waits.length->[AV.int .i64 λ_=>(H Sp.QR default t.waits (i:Int)).feeder,.int .i64 λ_=>(H Sp.QR default t.waits (i:Int)).train,.int .i64 λ_=>(H Sp.QR default t.waits (i:Int)).station,.int .i64 λ_=>bif decide ((i:Int)=w)then n else(H Sp.QR default t.waits (i:Int)).minutes]=QM (H Sp.QR default G.waits (i:Int)):=λi S=>by
  have e:H Sp.QR default G.waits (i:Int)=if(i:Int)=w then {H Sp.QR default t.waits (i:Int)with minutes:=n}else H Sp.QR default t.waits (i:Int):=by
   rw[O,O,aW,A];show(t.waits.set w.toNat _).getD i default=_;by_cases h:(i:Int)=w
   ·subst h;rw[iQ rfl,aW,Vm.Zck _ _ _ _ S]
   rw[iP h,Vm.Zat _ _ _ _ _ (by omega)]
  rw[e];by_cases h:(i:Int)=w
  ·rw[iQ h,iX h];rfl
  rw[iP h,iW h];rfl
 have hb:G.book=t.book:=by rw[A];rfl
 have hr:G.runs=t.runs:=by rw[A];rfl
 have V:G.delays=t.delays:=by rw[A];rfl
 rw[<-A];unfold Zf;rw[hb,hr,V];simp only[Za O]at k|-;refine SC.less (Zvo false false [] Tryz.func100 (body:=Zj Tryz.f100) rfl (by decide+kernel) ?_);refine wS ?_;refine cL1 [] (k) λr Z U=>?_;(try simp only[Ze,Zd,Zf,Zc,Za O]at U);obtain⟨rfl,rfl⟩:=U;refine wS ?_;refine⟨_,[],?_,rfl,rfl⟩;refine toR ?_;exact .gd (by simp) (.none (by show(t.waits.length:Int)=G.waits.length;rw[J]) λi S=>I i (by have:(i:Int)<t.waits.length:=S;omega))
end Vm
namespace Vm
open Go Go.Proofs Conc1
def Zkx:Nat->AV->Bool
 |0,_=>false
 |_+1,.int _ _=>true
 |_+1,.bool _=>true
 |_+1,.undef=>true
 |k+1,.agg cs=>cs.all (Zkx k)
 |k+1,.tup cs=>cs.all (Zkx k)
 |_+1,_=>false
theorem Zjk {R R':RC}:∀(k:Nat) {a:AV} {v:Value},Zkx k a=true->VR R a v->VR R' a v
 |0,a,v,h,_=>by cases h
 |k+1,a,v,h,hv=>by
  cases a with
  |int q n=>rw[hv.int_inv];exact .pure _ _ (.int q n)
  |bool b=>rw[hv.bool_inv];exact .pure _ _ (.bool b)
  |undef=>exact .undef _
  |agg cs=>
   obtain⟨G,rfl,H,hr⟩:=hv.agg_inv;exact .agg cs G H λj c A=>Zjk k (bM.1 h c (aZ A)) (hr j c A)
  |tup cs=>
   obtain⟨G,rfl,H,hr⟩:=hv.tup_inv;exact .tup cs G H λj c A=>Zjk k (bM.1 h c (aZ A)) (hr j c A)
  |_=>cases h
theorem SC.lend {p:Unit->Program} {f:FuncId} {xs ys:List AV} {h hc:List Zi} {Y Q:AV->List Zi->Prop} (l:List Nat) (ap:l.Nodup) (ak:∀i∈l,i<h.length) (ai:sel true l h=hc) (ab:∀b∈hc,b= .main) (H:SC p f ys hc Q) (hx:xs.map (QE true l h 5)=ys)
  (hq:∀r aa,Q r aa->aa=hc/\Zkx 5 r=true/\Y r h):SC p f xs h Y:=
 ⟨H.enter,λG R vs hr ha cs=>by
  obtain⟨V,am,a0,A,a2,a3,a4,a5,a6,a7,a8⟩:=hr.sel (fz:=true) (ι:=l) (λ_ _ _=>True) (λ_ _ _ _=>trivial) (λ_ _ _ _ _ _ _ _=>trivial) (λ_ _ _ _=>trivial) (λ_ _ _ _ _ _ _ _ _=>trivial) ap ak (λ_ _ _ _ _ _ _ _ _=>trivial) 0 (aV _) (λ_=>aV _)
  have aj:Yf V ys vs:=⟨by rw[<-hx,bA];exact ha.1,λj c hj=>by
   rw[<-hx,aP,Option.map_eq_some_iff]at hj;obtain⟨x,hx,rfl⟩:=hj
   exact a8 5 x _ (ha.2 j x hx)⟩
  rw[ai]at a6;obtain⟨v,R',r,h',b1,b3,b4,b5,b6,b7⟩:=H.run _ V vs a6 aj cs;obtain⟨rfl,ao,hP⟩:=hq r h' b7;have I:∀b,b<R.w.heap.size->R'.w.heap[b]? =R.w.heap[b]? :=λb Z=>by
   rw[b4.frame b (by rw[A];exact Z) (λid blk U hp=>by
    have:=ab blk (aZ U);subst this
    exact hp),A]
  have ac:R.w.heap.size<=R'.w.heap.size:=by rw[<-A];exact b4.size
  let S:RC:={R with w:=R'.w,ok:=λb o n=>b<R'.w.heap.size/\G b o n/\Zdb R h b o n};have ae:∀b o n,R.ok b o n->S.ok b o n:=λb o n k=>by
   obtain⟨h1,h2,h3⟩:=(hr.okd _ _ _).1 k;exact⟨by omega,h2,h3⟩
  have J:∀b o n,R.ok b o n->∀j,j<n->S.w.cell? ⟨b,o+j,none⟩=R.w.cell? ⟨b,o+j,none⟩:=λb o n k j hj=>by
   have:=b5.keep b o n (a7 b o n k) j hj;rw[A]at this;exact this
  have ah:R.le S:=⟨aJ _,λ_ _=>rfl,λ_ _=>⟨Int.le_refl _,λ_=>rfl⟩,λ_ _=>.refl _,ae,J,λb k es al e=>by
   have:=b5.keepM b (a7 b 0 1 k) es al (by rw[A];exact e)
   exact this,rfl⟩
  refine⟨v,S,r,h,?_,⟨hr.len,λ_ _ _=>Iff.rfl,λid blk U=>(hr.blk id blk U).mono ah rfl rfl rfl rfl λb hp=>I b (hr.phys_lt U hp),hr.dis,hr.cl,λb o n Z=>hr.fresh b o n (Nat.le_trans ac Z),hr.tokG,hr.n0m⟩,
   ⟨rfl,by rw[<-A];exact b4.os,by rw[<-A];exact b4.tape,by rw[<-A];exact b4.output,ac,aJ _,λ_ _=>rfl,ae,J,λb Z _=>I b Z,λid blk b U hp=>.inr ⟨id,blk,U,hp,.inl rfl⟩⟩,ah,Zjk 5 ao b6,hP⟩
  rw[A,am]at b1
  exact b1⟩
theorem SC.lend0 {p:Unit->Program} {f:FuncId} {xs I:List AV} {h:List Zi} {G Q:AV->List Zi->Prop} (H:SC p f I [] Q) (V:xs.map (QE true [] h 5)=I) (J:∀r A,Q r A->A=[]/\Zkx 5 r=true/\G r h):SC p f xs h G:=
 SC.lend [] List.nodup_nil (λi U=>by cases U) rfl (λb S=>by cases S) H V J
end Vm
namespace Sp
def XR (t:Zb) (a:Zl):Int:=if Zq t≠0 then Zq t else Xh (callsOf t) t.runs.length a
def ZX (t:Zb) (a:Zl) (w:Int):Int:=if XR t a=0 then(if Qq w 0 ((t.waits.length:Int)-1)then 3 else 0)else XR t a
theorem Zhc {t:Zb} (h:Zq t=0):QJ t=0:=by
 unfold Zq at h;split at h
 ·exact absurd h (by assumption)
 split at h
 ·exact absurd h (by assumption)
 exact bO (by assumption)
theorem ZeR {t:Zb} {a:Zl} (h:XR t a=0):Zq t=0:=by
 unfold XR at h;split at h
 ·exact h
 exact bO (by assumption)
end Sp
namespace Vm
attribute [local irreducible] Dn
open Go Go.Proofs Sp
set_option maxRecDepth 100000
set_option maxHeartbeats 4000000
theorem Zw1 (t:Zb) (a:Zl) (H:Qm t) (I:a.steps.length<=1000000):SC (λ_=>aB) 114 [Zf t,Qa a] [] λv h=>v= .tup [Q8 (Zq t) t,.int .i64 λ_=>XR t a]/\h=[]:=by
 obtain⟨J,O⟩:=Zn;refine SC.less (QO Tryz.func114 (body:=Zj Tryz.f114) rfl (by decide+kernel) ?_);have k:=Ztq t H;have A:=λh:Zq t=0=>ZxW t a (J6 (Zhc h)) H.runs I;generalize G:XR t a=e;unfold XR at G;unfold Zf Qa at*;simp only[Za O]at k A|-;by_cases he:Zq t=0
 ·unfold Q8 at k|-;rw[iQ he]at k|-;rw[iP (λh=>h he)]at G;have A:=A he;unfold Z1 at k A|-;simp only[Za O,Zc]at k A|-;rw[he]at k;refine wS ?_;refine Zrk (k) ?_;refine wS ?_;refine Br.isF rfl ?_;refine wS ?_;refine Zrk (A) ?_;rw[G];refine wS ?_;refine⟨_,[],?_,rfl,rfl⟩;exact ZG
 unfold Q8 at k|-;rw[iP he]at k|-;rw[iQ he]at G;rw[G]at k he;refine wS ?_;refine Zrk (k) ?_;refine wS ?_;refine⟨λh=>?_,λh=>?_⟩
 ·refine wS ?_;refine⟨_,[],?_,rfl,rfl⟩;exact ZG
 exact absurd (by simpa only[iY]using h) he
theorem Zw5 (t:Zb) (a:Zl) (w:Int) (H:Qm t) (S:a.steps.length<=1000000):SC (λ_=>aB) 98 [Zf t,Qa a,.int .i64 λ_=>w] [] λv h=>v= .tup [Q8 (Zq t) t,.int .i64 λ_=>ZX t a w]/\h=[]:=by
 obtain⟨V,O⟩:=Zn;refine SC.less (QO Tryz.func98 (body:=Zj Tryz.f98) rfl (by decide+kernel) ?_);have k:=Zw1 t a H S;have hw:=H.waits;have J:=Zdp w 0 ((t.waits.length:Int)-1);generalize A:ZX t a w=e;unfold ZX at A;unfold Zf Qa at*;generalize U:XR t a=I at*;simp only[Za O]at k|-;by_cases hb:Zq t=0
 ·unfold Q8 at k|-;rw[iQ hb]at k|-;unfold Z1 at k|-;simp only[Za O,Zc]at k|-;by_cases G:I=0
  ·rw[iQ G]at A;rw[G]at k;refine wS ?_;refine Zrk (k) ?_;refine wS ?_;refine Br.isT rfl ?_;refine wS ?_;refine Zrk (J) ?_;refine wS ?_;refine⟨λh=>?_,λh=>?_⟩
   ·have h:Qq w 0 ((t.waits.length:Int)-1)=true:=h;rw[iQ h]at A;subst A;refine wS ?_;refine⟨_,[],?_,rfl,rfl⟩;exact ZG
   have h:Qq w 0 ((t.waits.length:Int)-1)=false:=h;rw[iP (by rw[h];exact aO)]at A;subst A;refine wS ?_;refine⟨_,[],?_,rfl,rfl⟩;exact ZG
  rw[iP G]at A;subst A;refine wS ?_;refine Zrk (k) ?_;refine wS ?_;refine⟨λh=>?_,λh=>?_⟩
  ·exact absurd (eq_of_beq h) G
  refine wS ?_;refine Br.isF rfl ?_;refine wS ?_;refine⟨_,[],?_,rfl,rfl⟩;exact ZG
 unfold Q8 at k|-;rw[iP hb]at k|-;have G:I≠0:=by
  intro h;exact hb (ZeR (U.trans h))
 rw[iP G]at A;subst A;refine wS ?_;refine Zrk (k) ?_;refine wS ?_;refine⟨λh=>?_,λh=>?_⟩
 ·exact absurd (eq_of_beq h) G
 refine wS ?_;refine Br.isF rfl ?_;refine wS ?_;refine⟨_,[],?_,rfl,rfl⟩;exact ZG
end Vm
namespace Sp
open Vm
theorem Zee {t:Zb} (A:Zz t) {w n:Int} (Y:0<=n/\n<=60):Zz (Zw t w n):=by
 have H:∀v∈(Zw t w n).waits,∃G∈t.waits,v.feeder=G.feeder/\v.train=G.train/\v.station=G.station/\(v.minutes=G.minutes\/v.minutes=n):=λv hv=>by
  rcases List.mem_or_eq_of_mem_set hv with h|rfl
  ·exact⟨v,h,rfl,rfl,rfl,.inl rfl⟩
  by_cases hl:w.toNat<t.waits.length
  ·refine⟨t.waits[w.toNat],bL hl,?_⟩;rw[aA,aC hl];exact⟨rfl,rfl,rfl,.inr rfl⟩
  have:(Zw t w n).waits=t.waits:=List.set_eq_of_length_le (by omega);rw[this]at hv;exact⟨_,hv,rfl,rfl,rfl,.inl rfl⟩
 refine⟨A.calls,A.nn,A.asc,by show(t.waits.set _ _).length<=4;rw[bW];exact A.wlen,A.dlen,λv hv=>?_,A.d⟩;obtain⟨G,I,J,U,S,V⟩:=H v hv;have h:=A.w G I;rw[J,U,S];exact⟨h.1,h.2.1,h.2.2.1,by omega,by omega,h.2.2.2.2.2⟩
def Qp (t:Zb) (a:Zl) (w:Int):Nat->Int×Int×Bool
 |0=>(0,0,false)
 |n+1=>if Qk (Zw t w n) a&&(!(Qp t a w n).2.2||decide ((Ql (Zw t w n) a).to_<(Qp t a w n).2.1))then((n:Int),(Ql (Zw t w n) a).to_,true)else Qp t a w n
def ZbW (t:Zb) (a:Zl) (w:Int):Int×Int×Int:=
 if ZX t a w≠0 then(0,0,ZX t a w)else if(Qp t a w 61).2.2 then((Qp t a w 61).1,(Qp t a w 61).2.1,0)else(0,0,11)
end Sp
namespace Vm
attribute [local irreducible] Dn
open Go Go.Proofs Sp
set_option maxRecDepth 100000
set_option maxHeartbeats 4000000
theorem ZcM {t:Zb} {a:Zl} {w:Int} (h:ZX t a w=0):Zq t=0/\Xh (callsOf t) t.runs.length a=0/\0<=w/\w<t.waits.length:=by
 unfold ZX at h;split at h
 ·rename_i A;have G:=ZeR A;split at h
  ·cases h
  rename_i H;have:=QK (by simpa using H);unfold XR at A;rw[iP (λh=>h G)]at A;exact⟨G,A,by omega,by omega⟩
 exact absurd h (by assumption)
theorem Zxd (t:Zb) (a:Zl) (w:Int) (hf:Qm t) (ha:a.steps.length<=1000000) (hw:Zq t=0->Zz t):SC (λ_=>aB) 35 [Zf t,Qa a,.int .i64 λ_=>w] [] λv h=>
  v= .tup [.int .i64 λ_=>(ZbW t a w).1,.int .i64 λ_=>(ZbW t a w).2.1,.int .i64 λ_=>(ZbW t a w).2.2]/\h=[]:=by
 obtain⟨nt,O⟩:=Zn;have k:=Zw5 t a w hf ha;by_cases he:ZX t a w=0
 ·have S:=ZcM he;have hw:=hw S.1;have I:=λn=>Zvu t w n hf S.2.2;have H:=λn h=>Ztn (Zw t w n) a (Zee hw (n:=n) h) S.2.1;have aa:Qp t a w 0=(0,0,false):=rfl;have Z:∀n:Nat,Qp t a w (n+1)=if Qk (Zw t w n) a&&(!(Qp t a w n).2.2||decide ((Ql (Zw t w n) a).to_<(Qp t a w n).2.1))then((n:Int),(Ql (Zw t w n) a).to_,true)else Qp t a w n:=λ_=>rfl
  have U:ZbW t a w=if(Qp t a w 61).2.2 then((Qp t a w 61).1,(Qp t a w 61).2.1,0)else(0,0,11):=by
   unfold ZbW;rw[iP (λh=>h he)]
  have ah:∀n,(Zw t w n).book=t.book:=λ_=>rfl;have ae:∀n,(Zw t w n).runs=t.runs:=λ_=>rfl;have ai:∀n,(Zw t w n).delays=t.delays:=λ_=>rfl;have aj:∀n,callsOf (Zw t w n)=callsOf t:=λ_=>rfl;unfold Q8 at k;rw[iQ S.1,he]at k;unfold Z1 Zf Qa encSp at*;simp only[ah,ae,ai,aj]at I H;simp only[Za O,Zc,QU,Zt]at*;generalize ZbW t a w=BE at*;generalize Qp t a w=B at*;generalize ak:Zw t w=WT at*;generalize Y:(λn=>Qk (WT n) a)=CA at*;generalize V:(λn=>Ql (WT n) a)=AS at*;have Y:∀n,Qk (WT n) a=CA n:=λn=>congrFun Y n;have V:∀n,Ql (WT n) a=AS n:=λn=>congrFun V n;simp only[Y,V]at H Z;refine SC.less (QO Tryz.func35 (body:=Zj Tryz.f35) rfl (by decide+kernel) ?_);refine wS ?_;refine Zrk (k) ?_;refine wS ?_;refine Br.isF rfl ?_;refine wS ?_;refine ZJ false false [] [2,3,4,6,7,9,10,24] [] (λp:Nat=>[(24,.int .i64 λ_=>(p:Int)),(6,.int .i64 λ_=>(B p).1),(7,.int .i64 λ_=>(B p).2.1),(10,.bool λ_=>(B p).2.2)]) (λ_=>[]) (λp=>p<=61) (λp=>61-p+0) 0 (by omega) ?_ ?_
  ·(refine To.of [] ?_;cbv;(try simp only[nc]);(repeat' first|exact xT|refine⟨?_,?_⟩|refine ZM.cells ?_|refine ZC.agg ?_|refine ZC.tup ?_);all_goals try exact XZ)
   all_goals first|exact .int (by rw[aa])|exact .bool (by rw[aa])
  intro p hp;refine wS ?_;refine⟨λh1=>?_,λh1=>?_⟩;case refine_2=>
   simp only[iS]at h1;have ac:p=61:=by omega
   subst ac;refine wS ?_;refine⟨λA=>?_,λA=>?_⟩
   ·have A:(B 61).2.2=false:=nb2 A;rw[iP (by rw[A];exact aO)]at U;subst U;refine wS ?_;refine⟨_,[],?_,rfl,rfl⟩;exact ZG
   have A:(B 61).2.2=true:=nb4 A;rw[iQ A]at U;subst U;refine wS ?_;refine⟨_,[],?_,rfl,rfl⟩;exact ZG
  simp only[iR]at h1;have I:=I p;have H:=H p (by omega);refine wS ?_;repeat' (first|(with_reducible refine Zho.mk ?_ ?_)|((with_reducible refine Chk.mk ?_ ?_);(focus exact ZH))|((with_reducible refine ZL I ?_ ?_);(focus (first|rfl|(simp only[Za O];rfl)));(intro r ab hp;obtain⟨rfl,rfl⟩:=hp;cbv;(try simp only[nc]at*)))|((with_reducible refine SC.lend0 H ?_ ?_);(focus (first|rfl|(simp only[Za O];rfl)));(intro r ab hp;obtain⟨rfl,rfl⟩:=hp;refine⟨rfl,rfl,?_⟩;cbv;(try simp only[nc]at*))))
  all_goals
   have J:(bif CA p then bif !(B p).2.2 then true else decide ((AS p).to_<(B p).2.1)else false)=(CA p&&(!(B p).2.2||decide ((AS p).to_<(B p).2.1))):=by cases CA p<;>cases (B p).2.2<;>rfl
   refine⟨λA=>?_,λA=>?_⟩
   ·have G:=Z p;rw[iQ (J.symm.trans A)]at G;refine wS ?_;refine⟨p+1,by show p+1<=61;omega,by show 61-(p+1)+0<61-p+0;omega,?_⟩;(refine To.of [] ?_;cbv;(try simp only[nc]);(repeat' first|exact xT|refine⟨?_,?_⟩|refine ZM.cells ?_|refine ZC.agg ?_|refine ZC.tup ?_);all_goals try exact XZ);all_goals first|exact .int (by rw[G])|exact .bool (by rw[G])
   have G:=Z p;rw[iP (λh=>by rw[<-J,A]at h;cases h)]at G;refine wS ?_;refine⟨p+1,by show p+1<=61;omega,by show 61-(p+1)+0<61-p+0;omega,?_⟩;(refine To.of [] ?_;cbv;(try simp only[nc]);(repeat' first|exact xT|refine⟨?_,?_⟩|refine ZM.cells ?_|refine ZC.agg ?_|refine ZC.tup ?_);all_goals try exact XZ);all_goals first|exact .int (by rw[G])|exact .bool (by rw[G])
 have U:ZbW t a w=(0,0,ZX t a w):=by
  unfold ZbW;rw[iQ he]
 rw[U];generalize ZX t a w=e at*;refine SC.less (QO Tryz.func35 (body:=Zj Tryz.f35) rfl (by decide+kernel) ?_);unfold Zf Qa at*;by_cases hb:Zq t=0
 ·unfold Q8 at k;rw[iQ hb]at k;unfold Z1 at k;simp only[Za O,Zc,QU,Zt]at*;refine wS ?_;refine Zrk (k) ?_;refine wS ?_;refine⟨λh=>?_,λh=>?_⟩
  ·refine wS ?_;refine⟨_,[],?_,rfl,rfl⟩;exact ZG
  exact absurd (by simpa only[iY]using h) he
 unfold Q8 at k;rw[iP hb]at k;simp only[Za O,Zc,QU,Zt]at*;refine wS ?_;refine Zrk (k) ?_;refine wS ?_;refine⟨λh=>?_,λh=>?_⟩
 ·refine wS ?_;refine⟨_,[],?_,rfl,rfl⟩;exact ZG
 exact absurd (by simpa only[iY]using h) he
end Vm
namespace Sp
open Vm
def JC (t:Zb) (f r st:Int) (i:Nat):Bool:=
 decide ((ZR t (Zk t i) f (ZD (Zm (callsOf t) f) st)).comes<=(ZR t (Zk t i) r (ZQ (Zm (callsOf t) r) st)).goes)
def Qw (p:Nat->Bool):Nat->Int
 |0=>0
 |n+1=>if p n then Qw p n+1 else Qw p n
def ZgL (t:Zb) (f r st:Int):Int:=ZfG (Qw (JC t f r st) (manyT t)) (Qw (λi=> !JC t f r st i) (manyT t))
def Yu (p:Nat->Bool):Nat->Nat->Int×Bool
 |_,0=>(0,false)
 |i,n+1=>if p i then((i:Int),true)else Yu p (i+1) n
def Xf (t:Zb) (w:Int):QR:=t.waits.getD w.toNat default
def ZbE (t:Zb) (w:Int) (n:Nat):Bool:=decide (ZgL (Zw t w n) (Xf t w).feeder (Xf t w).train (Xf t w).station=1)
def Zaw (t:Zb) (w:Int):Int×Int:=if X7 t w≠0 then(0,X7 t w)else if(Yu (ZbE t w) 0 61).2 then((Yu (ZbE t w) 0 61).1,0)else(0,11)
theorem Zl1 {p:Nat->Bool} {i n:Nat} (h:0<n):Yu p i n=if p i then((i:Int),true)else Yu p (i+1) (n-1):=by
 cases n with
 |zero=>omega
 |succ n=>rfl
def ZeZ (t:Zb) (f r st:Int):Prop:=StopIn (callsOf t) f (ZD (Zm (callsOf t) f) st)/\StopIn (callsOf t) r (ZQ (Zm (callsOf t) r) st)
theorem Ztj {t:Zb} (h:Zq t=0) {w:Int} (hw:0<=w/\w<t.waits.length):ZeZ t (Xf t w).feeder (Xf t w).train (Xf t w).station:=by
 have G:=XM h;have hm:Xf t w∈t.waits:=by
  unfold Xf;rw[aA,aC (by omega)];exact bL _
 refine⟨YP G hm,?_⟩;unfold Zq at h;split at h
 ·exact absurd h (by assumption)
 split at h
 ·exact absurd h (by assumption)
 split at h
 ·cases h
 split at h
 ·exact absurd h (by assumption)
 rename_i J;have A:=ZZ (bO J) w.toNat (by omega) (by omega);change Qf (callsOf t) (Xf t w) _=0 at A;unfold Qf at A;split at A
 ·cases A
 rename_i I;split at A
 ·cases A
 split at A
 ·cases A
 rename_i S;have H:=QK (n:=(Xf t w).train) (lo:=0) (hi:=((callsOf t).length:Int)-1) (by cases hq:Qq (Xf t w).train 0 ((callsOf t).length-1)with|false=>rfl|true=>exact absurd (by rw[hq,Bool.or_true]) I);have U:¬ZQ (Zm (callsOf t) (Xf t w).train) (Xf t w).station<0:=λh=>S (.inr h);have V:=XK (Zm (callsOf t) (Xf t w).train) 0 (Xf t w).station;refine⟨H.1,by omega,by omega,?_⟩;unfold ZQ at*;split<;>omega
end Sp
namespace Vm
attribute [local irreducible] Dn
open Go Go.Proofs Sp
set_option maxRecDepth 100000
set_option maxHeartbeats 4000000
theorem Zx7 (H J I S:List AV) (p:Nat->Bool) (V:∀n:Nat,n<=60->SC (λ_=>aB) 113 [.int .i64 λ_=>(n:Int),.iptr H 0,.iptr J 0,.iptr I 0,.iptr S 0] [.main] λv h=>v= .bool (λ_=>p n)/\h=[.main]):
  SC (λ_=>aB) 112 [.int .i64 λ_=>60,.fn 113 [] [.iptr H 0,.iptr J 0,.iptr I 0,.iptr S 0]] [.main] λv h=>v= .tup [.int .i64 λ_=>(Yu p 0 61).1,.bool λ_=>(Yu p 0 61).2]/\h=[.main]:=by
 refine SC.less (QO Tryz.func112 (body:=Zj Tryz.f112) rfl (by decide+kernel) ?_);generalize Z:Yu p 0 61=F;refine wS ?_;refine ZJ false false [] [0,1,6] [] (λi:Nat=>[(6,.int .i64 λ_=>(i:Int))]) (λ_=>[]) (λi=>i<=61/\Yu p i (61-i)=F) (λi=>61-i+0) 0 ⟨by omega,Z⟩ ?_ ?_
 ·exact ZG
 rintro i ⟨hi,A⟩;refine wS ?_;refine⟨λG=>?_,λG=>?_⟩
 ·have G:=iU G;rw[show 61-i=0 by omega,Yu]at A;subst A;refine wS ?_;refine⟨_,_,?_,rfl,rfl⟩;exact ZG
 have G:=iV G;have k:=V i (by omega);rw[Zl1 (by omega)]at A;refine wS ?_;refine cL1 [0] (k) λr Y A=>?_;(try simp only[Ze,Zd,Zf,Zc,Za O]at A);obtain⟨rfl,rfl⟩:=A;refine wS ?_;refine⟨λU=>?_,λU=>?_⟩
 ·rw[iQ U]at A;subst A;refine wS ?_;refine⟨_,_,?_,rfl,rfl⟩;exact ZG
 rw[iP (by rw[U];exact aO)]at A;refine wS ?_;refine⟨i+1,⟨by omega,A⟩,by show 61-(i+1)+0<61-i+0;omega,?_⟩;exact ZG
theorem Zx6 (t:Zb) (w:Int) (Z:Qm t) (hw:Zz t) (hi:0<=w/\w<t.waits.length) (hc:ZeZ t (Xf t w).feeder (Xf t w).train (Xf t w).station)
  (H:∀G f r st,Zz G->ZeZ G f r st->SC (λ_=>aB) 97 [.iptr (Z1 G) 0,.int .i64 λ_=>f,.int .i64 λ_=>r,.int .i64 λ_=>st] [.main] λv h=>v= .int .i64 (λ_=>ZgL G f r st)/\h=[.main])
  (n:Nat) (hn:n<=60):SC (λ_=>aB) 113 [.int .i64 λ_=>(n:Int),.iptr ((Z1 t).take 8) 0,.iptr [.int .i64 λ_=>w] 0,.iptr [.iptr (Z1 t) 0] 0,.iptr (QM (Xf t w)) 0] [.main] λv h=>v= .bool (λ_=>ZbE t w n)/\h=[.main]:=by
 obtain⟨nt,O⟩:=Zn;have A:=Zvu t w n Z hi;have k:=H (Zw t w n) (Xf t w).feeder (Xf t w).train (Xf t w).station (Zee hw ⟨by omega,by omega⟩) hc;have S:∀n,(Zw t w n).book=t.book:=λ_=>rfl;have I:∀n,(Zw t w n).runs=t.runs:=λ_=>rfl;have U:∀n,(Zw t w n).delays=t.delays:=λ_=>rfl;have J:∀n,callsOf (Zw t w n)=callsOf t:=λ_=>rfl;unfold ZbE;generalize Xf t w=x at*;generalize ZgL (Zw t w n) x.feeder x.train x.station=V at*;unfold Z1 Zf QM at*;simp only[S,I,U,J]at A k;simp only[gL,Za O,Zc,Zt]at*;generalize Zw t w n=t2 at*;refine SC.less (QO Tryz.func113 (body:=Zj Tryz.f113) rfl (by decide+kernel) ?_);refine wS ?_;refine Zrk (A) ?_;refine wS ?_;refine SC.lend [0] (by decide) (by simp) rfl (λb hb=>aN.1 hb) k ?_ λr aa Y=>?_
 ·first|rfl|(simp only[Za O];rfl)
 obtain⟨rfl,rfl⟩:=Y;refine⟨rfl,rfl,?_⟩;refine wS ?_;refine⟨_,_,?_,rfl,rfl⟩;(refine To.of [] ?_;cbv;(try simp only[nc]);(repeat' first|exact xT|refine⟨?_,?_⟩|refine ZM.cells ?_|refine ZC.agg ?_|refine ZC.tup ?_);all_goals try exact XZ);all_goals exact .bool rfl
theorem Zyn (t:Zb) (w:Int) (V:Qm t)
  (U:∀S f r st,Zz S->ZeZ S f r st->SC (λ_=>aB) 97 [.iptr (Z1 S) 0,.int .i64 λ_=>f,.int .i64 λ_=>r,.int .i64 λ_=>st] [.main] λv h=>v= .int .i64 (λ_=>ZgL S f r st)/\h=[.main]):
  SC (λ_=>aB) 45 [Zf t,.int .i64 λ_=>w] [.main] λv h=>v= .tup [.int .i64 λ_=>(Zaw t w).1,.int .i64 λ_=>(Zaw t w).2]/\h=[.main]:=by
 obtain⟨nt,O⟩:=Zn;have k:=Zx8 t w V;by_cases he:X7 t w=0
 ·have G:Zq t=0:=by
   unfold X7 at he;split at he
   ·assumption
   exact he
  have Y:0<=w/\w<t.waits.length:=by
   unfold X7 at he;rw[iQ G]at he;split at he
   ·cases he
   rename_i A;have:=QK (by simpa using A);omega
  have J:=Zx6 t w V (XM G) Y (Ztj G Y) U;have I:=Zx7 _ _ _ _ _ J;have H:Zaw t w=if(Yu (ZbE t w) 0 61).2 then((Yu (ZbE t w) 0 61).1,0)else(0,11):=by
   unfold Zaw;rw[iP (λh=>h he)]
  have hx:Xf t w=nt Sp.QR default t.waits w:=by rw[O];rfl
  rw[hx]at I;unfold Q8 at k;rw[iQ G,he]at k;clear J;unfold Z1 Zf QM at*;simp only[gL,Za O,Zc,Zt]at*;generalize Zaw t w=BE at*;generalize Yu (ZbE t w) 0 61=F at*;refine SC.less (QO Tryz.func45 (body:=Zj Tryz.f45) rfl (by decide+kernel) ?_);refine wS ?_;refine Zrk (k) ?_;refine wS ?_;refine Br.isF rfl ?_;refine wS ?_;refine SC.lend [0] (by decide) (by simp) rfl (λb G=>aN.1 G) I ?_ λr aa Z=>?_
  ·first|rfl|(simp only[Za O];rfl)
  obtain⟨rfl,rfl⟩:=Z;refine⟨rfl,rfl,?_⟩;refine wS ?_;refine⟨λA=>?_,λA=>?_⟩
  ·have A:F.2=false:=nb2 A;rw[iP (by rw[A];exact aO)]at H;subst H;refine wS ?_;refine⟨_,_,?_,rfl,rfl⟩;exact ZG
  have A:F.2=true:=nb4 A;rw[iQ A]at H;subst H;refine wS ?_;refine⟨_,_,?_,rfl,rfl⟩;exact ZG
 have H:Zaw t w=(0,X7 t w):=by
  unfold Zaw;rw[iQ he]
 rw[H];generalize X7 t w=e at*;refine SC.less (QO Tryz.func45 (body:=Zj Tryz.f45) rfl (by decide+kernel) ?_);unfold Zf at*;by_cases G:Zq t=0
 ·unfold Q8 at k;rw[iQ G]at k;unfold Z1 at k;simp only[Za O,Zc,Zt]at*;refine wS ?_;refine Zrk (k) ?_;refine wS ?_;refine⟨λh=>?_,λh=>?_⟩
  ·refine wS ?_;refine⟨_,_,?_,rfl,rfl⟩;exact ZG
  exact absurd (by simpa only[iY]using h) he
 unfold Q8 at k;rw[iP G]at k;simp only[Za O,Zc,Zt]at*;refine wS ?_;refine Zrk (k) ?_;refine wS ?_;refine⟨λh=>?_,λh=>?_⟩
 ·refine wS ?_;refine⟨_,_,?_,rfl,rfl⟩;exact ZG
 exact absurd (by simpa only[iY]using h) he
end Vm
namespace Sp
open Vm
def Zax (t:Zb) (a:Zl):ZbV×Int:=if XR t a≠0 then(⟨0,0⟩,XR t a)else if Qk t a then(Ql t a,0)else(⟨0,0⟩,11)
end Sp
namespace Vm
attribute [local irreducible] Dn
open Go Go.Proofs Sp
set_option maxRecDepth 100000
set_option maxHeartbeats 4000000
theorem Zym (t:Zb) (a:Zl) (S:Qm t) (U:a.steps.length<=1000000) (hw:Zq t=0->Zz t):SC (λ_=>aB) 50 [Zf t,Qa a] [] λv h=>
  v= .tup [.agg (encSp (Zax t a).1),.int .i64 λ_=>(Zax t a).2]/\h=[]:=by
 obtain⟨Z,O⟩:=Zn;have k:=Zw1 t a S U;by_cases he:XR t a=0
 ·have H:=ZeR he;have V:Xh (callsOf t) t.runs.length a=0:=by
   unfold XR at he;rw[iP (λh=>h H)]at he;exact he
  have I:=Ztn t a (hw H) V;have G:Zax t a=if Qk t a then(Ql t a,0)else(⟨0,0⟩,11):=by
   unfold Zax;rw[iP (λh=>h he)]
  unfold Q8 at k;rw[iQ H,he]at k;unfold Z1 Zf Qa encSp at*;simp only[Za O,Zc,QU,Zt]at*;generalize Zax t a=Y at*;generalize Qk t a=J at*;generalize Ql t a=AS at*;refine SC.less (QO Tryz.func50 (body:=Zj Tryz.f50) rfl (by decide+kernel) ?_);refine wS ?_;refine Zrk (k) ?_;refine wS ?_;refine Br.isF rfl ?_;refine wS ?_;refine Zrk (I) ?_;refine wS ?_;refine⟨λA=>?_,λA=>?_⟩
  ·have A:J=false:=nb2 A;rw[iP (by rw[A];exact aO)]at G;subst G;refine wS ?_;refine⟨_,[],?_,rfl,rfl⟩;exact ZG
  have A:J=true:=nb4 A;rw[iQ A]at G;subst G;refine wS ?_;refine⟨_,[],?_,rfl,rfl⟩;exact ZG
 have G:Zax t a=(⟨0,0⟩,XR t a):=by
  unfold Zax;rw[iQ he]
 rw[G];generalize XR t a=e at*;refine SC.less (QO Tryz.func50 (body:=Zj Tryz.f50) rfl (by decide+kernel) ?_);unfold Zf Qa encSp at*;by_cases H:Zq t=0
 ·unfold Q8 at k;rw[iQ H]at k;unfold Z1 at k;simp only[Za O,Zc,QU,Zt]at*;refine wS ?_;refine Zrk (k) ?_;refine wS ?_;refine⟨λh=>?_,λh=>?_⟩
  ·refine wS ?_;refine⟨_,[],?_,rfl,rfl⟩;exact ZG
  exact absurd (by simpa only[iY]using h) he
 unfold Q8 at k;rw[iP H]at k;simp only[Za O,Zc,QU,Zt]at*;refine wS ?_;refine Zrk (k) ?_;refine wS ?_;refine⟨λh=>?_,λh=>?_⟩
 ·refine wS ?_;refine⟨_,[],?_,rfl,rfl⟩;exact ZG
 exact absurd (by simpa only[iY]using h) he
end Vm
namespace Sp
open Vm
def ZdV (st a d:Int):Stop:={station:=st,zone:=0,arrive:=a,depart:=d}
def Qh (m:Int):Zb:={book:={zones:=[⟨0,[]⟩],old:=[⟨1,127,[ZdV 0 0 60,ZdV 1 100 110,ZdV 2 160 0]⟩,⟨2,127,[ZdV 1 0 120,ZdV 3 200 0]⟩,⟨3,127,[ZdV 1 0 180,ZdV 3 260 0]⟩],new:=[],night:=1,last:=0},runs:=[⟨1,0⟩,⟨2,0⟩,⟨3,0⟩],waits:=[⟨0,1,1,m⟩],delays:=[⟨0,0,[0,20,40]⟩]}
def Zkr:Zl:=⟨0,0,3,[⟨0,0,1⟩,⟨1,1,3⟩,⟨2,1,3⟩]⟩
def Zn3:Zl:=⟨0,0,3,[⟨0,0,1⟩,⟨1,1,3⟩]⟩
theorem Zvk:Zq (Qh 15)=0/\Zq (Qh 30)=0:=by decide+kernel
theorem ZqU:Zm7 (Qh 30) 1=[⟨120,140⟩,⟨200,220⟩]:=by decide+kernel
theorem Zn7:Zaw (Qh 15) 0=(20,0):=by decide+kernel
theorem Zl3:Zax (Qh 15) Zkr=(⟨200,260⟩,0):=by decide+kernel
theorem Zta:ZbW (Qh 15) Zn3 0=(20,220,0):=by decide+kernel
end Sp
namespace Vm
open Go Go.Proofs
theorem ZcE {α H:Type} {f:α->H}:∀ {l:List α},(l.map f).Nodup->∀ {a b:α},a∈l->b∈l->f a=f b->a=b
 |x::l,h,a,b,ha,hb,e=>by
  rw[List.map_cons,List.nodup_cons]at h;rcases bG.1 ha with A|A<;>rcases bG.1 hb with G|G
  ·rw[A,G]
  ·rw[A]at e;exact absurd (bE.2 ⟨b,G,e.symm⟩) h.1
  ·rw[G]at e;exact absurd (bE.2 ⟨a,A,e⟩) h.1
  exact ZcE h.2 A G e
theorem NC.next {p:Unit->Program} {id ka n:Nat} {L:Unit->List (List Int×List Int)} {I:Unit->List (List Int)} {aq:Unit->List Int×List Int} {h:List Zi} {aa:AV->List Zi->Prop} (hi:h[id]? =some (.gob (.mapIt ka n L I aq)))
  (h1:(∀q∈L (),q.1∈I ())->aa (.tup [.bool λ_=>false]) h)
  (h2:∀e∈L (),e.1∉I ()->aa (.tup [.bool λ_=>true,Ze3 ka λ_=>e.1,Ze3 n λ_=>e.2]) (h.set id (.gob (.mapIt ka n L (λ_=>I ()++[e.1]) λ_=>e)))):NC p id h aa:=⟨λG R H=>by
 obtain⟨o,ho,hk,hg⟩:=H.blk id _ hi;have over:(∀q∈L (),q.1∈I ())->(∀ty,(Instr.next (.pointer (some ⟨(R.α id).b,0,none⟩)) false ty).run (p ()) R.w= .ok (.tuple #[.bool false]) R.w)->∃v V r h',(∀ty,(Instr.next (.pointer (some ⟨(R.α id).b,0,none⟩)) false ty).run (p ()) R.w= .ok v V.w)/\HR G V h'/\Xs R h V h'/\R.le V/\VR V r v/\aa r h':=λhs hr=>
  ⟨_,R,_,h,hr,H,Xs.refl _ _,RC.le.refl _,.tup [.bool λ_=>false] #[.bool false] rfl (λj c S=>by
   cases j with
   |zero=>simp at S;subst S;exact .pure _ _ (.bool _)
   |succ j=>simp at S),h1 hs⟩
 rcases hg with⟨g1,g2,Y,rfl⟩|⟨m,es,A,Y,l,rfl,g1,g2,Z,g4,g5⟩
 ·refine over (λq J=>by rw[g1]at J;cases J) λty=>?_;simp[Instr.next,getObj,Sem.run_bind,Sem.run,ho,Result.andThen]
 have ai:∀x∈es.toList,x.born<A:=λx hx=>by
  rw[<-Z.es]at hx;obtain⟨q,J,rfl⟩:=bE.1 hx;exact(Z.e q J).2.2.2
 have ah:∀q∈l,q.1∈(leftOf es Y).toList↔q.2.1∉I ():=λq J=>by
  have az:q.1∈es.toList:=by rw[<-Z.es];exact bE.2 ⟨q,J,rfl⟩
  have:=g4 q J;unfold leftOf;simp only[gZ,fe];rw[this];simp[az]
 rcases run_next_at (P:=p ()) R.w 0 (R.α id).b m A A Y es A ho g1 ai (aJ _)with⟨q1,_⟩|⟨e,U,w1,ae,q2⟩
 ·refine over (λq J=>?_) λty=>?_
  ·obtain⟨q',ab,e⟩:=bE.1 (Z.L.mem_iff.2 J);subst e;have h0:q'.1∉(leftOf es Y).toList:=by
    rw[show leftOf es Y= #[] by simpa using q1];simp
   have:=mt (ah q' ab).2 h0;exact Classical.not_not.1 this
  rcases run_next_at (P:=p ()) R.w ty (R.α id).b m A A Y es A ho g1 ai (aJ _)with⟨_,q2⟩|⟨e,U,_⟩
  ·exact q2
  rw[show leftOf es Y= #[] by simpa using q1]at U;cases U
 have al:e∈es.toList:=by
  unfold leftOf at U;simp only[gZ,fe]at U;exact U.1
 rw[<-Z.es]at al;obtain⟨q,J,rfl⟩:=bE.1 al;have ar:=(ah q J).1 U;have aw:q.2∈L ():=Z.L.mem_iff.1 (bE.2 ⟨q,J,rfl⟩);obtain⟨e1,e2,_,_⟩:=Z.e q J;have au:m≠(R.α id).b:=λU=>by rw[U,ho]at g1;cases g1
 have ak:∀q'∈l,(Y.push q.1.born).contains q'.1.born=(I ()++[q.2.1]).contains q'.2.1:=λq' ab=>by
  have ao:(q'.1.born=q.1.born)↔(q'.2.1=q.2.1):=⟨λU=>by rw[ZcE (f:=λz:MapEntry×(List Int×List Int)=>z.1.born) Z.bn ab J U],λU=>by rw[ZcE (f:=λz:MapEntry×(List Int×List Int)=>z.2.1) Z.nd ab J U]⟩;have:=g4 q' ab;rw[eo]at this|-;simp only[Array.contains_push,cX,eT,iR,cK,aN,beq_iff_eq]at this|-;rw[this,ao]
 have ac:w1.heap=R.w.heap:=by rcases ae with rfl|rfl<;>rfl
 obtain⟨V,hw,_,am,H',ap,aj⟩:=H.upd hi rfl (blk':=.gob (.mapIt ka n L (λ_=>I ()++[q.2.1]) λ_=>q.2)) rfl (ChangeMaps.setBlock w1 (R.α id).b (.mapIter (some m) A (Y.push q.1.born) A))
  (by rcases ae with rfl|rfl<;>rfl) (by rcases ae with rfl|rfl<;>rfl) (by rcases ae with rfl|rfl<;>rfl) (by simp[ChangeMaps.setBlock,ac])
  (λb hb=>by simp[ChangeMaps.setBlock,ac,aF (Ne.symm hb)]) (λV aj am hw=>⟨.mapIter (some m) A (Y.push q.1.born) A,by
   rw[hw,am]
   simp[ChangeMaps.setBlock,ac,(Array.getElem?_eq_some_iff.1 ho).1],rfl,.inr ⟨m,es,A,Y.push q.1.born,l,rfl,by
   rw[hw]
   simp[ChangeMaps.setBlock,ac,aF (Ne.symm au),g1],aj.ok _ _ _ g2,Z,ak,λ_=>⟨q,J,by simp,rfl⟩⟩⟩)
 refine⟨_,V,_,_,λty=>?_,H',ap,aj,.tup [.bool λ_=>true,Ze3 ka λ_=>q.2.1,Ze3 n λ_=>q.2.2] #[.bool true,q.1.key,q.1.val] rfl (λj c S=>?_),h2 _ aw ar⟩
 ·rw[hw];exact q2
 match j,S with
 |0,S=>simp at S;subst S;exact .pure _ _ (.bool _)
 |1,S=>simp at S;subst S;show VR V _ q.1.key;rw[e1];exact ZaN V ka λ_=>q.2.1
 |2,S=>simp at S;subst S;show VR V _ q.1.val;rw[e2];exact ZaN V n λ_=>q.2.2
 |j+3,S=>simp at S⟩
end Vm
namespace Sp
open Vm
def Zmg (t:Zb) (d i:Nat) (r a:Int):Bool:=
 decide ((ZR t (Zk t i) r a).comes≠(ZR t ((Zk t i).set d 0) r a).comes)||decide ((ZR t (Zk t i) r a).goes≠(ZR t ((Zk t i).set d 0) r a).goes)
def Zbr (t:Zb) (d i:Nat) (r:Nat):Bool:=decide ((Zk t i).getD d 0≠0)&&(aT (Zm (callsOf t) r).length).any λa=>Zmg t d i r a
def ZfK (t:Zb) (d:Nat):Nat->Nat->Bool
 |0,_=>false
 |i+1,r=>ZfK t d i r||Zbr t d i r
def Zgu (t:Zb) (d:Nat):List Int:=((aT 4).filter λr=>ZfK t d (manyT t) r).map λ(r:Nat)=>(r:Int)
def ZbL (t:Zb) (d:Int):List Int×Int:=if Zq t≠0 then([],Zq t)else if Qq d 0 ((t.delays.length:Int)-1)then([],3)else(Zgu t d.toNat,0)
theorem ZqV:ZbL (Qh 30) 0=([0,1],0)/\ZbL (Qh 15) 0=([0],0):=by decide+kernel
theorem ZkF {ds:List ZU} (A:ds.length<=6) {x:List Int}:∀m,m<=ds.length->(∀k,k<m->0<=x.getD k 0/\x.getD k 0<lenAt ds k)->∃n,n<Yw ds m/\∀k,k<m->(Ye ds m n).getD k 0=x.getD k 0
 |0,_,_=>⟨0,by unfold Yw;omega,λk h=>by omega⟩
 |m+1,hm,hx=>by
  obtain⟨n,U,I⟩:=ZkF A m (by omega) λk G=>hx k (by omega);have S:=hx m (by omega);have J:0<lenAt ds m:=by omega
  have H:(n*lenAt ds m+(x.getD m 0).toNat)/lenAt ds m=n:=by
   rw[ea,Nat.mul_add_div J,Nat.div_eq_of_lt (by omega)];omega
  have hr:(n*lenAt ds m+(x.getD m 0).toNat)%lenAt ds m=(x.getD m 0).toNat:=by
   rw[ea,Nat.mul_add_mod,Nat.mod_eq_of_lt (by omega)]
  refine⟨n*lenAt ds m+(x.getD m 0).toNat,?_,λk G=>?_⟩
  ·unfold Yw;have:=Nat.mul_le_mul_right (lenAt ds m) (show n+1<=Yw ds m by omega);rw[Nat.add_mul]at this;omega
  unfold Ye;rw[H,hr];by_cases h:m=k
  ·subst h;rw[aA,cS (by rw[Yc];omega)];show((x.getD m 0).toNat:Int)=_;omega
  rw[aA,cQ h,<-aA];exact I k (by omega)
theorem ZwR {x y:List Int} (H:x.length=6) (I:y.length=6) (h:∀k,k<6->x.getD k 0=y.getD k 0):x=y:=by
 refine List.ext_getElem (by omega) λk A G=>?_;have:=h k (by omega);rw[aA,aA,aC A,aC G]at this;exact this
theorem Zlh {t:Zb} (G:Zz t) {x:List Int} (A:JE t x) (J:∀k,t.delays.length<=k->k<6->x.getD k 0=0):∃n,n<manyT t/\Zk t n=x:=by
 obtain⟨n,S,I⟩:=ZkF (ds:=t.delays) G.dlen (x:=x) t.delays.length (aJ _) A.d;refine⟨n,S,ZwR (Yc _ _) A.len λk H=>?_⟩;by_cases h:k<t.delays.length
 ·exact I k h
 show(Ye t.delays t.delays.length n).getD k 0=_;rw[Za7 _ _ _ (by omega),J k (by omega) H]
def keyT (x:List Int):List Int:=[x.getD 0 0,x.getD 1 0,x.getD 2 0,x.getD 3 0,x.getD 4 0,x.getD 5 0]
theorem ZqI {x y:List Int} (G:x.length=6) (H:y.length=6) (h:keyT x=keyT y):x=y:=by
 unfold keyT at h;simp only[cB,and_true]at h;refine ZwR G H λk A=>?_;match k,A with
 |0,_=>exact h.1
 |1,_=>exact h.2.1
 |2,_=>exact h.2.2.1
 |3,_=>exact h.2.2.2.1
 |4,_=>exact h.2.2.2.2.1
 |5,_=>exact h.2.2.2.2.2
def ZaJ (t:Zb) (d:Nat):Nat->List (List Int×List (List Int×List Int))
 |0=>[]
 |i+1=>if(Zk t i).getD d 0=0 then Jz (ZaJ t d i) (keyT (Zk t i)) (Qu t (Zk t i))else ZaJ t d i
theorem ZeG {t:Zb} {d:Nat}:∀n,((ZaJ t d n).map (·.1)).Nodup/\(∀p∈ZaJ t d n,∃i,p=(keyT (Zk t i),Qu t (Zk t i)))/\∀i,i<n->(Zk t i).getD d 0=0->(keyT (Zk t i),Qu t (Zk t i))∈ZaJ t d n
 |0=>⟨.nil,λp h=>(by cases h),λi h=>by omega⟩
 |n+1=>by
  obtain⟨I,H,S⟩:=ZeG (t:=t) (d:=d) n;unfold ZaJ;split
  ·rename_i J;refine⟨Zen I,λp G=>?_,λi U A=>?_⟩
   ·rcases Zgj G with rfl|G
    ·exact⟨n,rfl⟩
    exact H p G
   by_cases he:i=n
   ·subst he;exact Zem
   refine ZhW (S i (by omega) A) λe=>?_;have:=ZqI (Yc _ _) (Yc _ _) e;show Qu t (Zk t i)=_;rw[show Zk t i=Zk t n from this]
  rename_i J;refine⟨I,H,λi U A=>?_⟩;by_cases he:i=n
  ·subst he;exact absurd A J
  exact S i (by omega) A
theorem Zn6 {t:Zb} (H:Zz t) {d i:Nat} (V:d<t.delays.length):(ZaJ t d (manyT t)).lookup (keyT ((Zk t i).set d 0))=some (Qu t ((Zk t i).set d 0)):=by
 have A:=YT H i;have Y:=H.dlen;have G:∀k,((Zk t i).set d 0).getD k 0=if k=d then 0 else(Zk t i).getD k 0:=λk=>by
  by_cases h:k=d
  ·subst h;rw[iQ rfl,aA,cS (by rw[A.len];omega)];rfl
  rw[iP h,aA,cQ (Ne.symm h),<-aA]
 obtain⟨n,U,J⟩:=Zlh H (x:=(Zk t i).set d 0) ⟨by rw[bW];exact A.len,λk I=>by
  rw[G];split
  ·have:=(A.d k I);omega
  ·exact A.d k I⟩ λk S Z=>by
  rw[G];split
  ·rfl
  exact Za7 _ _ _ S
 rw[<-J];refine ZcH (ZeG _).1 ((ZeG _).2.2 n U ?_);rw[J,G,iQ rfl]
theorem Zu4 {x:List Int} {D:Nat} (A:x.length=6) (G:D<6):(x.getD 0 0==(x.set D 0).getD 0 0&&(x.getD 1 0==(x.set D 0).getD 1 0&&(x.getD 2 0==(x.set D 0).getD 2 0&&(x.getD 3 0==(x.set D 0).getD 3 0&&(x.getD 4 0==(x.set D 0).getD 4 0&&(x.getD 5 0==(x.set D 0).getD 5 0&&true))))))=decide (x.getD D 0=0):=by
 match x,A with
 |[a0,a1,a2,a3,a4,a5],_=>
  match D,G with
  |0,_|1,_|2,_|3,_|4,_|5,_=>simp[List.set,List.getD];rfl
theorem Zly {t:Zb} {d i:Nat} (h:(Zk t i).getD d 0=0) (r:Nat):Zbr t d i r=false:=by
 unfold Zbr;rw[iW (λA=>A h),Bool.false_and]
def ZlX (W:List (List Int×List Int)) (p:List Int×List Int):Bool:=p.2.headD 0 !=((W.lookup p.1).getD []).headD 0||p.2.tail.tail.headD 0 !=((W.lookup p.1).getD []).tail.tail.headD 0
def cvE (L W:List (List Int×List Int)) (S:List (List Int)) (r:Nat):Bool:=L.any λp=>S.contains p.1&&(p.1.headD 0==(r:Int)&&ZlX W p)
theorem Ztf {L W:List (List Int×List Int)} {r:Nat}:cvE L W [] r=false:=by
 unfold cvE;rw[List.any_eq_false];intro p _;simp
theorem Zq7 {L W:List (List Int×List Int)} {S:List (List Int)} {e:List Int×List Int} (A:e∈L) (G:(L.map (·.1)).Nodup) (r:Nat):cvE L W (S++[e.1]) r=(cvE L W S r||(e.1.headD 0==(r:Int)&&ZlX W e)):=by
 unfold cvE;rw[eo];simp only[dY,cX,aS,eT,iR,cK,aN];constructor
 ·rintro⟨p,hp,h1|h1,h2⟩
  ·exact .inl ⟨p,hp,h1,h2⟩
  have:p=e:=ZcE (f:=λq:List Int×List Int=>q.1) G hp A h1;subst this;exact .inr h2
 rintro(⟨p,hp,h1,h2⟩|h2)
 ·exact⟨p,hp,.inl h1,h2⟩
 exact⟨e,A,.inr rfl,h2⟩
theorem Zko {t:Zb} {x:List Int}:((Qu t x).map (·.1)).Nodup:=by
 unfold Qu;rw[List.map_map]
 exact List.Pairwise.map _ (λa b A e=>by
  apply A;simp only[Function.comp,cB,and_true]at e
  exact Prod.ext e.1 e.2) Zb3
theorem Zkp {t:Zb} (H:Zz t) {x:List Int} {p:List Int×List Int} (G:p∈Qu t x): [p.1.headD 0,p.1.tail.headD 0]=p.1/\0<=p.1.headD 0/\p.1.headD 0<4:=by
 obtain⟨⟨r,a⟩,A,rfl⟩:=bE.1 G;have A:=J5.1 A;have:=H.calls.len;exact⟨rfl,A.1,by have:=A.2.1;show r<4;omega⟩
theorem ZmI {L:List (List Int×List Int)} {S:List (List Int)} {e:List Int×List Int} (G:e∈L) (H:e.1∉S):(L.filter λq=> !(S++[e.1]).contains q.1).length<(L.filter λq=> !S.contains q.1).length:=by
 refine ZeH (x:=e) (λq A=>?_) G (by simpa using H) (by simp);simp only[cG,eT,cK,iS]at A|-;exact λh=>A (.inl h)
theorem Ztg {t:Zb} {d i:Nat} (V:(Zk t i).getD d 0≠0) {S:List (List Int)} (U:∀p∈Qu t (Zk t i),p.1∈S) {r:Nat}:cvE (Qu t (Zk t i)) (Qu t ((Zk t i).set d 0)) S r=Zbr t d i r:=by
 have H:∀r a,StopIn (callsOf t) r a->ZlX (Qu t ((Zk t i).set d 0)) ([r,a],ZcW (ZR t (Zk t i) r a))=Zmg t d i r a:=λr a A=>by
  unfold ZlX Zmg;rw[Za3 A];show((ZR t (Zk t i) r a).comes !=(ZR t ((Zk t i).set d 0) r a).comes||(ZR t (Zk t i) r a).goes !=(ZR t ((Zk t i).set d 0) r a).goes)=_;rw[eo];simp
 unfold cvE Zbr;rw[iX V,Bool.true_and,eo];simp only[dY,aS,eT,iR,bZ,beq_iff_eq];constructor
 ·rintro⟨p,hp,_,I,G⟩;obtain⟨⟨J,a⟩,A,rfl⟩:=bE.1 hp;have A:=J5.1 A;have I:J=(r:Int):=I;subst I;have G:ZlX (Qu t ((Zk t i).set d 0)) ([(r:Int),a],ZcW (ZR t (Zk t i) r a))=true:=G;rw[H _ _ A]at G;exact⟨a.toNat,by have:=A.2.2.2;have:=A.2.2.1;omega,by rw[show((a.toNat:Nat):Int)=a by have:=A.2.2.1;omega];exact G⟩
 rintro⟨a,ha,G⟩;by_cases hr:r<(callsOf t).length
 ·have A:StopIn (callsOf t) r a:=⟨by omega,by omega,by omega,by omega⟩;have hm:([(r:Int),(a:Int)],ZcW (ZR t (Zk t i) r a))∈Qu t (Zk t i):=bE.2 ⟨((r:Int),(a:Int)),J5.2 A,rfl⟩;exact⟨_,hm,U _ hm,rfl,by rw[H _ _ A];exact G⟩
 exfalso;have:Zm (callsOf t) r=[]:=by
  unfold Zm;rw[aA,List.getElem?_eq_none (by omega)];rfl
 rw[this]at ha;simp at ha
end Sp
namespace Vm
attribute [local irreducible] Dn
open Go Go.Proofs Sp
set_option maxRecDepth 100000
set_option maxHeartbeats 4000000
theorem Zho.join3 {A B:Prop} {α I U:Type} {G P:α->I->U->Prop} (S:(∀a c d,P a c d->G a c d)->A) (J:(∀a c d,P a c d->G a c d)->B) (H:∀a c d,P a c d->G a c d):Zho A B:=⟨S H,J H⟩
structure Zk9 (st:Nat) (number:Int) (t:Train):Prop where
 made:Ziu 1 st number t
 days:t.days=127
 late:∀s∈t.stops,s.depart<=1000
 asc:∀k,k+1<t.stops.length->(t.stops.getD k default).depart<(t.stops.getD (k+1) default).arrive
theorem Zyi (s number:Int) (st:Nat) (hs:2<=st/\st<=10):SC (λ_=>aB) 74 [.ptr 0 0,.int .i64 λ_=>number,.int .i64 λ_=>(st:Int)] [XI s] λv h=>∃(t:Train) (s':Int),Zk9 st number t/\v= .agg (encTrain t)/\h=[XI s']:=by
 obtain⟨nt,O⟩:=Zn;refine SC.less (QO Tryz.func74 (body:=Zj Tryz.f74) rfl (by decide+kernel) ?_);refine wS ?_;refine cL0 [0] (c17 s 90 (by omega)) λr I G=>?_;(try simp only[Ze,Zd,Za O]at G);obtain⟨A,s1,Y,rfl,rfl⟩:=G;refine wS ?_;refine cL0 [0] (ZyM s1 st (by omega)) λr I G=>?_;(try simp only[Ze,Zd,Za O]at G);obtain⟨L,s4,Z,rfl,rfl⟩:=G;refine wS ?_;have ah:2<=(if(st:Int)<4 then(st:Int)else 4)/\(if(st:Int)<4 then(st:Int)else 4)<=4/\(if(st:Int)<4 then(st:Int)else 4)<=st:=by split<;>omega
 generalize (if(st:Int)<4 then(st:Int)else 4)=mn at*;refine cL0 [0] (c22 s4 2 mn (by omega) (by omega)) λr I G=>?_;(try simp only[Ze,Zd,Za O]at G);obtain⟨m,s5,hm,rfl,rfl⟩:=G;refine wS ?_;obtain⟨m,rfl⟩:∃k:Nat,m=k:=⟨m.toNat,by omega⟩;refine ZJ false false [] [0,6,7,8,9,10] [.tok 4 λ_=>0] (λ(⟨i,A,s,out⟩:Nat×Int×Int×List Stop)=>[(8,.int .i64 λ_=>60+A),(10,.int .i64 λ_=>i)])
  (λ⟨i,A,s,out⟩=>[(0,XI s),(2,.cells [.int .i64 λ_=>number,.int .i64 λ_=>127,.isl 4 (λ_=>(out.length:Int)) (λe=>Q5 (nt Stop default out (e ()))) (.own 3)]),(3,.tok 4 λ_=>(out.length:Int))])
  (λ⟨i,A,s,out⟩=>i<=m/\out.length+i=m/\(0<=A/\A<=90+70*(out.length:Int))/\(∀x∈out,(0<=x.station/\x.station<st)/\(0<=x.zone/\x.zone<1)/\0<=x.arrive/\x.arrive<=x.depart/\x.depart<60+A)/\out.Pairwise (λa b=>a.station≠b.station)/\(∀x∈out,∃j,i<=j/\j<m/\x.station=L.getD j 0)/\∀k,k+1<out.length->(out.getD k default).depart<(out.getD (k+1) default).arrive) (λi=>i.1+0) (m,A,s5,[]) ⟨aJ _,by simp,by simp;omega,by simp,.nil,by simp,by simp⟩ ?_ ?_
 ·(refine To.of [(4,false)] ?_;cbv;(try simp only[nc]);(repeat' first|exact xT|refine⟨?_,?_⟩|refine ZM.cells ?_|refine ZC.agg ?_|refine ZC.tup ?_);all_goals try exact XZ)
 rintro⟨i,A,s,out⟩ ⟨hi,hlen,Y,hall,hpw,hst,hasc⟩;refine wS ?_;refine⟨λV=>?_,λV=>?_⟩
 ·simp only[iR]at V;have ab:=Z.bd (i-1) (by omega);have ac:nt Int 0 L ((i:Int)-1)=L.getD (i-1) 0:=by rw[O];congr 1;omega
  have ae:=Z.len;refine wS ?_;apply Zho.join3 (P:=λ(x y s8:Int)=>0<=y/\y<=20)
  ·intro M;refine cL0 [0] (c17 s 20 (by omega)) λr I G=>?_;(try simp only[Ze,Zd,Za O]at G);obtain⟨x,s7,H,rfl,rfl⟩:=G;refine wS ?_;refine⟨?_,?_⟩
   ·skip
    refine cL0 [0] (Zg9 s7 [0,x] (by simp)) λr I G=>?_;(try simp only[Ze,Zd,Za O]at G);obtain⟨y,s8,J,rfl,rfl⟩:=G;have J:0<=y/\y<=20:=by simp at J;omega
    refine wS ?_;exact M x y s8 J
   refine wS ?_;refine cL0 [0] (Zg9 s7 [0,x] (by simp)) λr I G=>?_;(try simp only[Ze,Zd,Za O]at G);obtain⟨y,s8,J,rfl,rfl⟩:=G;have J:0<=y/\y<=20:=by simp at J;omega
   refine wS ?_;exact M x y s8 J
  ·intro M;refine wS ?_;refine cL0 [0] (c17 s 20 (by omega)) λr I G=>?_;(try simp only[Ze,Zd,Za O]at G);obtain⟨x,s7,H,rfl,rfl⟩:=G;refine wS ?_;refine cL0 [0] (Zg9 s7 [0,x] (by simp)) λr I G=>?_;(try simp only[Ze,Zd,Za O]at G);obtain⟨y,s8,J,rfl,rfl⟩:=G;have J:0<=y/\y<=20:=by simp at J;omega
   refine wS ?_;refine SC.mono (M x y s8 J) λr h' hr=>?_;revert hr;generalize YO _ _ _ _ _ _=z;cases z with
   |none=>exact id
   |some z=>exact λh=>Zno (by decide) h
  intro x y s8 J;rw[ac];refine cL0 [0] (c22 s8 10 50 (by omega) (by omega)) λr I G=>?_;(try simp only[Ze,Zd,Za O]at G);obtain⟨q,s9,hq,rfl,rfl⟩:=G;refine wS ?_;obtain⟨j,rfl⟩:∃j,i=j+1:=⟨i-1,by omega⟩;refine⟨(j,A+y+q,s9,out++[⟨L.getD j 0,0,60+A,60+A+y⟩]),⟨by omega,by simp only[bf,bF,cE];omega,by simp only[bf,bF,cE];omega,?_,?_,?_,?_⟩,by show j+0<j+1+0;omega,?_⟩
  ·intro x H;rcases cK.1 H with H|H
   ·have:=hall x H;refine⟨this.1,this.2.1,this.2.2.1,this.2.2.2.1,?_⟩;show x.depart<60+(A+y+q);omega
   simp only[aN]at H;subst H;simp only[Nat.add_sub_cancel]at ab;dsimp only;omega
  ·refine List.pairwise_append.2 ⟨hpw,List.pairwise_singleton _ _,λc hc e he=>?_⟩;simp only[aN]at he;subst he;obtain⟨k,aa,S,U⟩:=hst c hc;dsimp only;rw[U];intro e;have:=Z.inj _ _ (by omega) (by omega) e;omega
  ·intro x H;rcases cK.1 H with H|H
   ·obtain⟨k,aa,S,U⟩:=hst x H;exact⟨k,by omega,S,U⟩
   simp only[aN]at H;subst H;exact⟨j,aJ _,by omega,rfl⟩
  ·intro k hk;simp only[bf,bF,cE]at hk;by_cases S:k+1<out.length
   ·simp only[aA,bP S,bP (show k<out.length by omega)];simp only[<-aA];exact hasc k S
   have U:k+1=out.length:=by omega
   have hm:out.getD k default∈out:=by rw[aA,aC (by omega)];exact bL _
   have:=hall _ hm;have e2:(out++[(⟨L.getD j 0,0,60+A,60+A+y⟩:Stop)]).getD (k+1) default=⟨L.getD j 0,0,60+A,60+A+y⟩:=by rw[U];simp[aA]
   have e3:(out++[(⟨L.getD j 0,0,60+A,60+A+y⟩:Stop)]).getD k default=out.getD k default:=by simp only[aA,bP (show k<out.length by omega)]
   rw[e2,e3];exact this.2.2.2.2
  exact ZG
 simp only[iS]at V;refine wS ?_;refine⟨.agg (encTrain ⟨number,127,out⟩),[XI s],?_,⟨number,127,out⟩,s,⟨⟨rfl,by dsimp only;omega,by dsimp only;omega,λx H=>?_,hpw⟩,rfl,λx H=>?_,hasc⟩,rfl,rfl⟩
 ·unfold encTrain;simp only[Za O];exact ZG
 ·have:=hall x H;exact⟨this.1,this.2.1,this.2.2.1,this.2.2.2.1,by omega⟩
 have:=hall x H;omega
theorem Zyh (l:List Sp.QR) (w:Sp.QR) (Y:l.length<=1000000):SC (λ_=>aB) 76 [lst 4 QM default l,.agg (QM w)] [] λv h=>v= .bool (λ_=>l.any λx=>decide (x.feeder=w.feeder/\x.train=w.train/\x.station=w.station))/\h=[]:=by
 obtain⟨U,O⟩:=Zn;generalize S:(l.any λx=>decide (x.feeder=w.feeder/\x.train=w.train/\x.station=w.station))=E;unfold QM;simp only[Za O];refine QO Tryz.func76 (body:=Zj Tryz.f76) rfl (by decide+kernel) ?_;refine wS ?_;refine ZJ false false [] [0,3,5] [] (λ(i:Nat)=>[(5,.int .i64 λ_=>i)]) (λ_=>[]) (λi=>i<=l.length/\(l.drop i).any (λx=>decide (x.feeder=w.feeder/\x.train=w.train/\x.station=w.station))=E) (λi=>l.length-i+0) 0 ⟨aV _,S⟩ ?_ ?_
 ·exact ZG
 rintro i ⟨Z,A⟩;refine wS ?_;refine⟨λH=>?_,λH=>?_⟩
 ·have H:=iU H;have J:=Qs (d:=default) O (l:=l) (i:=i) (by omega);rw[J,List.any_cons]at A;generalize V:U Sp.QR default l i=x at*;refine vS ?_;try simp only[V]
  try refine Chk.mk (ZH) ?_
  have I:(bif (bif x.feeder==w.feeder then x.train==w.train else false)then x.station==w.station else false)=decide (x.feeder=w.feeder/\x.train=w.train/\x.station=w.station):=by
   by_cases e1:x.feeder=w.feeder<;>by_cases e2:x.train=w.train<;>by_cases e3:x.station=w.station<;>simp[e1,e2,e3]
  refine⟨λG=>?_,λG=>?_⟩
  ·rw[I]at G;rw[G,Bool.true_or]at A;subst A;exact zW
  rw[I]at G;rw[G,Bool.false_or]at A;refine wS ?_;refine⟨i+1,⟨by omega,A⟩,by show l.length-(i+1)+0<l.length-i+0;omega,?_⟩;exact ZG
 have H:=iV H;rw[List.drop_eq_nil_of_le (by omega),List.any_nil]at A;subst A;exact zW
end Vm
namespace Sp
def QX (b:Xv) (d:Z3):List Call×Bool:=if Xe (J1 b d.number d.day).1≠0 then([],false)else((J1 b d.number d.day).1,decide ((J1 b d.number d.day).2=0))
end Sp
namespace Vm
attribute [local irreducible] Dn
open Go Go.Proofs Sp
set_option maxRecDepth 100000
set_option maxHeartbeats 4000000
theorem Ztr (b:Xv) (d:Sp.Z3) (Z:Xt b):SC (λ_=>aB) 75 [Zd b,.agg (Zh d)] [] λv h=>v= .tup [lst 3 X2 default (QX b d).1,.bool λ_=>(QX b d).2]/\h=[]:=by
 obtain⟨V,O⟩:=Zn;have k:=Zvy b d.number d.day Z;have S:=(ZdF b d.number d.day).1;have H:QX b d=if Xe (J1 b d.number d.day).1≠0 then([],false)else((J1 b d.number d.day).1,decide ((J1 b d.number d.day).2=0)):=rfl
 generalize QX b d=E at*;generalize J1 b d.number d.day=r at*;obtain⟨C,er⟩:=r;unfold Zd Zh at*;simp only[Za O]at*;refine SC.less (QO Tryz.func75 (body:=Zj Tryz.f75) rfl (by decide+kernel) ?_);refine wS ?_;refine ZL (k) (by first|rfl|(simp only[Ze,Zd,Za O];rfl)) λr aa U=>?_;(try simp only[Ze,Zd,Za O]at U);obtain⟨rfl,rfl⟩:=U;try dsimp only at H S
 refine wS ?_;refine X3 λQ Y=>?_;refine ZJ false false [] [6,7,8] [] (λ(j:Nat)=>[(8,.int .i64 λ_=>((j+1:Nat):Int))]) (λ_=>[]) (λj=>Xe C=Zo (YM C) (j+1) (C.length-(j+1))) (λj=>C.length-(j+1)+0) 0 rfl ?_ ?_
 ·exact ZG
 rintro j A;refine wS ?_;refine⟨λJ=>?_,λJ=>?_⟩
 ·simp only[iR]at J;rw[Qn (by omega)]at A;have G:YM C (j+1)=if(V Sp.Call default C ((j+1:Nat):Int)).arrive<=(V Sp.Call default C (((j+1:Nat):Int)-1)).depart then 5 else 0:=by
   unfold YM;rw[XH O,XH O,show((j+1-1:Nat):Int)=((j+1:Nat):Int)-1 by omega]
  refine wS ?_;refine⟨λI=>?_,λI=>?_⟩
  ·simp only[iR]at I;rw[iQ (by omega)]at G;rw[G,iQ (by decide)]at A;rw[iQ (by rw[A];decide)]at H;subst H;refine wS ?_;refine Y _ _ _ ?_;refine wS ?_;refine⟨_,[],?_,rfl,rfl⟩;exact ZG
  simp only[iS]at I;rw[iP (by omega)]at G;rw[G,iP (λh=>h rfl)]at A;refine wS ?_;refine⟨j+1,A,by show C.length-(j+1+1)+0<C.length-(j+1)+0;omega,?_⟩;exact ZG
 simp only[iS]at J;rw[Qv (by omega)]at A;rw[iP (λh=>h A)]at H;subst H;refine wS ?_;refine Y _ _ _ ?_;refine wS ?_;refine⟨_,[],?_,rfl,rfl⟩;exact ZG
theorem Zxa (b:Xv) (d:Sp.Z3) (A:Xt b) (G:(QX b d).2=false):SC (λ_=>aB) 75 [Zd b,.agg (Zh d)] [] λv h=>v= .tup [.undef,.bool λ_=>false]/\h=[]:=by
 refine SC.less (SC.mono (Ztr b d A) λr H hr=>?_);obtain⟨rfl,rfl⟩:=hr;rw[G];generalize (QX b d).1=C;refine⟨.tup [.undef,.bool λ_=>false],[],?_,rfl,rfl⟩;exact ZG
end Vm
end Go.Proofs.YtjgpiclllehgmaaGreat
