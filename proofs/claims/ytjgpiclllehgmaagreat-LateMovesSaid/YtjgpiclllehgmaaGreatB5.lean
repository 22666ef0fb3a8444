/- Lemmas. -/
import Derived.Maps.RangeRun
import Derived.Test.YtjgpiclllehgmaaGreatB3
import Derived.Test.YtjgpiclllehgmaaGreatB4
import Derived.Test.YtjgpiclllehgmaaGreatB0
import Derived.Test.YtjgpiclllehgmaaGreatB2
import Derived.Test.YtjgpiclllehgmaaGreatB1
set_option linter.all false
open Array renaming getElem?_setIfInBounds_ne->aF,toList_filter->ib
open Bool renaming and_eq_true->aU,eq_iff_iff->ej,false_eq_true->aY,false_ne_true->aO,false_or->bZ,not_eq_true'->cG,or_eq_true->cJ,or_true->ig,true_or->cS
open Decidable renaming of_not_not->bQ
open Int renaming le_refl->bS,toNat_natCast->aV
open List renaming all_eq_true->bL,any_eq_false->eV,any_eq_true->cZ,contains_eq_mem->eX,drop_eq_nil_of_le->bB,filter_cons->fW,getD_eq_getElem?_getD->aA,getElem?_append_left->bO,getElem?_eq_getElem->aD,getElem?_set_ne->cU,getElem?_set_self->cV,getElem_mem->bM,length_append->bA,length_cons->bF,length_map->aX,length_nil->cF,length_set->bP,lookup->eZ,mem_append->cP,mem_cons->bG,mem_cons_of_mem->aS,mem_cons_self->aW,mem_filter->fk,mem_iff_getElem->dQ,mem_map->bC,mem_of_getElem?->bf,mem_range->bV,mem_singleton->aN,pairwise_map->im,range->aP,take->gP
open List.cons renaming injEq->cC
open Nat renaming le_refl->aI,lt_succ_self->gH,mul_comm->eg,zero_le->aT
open Go.Proofs.Tryz renaming prog->aB
namespace Go.Proofs.YtjgpiclllehgmaaGreat
namespace Sp
def Zbt (c:List (List Call)) (n:Int) (s:Step):Int:=
 if Qw s.run 0 (n-1)then 3
 else if ZP (c.getD s.run.toNat []) 0 s.from_<0\/ZP (c.getD s.run.toNat []) (ZP (c.getD s.run.toNat []) 0 s.from_+1) s.to_<0 then 3 else 0
def Jt (c:List (List Call)) (n:Int) (a:ZM):Int:=
 if Qw a.from_ 0 9||(Qw a.goal 0 9||Qw a.since 0 43200)then 1
 else if 6<a.steps.length then 6
 else Zo (λi=>Zbt c n (a.steps.getD i default)) 0 a.steps.length
end Sp
namespace Vm
attribute [local irreducible] Dn
open Go Go.Proofs Sp
set_option maxRecDepth 100000
set_option maxHeartbeats 4000000
def Yr (s:Sp.Step):List AV:=[.int .i64 λ_=>s.run,.int .i64 λ_=>s.from_,.int .i64 λ_=>s.to_]
def Yt (a:ZM):AV:=.agg [.int .i64 λ_=>a.from_,.int .i64 λ_=>a.since,.int .i64 λ_=>a.goal,lst 3 Yr default a.steps]
theorem Zye (t:Zb) (a:ZM) (hc:Jg (callsOf t)) (hr:t.runs.length<=1000000) (ha:a.steps.length<=1000000):SC (λ_=>aB) 162 [.iptr (ZZ t) 0,Yt a] [] λv h=>v= .int .i64 (λ_=>Jt (callsOf t) t.runs.length a)/\h=[]:=by
 obtain⟨Y,O⟩:=Zm;unfold ZZ Yt;simp only[Za O,Zc];refine SC.less (Qq Tryz.func162 (body:=Zj Tryz.f162) rfl (by decide+kernel) ?_);generalize G:Jt (callsOf t) t.runs.length a=e;have ac:t.runs.length=(callsOf t).length:=by unfold callsOf;rw[aX]
 generalize ae:callsOf t=c at*;have aa:∀i:Int,0<=i->i<=(t.runs.length:Int)-1->Y (List Sp.Call) [] c i∈c:=λi h0 h1=>by
  have:i.toNat<c.length:=by omega
  rw[O,aA,aD this];exact bM _
 unfold Jt at G;have k1:=Zdy a.from_ 0 9;have k2:=Zdy a.goal 0 9;have k3:=Zdy a.since 0 43200;generalize Qw a.from_ 0 9=U at*;generalize Qw a.goal 0 9=b2 at*;generalize Qw a.since 0 43200=b3 at*;refine wS ?_;refine Zri (k1) ?_;refine wS ?_;cases U;case true=>
  rw[cS,iP rfl]at G;subst G;refine Br.isF rfl ?_;refine wS ?_;refine Br.isF rfl ?_;refine wS ?_;refine Br.isT rfl ?_;refine wS ?_;refine⟨_,[],?_,rfl,rfl⟩;exact ZB
 refine Br.isT rfl ?_;refine wS ?_;refine Zri (k2) ?_;refine wS ?_;cases b2;case true=>
  rw[cS,ig,iP rfl]at G;subst G;refine Br.isF rfl ?_;refine wS ?_;refine Br.isT rfl ?_;refine wS ?_;refine⟨_,[],?_,rfl,rfl⟩;exact ZB
 refine Br.isT rfl ?_;refine wS ?_;refine Zri (k3) ?_;refine wS ?_;cases b3;case true=>
  rw[iP (show(false||(false||true))=true from rfl)]at G;subst G;refine Br.isT rfl ?_;refine wS ?_;refine⟨_,[],?_,rfl,rfl⟩;exact ZB
 rw[iN (show¬(false||(false||false))=true by decide)]at G;refine Br.isF rfl ?_;refine wS ?_;refine⟨λS=>?_,λS=>?_⟩
 ·have S:=iW S;rw[iP (by omega)]at G;subst G;refine wS ?_;refine⟨_,[],?_,rfl,rfl⟩;exact ZB
 have S:=iX S;rw[iN (by omega)]at G;clear k1 k2 k3;refine wS ?_;refine ZG false false [] [0,29,30,31] [] (λ(i:Nat)=>[(31,.int .i64 λ_=>(i:Int))]) (λ_=>[]) (λi=>i<=a.steps.length/\e=Zo (λi=>Zbt c t.runs.length (a.steps.getD i default)) i (a.steps.length-i)) (λi=>a.steps.length-i+0) 0 ⟨by omega,G.symm⟩ ?_ ?_
 ·exact ZB
 rintro i ⟨hi,A⟩;refine wS ?_;refine⟨λZ=>?_,λZ=>?_⟩;case refine_2=>
  simp only[iV]at Z;rw[QF (by omega)]at A;subst A;refine wS ?_;refine⟨_,[],?_,rfl,rfl⟩;exact ZB
 simp only[iU]at Z;rw[Qp (by omega)]at A;have ab:Zbt c t.runs.length (a.steps.getD i default)=Zbt c t.runs.length (Y Step default a.steps i):=by rw[XL O]
 rw[ab]at A;generalize hd:Y Step default a.steps i=d at*;refine vS ?_;simp only[hd];refine Chk.mk (ZH) ?_;have k5:=Zdy d.run 0 ((t.runs.length:Int)-1);generalize H:Zbt c t.runs.length d=e5 at A;unfold Zbt at H;rw[<-O (List Sp.Call) [] c d.run]at H;refine Zri (k5) ?_;refine wS ?_;refine⟨λV=>?_,λV=>?_⟩
 ·rw[iP V]at H;subst H;rw[iP (by decide)]at A;subst A;refine wS ?_;refine⟨_,[],?_,rfl,rfl⟩;exact ZB
 rw[iN (by rw[V];exact aO)]at H;have U:=QE V;have m1:=aa _ U.1 U.2;refine vS ?_;generalize hF:Y (List Sp.Call) [] c d.run=F at*;have r1:=hc.row _ m1;have q1:=Zoj F 0 d.from_ (by omega) (by omega);have s1:=YL F 0 d.from_;have q2:=Zoj F (ZP F 0 d.from_+1) d.to_ (by omega) (by omega);simp only[Za O]at q1 q2;try simp only[hF]
 try refine Chk.mk (ZH) ?_
 refine Zri (q1) ?_;generalize ZP F 0 d.from_=f at*;refine vS ?_;try simp only[hF]
 try refine Chk.mk (ZH) ?_
 refine⟨λI=>?_,λI=>?_⟩;case refine_2=>
  have I:f<0:=by simpa only[Bool.not_eq_false',iU]using I
  rw[iP (.inl I)]at H;subst H;rw[iP (by decide)]at A;subst A;refine wS ?_;refine Br.isT (by simpa using I) ?_;refine wS ?_;refine⟨_,[],?_,rfl,rfl⟩;exact ZB
 have I:¬f<0:=by simpa only[cG,iV]using I
 refine vS ?_;try simp only[hF]
 try refine Chk.mk (ZH) ?_
 refine Zri (q2) ?_;generalize ZP F (f+1) d.to_=g at*;refine wS ?_;refine⟨λJ=>?_,λJ=>?_⟩
 ·have J:g<0:=by
   cases hf0:decide (f<0)with
   |true=>exact absurd (iW hf0) I
   |false=>rw[hf0]at J;exact iW J
  rw[iP (.inr J)]at H;subst H;rw[iP (by decide)]at A;subst A;refine wS ?_;refine⟨_,[],?_,rfl,rfl⟩;exact ZB
 have J:¬g<0:=by
  cases hf0:decide (f<0)with
  |true=>exact absurd (iW hf0) I
  |false=>rw[hf0]at J;exact iX J
 rw[iN (by omega)]at H;subst H;rw[iN (λh=>h rfl)]at A;refine wS ?_;refine⟨i+1,⟨by omega,A⟩,by show a.steps.length-(i+1)+0<a.steps.length-i+0;omega,?_⟩;exact ZB
end Vm
namespace Sp
open Vm
def QV (a:ZM) (i:Nat):Step:=a.steps.getD i default
def Zam (t:Zb) (s:Step):Int:=ZP (Zl (callsOf t) s.run) 0 s.from_
def ZjQ (t:Zb) (s:Step):Int:=ZP (Zl (callsOf t) s.run) (Zam t s+1) s.to_
def ZfW (t:Zb) (x:List Int) (a:ZM) (taken:List Int) (at_ A:Int) (i:Nat):Bool:=
 !taken.contains (i:Int)&&(decide ((QV a i).from_=at_)&&decide (A<=(ZE t x (QV a i).run (Zam t (QV a i))).goes))
def Y7 (t:Zb) (x:List Int) (a:ZM) (taken:List Int) (at_ A:Int):Nat->Nat->Option Nat
 |_,0=>none
 |i,n+1=>if ZfW t x a taken at_ A i then some i else Y7 t x a taken at_ A (i+1) n
def J6 (t:Zb) (x:List Int) (a:ZM):Nat->List Int->Int->Int->List Int×Int×Bool
 |0,l,_,_=>(l,0,false)
 |f+1,l,at_,now=>if at_=a.goal then(l,now,true)else match Y7 t x a l at_ now 0 a.steps.length with
  |none=>(l,0,false)
  |some i=>J6 t x a f (l++[(i:Int)]) (QV a i).to_ (ZE t x (QV a i).run (ZjQ t (QV a i))).comes
def ZaI (t:Zb) (x:List Int) (a:ZM):List Int×Int×Bool:=J6 t x a (a.steps.length+1) [] a.from_ a.since
def Zkq (a:ZM) (l:List Int):Nat:=((aP a.steps.length).filter λ(i:Nat)=> !l.contains (i:Int)).length
theorem ZeQ {α:Type} {p q:α->Bool} (H:∀x,q x=true->p x=true):∀ {l:List α} {x:α},x∈l->p x=true->q x=false->(l.filter q).length<(l.filter p).length
 |a::l,x,G,h1,h2=>by
  have I:∀l:List α,(l.filter q).length<=(l.filter p).length:=λl=>by
   induction l with
   |nil=>exact aI _
   |cons a l A=>
    rw[fW,fW];cases h:q a with
    |true=>rw[H a h];simpa using A
    |false=>cases p a<;>simp<;>omega
  rw[fW,fW];rcases bG.1 G with rfl|G
  ·rw[h1,h2];have:=I l;simp;omega
  have A:=ZeQ H G h1 h2;cases h:q a with
  |true=>rw[H a h];simpa using A
  |false=>cases p a<;>simp<;>omega
theorem Zs0 {a:ZM} {l:List Int} {i:Nat} (hi:i<a.steps.length) (h:l.contains (i:Int)=false):Zkq a (l++[(i:Int)])<Zkq a l:=by
 refine ZeQ (x:=i) (λj A=>?_) (bV.2 hi) (by rw[h];rfl) (by simp);simp only[cG,eX,cP,iV]at A|-;exact λh=>A (.inl h)
theorem ZqH {a:ZM}:Zkq a []=a.steps.length:=by
 unfold Zkq;rw[show(aP a.steps.length).filter (λ(i:Nat)=> !([]:List Int).contains (i:Int))=aP a.steps.length from List.filter_eq_self.2 λ_ _=>rfl,List.length_range]
theorem Znq {t:Zb} {x:List Int} {a:ZM} {f:Nat} {l:List Int} {at_ A:Int} (G:0<f) (h:at_=a.goal):J6 t x a f l at_ A=(l,A,true):=by
 cases f with
 |zero=>omega
 |succ f=>rw[J6,iP h]
theorem Znp {t:Zb} {x:List Int} {a:ZM} {f:Nat} {l:List Int} {at_ A:Int} (H:0<f) (h:at_≠a.goal) (G:Y7 t x a l at_ A 0 a.steps.length=none):J6 t x a f l at_ A=(l,0,false):=by
 cases f with
 |zero=>omega
 |succ f=>rw[J6,iN h,G]
theorem Zno {t:Zb} {x:List Int} {a:ZM} {f:Nat} {l:List Int} {at_ A:Int} {i:Nat} (H:0<f) (h:at_≠a.goal) (G:Y7 t x a l at_ A 0 a.steps.length=some i):
  J6 t x a f l at_ A=J6 t x a (f-1) (l++[(i:Int)]) (QV a i).to_ (ZE t x (QV a i).run (ZjQ t (QV a i))).comes:=by
 cases f with
 |zero=>omega
 |succ f=>rw[J6,iN h,G];rfl
theorem Zsx {t:Zb} {a:ZM} (V:ZA t) (h:Jt (callsOf t) t.runs.length a=0) {i:Nat} (hi:i<a.steps.length):
  a.steps.length<=6/\StopIn (callsOf t) (QV a i).run (Zam t (QV a i))/\StopIn (callsOf t) (QV a i).run (ZjQ t (QV a i)):=by
 have U:t.runs.length=(callsOf t).length:=by unfold callsOf;rw[aX]
 unfold Jt at h;split at h
 ·cases h
 split at h
 ·cases h
 have A:=Qi h i (by omega) (by omega);unfold Zbt at A;split at A
 ·cases A
 split at A
 ·cases A
 rename_i J S;have G:0<=(QV a i).run/\(QV a i).run<=(t.runs.length:Int)-1:=QE (by cases hq:Qw (QV a i).run 0 ((t.runs.length:Int)-1)with|false=>rfl|true=>exact absurd hq J);have I:Zam t (QV a i)<(Zl (callsOf t) (QV a i).run).length:=(YL _ _ _).1;have H:ZjQ t (QV a i)<(Zl (callsOf t) (QV a i).run).length:=(YL _ _ _).1;change¬(Zam t (QV a i)<0\/ZjQ t (QV a i)<0)at S;exact⟨by omega,⟨G.1,by omega,by omega,I⟩,G.1,by omega,by omega,H⟩
end Sp
namespace Vm
attribute [local irreducible] Dn
open Go Go.Proofs Sp
set_option maxRecDepth 100000
set_option maxHeartbeats 4000000
theorem ZwS {rd:Bool} {nb:Nat} {K:Ex->List AV->List Zh->Cd->Prop} {k:List Item} {s:List AV} {h:List Zh} {ι:Type} (L:List Nat) (n:Nat) (S:ι->List AV) (G:ι->List Zh) (inv:ι->Prop) (A:ι->Nat) (i:ι)
  (hi:inv i) (Y:Qb n h.length=true) (V:Qb nb n=true) (I:To (trimS n h (Vm.keep L s)) (Vm.sel true (aP n) h) (S i) (G i))
  (step:∀i,inv i->(∀j,inv j->A j<A i->HP rd nb (λ_=>aB) k K (S j) (G j))->HP rd nb (λ_=>aB) k K (S i) (G i)):HP rd nb (λ_=>aB) k K s h:=by
 have H:∀(m:Nat) (i:ι),A i<m->inv i->HP rd nb (λ_=>aB) k K (S i) (G i):=by
  intro m;induction m with
  |zero=>intro i h;omega
  |succ m U=>exact λi hm hi=>step i hi λj J Z=>U j (by omega) J
 exact Zcn L n Y V I (H (A i+1) i (gH _) hi)
theorem ZqL {rd:Bool} {nb:Nat} {K:Ex->List AV->List Zh->Cd->Prop} {k:List Item} {s:List AV} {h:List Zh} {ι:Type} (L:List Nat) (n:Nat) (ex:List Zh) (ch:ι->List (Nat×AV)) (A:ι->List (Nat×Zh)) (inv:ι->Prop) (G:ι->Nat) (i:ι)
  (hi:inv i) (J:Qb n h.length=true) (I:Qb nb n=true) (H:To (trimS n h (Vm.keep L s)) (Vm.sel true (aP n) h) (YQ (Vm.keep L s) (ch i)) (X3 (Vm.sel true (aP n) h++ex) (A i)))
  (step:∀i,inv i->(∀j,inv j->G j<G i->HP rd nb (λ_=>aB) k K (YQ (Vm.keep L s) (ch j)) (X3 (Vm.sel true (aP n) h++ex) (A j)))->HP rd nb (λ_=>aB) k K (YQ (Vm.keep L s) (ch i)) (X3 (Vm.sel true (aP n) h++ex) (A i))):HP rd nb (λ_=>aB) k K s h:=
 ZwS L n (λi=>YQ (Vm.keep L s) (ch i)) (λi=>X3 (Vm.sel true (aP n) h++ex) (A i)) inv G i hi J I H step
theorem Zst (tk:List Int->Int->Bool) {l:List Int} {e:Int} {i:Nat} (A:e=i) (hi:i<6):ZjX [λ_=>tk l 0,λ_=>tk l 1,λ_=>tk l 2,λ_=>tk l 3,λ_=>tk l 4,λ_=>tk l 5] e=tk l (i:Int):=by
 subst A;match i,hi with
 |0,_=>rfl
 |1,_=>rfl
 |2,_=>rfl
 |3,_=>rfl
 |4,_=>rfl
 |5,_=>rfl
theorem Zss {tk:List Int->Int->Bool} (A:∀l i,tk l i=l.contains i) {l:List Int} {e:Int} {i j:Nat} (G:e=i):(bif decide (e=(j:Int))then true else tk l (j:Int))=tk (l++[(i:Int)]) (j:Int):=by
 subst G;rw[A,A];by_cases h:(i:Int)=j
 ·rw[iZ h,h];simp
 rw[iY h];have H:¬(j:Int)=i:=λe=>h e.symm;simp[H]
theorem ZnM {t:Zb} {x:List Int} {a:ZM} {l:List Int} {at_ A:Int} {i n:Nat} (h:0<n):Y7 t x a l at_ A i n=if ZfW t x a l at_ A i then some i else Y7 t x a l at_ A (i+1) (n-1):=by
 cases n with
 |zero=>omega
 |succ n=>rfl
theorem Zym (t:Zb) (x:List Int) (a:ZM) (hf:ZA t) (hx:YH t x) (ha:Jt (callsOf t) t.runs.length a=0):SC (λ_=>aB) 115 [.iptr (ZZ t) 0,Yt a,.imap 2 3 λ_=>Qt t x] [] λv h=>
  v= .tup [lst 1 QO 0 (ZaI t x a).1,.int .i64 λ_=>(ZaI t x a).2.1,.bool λ_=>(ZaI t x a).2.2]/\h=[]:=by
 obtain⟨A,O⟩:=Zm;have I:=λi h=> @Zsx t a hf ha i h;have au:=λr k (h:StopIn (callsOf t) r k)=> @Zbd t x r k h;have bc:=λr k (h:StopIn (callsOf t) r k)=>(J8 hf.calls h).2.2;have aj:=λf l at_ aa=> @Znq t x a f l at_ aa;have ak:=λf l at_ aa=> @Znp t x a f l at_ aa;have ai:=λf l at_ aa i=> @Zno t x a f l at_ aa i;have bq:=λr k (h:StopIn (callsOf t) r k)=>Zjh hf x h;obtain⟨tk,ac⟩:∃tk:List Int->Int->Bool,∀l i,tk l i=l.contains i:=⟨λl i=>l.contains i,λ_ _=>rfl⟩;have bt:a.steps.length<=6:=by
  by_cases h:0<a.steps.length
  ·exact(I 0 h).1
  omega
 have ba:= @ZqH a;have Y:=λl i h=> @Zs0 a l i h;have bm:J6 t x a (a.steps.length+1) [] a.from_ a.since=ZaI t x a:=rfl;generalize ZaI t x a=R at*;generalize hG:J6 t x a=G at*;generalize Zkq a=LN at*;generalize Qt t x=HL at*;unfold ZZ Yt;simp only[Za O,Zc,Yr];refine SC.less (Zvr false false [] [3] true 0 Tryz.func115 (body:=Zj Tryz.f115) rfl (by decide+kernel) rfl ?_);refine wS ?_;refine ZqL [0,2,4,6,9,10,11] 2 [.tok 1 λ_=>0] (λp:List Int×Int×Int×Nat=>[(6,.isl 1 (λ_=>(p.1.length:Int)) (λe=>QO (A Int 0 p.1 (e ()))) (.own 2)),(9,.int .i64 λ_=>p.2.1),(10,.int .i64 λ_=>p.2.2.1)])
  (λp=>[(1,.cells [.bool λ_=>tk p.1 0,.bool λ_=>tk p.1 1,.bool λ_=>tk p.1 2,.bool λ_=>tk p.1 3,.bool λ_=>tk p.1 4,.bool λ_=>tk p.1 5]),(2,.tok 1 λ_=>(p.1.length:Int))])
  (λp=>LN p.1<p.2.2.2/\p.1.length+LN p.1<=a.steps.length/\G p.2.2.2 p.1 p.2.1 p.2.2.1=R) (λp=>LN p.1) ([],a.from_,a.since,a.steps.length+1) ⟨by show LN []<_;rw[ba];exact gH _,by show 0+LN []<=_;omega,bm⟩ rfl rfl ?_ ?_
 ·(refine To.of [(1,false)] ?_;cbv;(try simp only[nc]);(repeat' first|exact xT|refine⟨?_,?_⟩|refine ZK.cells ?_|refine Zz.agg ?_|refine Zz.tup ?_);all_goals try exact XU)
  all_goals exact .bool (by rw[ac];rfl)
 intro p J ih;refine Zfu false false [] [] true ?_;refine wS ?_;refine⟨λZ=>?_,λZ=>?_⟩
 ·have Z:p.2.1=a.goal:=eq_of_beq Z;have hr:=J.2.2;rw[aj _ _ _ _ (by have:=J.1;omega) Z]at hr;subst hr;refine wS ?_;refine⟨_,[],?_,rfl,rfl⟩;exact ZB
 have Z:p.2.1≠a.goal:=ne_of_beq_false Z;refine wS ?_;refine ZqL [0,2,4,6,9,10,11,27,28,29] 3 [] (λi:Nat=>[(29,.int .i64 λ_=>(i:Int))]) (λ_=>[]) (λi=>i<=a.steps.length/\Y7 t x a p.1 p.2.1 p.2.2.1 0 a.steps.length=Y7 t x a p.1 p.2.1 p.2.2.1 i (a.steps.length-i)) (λi=>a.steps.length-i) 0 ⟨by omega,rfl⟩ rfl rfl ?_ ?_
 ·exact ZB
 intro i hi ar;refine Zfu false false [] [] true ?_;refine wS ?_;refine⟨λh2=>?_,λh2=>?_⟩;case refine_2=>
  simp only[iV]at h2;have hn:=hi.2;rw[show a.steps.length-i=0 by omega,Y7]at hn;have hr:=J.2.2;rw[ak _ _ _ _ (by have:=J.1;omega) Z hn]at hr;subst hr;refine wS ?_;refine⟨_,[],?_,rfl,rfl⟩;exact ZB
 simp only[iU]at h2;have aw:i<a.steps.length:=by omega
 have U:= @ZnM t x a p.1 p.2.1 p.2.2.1 i (a.steps.length-i) (by omega);have H:ZfW t x a p.1 p.2.1 p.2.2.1 i=(!tk p.1 (i:Int)&&(decide ((QV a i).from_=p.2.1)&&decide (p.2.2.1<=(ZE t x (QV a i).run (Zam t (QV a i))).goes))):=by rw[ac];rfl
 have I:=I i aw;have ae:=ai p.2.2.2 p.1 p.2.1 p.2.2.1 i (by have:=J.1;omega) Z;have Y:=Y p.1 i aw;have e1:= @Zst tk p.1 i i rfl (by omega);have am:=bc _ _ I.2.1;have az:=au _ _ I.2.1;have ao:=au _ _ I.2.2;have bo:=bq _ _ I.2.1;have bh:QV a i=A Sp.Step default a.steps i:=by rw[O];rfl
 rw[bh]at H I ae am az ao bo;have aq:=I.2.1;have ah:=I.2.2;unfold StopIn at aq ah;rw[ZaM O]at am aq ah;have bl:ZP (A (List Sp.Call) [] (callsOf t) (A Sp.Step default a.steps i).run) 0 (A Sp.Step default a.steps i).from_=Zam t (A Sp.Step default a.steps i):=by unfold Zam;rw[ZaM O]
 have bk:ZP (A (List Sp.Call) [] (callsOf t) (A Sp.Step default a.steps i).run) (Zam t (A Sp.Step default a.steps i)+1) (A Sp.Step default a.steps i).to_=ZjQ t (A Sp.Step default a.steps i):=by unfold ZjQ;rw[ZaM O]
 have ab:=Zoj (A (List Sp.Call) [] (callsOf t) (A Sp.Step default a.steps i).run) 0 (A Sp.Step default a.steps i).from_ (by omega) (by omega);have V:=Zoj (A (List Sp.Call) [] (callsOf t) (A Sp.Step default a.steps i).run) (Zam t (A Sp.Step default a.steps i)+1) (A Sp.Step default a.steps i).to_ (by omega) (by omega);rw[bl]at ab;rw[bk]at V;simp only[Za O]at ab V;generalize hd:A Sp.Step default a.steps i=d at*;refine vS ?_;simp only[hd,e1];refine Chk.mk (ZH) ?_;refine⟨λS=>?_,λS=>?_⟩
 ·have bp:ZfW t x a p.1 p.2.1 p.2.2.1 i=false:=by
   rw[H];cases hc:tk p.1 (i:Int)with
   |true=>rfl
   |false=>
    rw[hc]at S;have S:(d.from_ !=p.2.1)=true:=S;rw[iY (by simpa using S)];rfl
  rw[bp]at U;refine wS ?_;refine Zcn [0,2,4,6,9,10,11,27,28,29] 3 rfl rfl ?_ (ar (i+1) ⟨by omega,?_⟩ (by show a.steps.length-(i+1)<a.steps.length-i;omega))
  ·exact ZB
  rw[hi.2,U,iN aO,show a.steps.length-i-1=a.steps.length-(i+1) by omega]
 have hc:tk p.1 (i:Int)=false/\d.from_=p.2.1:=by
  cases hc:tk p.1 (i:Int)with
  |true=>rw[hc]at S;cases S
  |false=>
   rw[hc]at S;have S:(d.from_ !=p.2.1)=false:=S;exact⟨rfl,by simpa using S⟩
 rw[hc.1]at H;rw[iZ hc.2]at H;generalize hF:A (List Sp.Call) [] (callsOf t) d.run=F at*;generalize Zam t d=fo at*;generalize ZjQ t d=to at*;have hg:((eZ [d.run,fo] (HL)).getD []).tail.tail.headD 0=(ZE t x d.run fo).goes:=by rw[az];rfl
 have bg:((eZ [d.run,to] (HL)).getD []).headD 0=(ZE t x d.run to).comes:=by rw[ao];rfl
 generalize (ZE t x d.run fo).goes=gs at*;generalize (ZE t x d.run to).comes=cs at*;refine vS ?_;simp only[hF];refine Chk.mk (ZH) ?_;refine ZN (ab) (by first|rfl|(simp only[Ze,Zd,Zf,Zc,Za O];rfl)) λr a9 J=>?_;(try simp only[Ze,Zd,Zf,Zc,Za O]at J);obtain⟨rfl,rfl⟩:=J;refine vS ?_;simp only[hg];try refine Chk.mk (ZH) ?_
 refine⟨λh4=>?_,λh4=>?_⟩
 ·have h4:=iW h4;rw[iY (by omega)]at H;rw[H]at U;refine wS ?_;refine Zcn [0,2,4,6,9,10,11,27,28,29] 3 rfl rfl ?_ (ar (i+1) ⟨by omega,?_⟩ (by show a.steps.length-(i+1)<a.steps.length-i;omega))
  ·exact ZB
  rw[hi.2,U,show a.steps.length-i-1=a.steps.length-(i+1) by omega];rfl
 have h4:=iX h4;rw[iZ (by omega)]at H;rw[H]at U;have ae:=ae (by rw[hi.2,U];rfl);have Y:=Y (by rw[<-ac];exact hc.1);refine wS ?_;refine ZN (V) (by first|rfl|(simp only[Ze,Zd,Zf,Zc,Za O];rfl)) λr a9 J=>?_;(try simp only[Ze,Zd,Zf,Zc,Za O]at J);obtain⟨rfl,rfl⟩:=J;refine vS ?_;simp only[bg];try refine Chk.mk (ZH) ?_
 refine Zfu false false [] [3] true ?_;refine wS ?_;refine Zcn [0,2,4,6,9,10,11] 3 rfl rfl ?_ (ih (p.1++[(i:Int)],d.to_,cs,p.2.2.2-1) ⟨?_,?_,?_⟩ Y)
 ·(refine To.of [] ?_;cbv;(try simp only[nc]);(repeat' first|exact xT|refine⟨?_,?_⟩|refine ZK.cells ?_|refine Zz.agg ?_|refine Zz.tup ?_);all_goals try exact XU)
  all_goals exact .bool (Zss ac rfl)
 ·show LN (p.1++[(i:Int)])<p.2.2.2-1;have:=J.1;omega
 ·show(p.1++[(i:Int)]).length+LN (p.1++[(i:Int)])<=a.steps.length;have:=J.2.1;rw[bA];show p.1.length+1+_<=_;omega
 show G (p.2.2.2-1) (p.1++[(i:Int)]) d.to_ cs=R;rw[<-ae];exact J.2.2
end Vm
namespace Sp
open Vm
def wdS (stop:Nat->Bool) (f:Nat->Int):Nat->Wd
 |0=>⟨0,0,false⟩
 |n+1=>if stop n then wdS stop f n else(wdS stop f n).add (f n)
def Zjp (t:Zb) (a:ZM) (i:Nat):Bool:=(ZaI t (Zi t i) a).2.2
def ZeU (t:Zb) (a:ZM) (i:Nat):Int:=(ZaI t (Zi t i) a).2.1
def XZ (t:Zb) (a:ZM):Bool:=(aP (manyT t)).all (Zjp t a)
def X0 (t:Zb) (a:ZM):Zhq:=if XZ t a then⟨(ZfC (ZeU t a) (manyT t)).fr,(ZfC (ZeU t a) (manyT t)).to_⟩else⟨0,0⟩
theorem ZoJ {stop:Nat->Bool} {f:Nat->Int}:∀(n:Nat),(∀j,j<n->stop j=false)->wdS stop f n=ZfC f n
 |0,_=>rfl
 |n+1,h=>by
  rw[wdS,iN (by rw[h n (by omega)];exact aO),ZoJ n λj A=>h j (by omega)];rfl
end Sp
namespace Vm
attribute [local irreducible] Dn
open Go Go.Proofs Sp
set_option maxRecDepth 100000
set_option maxHeartbeats 4000000
theorem Zxl (t:Zb) (a:ZM) (hw:ZA t) (ha:Jt (callsOf t) t.runs.length a=0):SC (λ_=>aB) 99 [.iptr (ZZ t) 0,Yt a] [] λv h=>
  v= .tup [.agg (encSp (X0 t a)),.bool λ_=>XZ t a]/\h=[]:=by
 obtain⟨nt,O⟩:=Zm;have aa:=λi=>Zym t (Zi t i) a hw (Xn hw i) ha;have ae:=Ztm t;have ak:=λB0 B1 B2 B3 B4 B5 stop=>Ztl t hw B0 B1 B2 B3 B4 B5 stop;obtain⟨A,V⟩:∃s:Nat->Bool,∀i,s i= !Zjp t a i:=⟨_,λ_=>rfl⟩;obtain⟨WD,H⟩:∃w:Nat->Wd,∀i,w i=wdS A (ZeU t a) i:=⟨_,λ_=>rfl⟩;have aq:WD 0=⟨0,0,false⟩:=by rw[H];rfl
 have au:∀i,A i=true->WD (i+1)=WD i:=λi h=>by rw[H,H,wdS,iP h]
 have ao:∀i,A i=false->WD (i+1)=(WD i).add (ZeU t a i):=λi h=>by rw[H,H,wdS,iN (by rw[h];exact aO)]
 have ar:∀i,(ZaI t (Zi t i) a).2.2=Zjp t a i:=λ_=>rfl;have am:∀i,(ZaI t (Zi t i) a).2.1=ZeU t a i:=λ_=>rfl;have aj:(∀j,j<manyT t->A j=false)->XZ t a=true/\X0 t a=⟨(WD (manyT t)).fr,(WD (manyT t)).to_⟩:=λh=>by
  have I:XZ t a=true:=bL.2 λj Z=>by
   have:=h j (bV.1 Z);rw[V]at this;simpa using this
  refine⟨I,?_⟩;unfold X0;rw[iP I,H,ZoJ _ h]
 have ah:∀j,j<manyT t->A j=true->XZ t a=false/\X0 t a=⟨0,0⟩:=λj Z h=>by
  have I:XZ t a=false:=by
   cases hc:XZ t a with
   |false=>rfl
   |true=>
    have:=bL.1 hc j (bV.2 Z);rw[V,this]at h;cases h
  refine⟨I,?_⟩;unfold X0;rw[iN (by rw[I];exact aO)]
 simp only[ar,am]at aa;generalize X0 t a=AS at*;generalize XZ t a=CA at*;generalize hTR:ZaI t=TR at*;generalize Zi t=TA at*;generalize Qt t=HL at*;generalize Zjp t a=CI at*;generalize ZeU t a=CT at*;unfold Yy ZZ Yt at*;simp only[Za O,Zc,Zp,Yr]at*;refine SC.less (Qq Tryz.func99 (body:=Zj Tryz.f99) rfl (by decide+kernel) ?_);refine wS ?_;refine ZN (ae) (by first|rfl|(simp only[Ze,Zd,Zf,Zc,Za O];rfl)) λr ab S=>?_;(try simp only[Ze,Zd,Zf,Zc,Za O]at S);obtain⟨rfl,rfl⟩:=S;refine wS ?_;refine Zgo [2,3,4,5,6,13] [] [(4,.cells [.int .i64 λ_=>(WD 0).fr,.int .i64 λ_=>(WD 0).to_,.bool λ_=>(WD 0).some_])] (fid:=135) (first:=[]) ?_ rfl ?_ ?_
 ·rw[aq];exact ZB
 ·exact Yk
 refine SC.mono (ak (λ_=>_) (λ_=>_) (λ_=>_) (λ_=>_) (λi=>.cells [.int .i64 λ_=>(WD i).fr,.int .i64 λ_=>(WD i).to_,.bool λ_=>(WD i).some_]) (λi=>.loop _ ⟨_,_,_,bif QU A i then .done else .ready,bif QU A i then some .ret else none⟩) A ?_ ?_ ?_ ?_ ?_ ?_ ?_) ?_;iterate 6 exact λi=>QP.of rfl
 ·intro i hi J;have G:QU A i=false:=by
   cases i with
   |zero=>rfl
   |succ j=>exact J j (by omega)
  simp only[G,cond_false];refine YC.less (Zdi false false [] rfl rfl ?_);refine wS ?_;refine ZN (aa i) (by first|rfl|(simp only[Ze,Zd,Zf,Zc,Za O];rfl)) λr ab S=>?_;(try simp only[Ze,Zd,Zf,Zc,Za O]at S);obtain⟨rfl,rfl⟩:=S;refine wS ?_;refine⟨λI=>?_,λI=>?_⟩
  ·have U:A i=true:=by rw[V];exact I
   have ac:QU A (i+1)=true:=U;refine wS ?_;simp only[ac,cond_true,au i U];refine⟨.bool λ_=> !A i,_,?_,rfl,rfl⟩;refine Ji ?_;exact .bool (by rw[U];rfl)
  have U:A i=false:=by rw[V];exact I
  have ac:QU A (i+1)=false:=U;have k:=Zxo (WD i) (CT i);rw[<-ao i U]at k;unfold Y1 at k;refine wS ?_;refine cL1 [4] (k) λr ab S=>?_;(try simp only[Ze,Zd,Zf,Zc,Za O]at S);obtain rfl:=S;refine wS ?_;simp only[ac,cond_false];refine⟨.bool λ_=> !A i,_,?_,rfl,rfl⟩;refine Ji ?_;exact .bool (by rw[U];rfl)
 intro v h hh;obtain⟨m,hm,rfl⟩:=hh;unfold encSp;rcases hm with⟨hm,J⟩|⟨j,hm,Z,G,J⟩
 ·have G:QU A m=false:=by
   cases m with
   |zero=>rfl
   |succ j=>exact J j (by omega)
  have Y:=aj λj Z=>J j (by omega);rw[<-hm]at Y;simp only[G,cond_false];refine wS ?_;rw[Y.1,Y.2];refine⟨_,[],?_,rfl,rfl⟩;exact ZB
 have ai:QU A m=true:=by rw[hm];exact G
 have Y:=ah j Z G;simp only[ai,cond_true];refine wS ?_;rw[Y.1,Y.2];refine⟨_,[],?_,rfl,rfl⟩;exact ZB
theorem Zyf {A:(α:Type)->α->List α->Int->α} (O:∀(α:Type) (d:α) (l:List α) (i:Int),A α d l i=l.getD i.toNat d) (l:List Sp.QH) (G:0<l.length/\l.length<=1000000):SC (λ_=>aB) 152 [lst 4 Qz default l] [] λv h=>v= .gsl 0 (λ_=>(l.length:Int))/\h=[.gar 4 (λ_=>(l.length:Int)) (λe=>Qz (A Sp.QH default l (e ())))]:=by
 simp only[Za O];refine SC.less (Zoh true false [] Tryz.func152 (body:=Zj Tryz.f152) rfl (by decide+kernel) ?_);refine wS ?_;refine Br.isF rfl ?_;refine wS ?_;refine⟨_,_,?_,rfl,rfl⟩;refine Ji ?_;exact .gar (by simp) λi H=>by rw[Qu (len:=0) rfl (aT _)];rfl
def ZS (t:Zb) (w n:Int):Zb:={t with waits:=t.waits.set w.toNat {t.waits.getD w.toNat default with minutes:=n}}
theorem Zvy (t:Zb) (w n:Int) (Y:Qe t) (hw:0<=w/\w<t.waits.length):SC (λ_=>aB) 100 [Zf t,.int .i64 λ_=>w,.int .i64 λ_=>n] [] λv h=>v=Zf (ZS t w n)/\h=[]:=by
 obtain⟨H,O⟩:=Zm;have aa:=Y.waits;have k:=Zyf O t.waits ⟨by omega,by omega⟩;obtain⟨G,A⟩:∃G,G=ZS t w n:=⟨_,rfl⟩;have J:G.waits.length=t.waits.length:=by rw[A];unfold ZS;simp
 have I:∀i:Nat,i<t.waits.length->[AV.int .i64 λ_=>(H Sp.QH default t.waits (i:Int)).feeder,.int .i64 λ_=>(H Sp.QH default t.waits (i:Int)).train,.int .i64 λ_=>(H Sp.QH default t.waits (i:Int)).station,.int .i64 λ_=>bif decide ((i:Int)=w)then n else(H Sp.QH default t.waits (i:Int)).minutes]=Qz (H Sp.QH default G.waits (i:Int)):=λi S=>by
  have e:H Sp.QH default G.waits (i:Int)=if(i:Int)=w then {H Sp.QH default t.waits (i:Int)with minutes:=n}else H Sp.QH default t.waits (i:Int):=by
   rw[O,O,aV,A];show(t.waits.set w.toNat _).getD i default=_;by_cases h:(i:Int)=w
   ·subst h;rw[iP rfl,aV,Vm.Zco _ _ _ _ S]
   rw[iN h,Vm.ZaC _ _ _ _ _ (by omega)]
  rw[e];by_cases h:(i:Int)=w
  ·rw[iP h,iZ h];rfl
  rw[iN h,iY h];rfl
 have hb:G.book=t.book:=by rw[A];rfl
 have hr:G.runs=t.runs:=by rw[A];rfl
 have V:G.delays=t.delays:=by rw[A];rfl
 rw[<-A];unfold Zf;rw[hb,hr,V];simp only[Za O]at k|-;refine SC.less (Zoh false false [] Tryz.func100 (body:=Zj Tryz.f100) rfl (by decide+kernel) ?_);refine wS ?_;refine cL1 [] (k) λr Z U=>?_;(try simp only[Ze,Zd,Zf,Zc,Za O]at U);obtain⟨rfl,rfl⟩:=U;refine wS ?_;refine⟨_,[],?_,rfl,rfl⟩;refine Ji ?_;exact .gd (by simp) (.none (by show(t.waits.length:Int)=G.waits.length;rw[J]) λi S=>I i (by have:(i:Int)<t.waits.length:=S;omega))
end Vm
namespace Vm
open Go Go.Proofs Conc1
def ZkD:Nat->AV->Bool
 |0,_=>false
 |_+1,.int _ _=>true
 |_+1,.bool _=>true
 |_+1,.undef=>true
 |k+1,.agg cs=>cs.all (ZkD k)
 |k+1,.tup cs=>cs.all (ZkD k)
 |_+1,_=>false
theorem Zjj {R R':RC}:∀(k:Nat) {a:AV} {v:Value},ZkD k a=true->VR R a v->VR R' a v
 |0,a,v,h,_=>by cases h
 |k+1,a,v,h,hv=>by
  cases a with
  |int q n=>rw[hv.int_inv];exact .pure _ _ (.int q n)
  |bool b=>rw[hv.bool_inv];exact .pure _ _ (.bool b)
  |undef=>exact .undef _
  |agg cs=>
   obtain⟨G,rfl,H,hr⟩:=hv.agg_inv;exact .agg cs G H λj c A=>Zjj k (bL.1 h c (bf A)) (hr j c A)
  |tup cs=>
   obtain⟨G,rfl,H,hr⟩:=hv.tup_inv;exact .tup cs G H λj c A=>Zjj k (bL.1 h c (bf A)) (hr j c A)
  |_=>cases h
theorem SC.lend {p:Unit->Program} {f:FuncId} {xs ys:List AV} {h hc:List Zh} {Y Q:AV->List Zh->Prop} (l:List Nat) (ar:l.Nodup) (ak:∀i∈l,i<h.length) (ai:sel true l h=hc) (ab:∀b∈hc,b= .main) (H:SC p f ys hc Q) (hx:xs.map (QD true l h 5)=ys)
  (hq:∀r aa,Q r aa->aa=hc/\ZkD 5 r=true/\Y r h):SC p f xs h Y:=
 ⟨H.enter,λG R vs hr ha cs=>by
  obtain⟨V,ao,a0,A,a2,a3,a4,a5,a6,a7,a8⟩:=hr.sel (fz:=true) (ι:=l) (λ_ _ _=>True) (λ_ _ _ _=>trivial) (λ_ _ _ _ _ _ _ _=>trivial) (λ_ _ _ _=>trivial) (λ_ _ _ _ _ _ _ _ _=>trivial) ar ak (λ_ _ _ _ _ _ _ _ _=>trivial) 0 (aT _) (λ_=>aT _)
  have aj:Yc V ys vs:=⟨by rw[<-hx,aX];exact ha.1,λj c hj=>by
   rw[<-hx,List.getElem?_map,Option.map_eq_some_iff]at hj;obtain⟨x,hx,rfl⟩:=hj
   exact a8 5 x _ (ha.2 j x hx)⟩
  rw[ai]at a6;obtain⟨v,R',r,h',b1,b3,b4,b5,b6,b7⟩:=H.run _ V vs a6 aj cs;obtain⟨rfl,aq,hP⟩:=hq r h' b7;have I:∀b,b<R.w.heap.size->R'.w.heap[b]? =R.w.heap[b]? :=λb Z=>by
   rw[b4.frame b (by rw[A];exact Z) (λid blk U hp=>by
    have:=ab blk (bf U);subst this
    exact hp),A]
  have ac:R.w.heap.size<=R'.w.heap.size:=by rw[<-A];exact b4.size
  let S:RC:={R with w:=R'.w,ok:=λb o n=>b<R'.w.heap.size/\G b o n/\Zdh R h b o n};have ae:∀b o n,R.ok b o n->S.ok b o n:=λb o n k=>by
   obtain⟨h1,h2,h3⟩:=(hr.okd _ _ _).1 k;exact⟨by omega,h2,h3⟩
  have J:∀b o n,R.ok b o n->∀j,j<n->S.w.cell? ⟨b,o+j,none⟩=R.w.cell? ⟨b,o+j,none⟩:=λb o n k j hj=>by
   have:=b5.keep b o n (a7 b o n k) j hj;rw[A]at this;exact this
  have ah:R.le S:=⟨aI _,λ_ _=>rfl,λ_ _=>⟨bS _,λ_=>rfl⟩,λ_ _=>.refl _,ae,J,λb k es am e=>by
   have:=b5.keepM b (a7 b 0 1 k) es am (by rw[A];exact e)
   exact this,rfl⟩
  refine⟨v,S,r,h,?_,⟨hr.len,λ_ _ _=>Iff.rfl,λid blk U=>(hr.blk id blk U).mono ah rfl rfl rfl rfl λb hp=>I b (hr.phys_lt U hp),hr.dis,hr.cl,λb o n Z=>hr.fresh b o n (Nat.le_trans ac Z),hr.tokG,hr.n0m⟩,
   ⟨rfl,by rw[<-A];exact b4.os,by rw[<-A];exact b4.tape,by rw[<-A];exact b4.output,ac,aI _,λ_ _=>rfl,ae,J,λb Z _=>I b Z,λid blk b U hp=>.inr ⟨id,blk,U,hp,.inl rfl⟩⟩,ah,Zjj 5 aq b6,hP⟩
  rw[A,ao]at b1
  exact b1⟩
theorem SC.lend0 {p:Unit->Program} {f:FuncId} {xs I:List AV} {h:List Zh} {G Q:AV->List Zh->Prop} (H:SC p f I [] Q) (V:xs.map (QD true [] h 5)=I) (J:∀r A,Q r A->A=[]/\ZkD 5 r=true/\G r h):SC p f xs h G:=
 SC.lend [] List.nodup_nil (λi U=>by cases U) rfl (λb S=>by cases S) H V J
end Vm
namespace Sp
def YS (t:Zb) (a:ZM):Int:=if Zn t≠0 then Zn t else Jt (callsOf t) t.runs.length a
def X2 (t:Zb) (a:ZM) (w:Int):Int:=if YS t a=0 then(if Qw w 0 ((t.waits.length:Int)-1)then 3 else 0)else YS t a
theorem Zmr {t:Zb} (h:Zn t=0):Q5 t=0:=by
 unfold Zn at h;split at h
 ·exact absurd h (by assumption)
 split at h
 ·exact absurd h (by assumption)
 exact bQ (by assumption)
theorem ZeZ {t:Zb} {a:ZM} (h:YS t a=0):Zn t=0:=by
 unfold YS at h;split at h
 ·exact h
 exact bQ (by assumption)
end Sp
namespace Vm
attribute [local irreducible] Dn
open Go Go.Proofs Sp
set_option maxRecDepth 100000
set_option maxHeartbeats 4000000
theorem Zxg (t:Zb) (a:ZM) (H:Qe t) (I:a.steps.length<=1000000):SC (λ_=>aB) 114 [Zf t,Yt a] [] λv h=>v= .tup [QY (Zn t) t,.int .i64 λ_=>YS t a]/\h=[]:=by
 obtain⟨J,O⟩:=Zm;refine SC.less (Qq Tryz.func114 (body:=Zj Tryz.f114) rfl (by decide+kernel) ?_);have k:=Ztn t H;have A:=λh:Zn t=0=>Zye t a (Zbj (Zmr h)) H.runs I;generalize G:YS t a=e;unfold YS at G;unfold Zf Yt at*;simp only[Za O]at k A|-;by_cases he:Zn t=0
 ·unfold QY at k|-;rw[iP he]at k|-;rw[iN (λh=>h he)]at G;have A:=A he;unfold ZZ at k A|-;simp only[Za O,Zc]at k A|-;rw[he]at k;refine wS ?_;refine Zri (k) ?_;refine wS ?_;refine Br.isF rfl ?_;refine wS ?_;refine Zri (A) ?_;rw[G];refine wS ?_;refine⟨_,[],?_,rfl,rfl⟩;exact ZB
 unfold QY at k|-;rw[iN he]at k|-;rw[iP he]at G;rw[G]at k he;refine wS ?_;refine Zri (k) ?_;refine wS ?_;refine⟨λh=>?_,λh=>?_⟩
 ·refine wS ?_;refine⟨_,[],?_,rfl,rfl⟩;exact ZB
 exact absurd (by simpa only[iC]using h) he
theorem Zyt (t:Zb) (a:ZM) (w:Int) (H:Qe t) (S:a.steps.length<=1000000):SC (λ_=>aB) 98 [Zf t,Yt a,.int .i64 λ_=>w] [] λv h=>v= .tup [QY (Zn t) t,.int .i64 λ_=>X2 t a w]/\h=[]:=by
 obtain⟨V,O⟩:=Zm;refine SC.less (Qq Tryz.func98 (body:=Zj Tryz.f98) rfl (by decide+kernel) ?_);have k:=Zxg t a H S;have hw:=H.waits;have J:=Zdy w 0 ((t.waits.length:Int)-1);generalize A:X2 t a w=e;unfold X2 at A;unfold Zf Yt at*;generalize U:YS t a=I at*;simp only[Za O]at k|-;by_cases hb:Zn t=0
 ·unfold QY at k|-;rw[iP hb]at k|-;unfold ZZ at k|-;simp only[Za O,Zc]at k|-;by_cases G:I=0
  ·rw[iP G]at A;rw[G]at k;refine wS ?_;refine Zri (k) ?_;refine wS ?_;refine Br.isT rfl ?_;refine wS ?_;refine Zri (J) ?_;refine wS ?_;refine⟨λh=>?_,λh=>?_⟩
   ·have h:Qw w 0 ((t.waits.length:Int)-1)=true:=h;rw[iP h]at A;subst A;refine wS ?_;refine⟨_,[],?_,rfl,rfl⟩;exact ZB
   have h:Qw w 0 ((t.waits.length:Int)-1)=false:=h;rw[iN (by rw[h];exact aO)]at A;subst A;refine wS ?_;refine⟨_,[],?_,rfl,rfl⟩;exact ZB
  rw[iN G]at A;subst A;refine wS ?_;refine Zri (k) ?_;refine wS ?_;refine⟨λh=>?_,λh=>?_⟩
  ·exact absurd (eq_of_beq h) G
  refine wS ?_;refine Br.isF rfl ?_;refine wS ?_;refine⟨_,[],?_,rfl,rfl⟩;exact ZB
 unfold QY at k|-;rw[iN hb]at k|-;have G:I≠0:=by
  intro h;exact hb (ZeZ (U.trans h))
 rw[iN G]at A;subst A;refine wS ?_;refine Zri (k) ?_;refine wS ?_;refine⟨λh=>?_,λh=>?_⟩
 ·exact absurd (eq_of_beq h) G
 refine wS ?_;refine Br.isF rfl ?_;refine wS ?_;refine⟨_,[],?_,rfl,rfl⟩;exact ZB
end Vm
namespace Sp
open Vm
theorem ZhO {t:Zb} (A:ZA t) {w n:Int} (Y:0<=n/\n<=60):ZA (ZS t w n):=by
 have H:∀v∈(ZS t w n).waits,∃G∈t.waits,v.feeder=G.feeder/\v.train=G.train/\v.station=G.station/\(v.minutes=G.minutes\/v.minutes=n):=λv hv=>by
  rcases List.mem_or_eq_of_mem_set hv with h|rfl
  ·exact⟨v,h,rfl,rfl,rfl,.inl rfl⟩
  by_cases hl:w.toNat<t.waits.length
  ·refine⟨t.waits[w.toNat],bM hl,?_⟩;rw[aA,aD hl];exact⟨rfl,rfl,rfl,.inr rfl⟩
  have:(ZS t w n).waits=t.waits:=List.set_eq_of_length_le (by omega);rw[this]at hv;exact⟨_,hv,rfl,rfl,rfl,.inl rfl⟩
 refine⟨A.calls,A.nn,A.asc,by show(t.waits.set _ _).length<=4;rw[bP];exact A.wlen,A.dlen,λv hv=>?_,A.d⟩;obtain⟨G,I,J,U,S,V⟩:=H v hv;have h:=A.w G I;rw[J,U,S];exact⟨h.1,h.2.1,h.2.2.1,by omega,by omega,h.2.2.2.2.2⟩
def Zao (t:Zb) (a:ZM) (w:Int):Nat->Int×Int×Bool
 |0=>(0,0,false)
 |n+1=>if XZ (ZS t w n) a&&(!(Zao t a w n).2.2||decide ((X0 (ZS t w n) a).to_<(Zao t a w n).2.1))then((n:Int),(X0 (ZS t w n) a).to_,true)else Zao t a w n
def ZjJ (t:Zb) (a:ZM) (w:Int):Int×Int×Int:=
 if X2 t a w≠0 then(0,0,X2 t a w)else if(Zao t a w 61).2.2 then((Zao t a w 61).1,(Zao t a w 61).2.1,0)else(0,0,11)
end Sp
namespace Vm
attribute [local irreducible] Dn
open Go Go.Proofs Sp
set_option maxRecDepth 100000
set_option maxHeartbeats 4000000
theorem Zoi {t:Zb} {a:ZM} {w:Int} (h:X2 t a w=0):Zn t=0/\Jt (callsOf t) t.runs.length a=0/\0<=w/\w<t.waits.length:=by
 unfold X2 at h;split at h
 ·rename_i A;have G:=ZeZ A;split at h
  ·cases h
  rename_i H;have:=QE (by simpa using H);unfold YS at A;rw[iN (λh=>h G)]at A;exact⟨G,A,by omega,by omega⟩
 exact absurd h (by assumption)
theorem ZyJ (t:Zb) (a:ZM) (w:Int) (hf:Qe t) (ha:a.steps.length<=1000000) (hw:Zn t=0->ZA t):SC (λ_=>aB) 35 [Zf t,Yt a,.int .i64 λ_=>w] [] λv h=>
  v= .tup [.int .i64 λ_=>(ZjJ t a w).1,.int .i64 λ_=>(ZjJ t a w).2.1,.int .i64 λ_=>(ZjJ t a w).2.2]/\h=[]:=by
 obtain⟨nt,O⟩:=Zm;have k:=Zyt t a w hf ha;by_cases he:X2 t a w=0
 ·have S:=Zoi he;have hw:=hw S.1;have I:=λn=>Zvy t w n hf S.2.2;have H:=λn h=>Zxl (ZS t w n) a (ZhO hw (n:=n) h) S.2.1;have aa:Zao t a w 0=(0,0,false):=rfl;have Z:∀n:Nat,Zao t a w (n+1)=if XZ (ZS t w n) a&&(!(Zao t a w n).2.2||decide ((X0 (ZS t w n) a).to_<(Zao t a w n).2.1))then((n:Int),(X0 (ZS t w n) a).to_,true)else Zao t a w n:=λ_=>rfl
  have U:ZjJ t a w=if(Zao t a w 61).2.2 then((Zao t a w 61).1,(Zao t a w 61).2.1,0)else(0,0,11):=by
   unfold ZjJ;rw[iN (λh=>h he)]
  have ah:∀n,(ZS t w n).book=t.book:=λ_=>rfl;have ae:∀n,(ZS t w n).runs=t.runs:=λ_=>rfl;have ai:∀n,(ZS t w n).delays=t.delays:=λ_=>rfl;have aj:∀n,callsOf (ZS t w n)=callsOf t:=λ_=>rfl;unfold QY at k;rw[iP S.1,he]at k;unfold ZZ Zf Yt encSp at*;simp only[ah,ae,ai,aj]at I H;simp only[Za O,Zc,Yr,Zp]at*;generalize ZjJ t a w=BE at*;generalize Zao t a w=B at*;generalize ak:ZS t w=WT at*;generalize Y:(λn=>XZ (WT n) a)=CA at*;generalize V:(λn=>X0 (WT n) a)=AS at*;have Y:∀n,XZ (WT n) a=CA n:=λn=>congrFun Y n;have V:∀n,X0 (WT n) a=AS n:=λn=>congrFun V n;simp only[Y,V]at H Z;refine SC.less (Qq Tryz.func35 (body:=Zj Tryz.f35) rfl (by decide+kernel) ?_);refine wS ?_;refine Zri (k) ?_;refine wS ?_;refine Br.isF rfl ?_;refine wS ?_;refine ZG false false [] [2,3,4,6,7,9,10,24] [] (λp:Nat=>[(24,.int .i64 λ_=>(p:Int)),(6,.int .i64 λ_=>(B p).1),(7,.int .i64 λ_=>(B p).2.1),(10,.bool λ_=>(B p).2.2)]) (λ_=>[]) (λp=>p<=61) (λp=>61-p+0) 0 (by omega) ?_ ?_
  ·(refine To.of [] ?_;cbv;(try simp only[nc]);(repeat' first|exact xT|refine⟨?_,?_⟩|refine ZK.cells ?_|refine Zz.agg ?_|refine Zz.tup ?_);all_goals try exact XU)
   all_goals first|exact .int (by rw[aa])|exact .bool (by rw[aa])
  intro p hp;refine wS ?_;refine⟨λh1=>?_,λh1=>?_⟩;case refine_2=>
   simp only[iV]at h1;have ac:p=61:=by omega
   subst ac;refine wS ?_;refine⟨λA=>?_,λA=>?_⟩
   ·have A:(B 61).2.2=false:=nb2 A;rw[iN (by rw[A];exact aO)]at U;subst U;refine wS ?_;refine⟨_,[],?_,rfl,rfl⟩;exact ZB
   have A:(B 61).2.2=true:=nb4 A;rw[iP A]at U;subst U;refine wS ?_;refine⟨_,[],?_,rfl,rfl⟩;exact ZB
  simp only[iU]at h1;have I:=I p;have H:=H p (by omega);refine wS ?_;repeat' (first|(with_reducible refine Zlg.mk ?_ ?_)|((with_reducible refine Chk.mk ?_ ?_);(focus exact ZH))|((with_reducible refine ZN I ?_ ?_);(focus (first|rfl|(simp only[Za O];rfl)));(intro r ab hp;obtain⟨rfl,rfl⟩:=hp;cbv;(try simp only[nc]at*)))|((with_reducible refine SC.lend0 H ?_ ?_);(focus (first|rfl|(simp only[Za O];rfl)));(intro r ab hp;obtain⟨rfl,rfl⟩:=hp;refine⟨rfl,rfl,?_⟩;cbv;(try simp only[nc]at*))))
  all_goals
   have J:(bif CA p then bif !(B p).2.2 then true else decide ((AS p).to_<(B p).2.1)else false)=(CA p&&(!(B p).2.2||decide ((AS p).to_<(B p).2.1))):=by cases CA p<;>cases (B p).2.2<;>rfl
   refine⟨λA=>?_,λA=>?_⟩
   ·have G:=Z p;rw[iP (J.symm.trans A)]at G;refine wS ?_;refine⟨p+1,by show p+1<=61;omega,by show 61-(p+1)+0<61-p+0;omega,?_⟩;(refine To.of [] ?_;cbv;(try simp only[nc]);(repeat' first|exact xT|refine⟨?_,?_⟩|refine ZK.cells ?_|refine Zz.agg ?_|refine Zz.tup ?_);all_goals try exact XU);all_goals first|exact .int (by rw[G])|exact .bool (by rw[G])
   have G:=Z p;rw[iN (λh=>by rw[<-J,A]at h;cases h)]at G;refine wS ?_;refine⟨p+1,by show p+1<=61;omega,by show 61-(p+1)+0<61-p+0;omega,?_⟩;(refine To.of [] ?_;cbv;(try simp only[nc]);(repeat' first|exact xT|refine⟨?_,?_⟩|refine ZK.cells ?_|refine Zz.agg ?_|refine Zz.tup ?_);all_goals try exact XU);all_goals first|exact .int (by rw[G])|exact .bool (by rw[G])
 have U:ZjJ t a w=(0,0,X2 t a w):=by
  unfold ZjJ;rw[iP he]
 rw[U];generalize X2 t a w=e at*;refine SC.less (Qq Tryz.func35 (body:=Zj Tryz.f35) rfl (by decide+kernel) ?_);unfold Zf Yt at*;by_cases hb:Zn t=0
 ·unfold QY at k;rw[iP hb]at k;unfold ZZ at k;simp only[Za O,Zc,Yr,Zp]at*;refine wS ?_;refine Zri (k) ?_;refine wS ?_;refine⟨λh=>?_,λh=>?_⟩
  ·refine wS ?_;refine⟨_,[],?_,rfl,rfl⟩;exact ZB
  exact absurd (by simpa only[iC]using h) he
 unfold QY at k;rw[iN hb]at k;simp only[Za O,Zc,Yr,Zp]at*;refine wS ?_;refine Zri (k) ?_;refine wS ?_;refine⟨λh=>?_,λh=>?_⟩
 ·refine wS ?_;refine⟨_,[],?_,rfl,rfl⟩;exact ZB
 exact absurd (by simpa only[iC]using h) he
end Vm
namespace Sp
open Vm
def Xs (t:Zb) (f r st:Int) (i:Nat):Bool:=
 decide ((ZE t (Zi t i) f (Zv (Zl (callsOf t) f) st)).comes<=(ZE t (Zi t i) r (ZJ (Zl (callsOf t) r) st)).goes)
def QC (p:Nat->Bool):Nat->Int
 |0=>0
 |n+1=>if p n then QC p n+1 else QC p n
def Zbc (t:Zb) (f r st:Int):Int:=Zbq (QC (Xs t f r st) (manyT t)) (QC (λi=> !Xs t f r st i) (manyT t))
def Xu (p:Nat->Bool):Nat->Nat->Int×Bool
 |_,0=>(0,false)
 |i,n+1=>if p i then((i:Int),true)else Xu p (i+1) n
def QG (t:Zb) (w:Int):QH:=t.waits.getD w.toNat default
def YP (t:Zb) (w:Int) (n:Nat):Bool:=decide (Zbc (ZS t w n) (QG t w).feeder (QG t w).train (QG t w).station=1)
def XH (t:Zb) (w:Int):Int×Int:=if ZV t w≠0 then(0,ZV t w)else if(Xu (YP t w) 0 61).2 then((Xu (YP t w) 0 61).1,0)else(0,11)
theorem Zg0 {p:Nat->Bool} {i n:Nat} (h:0<n):Xu p i n=if p i then((i:Int),true)else Xu p (i+1) (n-1):=by
 cases n with
 |zero=>omega
 |succ n=>rfl
def ZcC (t:Zb) (f r st:Int):Prop:=StopIn (callsOf t) f (Zv (Zl (callsOf t) f) st)/\StopIn (callsOf t) r (ZJ (Zl (callsOf t) r) st)
theorem Znd {t:Zb} (h:Zn t=0) {w:Int} (hw:0<=w/\w<t.waits.length):ZcC t (QG t w).feeder (QG t w).train (QG t w).station:=by
 have G:=Yx h;have hm:QG t w∈t.waits:=by
  unfold QG;rw[aA,aD (by omega)];exact bM _
 refine⟨YR G hm,?_⟩;unfold Zn at h;split at h
 ·exact absurd h (by assumption)
 split at h
 ·exact absurd h (by assumption)
 split at h
 ·cases h
 split at h
 ·exact absurd h (by assumption)
 rename_i J;have A:=Qi (bQ J) w.toNat (by omega) (by omega);change Qc (callsOf t) (QG t w) _=0 at A;unfold Qc at A;split at A
 ·cases A
 rename_i I;split at A
 ·cases A
 split at A
 ·cases A
 rename_i S;have H:=QE (n:=(QG t w).train) (lo:=0) (hi:=((callsOf t).length:Int)-1) (by cases hq:Qw (QG t w).train 0 ((callsOf t).length-1)with|false=>rfl|true=>exact absurd (by rw[hq,ig]) I);have U:¬ZJ (Zl (callsOf t) (QG t w).train) (QG t w).station<0:=λh=>S (.inr h);have V:=YL (Zl (callsOf t) (QG t w).train) 0 (QG t w).station;refine⟨H.1,by omega,by omega,?_⟩;unfold ZJ at*;split<;>omega
end Sp
namespace Vm
attribute [local irreducible] Dn
open Go Go.Proofs Sp
set_option maxRecDepth 100000
set_option maxHeartbeats 4000000
theorem Zyo (H J I S:List AV) (p:Nat->Bool) (V:∀n:Nat,n<=60->SC (λ_=>aB) 113 [.int .i64 λ_=>(n:Int),.iptr H 0,.iptr J 0,.iptr I 0,.iptr S 0] [.main] λv h=>v= .bool (λ_=>p n)/\h=[.main]):
  SC (λ_=>aB) 112 [.int .i64 λ_=>60,.fn 113 [] [.iptr H 0,.iptr J 0,.iptr I 0,.iptr S 0]] [.main] λv h=>v= .tup [.int .i64 λ_=>(Xu p 0 61).1,.bool λ_=>(Xu p 0 61).2]/\h=[.main]:=by
 refine SC.less (Qq Tryz.func112 (body:=Zj Tryz.f112) rfl (by decide+kernel) ?_);generalize Z:Xu p 0 61=F;refine wS ?_;refine ZG false false [] [0,1,6] [] (λi:Nat=>[(6,.int .i64 λ_=>(i:Int))]) (λ_=>[]) (λi=>i<=61/\Xu p i (61-i)=F) (λi=>61-i+0) 0 ⟨by omega,Z⟩ ?_ ?_
 ·exact ZB
 rintro i ⟨hi,A⟩;refine wS ?_;refine⟨λG=>?_,λG=>?_⟩
 ·have G:=iW G;rw[show 61-i=0 by omega,Xu]at A;subst A;refine wS ?_;refine⟨_,_,?_,rfl,rfl⟩;exact ZB
 have G:=iX G;have k:=V i (by omega);rw[Zg0 (by omega)]at A;refine wS ?_;refine cL1 [0] (k) λr Y A=>?_;(try simp only[Ze,Zd,Zf,Zc,Za O]at A);obtain⟨rfl,rfl⟩:=A;refine wS ?_;refine⟨λU=>?_,λU=>?_⟩
 ·rw[iP U]at A;subst A;refine wS ?_;refine⟨_,_,?_,rfl,rfl⟩;exact ZB
 rw[iN (by rw[U];exact aO)]at A;refine wS ?_;refine⟨i+1,⟨by omega,A⟩,by show 61-(i+1)+0<61-i+0;omega,?_⟩;exact ZB
theorem Zyn (t:Zb) (w:Int) (Z:Qe t) (hw:ZA t) (hi:0<=w/\w<t.waits.length) (hc:ZcC t (QG t w).feeder (QG t w).train (QG t w).station)
  (H:∀G f r st,ZA G->ZcC G f r st->SC (λ_=>aB) 97 [.iptr (ZZ G) 0,.int .i64 λ_=>f,.int .i64 λ_=>r,.int .i64 λ_=>st] [.main] λv h=>v= .int .i64 (λ_=>Zbc G f r st)/\h=[.main])
  (n:Nat) (hn:n<=60):SC (λ_=>aB) 113 [.int .i64 λ_=>(n:Int),.iptr ((ZZ t).take 8) 0,.iptr [.int .i64 λ_=>w] 0,.iptr [.iptr (ZZ t) 0] 0,.iptr (Qz (QG t w)) 0] [.main] λv h=>v= .bool (λ_=>YP t w n)/\h=[.main]:=by
 obtain⟨nt,O⟩:=Zm;have A:=Zvy t w n Z hi;have k:=H (ZS t w n) (QG t w).feeder (QG t w).train (QG t w).station (ZhO hw ⟨by omega,by omega⟩) hc;have S:∀n,(ZS t w n).book=t.book:=λ_=>rfl;have I:∀n,(ZS t w n).runs=t.runs:=λ_=>rfl;have U:∀n,(ZS t w n).delays=t.delays:=λ_=>rfl;have J:∀n,callsOf (ZS t w n)=callsOf t:=λ_=>rfl;unfold YP;generalize QG t w=x at*;generalize Zbc (ZS t w n) x.feeder x.train x.station=V at*;unfold ZZ Zf Qz at*;simp only[S,I,U,J]at A k;simp only[gP,Za O,Zc,Zp]at*;generalize ZS t w n=t2 at*;refine SC.less (Qq Tryz.func113 (body:=Zj Tryz.f113) rfl (by decide+kernel) ?_);refine wS ?_;refine Zri (A) ?_;refine wS ?_;refine SC.lend [0] (by decide) (by simp) rfl (λb hb=>aN.1 hb) k ?_ λr aa Y=>?_
 ·first|rfl|(simp only[Za O];rfl)
 obtain⟨rfl,rfl⟩:=Y;refine⟨rfl,rfl,?_⟩;refine wS ?_;refine⟨_,_,?_,rfl,rfl⟩;(refine To.of [] ?_;cbv;(try simp only[nc]);(repeat' first|exact xT|refine⟨?_,?_⟩|refine ZK.cells ?_|refine Zz.agg ?_|refine Zz.tup ?_);all_goals try exact XU);all_goals exact .bool rfl
theorem Zxu (t:Zb) (w:Int) (V:Qe t)
  (U:∀S f r st,ZA S->ZcC S f r st->SC (λ_=>aB) 97 [.iptr (ZZ S) 0,.int .i64 λ_=>f,.int .i64 λ_=>r,.int .i64 λ_=>st] [.main] λv h=>v= .int .i64 (λ_=>Zbc S f r st)/\h=[.main]):
  SC (λ_=>aB) 45 [Zf t,.int .i64 λ_=>w] [.main] λv h=>v= .tup [.int .i64 λ_=>(XH t w).1,.int .i64 λ_=>(XH t w).2]/\h=[.main]:=by
 obtain⟨nt,O⟩:=Zm;have k:=Zxi t w V;by_cases he:ZV t w=0
 ·have G:Zn t=0:=by
   unfold ZV at he;split at he
   ·assumption
   exact he
  have Y:0<=w/\w<t.waits.length:=by
   unfold ZV at he;rw[iP G]at he;split at he
   ·cases he
   rename_i A;have:=QE (by simpa using A);omega
  have J:=Zyn t w V (Yx G) Y (Znd G Y) U;have I:=Zyo _ _ _ _ _ J;have H:XH t w=if(Xu (YP t w) 0 61).2 then((Xu (YP t w) 0 61).1,0)else(0,11):=by
   unfold XH;rw[iN (λh=>h he)]
  have hx:QG t w=nt Sp.QH default t.waits w:=by rw[O];rfl
  rw[hx]at I;unfold QY at k;rw[iP G,he]at k;clear J;unfold ZZ Zf Qz at*;simp only[gP,Za O,Zc,Zp]at*;generalize XH t w=BE at*;generalize Xu (YP t w) 0 61=F at*;refine SC.less (Qq Tryz.func45 (body:=Zj Tryz.f45) rfl (by decide+kernel) ?_);refine wS ?_;refine Zri (k) ?_;refine wS ?_;refine Br.isF rfl ?_;refine wS ?_;refine SC.lend [0] (by decide) (by simp) rfl (λb G=>aN.1 G) I ?_ λr aa Z=>?_
  ·first|rfl|(simp only[Za O];rfl)
  obtain⟨rfl,rfl⟩:=Z;refine⟨rfl,rfl,?_⟩;refine wS ?_;refine⟨λA=>?_,λA=>?_⟩
  ·have A:F.2=false:=nb2 A;rw[iN (by rw[A];exact aO)]at H;subst H;refine wS ?_;refine⟨_,_,?_,rfl,rfl⟩;exact ZB
  have A:F.2=true:=nb4 A;rw[iP A]at H;subst H;refine wS ?_;refine⟨_,_,?_,rfl,rfl⟩;exact ZB
 have H:XH t w=(0,ZV t w):=by
  unfold XH;rw[iP he]
 rw[H];generalize ZV t w=e at*;refine SC.less (Qq Tryz.func45 (body:=Zj Tryz.f45) rfl (by decide+kernel) ?_);unfold Zf at*;by_cases G:Zn t=0
 ·unfold QY at k;rw[iP G]at k;unfold ZZ at k;simp only[Za O,Zc,Zp]at*;refine wS ?_;refine Zri (k) ?_;refine wS ?_;refine⟨λh=>?_,λh=>?_⟩
  ·refine wS ?_;refine⟨_,_,?_,rfl,rfl⟩;exact ZB
  exact absurd (by simpa only[iC]using h) he
 unfold QY at k;rw[iN G]at k;simp only[Za O,Zc,Zp]at*;refine wS ?_;refine Zri (k) ?_;refine wS ?_;refine⟨λh=>?_,λh=>?_⟩
 ·refine wS ?_;refine⟨_,_,?_,rfl,rfl⟩;exact ZB
 exact absurd (by simpa only[iC]using h) he
end Vm
namespace Sp
open Vm
def ZaG (t:Zb) (a:ZM):Zhq×Int:=if YS t a≠0 then(⟨0,0⟩,YS t a)else if XZ t a then(X0 t a,0)else(⟨0,0⟩,11)
end Sp
namespace Vm
attribute [local irreducible] Dn
open Go Go.Proofs Sp
set_option maxRecDepth 100000
set_option maxHeartbeats 4000000
theorem ZyE (t:Zb) (a:ZM) (S:Qe t) (U:a.steps.length<=1000000) (hw:Zn t=0->ZA t):SC (λ_=>aB) 50 [Zf t,Yt a] [] λv h=>
  v= .tup [.agg (encSp (ZaG t a).1),.int .i64 λ_=>(ZaG t a).2]/\h=[]:=by
 obtain⟨Z,O⟩:=Zm;have k:=Zxg t a S U;by_cases he:YS t a=0
 ·have H:=ZeZ he;have V:Jt (callsOf t) t.runs.length a=0:=by
   unfold YS at he;rw[iN (λh=>h H)]at he;exact he
  have I:=Zxl t a (hw H) V;have G:ZaG t a=if XZ t a then(X0 t a,0)else(⟨0,0⟩,11):=by
   unfold ZaG;rw[iN (λh=>h he)]
  unfold QY at k;rw[iP H,he]at k;unfold ZZ Zf Yt encSp at*;simp only[Za O,Zc,Yr,Zp]at*;generalize ZaG t a=Y at*;generalize XZ t a=J at*;generalize X0 t a=AS at*;refine SC.less (Qq Tryz.func50 (body:=Zj Tryz.f50) rfl (by decide+kernel) ?_);refine wS ?_;refine Zri (k) ?_;refine wS ?_;refine Br.isF rfl ?_;refine wS ?_;refine Zri (I) ?_;refine wS ?_;refine⟨λA=>?_,λA=>?_⟩
  ·have A:J=false:=nb2 A;rw[iN (by rw[A];exact aO)]at G;subst G;refine wS ?_;refine⟨_,[],?_,rfl,rfl⟩;exact ZB
  have A:J=true:=nb4 A;rw[iP A]at G;subst G;refine wS ?_;refine⟨_,[],?_,rfl,rfl⟩;exact ZB
 have G:ZaG t a=(⟨0,0⟩,YS t a):=by
  unfold ZaG;rw[iP he]
 rw[G];generalize YS t a=e at*;refine SC.less (Qq Tryz.func50 (body:=Zj Tryz.f50) rfl (by decide+kernel) ?_);unfold Zf Yt encSp at*;by_cases H:Zn t=0
 ·unfold QY at k;rw[iP H]at k;unfold ZZ at k;simp only[Za O,Zc,Yr,Zp]at*;refine wS ?_;refine Zri (k) ?_;refine wS ?_;refine⟨λh=>?_,λh=>?_⟩
  ·refine wS ?_;refine⟨_,[],?_,rfl,rfl⟩;exact ZB
  exact absurd (by simpa only[iC]using h) he
 unfold QY at k;rw[iN H]at k;simp only[Za O,Zc,Yr,Zp]at*;refine wS ?_;refine Zri (k) ?_;refine wS ?_;refine⟨λh=>?_,λh=>?_⟩
 ·refine wS ?_;refine⟨_,[],?_,rfl,rfl⟩;exact ZB
 exact absurd (by simpa only[iC]using h) he
end Vm
namespace Sp
open Vm
def Zd4 (st a d:Int):Stop:={station:=st,zone:=0,arrive:=a,depart:=d}
def Qf (m:Int):Zb:={book:={zones:=[⟨0,[]⟩],old:=[⟨1,127,[Zd4 0 0 60,Zd4 1 100 110,Zd4 2 160 0]⟩,⟨2,127,[Zd4 1 0 120,Zd4 3 200 0]⟩,⟨3,127,[Zd4 1 0 180,Zd4 3 260 0]⟩],new:=[],night:=1,last:=0},runs:=[⟨1,0⟩,⟨2,0⟩,⟨3,0⟩],waits:=[⟨0,1,1,m⟩],delays:=[⟨0,0,[0,20,40]⟩]}
def Zky:ZM:=⟨0,0,3,[⟨0,0,1⟩,⟨1,1,3⟩,⟨2,1,3⟩]⟩
def Zn3:ZM:=⟨0,0,3,[⟨0,0,1⟩,⟨1,1,3⟩]⟩
theorem Zvo:Zn (Qf 15)=0/\Zn (Qf 30)=0:=by decide+kernel
theorem ZqT:Zm7 (Qf 30) 1=[⟨120,140⟩,⟨200,220⟩]:=by decide+kernel
theorem Zn6:XH (Qf 15) 0=(20,0):=by decide+kernel
theorem Zl7:ZaG (Qf 15) Zky=(⟨200,260⟩,0):=by decide+kernel
theorem Zta:ZjJ (Qf 15) Zn3 0=(20,220,0):=by decide+kernel
end Sp
namespace Vm
open Go Go.Proofs
theorem ZcL {α H:Type} {f:α->H}:∀ {l:List α},(l.map f).Nodup->∀ {a b:α},a∈l->b∈l->f a=f b->a=b
 |x::l,h,a,b,ha,hb,e=>by
  rw[List.map_cons,List.nodup_cons]at h;rcases bG.1 ha with A|A<;>rcases bG.1 hb with G|G
  ·rw[A,G]
  ·rw[A]at e;exact absurd (bC.2 ⟨b,G,e.symm⟩) h.1
  ·rw[G]at e;exact absurd (bC.2 ⟨a,A,e⟩) h.1
  exact ZcL h.2 A G e
theorem NC.next {p:Unit->Program} {id ka n:Nat} {L:Unit->List (List Int×List Int)} {I:Unit->List (List Int)} {au:Unit->List Int×List Int} {h:List Zh} {aa:AV->List Zh->Prop} (hi:h[id]? =some (.gob (.mapIt ka n L I au)))
  (h1:(∀q∈L (),q.1∈I ())->aa (.tup [.bool λ_=>false]) h)
  (h2:∀e∈L (),e.1∉I ()->aa (.tup [.bool λ_=>true,Zfd ka λ_=>e.1,Zfd n λ_=>e.2]) (h.set id (.gob (.mapIt ka n L (λ_=>I ()++[e.1]) λ_=>e)))):NC p id h aa:=⟨λG R H=>by
 obtain⟨o,ho,hk,hg⟩:=H.blk id _ hi;have over:(∀q∈L (),q.1∈I ())->(∀ty,(Instr.next (.pointer (some ⟨(R.α id).b,0,none⟩)) false ty).run (p ()) R.w= .ok (.tuple #[.bool false]) R.w)->∃v V r h',(∀ty,(Instr.next (.pointer (some ⟨(R.α id).b,0,none⟩)) false ty).run (p ()) R.w= .ok v V.w)/\HR G V h'/\Xj R h V h'/\R.le V/\VR V r v/\aa r h':=λhs hr=>
  ⟨_,R,_,h,hr,H,Xj.refl _ _,RC.le.refl _,.tup [.bool λ_=>false] #[.bool false] rfl (λj c S=>by
   cases j with
   |zero=>simp at S;subst S;exact .pure _ _ (.bool _)
   |succ j=>simp at S),h1 hs⟩
 rcases hg with⟨g1,g2,Y,rfl⟩|⟨m,es,A,Y,l,rfl,g1,g2,Z,g4,g5⟩
 ·refine over (λq J=>by rw[g1]at J;cases J) λty=>?_;simp[Instr.next,getObj,Sem.run_bind,Sem.run,ho,Result.andThen]
 have ai:∀x∈es.toList,x.born<A:=λx hx=>by
  rw[<-Z.es]at hx;obtain⟨q,J,rfl⟩:=bC.1 hx;exact(Z.e q J).2.2.2
 have ah:∀q∈l,q.1∈(leftOf es Y).toList↔q.2.1∉I ():=λq J=>by
  have ba:q.1∈es.toList:=by rw[<-Z.es];exact bC.2 ⟨q,J,rfl⟩
  have:=g4 q J;unfold leftOf;simp only[ib,fk];rw[this];simp[ba]
 rcases run_next_at (P:=p ()) R.w 0 (R.α id).b m A A Y es A ho g1 ai (aI _)with⟨q1,_⟩|⟨e,U,w1,ae,q2⟩
 ·refine over (λq J=>?_) λty=>?_
  ·obtain⟨q',ab,e⟩:=bC.1 (Z.L.mem_iff.2 J);subst e;have h0:q'.1∉(leftOf es Y).toList:=by
    rw[show leftOf es Y= #[] by simpa using q1];simp
   have:=mt (ah q' ab).2 h0;exact Classical.not_not.1 this
  rcases run_next_at (P:=p ()) R.w ty (R.α id).b m A A Y es A ho g1 ai (aI _)with⟨_,q2⟩|⟨e,U,_⟩
  ·exact q2
  rw[show leftOf es Y= #[] by simpa using q1]at U;cases U
 have am:e∈es.toList:=by
  unfold leftOf at U;simp only[ib,fk]at U;exact U.1
 rw[<-Z.es]at am;obtain⟨q,J,rfl⟩:=bC.1 am;have aw:=(ah q J).1 U;have a9:q.2∈L ():=Z.L.mem_iff.1 (bC.2 ⟨q,J,rfl⟩);obtain⟨e1,e2,_,_⟩:=Z.e q J;have az:m≠(R.α id).b:=λU=>by rw[U,ho]at g1;cases g1
 have ak:∀q'∈l,(Y.push q.1.born).contains q'.1.born=(I ()++[q.2.1]).contains q'.2.1:=λq' ab=>by
  have aq:(q'.1.born=q.1.born)↔(q'.2.1=q.2.1):=⟨λU=>by rw[ZcL (f:=λz:MapEntry×(List Int×List Int)=>z.1.born) Z.bn ab J U],λU=>by rw[ZcL (f:=λz:MapEntry×(List Int×List Int)=>z.2.1) Z.nd ab J U]⟩;have:=g4 q' ab;rw[ej]at this|-;simp only[Array.contains_push,cJ,eX,iU,cP,aN,beq_iff_eq]at this|-;rw[this,aq]
 have ac:w1.heap=R.w.heap:=by rcases ae with rfl|rfl<;>rfl
 obtain⟨V,hw,_,ao,H',ar,aj⟩:=H.upd hi rfl (blk':=.gob (.mapIt ka n L (λ_=>I ()++[q.2.1]) λ_=>q.2)) rfl (ChangeMaps.setBlock w1 (R.α id).b (.mapIter (some m) A (Y.push q.1.born) A))
  (by rcases ae with rfl|rfl<;>rfl) (by rcases ae with rfl|rfl<;>rfl) (by rcases ae with rfl|rfl<;>rfl) (by simp[ChangeMaps.setBlock,ac])
  (λb hb=>by simp[ChangeMaps.setBlock,ac,aF (Ne.symm hb)]) (λV aj ao hw=>⟨.mapIter (some m) A (Y.push q.1.born) A,by
   rw[hw,ao]
   simp[ChangeMaps.setBlock,ac,(Array.getElem?_eq_some_iff.1 ho).1],rfl,.inr ⟨m,es,A,Y.push q.1.born,l,rfl,by
   rw[hw]
   simp[ChangeMaps.setBlock,ac,aF (Ne.symm az),g1],aj.ok _ _ _ g2,Z,ak,λ_=>⟨q,J,by simp,rfl⟩⟩⟩)
 refine⟨_,V,_,_,λty=>?_,H',ar,aj,.tup [.bool λ_=>true,Zfd ka λ_=>q.2.1,Zfd n λ_=>q.2.2] #[.bool true,q.1.key,q.1.val] rfl (λj c S=>?_),h2 _ a9 aw⟩
 ·rw[hw];exact q2
 match j,S with
 |0,S=>simp at S;subst S;exact .pure _ _ (.bool _)
 |1,S=>simp at S;subst S;show VR V _ q.1.key;rw[e1];exact ZaW V ka λ_=>q.2.1
 |2,S=>simp at S;subst S;show VR V _ q.1.val;rw[e2];exact ZaW V n λ_=>q.2.2
 |j+3,S=>simp at S⟩
end Vm
namespace Sp
open Vm
def Zg5 (t:Zb) (d i:Nat) (r a:Int):Bool:=
 decide ((ZE t (Zi t i) r a).comes≠(ZE t ((Zi t i).set d 0) r a).comes)||decide ((ZE t (Zi t i) r a).goes≠(ZE t ((Zi t i).set d 0) r a).goes)
def Yo (t:Zb) (d i:Nat) (r:Nat):Bool:=decide ((Zi t i).getD d 0≠0)&&(aP (Zl (callsOf t) r).length).any λa=>Zg5 t d i r a
def Xp (t:Zb) (d:Nat):Nat->Nat->Bool
 |0,_=>false
 |i+1,r=>Xp t d i r||Yo t d i r
def Zce (t:Zb) (d:Nat):List Int:=((aP 4).filter λr=>Xp t d (manyT t) r).map λ(r:Nat)=>(r:Int)
def X8 (t:Zb) (d:Int):List Int×Int:=if Zn t≠0 then([],Zn t)else if Qw d 0 ((t.delays.length:Int)-1)then([],3)else(Zce t d.toNat,0)
theorem ZqU:X8 (Qf 30) 0=([0,1],0)/\X8 (Qf 15) 0=([0],0):=by decide+kernel
theorem ZkL {ds:List ZR} (A:ds.length<=6) {x:List Int}:∀m,m<=ds.length->(∀k,k<m->0<=x.getD k 0/\x.getD k 0<lenAt ds k)->∃n,n<Yu ds m/\∀k,k<m->(Yb ds m n).getD k 0=x.getD k 0
 |0,_,_=>⟨0,by unfold Yu;omega,λk h=>by omega⟩
 |m+1,hm,hx=>by
  obtain⟨n,U,I⟩:=ZkL A m (by omega) λk G=>hx k (by omega);have S:=hx m (by omega);have J:0<lenAt ds m:=by omega
  have H:(n*lenAt ds m+(x.getD m 0).toNat)/lenAt ds m=n:=by
   rw[eg,Nat.mul_add_div J,Nat.div_eq_of_lt (by omega)];omega
  have hr:(n*lenAt ds m+(x.getD m 0).toNat)%lenAt ds m=(x.getD m 0).toNat:=by
   rw[eg,Nat.mul_add_mod,Nat.mod_eq_of_lt (by omega)]
  refine⟨n*lenAt ds m+(x.getD m 0).toNat,?_,λk G=>?_⟩
  ·unfold Yu;have:=Nat.mul_le_mul_right (lenAt ds m) (show n+1<=Yu ds m by omega);rw[Nat.add_mul]at this;omega
  unfold Yb;rw[H,hr];by_cases h:m=k
  ·subst h;rw[aA,cV (by rw[XG];omega)];show((x.getD m 0).toNat:Int)=_;omega
  rw[aA,cU h,<-aA];exact I k (by omega)
theorem Zs9 {x y:List Int} (H:x.length=6) (I:y.length=6) (h:∀k,k<6->x.getD k 0=y.getD k 0):x=y:=by
 refine List.ext_getElem (by omega) λk A G=>?_;have:=h k (by omega);rw[aA,aA,aD A,aD G]at this;exact this
theorem Zf6 {t:Zb} (G:ZA t) {x:List Int} (A:YH t x) (J:∀k,t.delays.length<=k->k<6->x.getD k 0=0):∃n,n<manyT t/\Zi t n=x:=by
 obtain⟨n,S,I⟩:=ZkL (ds:=t.delays) G.dlen (x:=x) t.delays.length (aI _) A.d;refine⟨n,S,Zs9 (XG _ _) A.len λk H=>?_⟩;by_cases h:k<t.delays.length
 ·exact I k h
 show(Yb t.delays t.delays.length n).getD k 0=_;rw[Jb _ _ _ (by omega),J k (by omega) H]
def keyT (x:List Int):List Int:=[x.getD 0 0,x.getD 1 0,x.getD 2 0,x.getD 3 0,x.getD 4 0,x.getD 5 0]
theorem ZqI {x y:List Int} (G:x.length=6) (H:y.length=6) (h:keyT x=keyT y):x=y:=by
 unfold keyT at h;simp only[cC,and_true]at h;refine Zs9 G H λk A=>?_;match k,A with
 |0,_=>exact h.1
 |1,_=>exact h.2.1
 |2,_=>exact h.2.2.1
 |3,_=>exact h.2.2.2.1
 |4,_=>exact h.2.2.2.2.1
 |5,_=>exact h.2.2.2.2.2
def ZaT (t:Zb) (d:Nat):Nat->List (List Int×List (List Int×List Int))
 |0=>[]
 |i+1=>if(Zi t i).getD d 0=0 then JD (ZaT t d i) (keyT (Zi t i)) (Qt t (Zi t i))else ZaT t d i
theorem ZeP {t:Zb} {d:Nat}:∀n,((ZaT t d n).map (·.1)).Nodup/\(∀p∈ZaT t d n,∃i,p=(keyT (Zi t i),Qt t (Zi t i)))/\∀i,i<n->(Zi t i).getD d 0=0->(keyT (Zi t i),Qt t (Zi t i))∈ZaT t d n
 |0=>⟨.nil,λp h=>(by cases h),λi h=>by omega⟩
 |n+1=>by
  obtain⟨I,H,S⟩:=ZeP (t:=t) (d:=d) n;unfold ZaT;split
  ·rename_i J;refine⟨Zeu I,λp G=>?_,λi U A=>?_⟩
   ·rcases Zgp G with rfl|G
    ·exact⟨n,rfl⟩
    exact H p G
   by_cases he:i=n
   ·subst he;exact Zet
   refine ZhW (S i (by omega) A) λe=>?_;have:=ZqI (XG _ _) (XG _ _) e;show Qt t (Zi t i)=_;rw[show Zi t i=Zi t n from this]
  rename_i J;refine⟨I,H,λi U A=>?_⟩;by_cases he:i=n
  ·subst he;exact absurd A J
  exact S i (by omega) A
theorem Zn5 {t:Zb} (H:ZA t) {d i:Nat} (V:d<t.delays.length):(ZaT t d (manyT t)).lookup (keyT ((Zi t i).set d 0))=some (Qt t ((Zi t i).set d 0)):=by
 have A:=Xn H i;have Y:=H.dlen;have G:∀k,((Zi t i).set d 0).getD k 0=if k=d then 0 else(Zi t i).getD k 0:=λk=>by
  by_cases h:k=d
  ·subst h;rw[iP rfl,aA,cV (by rw[A.len];omega)];rfl
  rw[iN h,aA,cU (Ne.symm h),<-aA]
 obtain⟨n,U,J⟩:=Zf6 H (x:=(Zi t i).set d 0) ⟨by rw[bP];exact A.len,λk I=>by
  rw[G];split
  ·have:=(A.d k I);omega
  ·exact A.d k I⟩ λk S Z=>by
  rw[G];split
  ·rfl
  exact Jb _ _ _ S
 rw[<-J];refine ZcO (ZeP _).1 ((ZeP _).2.2 n U ?_);rw[J,G,iP rfl]
theorem Zu8 {x:List Int} {D:Nat} (A:x.length=6) (G:D<6):(x.getD 0 0==(x.set D 0).getD 0 0&&(x.getD 1 0==(x.set D 0).getD 1 0&&(x.getD 2 0==(x.set D 0).getD 2 0&&(x.getD 3 0==(x.set D 0).getD 3 0&&(x.getD 4 0==(x.set D 0).getD 4 0&&(x.getD 5 0==(x.set D 0).getD 5 0&&true))))))=decide (x.getD D 0=0):=by
 match x,A with
 |[a0,a1,a2,a3,a4,a5],_=>
  match D,G with
  |0,_|1,_|2,_|3,_|4,_|5,_=>simp[List.set,List.getD];rfl
theorem ZlD {t:Zb} {d i:Nat} (h:(Zi t i).getD d 0=0) (r:Nat):Yo t d i r=false:=by
 unfold Yo;rw[iY (λA=>A h),Bool.false_and]
def Zl2 (W:List (List Int×List Int)) (p:List Int×List Int):Bool:=p.2.headD 0 !=((W.lookup p.1).getD []).headD 0||p.2.tail.tail.headD 0 !=((W.lookup p.1).getD []).tail.tail.headD 0
def cvE (L W:List (List Int×List Int)) (S:List (List Int)) (r:Nat):Bool:=L.any λp=>S.contains p.1&&(p.1.headD 0==(r:Int)&&Zl2 W p)
theorem Ztf {L W:List (List Int×List Int)} {r:Nat}:cvE L W [] r=false:=by
 unfold cvE;rw[eV];intro p _;simp
theorem Zq6 {L W:List (List Int×List Int)} {S:List (List Int)} {e:List Int×List Int} (A:e∈L) (G:(L.map (·.1)).Nodup) (r:Nat):cvE L W (S++[e.1]) r=(cvE L W S r||(e.1.headD 0==(r:Int)&&Zl2 W e)):=by
 unfold cvE;rw[ej];simp only[cZ,cJ,aU,eX,iU,cP,aN];constructor
 ·rintro⟨p,hp,h1|h1,h2⟩
  ·exact .inl ⟨p,hp,h1,h2⟩
  have:p=e:=ZcL (f:=λq:List Int×List Int=>q.1) G hp A h1;subst this;exact .inr h2
 rintro(⟨p,hp,h1,h2⟩|h2)
 ·exact⟨p,hp,.inl h1,h2⟩
 exact⟨e,A,.inr rfl,h2⟩
theorem Zkv {t:Zb} {x:List Int}:((Qt t x).map (·.1)).Nodup:=by
 unfold Qt;rw[List.map_map]
 exact List.Pairwise.map _ (λa b A e=>by
  apply A;simp only[Function.comp,cC,and_true]at e
  exact Prod.ext e.1 e.2) Zb7
theorem Zkw {t:Zb} (H:ZA t) {x:List Int} {p:List Int×List Int} (G:p∈Qt t x): [p.1.headD 0,p.1.tail.headD 0]=p.1/\0<=p.1.headD 0/\p.1.headD 0<4:=by
 obtain⟨⟨r,a⟩,A,rfl⟩:=bC.1 G;have A:=J5.1 A;have:=H.calls.len;exact⟨rfl,A.1,by have:=A.2.1;show r<4;omega⟩
theorem ZmL {L:List (List Int×List Int)} {S:List (List Int)} {e:List Int×List Int} (G:e∈L) (H:e.1∉S):(L.filter λq=> !(S++[e.1]).contains q.1).length<(L.filter λq=> !S.contains q.1).length:=by
 refine ZeQ (x:=e) (λq A=>?_) G (by simpa using H) (by simp);simp only[cG,eX,cP,iV]at A|-;exact λh=>A (.inl h)
theorem Ztg {t:Zb} {d i:Nat} (V:(Zi t i).getD d 0≠0) {S:List (List Int)} (U:∀p∈Qt t (Zi t i),p.1∈S) {r:Nat}:cvE (Qt t (Zi t i)) (Qt t ((Zi t i).set d 0)) S r=Yo t d i r:=by
 have H:∀r a,StopIn (callsOf t) r a->Zl2 (Qt t ((Zi t i).set d 0)) ([r,a],Zc4 (ZE t (Zi t i) r a))=Zg5 t d i r a:=λr a A=>by
  unfold Zl2 Zg5;rw[Zbd A];show((ZE t (Zi t i) r a).comes !=(ZE t ((Zi t i).set d 0) r a).comes||(ZE t (Zi t i) r a).goes !=(ZE t ((Zi t i).set d 0) r a).goes)=_;rw[ej];simp
 unfold cvE Yo;rw[iZ V,Bool.true_and,ej];simp only[cZ,aU,eX,iU,bV,beq_iff_eq];constructor
 ·rintro⟨p,hp,_,I,G⟩;obtain⟨⟨J,a⟩,A,rfl⟩:=bC.1 hp;have A:=J5.1 A;have I:J=(r:Int):=I;subst I;have G:Zl2 (Qt t ((Zi t i).set d 0)) ([(r:Int),a],Zc4 (ZE t (Zi t i) r a))=true:=G;rw[H _ _ A]at G;exact⟨a.toNat,by have:=A.2.2.2;have:=A.2.2.1;omega,by rw[show((a.toNat:Nat):Int)=a by have:=A.2.2.1;omega];exact G⟩
 rintro⟨a,ha,G⟩;by_cases hr:r<(callsOf t).length
 ·have A:StopIn (callsOf t) r a:=⟨by omega,by omega,by omega,by omega⟩;have hm:([(r:Int),(a:Int)],Zc4 (ZE t (Zi t i) r a))∈Qt t (Zi t i):=bC.2 ⟨((r:Int),(a:Int)),J5.2 A,rfl⟩;exact⟨_,hm,U _ hm,rfl,by rw[H _ _ A];exact G⟩
 exfalso;have:Zl (callsOf t) r=[]:=by
  unfold Zl;rw[aA,List.getElem?_eq_none (by omega)];rfl
 rw[this]at ha;simp at ha
end Sp
namespace Vm
attribute [local irreducible] Dn
open Go Go.Proofs Sp
set_option maxRecDepth 100000
set_option maxHeartbeats 4000000
theorem Zlg.join3 {A B:Prop} {α I U:Type} {G P:α->I->U->Prop} (S:(∀a c d,P a c d->G a c d)->A) (J:(∀a c d,P a c d->G a c d)->B) (H:∀a c d,P a c d->G a c d):Zlg A B:=⟨S H,J H⟩
structure Zle (st:Nat) (number:Int) (t:Train):Prop where
 made:Zis 1 st number t
 days:t.days=127
 late:∀s∈t.stops,s.depart<=1000
 asc:∀k,k+1<t.stops.length->(t.stops.getD k default).depart<(t.stops.getD (k+1) default).arrive
theorem ZyA (s number:Int) (st:Nat) (hs:2<=st/\st<=10):SC (λ_=>aB) 74 [.ptr 0 0,.int .i64 λ_=>number,.int .i64 λ_=>(st:Int)] [X1 s] λv h=>∃(t:Train) (s':Int),Zle st number t/\v= .agg (encTrain t)/\h=[X1 s']:=by
 obtain⟨nt,O⟩:=Zm;refine SC.less (Qq Tryz.func74 (body:=Zj Tryz.f74) rfl (by decide+kernel) ?_);refine wS ?_;refine cL0 [0] (c17 s 90 (by omega)) λr I G=>?_;(try simp only[Ze,Zd,Za O]at G);obtain⟨A,s1,Y,rfl,rfl⟩:=G;refine wS ?_;refine cL0 [0] (Zy0 s1 st (by omega)) λr I G=>?_;(try simp only[Ze,Zd,Za O]at G);obtain⟨L,s4,Z,rfl,rfl⟩:=G;refine wS ?_;have ah:2<=(if(st:Int)<4 then(st:Int)else 4)/\(if(st:Int)<4 then(st:Int)else 4)<=4/\(if(st:Int)<4 then(st:Int)else 4)<=st:=by split<;>omega
 generalize (if(st:Int)<4 then(st:Int)else 4)=mn at*;refine cL0 [0] (c22 s4 2 mn (by omega) (by omega)) λr I G=>?_;(try simp only[Ze,Zd,Za O]at G);obtain⟨m,s5,hm,rfl,rfl⟩:=G;refine wS ?_;obtain⟨m,rfl⟩:∃k:Nat,m=k:=⟨m.toNat,by omega⟩;refine ZG false false [] [0,6,7,8,9,10] [.tok 4 λ_=>0] (λ(⟨i,A,s,out⟩:Nat×Int×Int×List Stop)=>[(8,.int .i64 λ_=>60+A),(10,.int .i64 λ_=>i)])
  (λ⟨i,A,s,out⟩=>[(0,X1 s),(2,.cells [.int .i64 λ_=>number,.int .i64 λ_=>127,.isl 4 (λ_=>(out.length:Int)) (λe=>QK (nt Stop default out (e ()))) (.own 3)]),(3,.tok 4 λ_=>(out.length:Int))])
  (λ⟨i,A,s,out⟩=>i<=m/\out.length+i=m/\(0<=A/\A<=90+70*(out.length:Int))/\(∀x∈out,(0<=x.station/\x.station<st)/\(0<=x.zone/\x.zone<1)/\0<=x.arrive/\x.arrive<=x.depart/\x.depart<60+A)/\out.Pairwise (λa b=>a.station≠b.station)/\(∀x∈out,∃j,i<=j/\j<m/\x.station=L.getD j 0)/\∀k,k+1<out.length->(out.getD k default).depart<(out.getD (k+1) default).arrive) (λi=>i.1+0) (m,A,s5,[]) ⟨aI _,by simp,by simp;omega,by simp,.nil,by simp,by simp⟩ ?_ ?_
 ·(refine To.of [(4,false)] ?_;cbv;(try simp only[nc]);(repeat' first|exact xT|refine⟨?_,?_⟩|refine ZK.cells ?_|refine Zz.agg ?_|refine Zz.tup ?_);all_goals try exact XU)
 rintro⟨i,A,s,out⟩ ⟨hi,hlen,Y,hall,hpw,hst,hasc⟩;refine wS ?_;refine⟨λV=>?_,λV=>?_⟩
 ·simp only[iU]at V;have ab:=Z.bd (i-1) (by omega);have ac:nt Int 0 L ((i:Int)-1)=L.getD (i-1) 0:=by rw[O];congr 1;omega
  have ae:=Z.len;refine wS ?_;apply Zlg.join3 (P:=λ(x y s8:Int)=>0<=y/\y<=20)
  ·intro M;refine cL0 [0] (c17 s 20 (by omega)) λr I G=>?_;(try simp only[Ze,Zd,Za O]at G);obtain⟨x,s7,H,rfl,rfl⟩:=G;refine wS ?_;refine⟨?_,?_⟩
   ·skip
    refine cL0 [0] (ZkU s7 [0,x] (by simp)) λr I G=>?_;(try simp only[Ze,Zd,Za O]at G);obtain⟨y,s8,J,rfl,rfl⟩:=G;have J:0<=y/\y<=20:=by simp at J;omega
    refine wS ?_;exact M x y s8 J
   refine wS ?_;refine cL0 [0] (ZkU s7 [0,x] (by simp)) λr I G=>?_;(try simp only[Ze,Zd,Za O]at G);obtain⟨y,s8,J,rfl,rfl⟩:=G;have J:0<=y/\y<=20:=by simp at J;omega
   refine wS ?_;exact M x y s8 J
  ·intro M;refine wS ?_;refine cL0 [0] (c17 s 20 (by omega)) λr I G=>?_;(try simp only[Ze,Zd,Za O]at G);obtain⟨x,s7,H,rfl,rfl⟩:=G;refine wS ?_;refine cL0 [0] (ZkU s7 [0,x] (by simp)) λr I G=>?_;(try simp only[Ze,Zd,Za O]at G);obtain⟨y,s8,J,rfl,rfl⟩:=G;have J:0<=y/\y<=20:=by simp at J;omega
   refine wS ?_;refine SC.mono (M x y s8 J) λr h' hr=>?_;revert hr;generalize JB _ _ _ _ _ _=z;cases z with
   |none=>exact id
   |some z=>exact λh=>ZuO (by decide) h
  intro x y s8 J;rw[ac];refine cL0 [0] (c22 s8 10 50 (by omega) (by omega)) λr I G=>?_;(try simp only[Ze,Zd,Za O]at G);obtain⟨q,s9,hq,rfl,rfl⟩:=G;refine wS ?_;obtain⟨j,rfl⟩:∃j,i=j+1:=⟨i-1,by omega⟩;refine⟨(j,A+y+q,s9,out++[⟨L.getD j 0,0,60+A,60+A+y⟩]),⟨by omega,by simp only[bA,bF,cF];omega,by simp only[bA,bF,cF];omega,?_,?_,?_,?_⟩,by show j+0<j+1+0;omega,?_⟩
  ·intro x H;rcases cP.1 H with H|H
   ·have:=hall x H;refine⟨this.1,this.2.1,this.2.2.1,this.2.2.2.1,?_⟩;show x.depart<60+(A+y+q);omega
   simp only[aN]at H;subst H;simp only[Nat.add_sub_cancel]at ab;dsimp only;omega
  ·refine List.pairwise_append.2 ⟨hpw,List.pairwise_singleton _ _,λc hc e he=>?_⟩;simp only[aN]at he;subst he;obtain⟨k,aa,S,U⟩:=hst c hc;dsimp only;rw[U];intro e;have:=Z.inj _ _ (by omega) (by omega) e;omega
  ·intro x H;rcases cP.1 H with H|H
   ·obtain⟨k,aa,S,U⟩:=hst x H;exact⟨k,by omega,S,U⟩
   simp only[aN]at H;subst H;exact⟨j,aI _,by omega,rfl⟩
  ·intro k hk;simp only[bA,bF,cF]at hk;by_cases S:k+1<out.length
   ·simp only[aA,bO S,bO (show k<out.length by omega)];simp only[<-aA];exact hasc k S
   have U:k+1=out.length:=by omega
   have hm:out.getD k default∈out:=by rw[aA,aD (by omega)];exact bM _
   have:=hall _ hm;have e2:(out++[(⟨L.getD j 0,0,60+A,60+A+y⟩:Stop)]).getD (k+1) default=⟨L.getD j 0,0,60+A,60+A+y⟩:=by rw[U];simp[aA]
   have e3:(out++[(⟨L.getD j 0,0,60+A,60+A+y⟩:Stop)]).getD k default=out.getD k default:=by simp only[aA,bO (show k<out.length by omega)]
   rw[e2,e3];exact this.2.2.2.2
  exact ZB
 simp only[iV]at V;refine wS ?_;refine⟨.agg (encTrain ⟨number,127,out⟩),[X1 s],?_,⟨number,127,out⟩,s,⟨⟨rfl,by dsimp only;omega,by dsimp only;omega,λx H=>?_,hpw⟩,rfl,λx H=>?_,hasc⟩,rfl,rfl⟩
 ·unfold encTrain;simp only[Za O];exact ZB
 ·have:=hall x H;exact⟨this.1,this.2.1,this.2.2.1,this.2.2.2.1,by omega⟩
 have:=hall x H;omega
theorem Zyz (l:List Sp.QH) (w:Sp.QH) (Y:l.length<=1000000):SC (λ_=>aB) 76 [lst 4 Qz default l,.agg (Qz w)] [] λv h=>v= .bool (λ_=>l.any λx=>decide (x.feeder=w.feeder/\x.train=w.train/\x.station=w.station))/\h=[]:=by
 obtain⟨U,O⟩:=Zm;generalize S:(l.any λx=>decide (x.feeder=w.feeder/\x.train=w.train/\x.station=w.station))=E;unfold Qz;simp only[Za O];refine Qq Tryz.func76 (body:=Zj Tryz.f76) rfl (by decide+kernel) ?_;refine wS ?_;refine ZG false false [] [0,3,5] [] (λ(i:Nat)=>[(5,.int .i64 λ_=>i)]) (λ_=>[]) (λi=>i<=l.length/\(l.drop i).any (λx=>decide (x.feeder=w.feeder/\x.train=w.train/\x.station=w.station))=E) (λi=>l.length-i+0) 0 ⟨aT _,S⟩ ?_ ?_
 ·exact ZB
 rintro i ⟨Z,A⟩;refine wS ?_;refine⟨λH=>?_,λH=>?_⟩
 ·have H:=iW H;have J:=Qs (d:=default) O (l:=l) (i:=i) (by omega);rw[J,List.any_cons]at A;generalize V:U Sp.QH default l i=x at*;refine vS ?_;try simp only[V]
  try refine Chk.mk (ZH) ?_
  have I:(bif (bif x.feeder==w.feeder then x.train==w.train else false)then x.station==w.station else false)=decide (x.feeder=w.feeder/\x.train=w.train/\x.station=w.station):=by
   by_cases e1:x.feeder=w.feeder<;>by_cases e2:x.train=w.train<;>by_cases e3:x.station=w.station<;>simp[e1,e2,e3]
  refine⟨λG=>?_,λG=>?_⟩
  ·rw[I]at G;rw[G,cS]at A;subst A;exact zW
  rw[I]at G;rw[G,bZ]at A;refine wS ?_;refine⟨i+1,⟨by omega,A⟩,by show l.length-(i+1)+0<l.length-i+0;omega,?_⟩;exact ZB
 have H:=iX H;rw[bB (by omega),List.any_nil]at A;subst A;exact zW
end Vm
namespace Sp
def Xb (b:Xy) (d:Z6):List Call×Bool:=if Xf (Run b d.number d.day).1≠0 then([],false)else((Run b d.number d.day).1,decide ((Run b d.number d.day).2=0))
end Sp
namespace Vm
attribute [local irreducible] Dn
open Go Go.Proofs Sp
set_option maxRecDepth 100000
set_option maxHeartbeats 4000000
theorem ZvB (b:Xy) (d:Sp.Z6) (Z:Xk b):SC (λ_=>aB) 75 [Zd b,.agg (Zk d)] [] λv h=>v= .tup [lst 3 XY default (Xb b d).1,.bool λ_=>(Xb b d).2]/\h=[]:=by
 obtain⟨V,O⟩:=Zm;have k:=ZvE b d.number d.day Z;have S:=(ZdN b d.number d.day).1;have H:Xb b d=if Xf (Run b d.number d.day).1≠0 then([],false)else((Run b d.number d.day).1,decide ((Run b d.number d.day).2=0)):=rfl
 generalize Xb b d=E at*;generalize Run b d.number d.day=r at*;obtain⟨C,er⟩:=r;unfold Zd Zk at*;simp only[Za O]at*;refine SC.less (Qq Tryz.func75 (body:=Zj Tryz.f75) rfl (by decide+kernel) ?_);refine wS ?_;refine ZN (k) (by first|rfl|(simp only[Ze,Zd,Za O];rfl)) λr aa U=>?_;(try simp only[Ze,Zd,Za O]at U);obtain⟨rfl,rfl⟩:=U;try dsimp only at H S
 refine wS ?_;refine XD λQ Y=>?_;refine ZG false false [] [6,7,8] [] (λ(j:Nat)=>[(8,.int .i64 λ_=>((j+1:Nat):Int))]) (λ_=>[]) (λj=>Xf C=Zo (YM C) (j+1) (C.length-(j+1))) (λj=>C.length-(j+1)+0) 0 rfl ?_ ?_
 ·exact ZB
 rintro j A;refine wS ?_;refine⟨λJ=>?_,λJ=>?_⟩
 ·simp only[iU]at J;rw[Qp (by omega)]at A;have G:YM C (j+1)=if(V Sp.Call default C ((j+1:Nat):Int)).arrive<=(V Sp.Call default C (((j+1:Nat):Int)-1)).depart then 5 else 0:=by
   unfold YM;rw[XL O,XL O,show((j+1-1:Nat):Int)=((j+1:Nat):Int)-1 by omega]
  refine wS ?_;refine⟨λI=>?_,λI=>?_⟩
  ·simp only[iU]at I;rw[iP (by omega)]at G;rw[G,iP (by decide)]at A;rw[iP (by rw[A];decide)]at H;subst H;refine wS ?_;refine Y _ _ _ ?_;refine wS ?_;refine⟨_,[],?_,rfl,rfl⟩;exact ZB
  simp only[iV]at I;rw[iN (by omega)]at G;rw[G,iN (λh=>h rfl)]at A;refine wS ?_;refine⟨j+1,A,by show C.length-(j+1+1)+0<C.length-(j+1)+0;omega,?_⟩;exact ZB
 simp only[iV]at J;rw[QF (by omega)]at A;rw[iN (λh=>h A)]at H;subst H;refine wS ?_;refine Y _ _ _ ?_;refine wS ?_;refine⟨_,[],?_,rfl,rfl⟩;exact ZB
theorem Zxr (b:Xy) (d:Sp.Z6) (A:Xk b) (G:(Xb b d).2=false):SC (λ_=>aB) 75 [Zd b,.agg (Zk d)] [] λv h=>v= .tup [.undef,.bool λ_=>false]/\h=[]:=by
 refine SC.less (SC.mono (ZvB b d A) λr H hr=>?_);obtain⟨rfl,rfl⟩:=hr;rw[G];generalize (Xb b d).1=C;refine⟨.tup [.undef,.bool λ_=>false],[],?_,rfl,rfl⟩;exact ZB
end Vm
namespace Vm
open Sp
theorem ZbM {f:Nat->Int}:∀ {k i:Nat},(∀j,i<=j->j<i+k->f j=0)->Zo f i k=0
 |0,_,_=>rfl
 |k+1,i,h=>by
  unfold Zo;rw[iN (λA=>A (h i (aI _) (by omega)))];exact ZbM λj G H=>h j (by omega) (by omega)
theorem ZgT {n a b:Int} (A:a<=n) (G:n<=b):Y5 n a b=true:=by simp[Y5,A,G]
theorem Zby {n a b:Int} (A:a<=n) (G:n<=b):Qw n a b=false:=by unfold Qw;rw[ZgT A G];rfl
theorem Zra {n a b:Int} (A:a<=n) (G:n<=b):ZQ n a b=0:=by
 unfold ZQ;rw[iN (by omega),iN (by omega)]
theorem ZoE {k:Int} {z:Zone} (h:Zrp k z) (hk:k<=3):Zy z=0:=by
 have hb:=h.base;have hl:=h.len;unfold Zy;rw[iN (by simp[Y5];omega),iN (by omega)];have J:∀(l:List Chg) (p:Option Int),(∀c∈l,0<=c.at_/\c.at_<=43200/\ZrF c.by_)->l.Pairwise (λa b=>a.at_<b.at_)->(∀a,p=some a->∀c∈l,a<c.at_)->Jp p l=0:=by
  intro l;induction l with
  |nil=>intro p _ _ _;exact Zdv p
  |cons c l Y=>
   intro p A G h3;obtain⟨b1,b2,b3⟩:=A c (aW ..);have S:leP p c.at_=false:=by
    cases p with
    |none=>rfl
    |some a=>have:=h3 a rfl c (aW ..);simp[leP];omega
   rw[Y2,iN (by simp[Y5];omega),S];unfold ZrF at b3;have Z:(!Y5 c.by_ (-180) 180||decide (c.by_=0))=false:=by
    have V:Y5 c.by_ (-180) 180=true:=by simp[Y5];omega
    have U:decide (c.by_=0)=false:=by simp;omega
    rw[V,U];rfl
   rw[Z];simp only[aY,if_false];rw[List.pairwise_cons]at G;exact Y _ (λx I=>A x (aS _ I)) G.2 λa e x I=>by cases e;exact G.1 x I
 exact J _ none (λc H=>by
  have A:=h.at_ c H;have:0<z.chs.length:=List.length_pos_of_mem H
  exact⟨A.1,by omega,h.by_ c H⟩) h.asc λa e=>by cases e
theorem ZgS {α:Type} {q:α->Bool} {d:α}:∀ {l:List α} {i:Nat} {k:Int},i<l.length->q (l.getD i d)=true->(∀j,j<i->q (l.getD j d)=false)->Zu q k l=k+i
 |[],i,k,h,_,_=>by simp at h
 |a::l,i,k,h,hi,hj=>by
  unfold Zu;cases i with
  |zero=>
   rw[show q a=true from hi,iP rfl];simp
  |succ i=>
   rw[show q a=false from hj 0 (by omega),iN aO,ZgS (d:=d) (i:=i) (by simpa using h) hi λj A=>hj (j+1) (by omega)];omega
theorem ZsT {α:Type} {d:α} {l:List α} {i:Nat} (h:i<l.length):l.getD i d∈l:=by rw[aA,aD h];exact bM _
theorem Zqt {α:Type} {d:α} {r:α->α->Prop} {l:List α} (h:l.Pairwise r) {i j:Nat} (G:i<j) (A:j<l.length):r (l.getD i d) (l.getD j d):=by
 have:=List.pairwise_iff_getElem.1 h i j (by omega) A G;rw[aA,aA,aD (by omega),aD A];exact this
structure DL (n:Int) (l:List Train):Prop where
 all:∀(k:Nat),k<l.length->∃st:Nat,2<=st/\st<=10/\Zle st (n-k) (l.getD k default)
theorem DL.snoc {n:Int} {l:List Train} {t:Train} {st:Nat} (h:DL n l) (G:2<=st/\st<=10) (H:Zle st (n-l.length) t):DL n (l++[t]):=⟨λk A=>by
 simp only[bA,bF,cF]at A;by_cases h2:k<l.length
 ·rw[aA,bO h2,<-aA];exact h.all k h2
 have A:k=l.length:=by omega
 subst A;have e:(l++[t]).getD l.length default=t:=by simp[aA]
 rw[e]
 exact⟨st,G.1,G.2,H⟩⟩
def Zt (z:Zone) (old:List Train):Xy:=⟨[z],old,[],1,0⟩
theorem Zte {st:Nat} {number:Int} {t:Train} (aa:st<=10) (h:Zis 1 st number t):Jd 1 t.stops=0:=by
 refine ZbM λj _ G=>?_;have G:j<t.stops.length:=by omega
 obtain⟨S,J,V,h4,U⟩:=h.stop _ (ZsT (d:=default) G);unfold Xm Jq;rw[ZgT S.1 (by omega)];have A:(t.stops.take j).any (λx=>decide (x.station=(t.stops.getD j default).station))=false:=by
  rw[eV];intro x Z;obtain⟨i,Y,rfl⟩:=dQ.1 Z;have H:i<j:=by simp at Y;omega
  have:=Zqt (d:=default) h.nodup H G;rw[aA,aD (show i<t.stops.length by omega)]at this;simpa using this
 rw[A,ZgT J.1 (by omega),ZgT V (by omega),ZgT (by omega:(0:Int)<=_) U];have I:decide ((t.stops.getD j default).depart<(t.stops.getD j default).arrive)=false:=iY (by omega);rw[I];simp
theorem Zfx {n:Int} {l:List Train} (h:DL n l) {i:Nat} (hi:i<l.length):(l.getD i default).number=n-i:=by
 obtain⟨st,_,_,A⟩:=h.all i hi;exact A.made.number
theorem Zjn {z:Zone} {n:Int} {l:List Train} (Y:Zy z=0) (h:DL n l) (hn:n=l.length) (hl:l.length<=4):Yl (Zt z l)=0:=by
 have S:Qm 1 l=0:=by
  unfold Qm;rw[Zra (show(0:Int)<=l.length by omega) (by omega),iN (λh=>h rfl)];refine ZbM λj _ A=>?_;have A:j<l.length:=by omega
  obtain⟨st,_,J,H⟩:=h.all j A;have U:=H.made.len;unfold Q9;rw[ZgT (by rw[Zfx h A];omega) (by rw[Zfx h A];omega)];have I:(l.take j).any (λx=>decide (x.number=(l.getD j default).number))=false:=by
   rw[eV];intro x G;obtain⟨i,V,rfl⟩:=dQ.1 G;have Z:i<j:=by simp at V;omega
   have G:=Zfx h (show i<l.length by omega);rw[aA,aD (show i<l.length by omega)]at G;rw[Zfx h A,List.getElem_take];have G:l[i].number=n-i:=G;rw[G];simp;omega
  rw[I,ZgT H.made.days.1 H.made.days.2,Zra (by omega) (by omega)];simp only[Bool.not_true,aY,if_false,ne_eq,not_true_eq_false];exact Zte J H.made
 unfold Yl Zt;simp only[bF,cF];rw[show Qm ((0+1:Nat):Int) l=0 from S]
 rw[ZbM (f:=λi=>Zy ([z].getD i default)) (k:=0+1) (i:=0) (λj _ A=>by
  have:j=0:=by omega
  subst this
  exact Y)]
 rfl
theorem ZmM {z:Zone} {n:Int} {l:List Train} (J:Yl (Zt z l)=0) (h:DL n l) {j:Nat} (A:j<l.length):Run (Zt z l) (l.getD j default).number 0=(Sp.calls [z] (l.getD j default) 0,0):=by
 obtain⟨st,_,S,I⟩:=h.all j A;have H:place l (l.getD j default).number=j:=by
  unfold place
  rw[ZgS (d:=default) A (by simp) λi U=>by
   rw[Zfx h A,Zfx h (show i<l.length by omega)];simp
   omega]
  omega
 unfold Run;rw[iN (λG=>G J)];show(if(!Y5 0 0 0)=true then _ else _)=_;rw[iN (by decide)];show(if place l (l.getD j default).number<0 then _ else if(!Zb8 (l.getD (place l (l.getD j default).number).toNat default) 0)=true then _ else(Sp.calls [z] (l.getD (place l (l.getD j default).number).toNat default) 0,0))=_;rw[H,iN (by omega),aV];have:Zb8 (l.getD j default) 0=true:=by
  unfold Zb8;rw[I.days];decide
 rw[this];rfl
theorem Zhb (G:List Zone) (day:Int) (many:Nat):∀(l:List Stop) (i:Nat) (A:Int),(Xc G day many i A l).map (·.station)=l.map (·.station)
 |[],_,_=>rfl
 |s::r,i,A=>by
  unfold Xc;split
  ·simp[Zhb G day many r]
  simp[Zhb G day many r]
structure Zlb (r:List Sp.Call):Prop where
 len:2<=r.length/\r.length<=4
 st:r.Pairwise λa b=>a.station≠b.station
 asc:Xf r=0
theorem Zqi {z:Zone} {st:Nat} {number:Int} {t:Train} (h:Zle st number t) (H:Xf (Sp.calls [z] t 0)=0):Zlb (Sp.calls [z] t 0):=by
 have G:(Sp.calls [z] t 0).length=t.stops.length:=Jf _ _ _ _ _ _;refine⟨by rw[G];exact⟨h.made.len.1,h.made.len.2.1⟩,?_,H⟩;have e:(Sp.calls [z] t 0).map (·.station)=t.stops.map (·.station):=Zhb _ _ _ _ _ _;have A:(t.stops.map (·.station)).Pairwise (· ≠·):=im.2 h.made.nodup;rw[<-e]at A;exact im.1 A
def eAt (many i:Nat) (s:Stop):Sp.Call:=if i=0 then⟨s.station,if i+1<many then s.depart else 0,if i+1<many then s.depart else 0⟩else⟨s.station,s.arrive,if i+1<many then s.depart else s.arrive⟩
def eGo (many:Nat):Nat->List Stop->List Sp.Call
 |_,[]=>[]
 |i,s::r=>eAt many i s::eGo many (i+1) r
theorem ZqM {r A:Int} (G:0<=r/\r<=10000) (H:0<=A/\A<=r):Xe (ZX ⟨0,[]⟩) r A=r:=by
 show(if max 0 (max A (r-0))<XJ then max 0 (max A (r-0))else XJ)=r;unfold XJ;rw[iP (by omega)];omega
theorem ZqO {many:Nat}:∀(l:List Stop) (i:Nat) (A:Int),(∀s∈l,s.zone=0/\0<=s.arrive/\s.arrive<=s.depart/\s.depart<=5000)->(∀k,k+1<l.length->(l.getD k default).depart<(l.getD (k+1) default).arrive)->
  (0<=A/\∀s∈l.head?,if i=0 then A=0 else A<s.arrive)->Xc [⟨0,[]⟩] 0 many i A l=eGo many i l
 |[],_,_,_,_,_=>rfl
 |s::r,i,A,hs,ha,hn=>by
  obtain⟨z0,a0,a1,a2⟩:=hs s (aW ..);have aa:=hn.1;have H:=hn.2 s (by simp);have hz:([⟨0,[]⟩]:List Zone).getD s.zone.toNat default=⟨0,[]⟩:=by rw[z0];rfl
  have G:∀d:Int,0<=d->d<=s.depart->0<=d/\∀U∈r.head?,if i+1=0 then d=0 else d<U.arrive:=λd h1 Z=>⟨h1,λU J=>by
   rw[iN (by omega)];cases r with
   |nil=>cases J
   |cons x r=>
    have:x=U:=by simpa using J
    subst this;have:=ha 0 (by simp)
    exact Int.lt_of_le_of_lt Z this⟩
  have S:∀k,k+1<r.length->(r.getD k default).depart<(r.getD (k+1) default).arrive:=λk V=>ha (k+1) (by simpa using V);have I:∀s∈r,s.zone=0/\0<=s.arrive/\s.arrive<=s.depart/\s.depart<=5000:=λx Y=>hs x (aS _ Y);unfold Xc eGo eAt;rw[hz];by_cases h0:i=0
  ·rw[iP h0]at H;subst H;simp only[iP h0];have e:Xe (ZX ⟨0,[]⟩) (1440*0+s.depart) 0=s.depart:=by rw[show(1440:Int)*0+s.depart=s.depart by omega];exact ZqM (by omega) (by omega)
   rw[e];rw[ZqO r (i+1) _ I S (G _ (by split<;>omega) (by split<;>omega))]
  rw[iN h0]at H;simp only[iN h0];have e:Xe (ZX ⟨0,[]⟩) (1440*0+s.arrive) A=s.arrive:=by rw[show(1440:Int)*0+s.arrive=s.arrive by omega];exact ZqM (by omega) (by omega)
  have e2:Xe (ZX ⟨0,[]⟩) (1440*0+s.depart) s.arrive=s.depart:=by rw[show(1440:Int)*0+s.depart=s.depart by omega];exact ZqM (by omega) (by omega)
  rw[e,e2];rw[ZqO r (i+1) _ I S (G _ (by split<;>omega) (by split<;>omega))]
theorem Zjl {many:Nat}:∀(l:List Stop) (i k:Nat),k<l.length->(eGo many i l).getD k default=eAt many (i+k) (l.getD k default)
 |[],_,k,h=>by simp at h
 |s::r,i,0,_=>rfl
 |s::r,i,k+1,h=>by
  have:=Zjl (many:=many) r (i+1) k (by simpa using h);rw[show i+1+k=i+(k+1) by omega]at this;exact this
theorem ZlA {st:Nat} {number:Int} {t:Train} (h:Zle st number t):Xf (Sp.calls [⟨0,[]⟩] t 0)=0:=by
 have e:Sp.calls [⟨0,[]⟩] t 0=eGo t.stops.length 0 t.stops:=ZqO _ _ _ (λs A=>by
  have:=h.made.stop s A;have:=h.late s A
  omega) h.asc ⟨bS _,λs A=>by rw[iP rfl]⟩
 have G:(Sp.calls [⟨0,[]⟩] t 0).length=t.stops.length:=Jf _ _ _ _ _ _;unfold Xf;rw[G,e];refine ZbM λk U S=>?_;have J:=h.made.len;unfold YM;rw[Zjl _ _ _ (by omega),Zjl _ _ _ (by omega)];have H:=h.asc (k-1) (by omega);rw[show k-1+1=k by omega]at H;have A:=h.made.stop _ (ZsT (d:=default) (show k-1<t.stops.length by omega));have I:(eAt t.stops.length (0+k) (t.stops.getD k default)).arrive=(t.stops.getD k default).arrive:=by unfold eAt;rw[iN (by omega)]
 have V:(eAt t.stops.length (0+(k-1)) (t.stops.getD (k-1) default)).depart<=(t.stops.getD (k-1) default).depart:=by
  unfold eAt;split
  ·show(if _ then _ else(0:Int))<=_;split<;>omega
  show(if _ then _ else _)<=_;split<;>omega
 rw[I,iN (by omega)]
theorem ZmE {r:List Sp.Call} (G:r.Pairwise λa b=>a.station≠b.station) {f i:Nat} (H:f<=i) (hi:i<r.length):ZP r f (r.getD i default).station=i:=by
 unfold ZP;rw[show(max 0 (f:Int))=f by omega,aV];have A:∀j,(r.drop f).getD j default=r.getD (f+j) default:=λj=>by simp[aA,List.getElem?_drop]
 rw[ZgS (d:=default) (i:=i-f) (by rw[List.length_drop];omega) (by rw[A,show f+(i-f)=i by omega];simp) λj I=>by
  rw[A];have:=Zqt (d:=default) G (show f+j<i by omega) hi
  simpa using this]
 omega
theorem Zgl {c:List (List Sp.Call)} {f:Int} (h:0<=f/\f<c.length):Sp.Zl c f∈c:=by
 unfold Sp.Zl;exact ZsT (by omega)
theorem ZrJ {c:List (List Sp.Call)} (S:∀r∈c,Zlb r) {w:Sp.QH} {A:List Sp.QH} {i k:Nat} (G:0<=w.feeder/\w.feeder<c.length) (I:0<=w.train/\w.train<c.length) (H:w.feeder≠w.train) (hi:1<=i/\i<(Sp.Zl c w.feeder).length) (hk:k+1<(Sp.Zl c w.train).length)
  (Z:w.station=((Sp.Zl c w.feeder).getD i default).station) (J:((Sp.Zl c w.train).getD k default).station=w.station) (ha:((Sp.Zl c w.feeder).getD i default).arrive<=((Sp.Zl c w.train).getD k default).depart) (hm:0<=w.minutes/\w.minutes<=60)
  (hn:A.any (λx=>decide (x.feeder=w.feeder/\x.train=w.train/\x.station=w.station))=false):Qc c w A=0:=by
 have V:Zv (Sp.Zl c w.feeder) w.station=i:=by rw[Z];exact ZmE (S _ (Zgl G)).st hi.1 hi.2
 have U:ZP (Sp.Zl c w.train) 0 w.station=k:=by rw[<-J];exact ZmE (S _ (Zgl I)).st (aT _) (by omega)
 have Y:ZJ (Sp.Zl c w.train) w.station=k:=by unfold ZJ;rw[U,iP (by omega)]
 unfold Qc;rw[Zby G.1 (by omega),Zby I.1 (by omega),iN (by decide),iN H];show(if Zv (Sp.Zl c w.feeder) w.station<0\/ZJ (Sp.Zl c w.train) w.station<0 then(3:Int)else if Qw w.minutes 0 60=true then 1 else if((Sp.Zl c w.train).getD (ZJ (Sp.Zl c w.train) w.station).toNat default).depart<((Sp.Zl c w.feeder).getD (Zv (Sp.Zl c w.feeder) w.station).toNat default).arrive then 5 else if A.any _=true then 4 else 0)=0;rw[V,Y,iN (by omega),Zby hm.1 hm.2,iN aO,aV,aV,iN (by omega),hn,iN aO]
theorem Zq3 {c:List (List Sp.Call)} {d:Sp.ZR} {A:List Sp.ZR} (hr:0<=d.run/\d.run<c.length) (H:0<=d.leg/\d.leg+2<=(Sp.Zl c d.run).length) (U:1<=d.by_.length/\d.by_.length<=3) (hv:∀k,k<d.by_.length->0<=d.by_.getD k 0/\d.by_.getD k 0<=240)
  (I:∀k,k+1<d.by_.length->d.by_.getD k 0<d.by_.getD (k+1) 0) (S:A.any (λx=>decide (x.run=d.run/\x.leg=d.leg))=false):Ql c d A=0:=by
 unfold Ql;rw[Zby hr.1 (by omega)];show(if(false||Qw d.leg 0 (((Sp.Zl c d.run).length:Int)-2))=true then(3:Int)else _)=0;rw[Zby H.1 (by omega),iN (by decide),iN (by omega),iN (by omega)];have J:Zo (Zd9 d.by_) 0 d.by_.length=0:=ZbM λk _ G=>by
  have G:k<d.by_.length:=by omega
  unfold Zd9;rw[Zby (hv k G).1 (hv k G).2,iN aO,iN];rintro⟨h1,h2⟩;have:=I (k-1) (by omega);rw[show k-1+1=k by omega]at this;omega
 rw[J,iN (λh=>h rfl),S,iN aO]
structure LOk {α:Type} [Inhabited α] (e:α->List α->Int) (l:List α):Prop where
 ok:∀i,i<l.length->e (l.getD i default) (l.take i)=0
theorem LOk.nil {α:Type} [Inhabited α] {e:α->List α->Int}:LOk e []:=⟨λi h=>by simp at h⟩
theorem LOk.snoc {α:Type} [Inhabited α] {e:α->List α->Int} {l:List α} {a:α} (h:LOk e l) (A:e a l=0):LOk e (l++[a]):=⟨λi G=>by
 simp only[bA,bF,cF]at G;by_cases h2:i<l.length
 ·rw[aA,bO h2,<-aA,List.take_append_of_le_length (by omega)];exact h.ok i h2
 have H:i=l.length:=by omega
 subst H;rw[List.take_left];have e:(l++[a]).getD l.length default=a:=by simp[aA]
 rw[e]
 exact A⟩
theorem ZkX {t:Zb} (J:Yl t.book=0) (H:Q5 t=0) (U:t.waits.length<=4) (I:LOk (Qc (callsOf t)) t.waits) (S:t.delays.length<=6) (A:LOk (Ql (callsOf t)) t.delays):Zn t=0:=by
 unfold Zn;rw[iN (λh=>h J),iN (λh=>h H),iN (by omega),ZbM (λj _ G=>I.ok j (by omega)),iN (λh=>h rfl),iN (by omega)];exact ZbM λj _ G=>A.ok j (by omega)
end Vm
namespace Sp
open Vm
theorem Zcx {t:Zb} (h:Zn t=0):Sp.Yl t.book=0/\Q5 t=0/\t.waits.length<=4/\LOk (Qc (callsOf t)) t.waits/\t.delays.length<=6/\LOk (Ql (callsOf t)) t.delays:=by
 unfold Zn at h;split at h
 ·exact absurd h (by assumption)
 split at h
 ·exact absurd h (by assumption)
 rename_i G A;split at h
 ·cases h
 split at h
 ·exact absurd h (by assumption)
 rename_i J H;split at h
 ·cases h
 rename_i S;exact⟨bQ G,bQ A,by omega,⟨λi I=>Qi (bQ H) i (aT _) (by omega)⟩,by omega,⟨λi I=>Qi h i (aT _) (by omega)⟩⟩
structure ZtE (t:Zb) (d:Nat):Prop where
 run:0<=(t.delays.getD d default).run/\(t.delays.getD d default).run<(callsOf t).length
 leg:0<=(t.delays.getD d default).leg/\(t.delays.getD d default).leg+2<=(Zl (callsOf t) (t.delays.getD d default).run).length
 many:1<=(t.delays.getD d default).by_.length/\(t.delays.getD d default).by_.length<=3
 asc:∀k,k+1<(t.delays.getD d default).by_.length->(t.delays.getD d default).by_.getD k 0<(t.delays.getD d default).by_.getD (k+1) 0
 one:∀j,j<d->¬((t.delays.getD j default).run=(t.delays.getD d default).run/\(t.delays.getD j default).leg=(t.delays.getD d default).leg)
theorem Zod {t:Zb} (h:Zn t=0):∀d,d<t.delays.length->Ql (callsOf t) (t.delays.getD d default) (t.delays.take d)=0:=by
 unfold Zn at h;split at h
 ·exact absurd h (by assumption)
 split at h
 ·exact absurd h (by assumption)
 split at h
 ·cases h
 split at h
 ·exact absurd h (by assumption)
 split at h
 ·cases h
 exact λd A=>Qi h d (aT _) (by omega)
theorem Zq4 {t:Zb} (h:Zn t=0) {d:Nat} (Z:d<t.delays.length):ZtE t d:=by
 have A:=Zod h d Z;generalize I:t.delays.getD d default=D at A;unfold Ql at A;split at A
 ·cases A
 rename_i U;split at A
 ·cases A
 split at A
 ·cases A
 split at A
 ·exact absurd A (by assumption)
 rename_i g2 g3 g4;split at A
 ·cases A
 rename_i g5;have S:Qw D.run 0 ((callsOf t).length-1)=false:=by cases G:Qw D.run 0 ((callsOf t).length-1)with|false=>rfl|true=>exact absurd (by rw[G];rfl) U
 have Y:Qw D.leg 0 (((callsOf t).getD D.run.toNat []).length-2)=false:=by cases G:Qw D.leg 0 (((callsOf t).getD D.run.toNat []).length-2)with|false=>rfl|true=>exact absurd (by rw[G,ig]) U
 have S:=QE S;have Y:=QE Y;have V:=Qi (bQ g4);refine⟨by rw[I];omega,by rw[I];unfold Zl;omega,by rw[I];omega,λk hk=>?_,λj hj G=>?_⟩
 ·rw[I]at hk|-;have H:=V (k+1) (aT _) (by omega);unfold Zd9 at H;split at H
  ·cases H
  split at H
  ·cases H
  rename_i J;rw[show k+1-1=k from rfl]at J;have:=λh=>J ⟨Nat.succ_pos k,h⟩;omega
 refine g5 ?_;rw[cZ];refine⟨t.delays.getD j default,?_,by rw[I]at G;exact iZ G⟩;rw[List.mem_iff_getElem?];refine⟨j,?_⟩;rw[List.getElem?_take,iP hj,aA,aD (by omega)];rfl
theorem LOk.mem {α:Type} [Inhabited α] {e:α->List α->Int} {l:List α} (h:LOk e l) {a:α} (G:a∈l):∃p,e a p=0:=by
 obtain⟨i,A,rfl⟩:=dQ.1 G;refine⟨l.take i,?_⟩;have:=h.ok i A;rw[aA,aD A]at this;exact this
theorem ZbB {t:Zb} {d r:Nat}:∀n,Xp t d n r=true->∃i,i<n/\Yo t d i r=true
 |0,h=>by cases h
 |n+1,h=>by
  unfold Xp at h;rw[cJ]at h;rcases h with h|h
  ·obtain⟨i,G,A⟩:=ZbB n h;exact⟨i,by omega,A⟩
  exact⟨n,by omega,h⟩
theorem Zdr {t:Zb} {d r i:Nat} (h:Yo t d i r=true):∀n,i<n->Xp t d n r=true
 |0,hi=>by omega
 |n+1,hi=>by
  unfold Xp;rw[cJ];by_cases he:i=n
  ·subst he;exact .inr h
  exact .inl (Zdr h n (by omega))
theorem ZoK {t:Zb} (G:Zn t=0):∀w∈t.waits,w.feeder≠w.train:=λw hw=>by
 obtain⟨p,A⟩:=LOk.mem (Zcx G).2.2.2.1 hw;unfold Qc at A;split at A
 ·cases A
 split at A
 ·cases A
 assumption
end Sp
namespace Vm
attribute [local irreducible] Dn
open Go Go.Proofs Sp
set_option maxRecDepth 100000
set_option maxHeartbeats 4000000
theorem ZhN {t:Zb} (A:Qe t) (h:Zn t=0):SC (λ_=>aB) 85 [Zf t] [] λv h=>v=lst 3 QR default (Qk t)/\h=[]:=Zyx t A.book (Yx h) (ZoK h) A.runs λd G=>((Yx h).d d G).2.1
theorem ZyC (b:Xy) (hf:ZrG b):SC (λ_=>aB) 68 [Zd b] [] λv h=>v= .bool (λ_=>ZgO b)/\h=[]:=by
 obtain⟨Y,O⟩:=Zm;obtain⟨hz,ho,hn,hc,hs⟩:=hf;unfold ZgO;have e1:decide (20<b.zones.length)=decide ((20:Int)<(b.zones.length:Int)):=decide_eq_decide.2 (by omega);have e2:decide (20<b.old.length)=decide ((20:Int)<(b.old.length:Int)):=decide_eq_decide.2 (by omega);have e3:decide (20<b.new.length)=decide ((20:Int)<(b.new.length:Int)):=decide_eq_decide.2 (by omega);rw[e1,e2,e3];clear e1 e2 e3;generalize I:(decide ((20:Int)<(b.zones.length:Int))||decide ((20:Int)<(b.old.length:Int))||decide ((20:Int)<(b.new.length:Int))||b.zones.any (λz=>decide (20<z.chs.length))||(b.old++b.new).any (λt=>decide (20<t.stops.length)))=E;refine Qq Tryz.func68 (body:=Zj Tryz.f68) rfl (by decide+kernel) ?_;unfold Zd at*;simp only[Za O]at*;refine wS ?_;refine⟨λU=>?_,λU=>?_⟩
 ·have aa:E=true:=by
   rw[<-I];revert U;cases decide ((20:Int)<(b.zones.length:Int))<;>cases decide ((20:Int)<(b.old.length:Int))<;>cases decide ((20:Int)<(b.new.length:Int))<;>simp
  rw[aa];exact zW
 have ae:¬(20:Int)<(b.zones.length:Int)/\¬(20:Int)<(b.old.length:Int)/\¬(20:Int)<(b.new.length:Int):=by
  simp only[<-iV];revert U;cases decide ((20:Int)<(b.zones.length:Int))<;>cases decide ((20:Int)<(b.old.length:Int))<;>cases decide ((20:Int)<(b.new.length:Int))<;>simp
 obtain⟨g1,g2,g3⟩:=ae;clear U;rw[iY g1,iY g2,iY g3,bZ,bZ,bZ]at I;generalize ab:b.zones.any (λz=>decide (20<z.chs.length))=A1 at*;generalize ac:(b.old++b.new).any (λt=>decide (20<t.stops.length))=A2 at*;refine wS ?_;refine XD λQ V=>?_;refine ZG false false [] [1,3] [] (λ(i:Nat)=>[(3,.int .i64 λ_=>(i:Int))]) (λ_=>[]) (λi=>i<=b.zones.length/\(b.zones.drop i).any (λz=>decide (20<z.chs.length))=A1) (λi=>b.zones.length-i+0) 0 ⟨aT _,by simpa using ab⟩ ?_ ?_
 ·exact ZB
 rintro i ⟨hi,G⟩;refine wS ?_;refine⟨λJ=>?_,λJ=>?_⟩
 ·simp only[iU]at J;have S:i<b.zones.length:=by omega
  rw[Zk4 (d:=default) O S]at G;refine vS ?_;generalize Y Zone default b.zones (i:Int)=z at*;refine Chk.mk (ZH) ?_;refine⟨λH=>?_,λH=>?_⟩
  ·have H:20<z.chs.length:=by have Z:(20:Int)<(z.chs.length:Int):=iW H;omega
   rw[iZ H,cS]at G;subst G;rw[cS]at I;subst I;refine wS ?_;refine V _ _ _ ?_;exact zW
  have H:¬20<z.chs.length:=by have Z:¬(20:Int)<(z.chs.length:Int):=iX H;omega
  rw[iY H,bZ]at G;refine wS ?_;refine⟨i+1,⟨by omega,G⟩,by show b.zones.length-(i+1)+0<b.zones.length-i+0;omega,?_⟩;exact ZB
 simp only[iV]at J;rw[bB (by omega)]at G;have G:A1=false:=G.symm;rw[G,bZ]at I;refine wS ?_;refine V _ _ _ ?_;clear V;refine wS ?_;have ah:(b.old++b.new).length<=40:=by rw[bA];omega
 refine ZG false false [] [4,5] [] (λ(i:Nat)=>[(4,.isl 3 (λ_=>((b.old++b.new).length:Int)) (λe=>encTrain (Y Train default (b.old++b.new) (e ()))) .none),(5,.int .i64 λ_=>(i:Int))]) (λ_=>[]) (λi=>i<=(b.old++b.new).length/\((b.old++b.new).drop i).any (λt=>decide (20<t.stops.length))=A2) (λi=>(b.old++b.new).length-i+0) 0 ⟨aT _,by simpa using ac⟩ ?_ ?_
 ·refine Ji ?_;exact ZvQ O rfl (by simp) (by simp)
 generalize b.old++b.new=A at*;rintro i ⟨hi,G⟩;refine wS ?_;refine⟨λJ=>?_,λJ=>?_⟩
 ·simp only[iU]at J;have S:i<A.length:=by omega
  rw[Zk4 (d:=default) O S]at G;refine vS ?_;generalize Y Train default A (i:Int)=t at*;refine Chk.mk (ZH) ?_;refine⟨λH=>?_,λH=>?_⟩
  ·have H:20<t.stops.length:=by have Z:(20:Int)<(t.stops.length:Int):=iW H;omega
   rw[iZ H,cS]at G;rw[<-G]at I;subst I;exact zW
  have H:¬20<t.stops.length:=by have Z:¬(20:Int)<(t.stops.length:Int):=iX H;omega
  rw[iY H,bZ]at G;refine wS ?_;refine⟨i+1,⟨by omega,G⟩,by show A.length-(i+1)+0<A.length-i+0;omega,?_⟩;exact ZB
 simp only[iV]at J;rw[bB (by omega)]at G;rw[<-G]at I;have I:E=false:=I.symm;subst I;exact zW
structure Zlf (t:Zb):Prop where
 fit:Qe t
 runs:t.runs.length<=20
 waits:t.waits.length<=20
 delays:t.delays.length<=20
 bys:∀d∈t.delays,d.by_.length<=20
theorem ZyM (t:Zb) (hi:Zrt t):SC (λ_=>aB) 16 [Zf t] [] λv h=>∃b:Bool,v= .bool (λ_=>b)/\(b=false->Zlf t)/\h=[]:=by
 obtain⟨nt,O⟩:=Zm;have k1:=ZyC t.book hi.book;have k2:=λh=>ZvD t h;have H:= @ZnX t.book;obtain⟨ah,hr,hw,G,ab⟩:=hi;refine Qq Tryz.func16 (body:=Zj Tryz.f16) rfl (by decide+kernel) ?_;generalize hB:ZgO t.book=B at*;generalize hR:decide ((20:Int)<(t.runs.length:Int))=R;generalize hW:decide ((20:Int)<(t.waits.length:Int))=W;generalize Y:decide ((20:Int)<(t.delays.length:Int))=D;have A:(B=true\/R=true\/W=true\/D=true)\/(B=false/\R=false/\W=false/\D=false):=by cases B<;>cases R<;>cases W<;>cases D<;>simp
 unfold Zf Zd at*;simp only[Za O,Zp]at*;refine wS ?_;refine ZN (k1) (by first|rfl|(simp only[Ze,Zd,Zf,Zc,Zp,Za O];rfl)) λr Z J=>?_;(try simp only[Ze,Zd,Zf,Zc,Zp,Za O]at J);obtain⟨rfl,rfl⟩:=J;refine vS ?_;simp only[hR,hW,Y];refine Chk.mk (ZH) ?_;rcases A with A|A
 ·refine Br.isT (by revert A;cases B<;>cases R<;>cases W<;>cases D<;>simp) ?_;refine wS ?_;exact⟨true,rfl,(λh=>nomatch h),trivial⟩
 refine Br.isF (by rw[A.1,A.2.1,A.2.2.1,A.2.2.2];rfl) ?_;have hr:¬20<(t.runs.length:Int):=iX (hR.trans A.2.1);have hw:¬20<(t.waits.length:Int):=iX (hW.trans A.2.2.1);have G:¬20<(t.delays.length:Int):=iX (Y.trans A.2.2.2);have H:=(H A.1).1;clear A hR hW Y hB;refine wS ?_;refine XD λQ V=>?_;refine ZG false false [] [1,3,4] [] (λ(⟨i,n⟩:Nat×Int)=>[(3,.int .i64 λ_=>n),(4,.int .i64 λ_=>(i:Int))]) (λ_=>[]) (λ⟨i,n⟩=>i<=t.delays.length/\(0<=n/\n<=100)/\∀d∈t.delays.take i,d.by_.length<=20) (λi=>t.delays.length-i.1+0) (0,1) ⟨aT _,⟨by decide,by decide⟩,λd G=>by simp at G⟩ ?_ ?_
 ·exact ZB
 intro ⟨i,n⟩ hi;have ac:=hi.1;have hn:=hi.2.1;refine wS ?_;refine⟨λI=>?_,λI=>?_⟩
 ·have I:=iW I;have aa:=X9 (d:=default) O (l:=t.delays) (i:=i) (by omega);have ae:=ab _ (Qr (d:=default) O (l:=t.delays) (i:=i) (by omega));generalize hx:nt ZR default t.delays i=x at*;refine vS ?_;try simp only[hx]
  try refine Chk.mk (ZH) ?_
  refine⟨λh1=>?_,λh1=>?_⟩
  ·refine wS ?_;refine V _ _ _ ?_;refine wS ?_;exact⟨true,rfl,(λh=>nomatch h),trivial⟩
  have h1:¬20<(x.by_.length:Int):=iX h1;refine vS ?_;simp only[hx];have hM:1<=(if 1<(x.by_.length:Int)then(x.by_.length:Int)else 1)/\(if 1<(x.by_.length:Int)then(x.by_.length:Int)else 1)<=20:=by split<;>omega
  have h5:0<=n*(if 1<(x.by_.length:Int)then(x.by_.length:Int)else 1):=Int.mul_nonneg hn.1 (by omega);have h6:n*(if 1<(x.by_.length:Int)then(x.by_.length:Int)else 1)<=100*20:=Int.mul_le_mul hn.2 hM.2 (by omega) (by omega);clear hM;refine Chk.mk (ZH) ?_;generalize n*(if 1<(x.by_.length:Int)then(x.by_.length:Int)else 1)=P at*;refine⟨(i+1,min 100 P),⟨by omega,⟨by omega,by omega⟩,λd G=>?_⟩,by show t.delays.length-(i+1)+0<t.delays.length-i+0;omega,?_⟩
  ·rw[aa]at G;rcases cP.1 G with G|G
   ·exact hi.2.2 d G
   rw[aN.1 G];omega
  exact ZB
 have I:=iX I;have S:∀d∈t.delays,d.by_.length<=20:=λd G=>hi.2.2 d (by rw[List.take_of_length_le (by omega)];exact G);have U:Zlf t:=⟨⟨H,by omega,by omega,by omega,λd G=>by have:=S d G;omega⟩,by omega,by omega,by omega,S⟩;have k2:=k2 U.fit;clear hi;refine wS ?_;refine V _ _ _ ?_;clear V;refine vS ?_;refine⟨λh=>?_,λh=>?_⟩
 ·have h:=iW h;refine wS ?_;refine ZN (k2) (by first|rfl|(simp only[Ze,Zd,Zf,Zc,Zp,Za O];rfl)) λr Z J=>?_;(try simp only[Ze,Zd,Zf,Zc,Zp,Za O]at J);obtain⟨rfl,rfl⟩:=J;refine wS ?_;exact⟨_,rfl,λ_=>U,trivial⟩
 refine wS ?_;exact⟨false,rfl,λ_=>U,trivial⟩
end Vm
end Go.Proofs.YtjgpiclllehgmaaGreat
