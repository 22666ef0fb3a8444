/- Lemmas. -/
import GoSem.Dispatch
import Derived.Conc.CrowdComm
import Derived.Test.YtjgpiclllehgmaaGreatCxKeep
set_option linter.all false
open Array renaming getElem?_eq_some_iff->aM,getElem?_push->bK,getElem?_setIfInBounds->bS,getElem?_setIfInBounds_ne->aF,getElem?_setIfInBounds_self_of_lt->bH,mem_append->eB,mem_map->gp,mem_push->ei
open Bool renaming false_eq_true->aX
open List renaming foldlM->fC,mem_map->bE
open Option.some renaming injEq->aD
open Go.World renaming cell?->bV
namespace Go.Proofs.YtjgpiclllehgmaaGreat
namespace Conc1
open Go
def Qz (P:Program) {α:Type}:Sem α->Prop
 |.pure _=>False
 |.load _ _ k=>∀v,Qz P (k v)
 |.store _ _ _ k=>Qz P k
 |.new _ k=>∀r,Qz P (k r)
 |.shape _ k=>∀s,Qz P (k s)
 |.freeze _ _ k=>Qz P k
 |.frozen _ k=>∀b,Qz P (k b)
 |.getObj _ k=>∀o,Qz P (k o)
 |.setObj _ _ k=>Qz P k
 |.choose _ k=>∀n,Qz P (k n)
 |.sys _ k=>∀r,Qz P (k r)
 |.program k=>Qz P (k P)
 |.mark _ k=>Qz P k
 |.halt _=>True
def Qj (P:Program) {α:Type} (Q:α->Prop):(Nat->Prop)->Sem α->Prop
 |_,.pure a=>Q a
 |K,.load m _ k=>(m= .plain\/∀v,Qz P (k v))/\∀v,Qj P Q K (k v)
 |K,.store m _ _ k=>(m= .plain\/Qz P k)/\Qj P Q K k
 |K,.new o k=>(o.isChan=false/\∀r,Qj P Q (λx=>K x\/x=r) (k r))\/∀r,Qz P (k r)
 |K,.shape _ k=>∀s,Qj P Q K (k s)
 |_,.freeze _ _ k=>Qz P k
 |_,.frozen _ k=>∀b,Qz P (k b)
 |K,.getObj r k=>∀o,(o.isChan=true->Qz P (k o))/\(o.isChan=false->Qj P Q (λx=>K x\/x=r) (k o))
 |K,.setObj r o k=>(K r/\o.isChan=false/\Qj P Q K k)\/Qz P k
 |K,.choose _ k=>∀n,Qj P Q K (k n)
 |_,.sys _ k=>∀r,Qz P (k r)
 |K,.program k=>Qj P Q K (k P)
 |K,.mark m k=>(m= .noRoom/\Qj P Q K k)\/Qz P k
 |_,.halt _=>True
def ZA (P:Program) {α:Type} (K:Nat->Prop) (s:Sem α):Prop:=Qj P (λ_=>True) K s
section
variable {P:Program} {α β:Type}
theorem Qz.bind_left {s:Sem α} {f:α->Sem β} (h:Qz P s):Qz P (s.bind f):=by
 induction s with
 |pure a=>exact h.elim
 |load m a k A=>exact λv=>A v (h v)
 |store m a v k A=>exact A h
 |new o k A=>exact λv=>A v (h v)
 |shape r k A=>exact λv=>A v (h v)
 |freeze a n k A=>exact A h
 |frozen a k A=>exact λv=>A v (h v)
 |getObj r k A=>exact λv=>A v (h v)
 |setObj r o k A=>exact A h
 |choose q k A=>exact λv=>A v (h v)
 |sys c k A=>exact λv=>A v (h v)
 |program k A=>exact A P h
 |mark m k A=>exact A h
 |halt h=>trivial
theorem Qz.bind_right {f:α->Sem β} (h:∀a,Qz P (f a)):∀s:Sem α,Qz P (s.bind f):=λs=>by
 induction s with
 |pure a=>exact h a
 |load m a k A=>exact λv=>A v
 |store m a v k A=>exact A
 |new o k A=>exact λv=>A v
 |shape r k A=>exact λv=>A v
 |freeze a n k A=>exact A
 |frozen a k A=>exact λv=>A v
 |getObj r k A=>exact λv=>A v
 |setObj r o k A=>exact A
 |choose q k A=>exact λv=>A v
 |sys c k A=>exact λv=>A v
 |program k A=>exact A P
 |mark m k A=>exact A
 |halt h=>trivial
theorem Qz.runT {s:Sem α} (h:Qz P s) (w:World) (es:Array Event) (x:α) (w':World) (G:Array Event) (hr:s.runT P w es=(.ok x w',G)):False:=by
 induction s generalizing w es with
 |pure a=>exact h
 |load m a k A=>
  simp only[Sem.runT]at hr;split at hr
  ·exact A _ (h _) _ _ hr
  split at hr
  ·exact A _ (h _) _ _ hr
  simp at hr
 |store m a v k A=>
  have h:Qz P k:=h;cases v<;>simp only[Sem.runT]at hr<;>(first|(simp at hr;done)|skip)<;>(repeat' split at hr)<;>first|(simp at hr;done)|exact A h _ _ hr
 |new o k A=>exact A _ (h _) _ _ hr
 |shape r k A=>exact A _ (h _) _ _ hr
 |freeze a n k A=>exact A h _ _ hr
 |frozen a k A=>exact A _ (h _) _ _ hr
 |getObj r k A=>
  simp only[Sem.runT]at hr;split at hr
  ·simp at hr
  ·exact A _ (h _) _ _ hr
  simp at hr
 |setObj r o k A=>
  simp only[Sem.runT]at hr;split at hr
  ·simp at hr
  ·exact A h _ _ hr
  simp at hr
 |choose q k A=>
  simp only[Sem.runT]at hr;split at hr
  ·exact A _ (h _) _ _ hr
  exact A _ (h _) _ _ hr
 |sys c k A=>exact A _ (h _) _ _ hr
 |program k A=>exact A P h _ _ hr
 |mark m k A=>exact A h _ _ hr
 |halt H=>simp[Sem.runT]at hr
theorem Qj.of_dies {Q:α->Prop} {s:Sem α} (h:Qz P s):∀K,Qj P Q K s:=by
 induction s with
 |pure a=>exact h.elim
 |load m a k A=>exact λK=>⟨.inr h,λv=>A v (h v) K⟩
 |store m a v k A=>exact λK=>⟨.inr h,A h K⟩
 |new o k A=>exact λK=>.inr h
 |shape r k A=>exact λK v=>A v (h v) K
 |freeze a n k A=>exact λK=>h
 |frozen a k A=>exact λK=>h
 |getObj r k A=>exact λK o=>⟨λ_=>h o,λ_=>A o (h o) _⟩
 |setObj r o k A=>exact λK=>.inr h
 |choose q k A=>exact λK v=>A v (h v) K
 |sys c k A=>exact λK=>h
 |program k A=>exact λK=>A P h K
 |mark m k A=>exact λK=>.inr h
 |halt h=>exact λK=>trivial
theorem Qj.mono {Q Q':α->Prop} {s:Sem α} (J:∀a,Q a->Q' a):∀ {K I:Nat->Prop},(∀r,K r->I r)->Qj P Q K s->Qj P Q' I s:=by
 induction s with
 |pure a=>exact λ_ h=>J _ h
 |load m a k G=>exact λA h=>⟨h.1,λv=>G v A (h.2 v)⟩
 |store m a v k G=>exact λA h=>⟨h.1,G A h.2⟩
 |new o k G=>exact λA h=>h.imp (λx=>⟨x.1,λr=>G r (λy H=>H.imp (A y) id) (x.2 r)⟩) id
 |shape r k G=>exact λA h v=>G v A (h v)
 |freeze a n k G=>exact λA h=>h
 |frozen a k G=>exact λA h=>h
 |getObj r k G=>exact λA h o=>⟨(h o).1,λe=>G o (λy H=>H.imp (A y) id) ((h o).2 e)⟩
 |setObj r o k G=>exact λA h=>h.imp (λx=>⟨A _ x.1,x.2.1,G A x.2.2⟩) id
 |choose q k G=>exact λA h v=>G v A (h v)
 |sys c k G=>exact λA h=>h
 |program k G=>exact λA h=>G P A h
 |mark m k G=>exact λA h=>h.imp (λx=>⟨x.1,G A x.2⟩) id
 |halt h=>exact λ_ h=>h
theorem Qj.bind {Q:α->Prop} {Q':β->Prop} {s:Sem α} {f:α->Sem β}:∀ {K:Nat->Prop},Qj P Q K s->(∀a H,Q a->(∀r,K r->H r)->Qj P Q' H (f a))->Qj P Q' K (s.bind f):=by
 induction s with
 |pure a=>exact λh A=>A a _ h λ_ h=>h
 |load m a k G=>exact λh A=>⟨h.1.imp id λx v=>(x v).bind_left,λv=>G v (h.2 v) A⟩
 |store m a v k G=>exact λh A=>⟨h.1.imp id λx=>x.bind_left,G h.2 A⟩
 |new o k G=>exact λh A=>h.imp (λx=>⟨x.1,λr=>G r (x.2 r) λa H I S=>A a H I λy J=>S y (.inl J)⟩) λx r=>(x r).bind_left
 |shape r k G=>exact λh A v=>G v (h v) A
 |freeze a n k G=>exact λh A=>Qz.bind_left h
 |frozen a k G=>exact λh A b=>(h b).bind_left
 |getObj r k G=>exact λh A o=>⟨λe=>((h o).1 e).bind_left,λe=>G o ((h o).2 e) λa H I S=>A a H I λy J=>S y (.inl J)⟩
 |setObj r o k G=>exact λh A=>h.imp (λx=>⟨x.1,x.2.1,G x.2.2 A⟩) Qz.bind_left
 |choose q k G=>exact λh A v=>G v (h v) A
 |sys c k G=>exact λh A b=>(h b).bind_left
 |program k G=>exact λh A=>G P h A
 |mark m k G=>exact λh A=>h.imp (λx=>⟨x.1,G x.2 A⟩) Qz.bind_left
 |halt h=>exact λ_ _=>trivial
end
def ZjD (w:World) (r:Nat):Prop:=∃o,w.heap[r]? =some o/\o.isChan=false
structure Fz (cell:Nat) (wf w:World):Prop where
 tape:w.tape=wf.tape
 drawn:w.drawn=wf.drawn
 os:w.os=wf.os
 output:w.output=wf.output
 size:w.heap.size=wf.heap.size
 ne:∀b,b≠cell->w.heap[b]? =wf.heap[b]?
 at_:∃c e f,w.heap[cell]? =some (.cells c e f)/\wf.heap[cell]? =some (.cells c e (0,c.size))
section
variable {P:Program} {α:Type} {cell ch:Nat} {wf w:World}
theorem Fz.cell_eq (h:Fz cell wf w) (a:Addr):w.cell? a=wf.cell? a:=by
 unfold bV;by_cases hb:a.block=cell
 ·obtain⟨c,e,f,A,G⟩:=h.at_;rw[hb,A,G]
 rw[h.ne _ hb]
theorem Fz.shape_eq (h:Fz cell wf w) (r:Nat):w.shape? r=wf.shape? r:=by
 unfold World.shape?;by_cases hb:r=cell
 ·obtain⟨c,e,f,A,G⟩:=h.at_;rw[hb,A,G]
 rw[h.ne _ hb]
theorem Zf8 {w w':World} {p:Program} {a:Addr} {u:TypeId} {k:Addr} {b:Bool} {c:Array Value} {e:TypeId} {f G:Nat×Nat} {x} (A:w.heap[a.block]? =some (.cells c e f)) (H:w'.heap[a.block]? =some (.cells c e G)) (h:w'.seen p a u k b= .ok x):
  w.seen p a u k b= .ok (x.1,x.2.1,f,x.2.2.2):=by
 unfold World.seen at h|-;rw[H]at h;rw[A];simp only[bind,Except.bind,pure,Except.pure]at h|-;(repeat' split at h)<;>first|(cases h;done)|skip
 all_goals
  cases h;simp_all
theorem Fz.farLoad (h:Fz cell wf w) {p:Program} {a:Addr} {b:Bool} {r:Value×List Addr} (hr:wf.farLoad p a b= .ok r):w.farLoad p a b= .ok r:=by
 unfold World.farLoad at hr|-;by_cases hb:a.block=cell
 ·obtain⟨c,e,f,G,A⟩:=h.at_;rw[hb,A]at hr;cases hr
 rw[h.ne _ hb];cases hh:wf.heap[a.block]? with
 |none=>rw[hh]at hr;cases hr
 |some o=>
  rw[hh]at hr;cases o with
  |view at_ u=>
   simp only at hr|-;have:w.viewLoad p at_ u a b=wf.viewLoad p at_ u a b\/∃e,wf.viewLoad p at_ u a b= .error e:=by
    unfold World.viewLoad;cases hs:wf.seen p at_ u a b with
    |error e=>exact .inr ⟨e,rfl⟩
    |ok x=>
     refine .inl ?_;by_cases hc:at_.block=cell
     ·obtain⟨c,e,f,G,A⟩:=h.at_;rw[Zf8 (by rw[hc];exact G) (by rw[hc];exact A) hs];rfl
     have:w.seen p at_ u a b=wf.seen p at_ u a b:=by
      unfold World.seen;rw[h.ne _ hc]
     rw[this,hs]
   rcases this with e|⟨e,H⟩
   ·rw[e];exact hr
   rw[H]at hr;cases hr
  |_=>cases hr
theorem Zku {A B:Type} {c:A} {g:A->B->Except String A} (I:∀y r,g c y≠ .ok r):∀(cells:List B),cells≠ []->∀r,cells.foldlM (init:=c) g≠ .ok r:=by
 intro cells H r h;cases cells with
 |nil=>exact H rfl
 |cons y l=>
  simp only[List.foldlM_cons,Bind.bind,Except.bind]at h;split at h
  ·cases h
  rename_i G;exact I _ _ G
theorem Fz.lt (h:Fz cell wf w):cell<wf.heap.size:=by
 obtain⟨c,e,f,G,A⟩:=h.at_;exact(aM.1 A).1
theorem Fz.set_at (h:Fz cell wf w) (c:Array Value) (e:TypeId) (f:Nat×Nat):Fz cell {wf with heap:=wf.heap.setIfInBounds cell (.cells c e (0,c.size))} {w with heap:=w.heap.setIfInBounds cell (.cells c e f)}:=by
 have A:=h.lt;refine⟨h.tape,h.drawn,h.os,h.output,by simpa using h.size,λb G=>?_,c,e,f,?_,?_⟩
 ·show(w.heap.setIfInBounds cell _)[b]? =(wf.heap.setIfInBounds cell _)[b]?;rw[aF (Ne.symm G),aF (Ne.symm G)];exact h.ne b G
 ·show(w.heap.setIfInBounds cell _)[cell]? =_;rw[bH (by rw[h.size];exact A)]
 show(wf.heap.setIfInBounds cell _)[cell]? =_;rw[bH A]
theorem Fz.set_ne (h:Fz cell wf w) {b:Nat} (H:b≠cell) (o:Obj):Fz cell {wf with heap:=wf.heap.setIfInBounds b o} {w with heap:=w.heap.setIfInBounds b o}:=by
 refine⟨h.tape,h.drawn,h.os,h.output,by simpa using h.size,λA G=>?_,?_⟩
 ·show(w.heap.setIfInBounds b o)[A]? =(wf.heap.setIfInBounds b o)[A]?;rw[bS,bS,h.size,h.ne A G]
 obtain⟨c,e,f,J,I⟩:=h.at_;refine⟨c,e,f,?_,?_⟩
 ·show(w.heap.setIfInBounds b o)[cell]? =_;rw[aF H];exact J
 show(wf.heap.setIfInBounds b o)[cell]? =_;rw[aF H];exact I
theorem Fz.viewStore (h:Fz cell wf w) {p:Program} {a:Addr} {u:TypeId} {k:Addr} {v:Value} {b:Bool} {r:World×List Addr} (hr:wf.viewStore p a u k v b= .ok r):
  ∃w',w.viewStore p a u k v b= .ok (w',r.2)/\Fz cell r.1 w'/\(∀x∈r.2,x.block≠cell)/\(∀G o,wf.heap[G]? =some o->o.isChan=true->r.1.heap[G]? =some o/\∀x∈r.2,x.block≠G):=by
 have ob:∀ {ε α β:Type} (x:α) (f:α->Except ε β),(Except.ok x>>=f)=f x:=λ_ _=>rfl;unfold World.viewStore at hr|-;cases ht:(!tight p p.depth u);case true=>rw[ht]at hr;simp only[if_true]at hr;cases hr
 case false=>
  rw[ht]at hr;simp only[aX,if_false]at hr|-;cases hs:wf.seen p a u k b with
  |error e=>rw[hs]at hr;cases hr
  |ok x=>
   have A:=Zf9 hs;have Y:∀G o,wf.heap[G]? =some o->o.isChan=true->a.block≠G:=λG o I H e=>by
    rw[e,I]at A;cases A;cases H
   have V:∃f,w.seen p a u k b= .ok (x.1,x.2.1,f,x.2.2.2)/\(a.block≠cell->f=x.2.2.1)/\w.heap[a.block]? =some (.cells x.1 x.2.1 f):=by
    by_cases hc:a.block=cell
    ·obtain⟨c,e,f,I,H⟩:=h.at_;rw[hc,H]at A;simp only[aD,Obj.cells.injEq]at A;exact⟨f,Zf8 (by rw[hc];exact I) (by rw[hc];exact H) hs,λhn=>absurd hc hn,by rw[hc,<-A.1,<-A.2.1];exact I⟩
    refine⟨x.2.2.1,?_,λ_=>rfl,by rw[h.ne _ hc];exact A⟩;have:w.seen p a u k b=wf.seen p a u k b:=by
     unfold World.seen;rw[h.ne _ hc]
    rw[this,hs]
   obtain⟨f,V,hf,ac⟩:=V;rw[hs]at hr;rw[V];obtain⟨c,e,S,first,ab,cells⟩:=x;simp only[ob]at hr A ac hf|-;cases hv:v.bytes? with
   |none=>rw[hv]at hr;cases hr
   |some bytes=>
    rw[hv]at hr;simp only at hr|-;by_cases hz:some bytes.length≠ab.bytes?.map (·.length)
    ·simp only[if_pos hz]at hr;cases hr
    simp only[if_neg hz]at hr|-;by_cases hc:a.block=cell
    ·have ae:cells=[]:=by
      refine Classical.byContradiction λah=>?_;have Z:S=(0,c.size):=by
       obtain⟨c',e',f',I,H⟩:=h.at_;rw[hc,H]at A;simp only[aD,Obj.cells.injEq]at A;rw[<-A.2.2,A.1]
      subst Z;revert hr;generalize ai:fC (m:=Except String) _ c cells=z;intro hr;cases z with
      |error e=>cases hr
      |ok c'=>
       refine absurd ai (Zku ?_ cells ah _);intro y r J;obtain⟨i,s,bs⟩:=y;simp only[Bind.bind,Except.bind,Pure.pure,Except.pure]at J;split at J
       ·cases J
       split at J
       ·cases J
       rename_i hi;have aa:¬i<c.size:=by
        intro aa;simp[aa]at hi
       have:c[i]? =none:=by simp;omega
       rw[this]at J;cases J
     subst ae;cases hr;refine⟨_,rfl,?_,λx U=>by simp at U,λG o I H=>⟨?_,λx U=>by simp at U⟩⟩
     ·have Z:S=(0,c.size):=by
       obtain⟨c',e',f',I,H⟩:=h.at_;rw[hc,H]at A;simp only[aD,Obj.cells.injEq]at A;rw[<-A.2.2,A.1]
      subst Z;rw[hc];exact h.set_at c e f
     show(wf.heap.setIfInBounds a.block _)[G]? =_;rw[aF (Y G o I H)];exact I
    obtain rfl:=hf hc;revert hr;generalize fC (m:=Except String) _ c cells=z;intro hr;cases z with
    |error e=>cases hr
    |ok c'=>
     cases hr;refine⟨_,rfl,h.set_ne hc _,λx U=>?_,λG o I H=>⟨?_,λx U=>?_⟩⟩
     ·obtain⟨y,_,rfl⟩:=bE.1 U;exact hc
     ·show(wf.heap.setIfInBounds a.block _)[G]? =_;rw[aF (Y G o I H)];exact I
     obtain⟨y,_,rfl⟩:=bE.1 U;exact Y G o I H
theorem Fz.farStore (h:Fz cell wf w) {p:Program} {a:Addr} {v:Value} {b:Bool} {r:World×List Addr} (hr:wf.farStore p a v b= .ok r):
  ∃A,w.farStore p a v b= .ok (A,r.2)/\Fz cell r.1 A/\(∀x∈r.2,x.block≠cell)/\(∀G o,wf.heap[G]? =some o->o.isChan=true->r.1.heap[G]? =some o/\∀x∈r.2,x.block≠G):=by
 unfold World.farStore at hr|-;by_cases hb:a.block=cell
 ·obtain⟨c,e,f,I,H⟩:=h.at_;rw[hb,H]at hr;cases hr
 rw[h.ne _ hb];cases hh:wf.heap[a.block]? with
 |none=>rw[hh]at hr;cases hr
 |some o=>
  rw[hh]at hr;cases o with
  |view at_ u=>
   simp only at hr|-;cases hv:wf.viewStore p at_ u a v b with
   |error e=>rw[hv]at hr;cases hr
   |ok x=>
    rw[hv]at hr;cases hr;obtain⟨A,I,H⟩:=h.viewStore hv;rw[I];exact⟨A,rfl,H⟩
  |_=>cases hr
end
theorem Za6 {P:Program} {w:World} {a:Addr} {v:Value} {b:Bool} {r:World×List Addr} (h:w.farStore P a v b= .ok r) {k:Nat} {o:Obj} (I:w.heap[k]? =some o) (hi:o.isChan=false):ZjD r.1 k:=by
 have ob:∀ {S α J:Type} (x:α) (f:α->Except S J),(Except.ok x>>=f)=f x:=λ_ _=>rfl;unfold World.farStore at h;cases hh:w.heap[a.block]? with
 |none=>rw[hh]at h;cases h
 |some G=>
 rw[hh]at h;cases G with
 |view at_ u=>
  simp only at h;cases hv:w.viewStore P at_ u a v b with
  |error e=>rw[hv]at h;cases h
  |ok x=>
   rw[hv]at h;cases h;unfold World.viewStore at hv;cases ht:(!tight P P.depth u);case true=>rw[ht]at hv;simp only[if_true]at hv;cases hv
   case false=>
   rw[ht]at hv;simp only[aX,if_false]at hv;cases hs:w.seen P at_ u a b with
   |error e=>rw[hs]at hv;cases hv
   |ok x=>
    rw[hs]at hv;obtain⟨c,e,A,first,H,cells⟩:=x;simp only[ob]at hv;cases hvb:v.bytes? with
    |none=>rw[hvb]at hv;cases hv
    |some bytes=>
     rw[hvb]at hv;simp only at hv;by_cases hz:some bytes.length≠H.bytes?.map (·.length)
     ·simp only[if_pos hz]at hv;cases hv
     simp only[if_neg hz]at hv;revert hv;generalize fC (m:=Except String) _ c cells=z;intro hv;cases z with
     |error e=>cases hv
     |ok U=>
      cases hv;by_cases hk:at_.block=k
      ·subst hk;refine⟨.cells U e A,?_,rfl⟩;show(w.heap.setIfInBounds at_.block _)[at_.block]? =_;rw[bH (aM.1 I).1]
      refine⟨o,?_,hi⟩;show(w.heap.setIfInBounds at_.block _)[k]? =_;rw[aF hk];exact I
 |_=>cases h
def pr2 (cell ch:Nat) (n:Nat):Prop:=n=cell\/n=ch
theorem Zo4 {α:Type} (P:Program) {cell ch:Nat}:∀(s:Sem α) (K:Nat->Prop) (A w:World) (es:Array Event) (x:α) (I:World) (H:Array Event),ZA P K s->Fz cell A w->(∀r,K r->ZjD A r)->(∃o,A.heap[ch]? =some o/\o.isChan=true)->
  s.runT P A es=(.ok x I,H)->(∃w',s.runT P w es=(.ok x w',H)/\Fz cell I w')/\I.heap[ch]? =A.heap[ch]? /\∀e∈H,e∈es\/YI (pr2 cell ch) e:=by
 intro s;induction s with
 |pure a=>
  intro K A w es x I H _ G _ _ h;simp only[Sem.runT,Prod.mk.injEq,Result.ok.injEq]at h;obtain⟨⟨rfl,rfl⟩,rfl⟩:=h;exact⟨⟨w,rfl,G⟩,rfl,λe he=>.inl he⟩
 |load m a k Z=>
  intro K A w es x I H J G U Y h;rcases J.1 with rfl|hd;case inr=>exact(Qz.runT (s:=.load m a k) hd _ _ _ _ _ h).elim
  simp only[Sem.runT,G.cell_eq]at h|-;cases hv:A.cell? a with
  |some v=>
   rw[hv]at h;obtain⟨h1,V,h3⟩:=Z v K A w _ x I H (J.2 v) G U Y h;refine⟨h1,V,λe he=>?_⟩;rcases h3 e he with S|S
   ·rcases ei.1 S with h5|rfl
    ·exact .inl h5
    exact .inr ⟨rfl,λhw=>by cases hw⟩
   exact .inr S
  |none=>
   rw[hv]at h;simp only at h|-;cases hf:A.farLoad P a (Mode.plain== .atomic)with
   |error e=>rw[hf]at h;simp at h
   |ok r=>
    obtain⟨v,l⟩:=r;rw[hf]at h;rw[G.farLoad hf];obtain⟨h1,V,h3⟩:=Z v K A w _ x I H (J.2 v) G U Y h;refine⟨h1,V,λe he=>?_⟩;rcases h3 e he with S|S
    ·rcases eB.1 S with h5|h5
     ·exact .inl h5
     obtain⟨y,_,rfl⟩:=gp.1 h5;exact .inr ⟨rfl,λhw=>by cases hw⟩
    exact .inr S
 |store m a v k Z=>
  intro K A w es x I H J G U Y h;rcases J.1 with rfl|hd;case inr=>exact(Qz.runT (s:=.store m a v k) hd _ _ _ _ _ h).elim
  have bg:∀v,(∀c,v≠ .agg c)->(∀c,v≠ .tuple c)->(Sem.store .plain a v k).runT P A es=(.ok x I,H)->
    (∃w',(Sem.store .plain a v k).runT P w es=(.ok x w',H)/\Fz cell I w')/\I.heap[ch]? =A.heap[ch]? /\∀e∈H,e∈es\/YI (pr2 cell ch) e:=by
   intro v ba bh h
   have e1:∀(w:World),(Sem.store .plain a v k).runT P w es=(match w.cell? a with
    |some _=>
     if w.frozen? a then(.halt (.unsupported (.unsafePointer "a write to bytes that a string shares")) w,es)
     else k.runT P (w.setCell a v) (es.push ⟨.cell a,true,Mode.plain== .atomic⟩)
    |none=>match w.farStore P a v (Mode.plain== .atomic)with
     |.ok (w,touched)=>k.runT P w (es++touched.toArray.map (⟨.cell ·,true,Mode.plain== .atomic⟩))
     |.error h=>(.halt h w,es)):=by
    intro w;cases v<;>first|rfl|exact absurd rfl (ba _)|exact absurd rfl (bh _)
   rw[e1]at h|-;rw[G.cell_eq];obtain⟨oc,aa,ae⟩:=Y;cases hv:A.cell? a with
   |some u=>
    rw[hv]at h;simp only at h|-;split at h
    ·simp at h
    rename_i hf;have ab:a.block≠cell:=λe=>by
     obtain⟨c,t,f,h1,V⟩:=G.at_;unfold bV at hv;rw[e,V]at hv;simp only at hv;split at hv
     ·cases hv
     refine hf ?_;unfold World.frozen?;rw[e,V];have aw:a.off<c.size:=(aM.1 hv).1;simp[aw]
    have ar:a.block≠ch:=λe=>by
     unfold bV at hv;rw[e,aa]at hv;cases oc<;>cases ae;cases hv
    have be:w.frozen? a=A.frozen? a:=by
     unfold World.frozen?;rw[G.ne _ ab]
    rw[be,if_neg hf];obtain⟨c,t,f,hb⟩:∃c t f,A.heap[a.block]? =some (.cells c t f):=by
     unfold bV at hv;split at hv
     ·rename_i c t f hh;exact⟨c,t,f,hh⟩
     cases hv
    have ap:∀(w:World),w.heap[a.block]? =some (.cells c t f)->w.setCell a v={w with heap:=w.heap.setIfInBounds a.block (.cells (if a.spot.isSome then c else c.setIfInBounds a.off v) t f)}:=λw hw=>by
     unfold World.setCell;congr 1;exact Conc.modify_eq_set _ _ _ _ hw
    rw[ap A hb]at h;rw[ap w (by rw[G.ne _ ab];exact hb)];have ac:({A with heap:=A.heap.setIfInBounds a.block (.cells (if a.spot.isSome then c else c.setIfInBounds a.off v) t f)}:World).heap[ch]? =some oc:=by
     show(A.heap.setIfInBounds a.block _)[ch]? =_;rw[aF ar];exact aa
    obtain⟨h1,V,h3⟩:=Z K _ _ _ x I H J.2 (G.set_ne ab _) (λr hr=>by
     obtain⟨o,ho,hi⟩:=U r hr;by_cases hra:a.block=r
     ·subst hra;refine⟨.cells (if a.spot.isSome then c else c.setIfInBounds a.off v) t f,?_,rfl⟩;show(A.heap.setIfInBounds a.block _)[a.block]? =_;rw[bH (aM.1 ho).1]
     refine⟨o,?_,hi⟩;show(A.heap.setIfInBounds a.block _)[r]? =_
     rw[aF hra];exact ho) ⟨oc,ac,ae⟩ h
    refine⟨h1,V.trans (ac.trans aa.symm),λe he=>?_⟩;rcases h3 e he with S|S
    ·rcases ei.1 S with h5|rfl
     ·exact .inl h5
     exact .inr ⟨rfl,λ_ hp=>hp.elim ab ar⟩
    exact .inr S
   |none=>
    rw[hv]at h;simp only at h|-;cases hf:A.farStore P a v (Mode.plain== .atomic)with
    |error e=>rw[hf]at h;simp at h
    |ok r=>
     obtain⟨w',h3,S,h5,h6⟩:=G.farStore hf;obtain⟨h7,h8⟩:=h6 ch oc aa ae;rw[hf]at h;rw[h3]
     obtain⟨h1,V,h9⟩:=Z K _ _ _ x I H J.2 S (λr' hr=>by
      obtain⟨o,ho,hi⟩:=U r' hr
      exact Za6 hf ho hi) ⟨oc,h7,ae⟩ h
     refine⟨h1,V.trans (h7.trans aa.symm),λe he=>?_⟩;rcases h9 e he with al|al
     ·rcases eB.1 al with am|am
      ·exact .inl am
      obtain⟨y,hy,rfl⟩:=gp.1 am;exact .inr ⟨rfl,λ_ hp=>hp.elim (h5 y (by simpa using hy)) (h8 y (by simpa using hy))⟩
     exact .inr al
  cases v with
  |agg c=>simp[Sem.runT]at h
  |tuple c=>simp[Sem.runT]at h
  |_=>exact bg _ (by simp) (by simp) h
 |new o k Z=>
  intro K A w es x I H J G U Y h;rcases J with⟨ho,J⟩|hd;case inr=>exact(Qz.runT (s:=.new o k) hd _ _ _ _ _ h).elim
  simp only[Sem.runT]at h|-;have ao:=G.size;rw[ao];have ai:∀b,b<A.heap.size->(A.heap.push o)[b]? =A.heap[b]? :=λb hb=>by rw[Array.getElem?_push_lt hb,<-Array.getElem?_eq_getElem hb]
  obtain⟨oc,aa,ae⟩:=Y;have au:=(aM.1 aa).1;have az:Fz cell {A with heap:=A.heap.push o} {w with heap:=w.heap.push o}:=by
   refine⟨G.tape,G.drawn,G.os,G.output,by simpa using ao,λb hb=>?_,?_⟩
   ·show(w.heap.push o)[b]? =(A.heap.push o)[b]?;rw[bK,bK,ao,G.ne b hb]
   obtain⟨c,e,f,h1,V⟩:=G.at_;refine⟨c,e,f,?_,?_⟩
   ·show(w.heap.push o)[cell]? =_;rw[bK,if_neg (by have:=G.lt;omega)];exact h1
   show(A.heap.push o)[cell]? =_;rw[ai _ G.lt];exact V
  obtain⟨h1,V,h3⟩:=Z A.heap.size _ _ _ _ x I H (J _) az (λr hr=>by
   rcases hr with hr|rfl
   ·obtain⟨o',ah,hi⟩:=U r hr;exact⟨o',(ai r (aM.1 ah).1).trans ah,hi⟩
   exact⟨o,by show(A.heap.push o)[A.heap.size]? =_;simp,ho⟩) ⟨oc,(ai ch au).trans aa,ae⟩ h
  exact⟨h1,V.trans (ai ch au),h3⟩
 |shape r k Z=>
  intro K A w es x I H J G U Y h;simp only[Sem.runT,G.shape_eq]at h|-;exact Z _ K A w es x I H (J _) G U Y h
 |freeze a n k Z=>exact λK A w es x I H J G U Y h=>(Qz.runT (s:=.freeze a n k) J _ _ _ _ _ h).elim
 |frozen a k Z=>exact λK A w es x I H J G U Y h=>(Qz.runT (s:=.frozen a k) J _ _ _ _ _ h).elim
 |getObj r k Z=>
  intro K A w es x I H J G U Y h;simp only[Sem.runT]at h|-;split at h
  ·simp at h
  ·rename_i o ab ho;have aj:r≠cell:=λe=>by
    obtain⟨c,t,f,h1,V⟩:=G.at_;rw[e,V]at ho;cases ho;exact ab _ _ _ rfl
   rw[G.ne r aj,ho];cases ac:o.isChan with
   |true=>exact((J o).1 ac|>.runT _ _ _ _ _ h).elim
   |false=>
    obtain⟨h1,V,h3⟩:=Z o _ A w _ x I H ((J o).2 ac) G (λr' hr=>hr.elim (U r') λe=>⟨o,by rw[e];exact ho,ac⟩) Y h;refine⟨?_,V,λe he=>?_⟩
    ·obtain⟨w',S,h5⟩:=h1;refine⟨w',?_,h5⟩;cases o<;>first|exact absurd rfl (ab _ _ _)|exact S
    rcases h3 e he with S|S
    ·rcases ei.1 S with h5|rfl
     ·exact .inl h5
     exact .inr ⟨ac,λhw=>by cases hw⟩
    exact .inr S
  simp at h
 |setObj r o k Z=>
  intro K A w es x I H J G U Y h;rcases J with⟨hr,ho,J⟩|hd;case inr=>exact(Qz.runT (s:=.setObj r o k) hd _ _ _ _ _ h).elim
  simp only[Sem.runT]at h|-;obtain⟨oc,aa,ae⟩:=Y;obtain⟨o',ah,aq⟩:=U r hr;have ak:r≠ch:=λe=>by
   rw[e,aa]at ah;cases ah;rw[ae]at aq;cases aq
  split at h
  ·simp at h
  ·rename_i u ab hu;have aj:r≠cell:=λe=>by
    obtain⟨c,t,f,h1,V⟩:=G.at_;rw[e,V]at hu;cases hu;exact ab _ _ _ rfl
   rw[G.ne r aj,hu];have ac:({A with heap:=A.heap.setIfInBounds r o}:World).heap[ch]? =some oc:=by
    show(A.heap.setIfInBounds r o)[ch]? =_;rw[aF ak];exact aa
   obtain⟨h1,V,h3⟩:=Z K _ _ _ x I H J (G.set_ne aj o) (λr' a9=>by
    by_cases e:r=r'
    ·subst e;refine⟨o,?_,ho⟩;show(A.heap.setIfInBounds r o)[r]? =_;rw[bH (aM.1 ah).1]
    obtain⟨o2,bk,bc⟩:=U r' a9;refine⟨o2,?_,bc⟩;show(A.heap.setIfInBounds r o)[r']? =_
    rw[aF e];exact bk) ⟨oc,ac,ae⟩ h
   refine⟨?_,V.trans (ac.trans aa.symm),λe he=>?_⟩
   ·obtain⟨w',S,h5⟩:=h1;refine⟨w',?_,h5⟩;cases u<;>first|exact absurd rfl (ab _ _ _)|exact S
   rcases h3 e he with S|S
   ·rcases ei.1 S with h5|rfl
    ·exact .inl h5
    exact .inr ⟨ho,λ_ hp=>hp.elim aj ak⟩
   exact .inr S
  simp at h
 |choose q k Z=>
  intro K A w es x I H J G U Y h;simp only[Sem.runT]at h|-;rw[G.drawn];split at h
  ·rename_i hf;rw[if_pos hf];exact Z _ K A w es x I H (J _) G U Y h
  rename_i hf;rw[if_neg hf];have:=Z _ K {A with drawn:=A.drawn+1} {w with drawn:=A.drawn+1} es x I H (J _) ⟨G.tape,rfl,G.os,G.output,G.size,G.ne,G.at_⟩ U Y h;rw[show w.tape A.drawn q=A.tape A.drawn q by rw[G.tape]];exact this
 |sys c k Z=>exact λK A w es x I H J G U Y h=>(Qz.runT (s:=.sys c k) J _ _ _ _ _ h).elim
 |program k Z=>
  intro K A w es x I H J G U Y h;exact Z P K A w es x I H J G U Y h
 |mark m k Z=>
  intro K A w es x I H J G U Y h;rcases J with⟨rfl,J⟩|hd;case inr=>exact(Qz.runT (s:=.mark m k) hd _ _ _ _ _ h).elim
  simp only[Sem.runT]at h|-;obtain⟨h1,V,h3⟩:=Z K A w _ x I H J G U Y h;refine⟨h1,V,λe he=>?_⟩;rcases h3 e he with S|S
  ·rcases ei.1 S with h5|rfl
   ·exact .inl h5
   exact .inr (show Conc.Neutral .noRoom from rfl)
  exact .inr S
 |halt hh=>
  intro K A w es x I H J G U Y h;simp[Sem.runT]at h
end Conc1
end Go.Proofs.YtjgpiclllehgmaaGreat
