/- Goroutines: steps in canonical order. -/
import Derived.Test.YtjgpiclllehgmaaGreatCxSwap
set_option linter.unusedSimpArgs false
set_option linter.unusedVariables false
namespace Go.Proofs.YtjgpiclllehgmaaGreat.Conc1
open Go
section
variable {w:World} {B:Nat}
theorem ZeV {p:Program} {a:Addr} {u:TypeId} {k:Addr} {b:Bool} {x} (h:w.seen p a u k b= .ok x):w.heap[a.block]? =some (.cells x.1 x.2.1 x.2.2.1):=by
 unfold World.seen at h
 simp only[bind,Except.bind,pure,Except.pure]at h
 (repeat' split at h)<;>first|(cases h;done)|(cases h;assumption)
theorem ZeK {p:Program} {a:Addr} {u:TypeId} {k:Addr} {v:Value} {b:Bool} {r:World×List Addr} (h:w.viewStore p a u k v b= .ok r) (hl:∀x∈r.2,x.block≠B) (i:Nat):
  r.1.cell? ⟨B,i,none⟩=w.cell? ⟨B,i,none⟩:=by
 have ob:∀ {ε α β:Type} (x:α) (f:α→Except ε β),(Except.ok x>>=f)=f x:=fun _ _=>rfl
 unfold World.viewStore at h
 cases ht:(!tight p p.depth u)
 case true=>rw[ht]at h;simp only[if_true]at h;cases h
 case false=>
  rw[ht]at h
  simp only[Bool.false_eq_true,if_false]at h
  cases hs:w.seen p a u k b with
  |error e=>rw[hs]at h;cases h
  |ok x=>
   have hcl:=ZeV hs
   rw[hs]at h
   obtain⟨c,e,frozen,first,like,cells⟩:=x
   simp only[ob]at h hcl
   cases hv:v.bytes? with
   |none=>rw[hv]at h;cases h
   |some bytes=>
    rw[hv]at h
    simp only at h
    by_cases hz:some bytes.length≠like.bytes?.map (·.length)
    ·simp only[if_pos hz]at h;cases h
    ·simp only[if_neg hz]at h
     by_cases hB:a.block=B
     ·cases cells with
      |nil=>
       cases h
       unfold World.cell?
       show(match(w.heap.setIfInBounds a.block _)[B]? with|some (.cells c _ _)=>_|_=>none)=_
       rw[hB]at hcl⊢
       have hlt:B<w.heap.size:=(Array.getElem?_eq_some_iff.1 hcl).1
       rw[Array.getElem?_setIfInBounds_self_of_lt hlt,hcl]
      |cons y l=>
       revert h
       generalize List.foldlM (m:=Except String) _ c (y::l)=z
       intro h
       cases z with
       |error e=>cases h
       |ok c=>
        cases h
        exact absurd hB (hl ⟨a.block,y.1,none⟩ (by simp))
     ·revert h
      generalize List.foldlM (m:=Except String) _ c cells=z
      intro h
      cases z with
      |error e=>cases h
      |ok c=>
       cases h
       unfold World.cell?
       show(match(w.heap.setIfInBounds a.block _)[B]? with|some (.cells c _ _)=>_|_=>none)=_
       rw[Array.getElem?_setIfInBounds_ne hB]
       rfl
theorem Zgf {p:Program} {a:Addr} {v:Value} {b:Bool} {r:World×List Addr} (h:w.farStore p a v b= .ok r) (hl:∀x∈r.2,x.block≠B) (i:Nat):
  r.1.cell? ⟨B,i,none⟩=w.cell? ⟨B,i,none⟩:=by
 unfold World.farStore at h
 split at h
 ·split at h
  ·rename_i hv;cases h;exact ZeK hv hl i
  ·cases h
 ·cases h
end
theorem Zlr {α:Type} (P:Program) {pr:Nat→Prop} {B:Nat} (hB:pr B) (i:Nat):∀(s:Sem α) (w:World) (es:Array Event) (x:α) (w':World) (es':Array Event),
  s.runT P w es=(.ok x w',es')→(∀e∈es',Yc pr e)→(∃v,w.cell? ⟨B,i,none⟩=some v)→w'.cell? ⟨B,i,none⟩=w.cell? ⟨B,i,none⟩:=by
 intro s
 have keep:∀ {β:Type} (k:Sem β) (w:World) (es:Array Event) (e:Event) r,k.runT P w es=r→e∈es→e∈r.2:=fun k w es e r h he=>by
  rw[←h];exact Sem.events_keep P k e w _ he
 have nb:∀(w:World),(∃v,w.cell? ⟨B,i,none⟩=some v)→∃c e f,w.heap[B]? =some (.cells c e f):=fun w ⟨v,hv⟩=>by
  unfold World.cell? at hv
  split at hv
  ·rename_i c e f hh;exact⟨c,e,f,hh⟩
  ·cases hv
 induction s with
 |pure a=>
  intro w es x w' es' h _ _
  simp only[Sem.runT,Prod.mk.injEq,Result.ok.injEq]at h
  obtain⟨⟨rfl,rfl⟩,rfl⟩:=h
  rfl
 |load m a k ih=>
  intro w es x w' es' h ho hs
  simp only[Sem.runT]at h
  split at h
  ·exact ih _ w _ x w' es' h ho hs
  ·split at h
   ·exact ih _ w _ x w' es' h ho hs
   ·simp at h
 |store m a v k ih=>
  intro w es x w' es' h ho hs
  have key:∀v,(∀c,v≠ .agg c)→(∀c,v≠ .tuple c)→(Sem.store m a v k).runT P w es=(.ok x w',es')→w'.cell? ⟨B,i,none⟩=w.cell? ⟨B,i,none⟩:=by
   intro v hn1 hn2 h
   have e1:∀(w:World),(Sem.store m a v k).runT P w es=(match w.cell? a with
    |some _=>
     if w.frozen? a then(.halt (.unsupported (.unsafePointer "a write to bytes that a string shares")) w,es)
     else k.runT P (w.setCell a v) (es.push ⟨.cell a,true,m== .atomic⟩)
    |none=>match w.farStore P a v (m== .atomic)with
     |.ok (w,touched)=>k.runT P w (es++touched.toArray.map (⟨.cell ·,true,m== .atomic⟩))
     |.error h=>(.halt h w,es)):=by
    intro w
    cases v<;>first|rfl|exact absurd rfl (hn1 _)|exact absurd rfl (hn2 _)
   rw[e1]at h
   split at h
   ·split at h
    ·simp at h
    ·have he:=ho _ (keep _ _ _ ⟨.cell a,true,m== .atomic⟩ _ h (by simp))
     have hne:a.block≠B:=fun e=>he.2 rfl (e▸hB)
     have e2:(w.setCell a v).cell? ⟨B,i,none⟩=w.cell? ⟨B,i,none⟩:=by
      unfold World.cell? World.setCell
      simp only[Array.getElem?_modify,if_neg hne]
     exact(ih _ _ x w' es' h ho (by rw[e2];exact hs)).trans e2
   ·split at h
    ·rename_i w1 l hw
     have e2:=Zgf (B:=B) hw (fun y hy e=>by
      have he:=ho _ (keep _ _ _ ⟨.cell y,true,m== .atomic⟩ _ h (by simp;exact .inr hy))
      exact he.2 rfl (e▸hB)) i
     exact(ih _ _ x w' es' h ho (by rw[e2];exact hs)).trans e2
    ·simp at h
  cases v with
  |agg c=>simp[Sem.runT]at h
  |tuple c=>simp[Sem.runT]at h
  |_=>exact key _ (by simp) (by simp) h
 |new o k ih=>
  intro w es x w' es' h ho hs
  simp only[Sem.runT]at h
  obtain⟨c,e,f,hh⟩:=nb w hs
  have hlt:B<w.heap.size:=(Array.getElem?_eq_some_iff.1 hh).1
  have e2:({w with heap:=w.heap.push o}:World).cell? ⟨B,i,none⟩=w.cell? ⟨B,i,none⟩:=by
   unfold World.cell?
   show(match(w.heap.push o)[B]? with|some (.cells c _ _)=>_|_=>none)=_
   rw[Array.getElem?_push_lt hlt,←Array.getElem?_eq_getElem hlt]
   rfl
  exact(ih _ _ _ x w' es' h ho (by rw[e2];exact hs)).trans e2
 |shape r k ih=>
  intro w es x w' es' h ho hs
  simp only[Sem.runT]at h
  exact ih _ _ _ x w' es' h ho hs
 |freeze a n k ih=>
  intro w es x w' es' h ho hs
  simp only[Sem.runT]at h
  have e2:(w.freeze a n).cell? ⟨B,i,none⟩=w.cell? ⟨B,i,none⟩:=by
   unfold World.freeze
   split
   ·rfl
   ·unfold World.cell?
    simp only[Array.getElem?_modify]
    obtain⟨c,e,f,hh⟩:=nb w hs
    by_cases hab:a.block=B
    ·simp only[hab,hh,if_true,Option.map_some]
    ·simp only[hab,if_false]
  exact(ih _ _ x w' es' h ho (by rw[e2];exact hs)).trans e2
 |frozen a k ih=>
  intro w es x w' es' h ho hs
  simp only[Sem.runT]at h
  exact ih _ _ _ x w' es' h ho hs
 |getObj r k ih=>
  intro w es x w' es' h ho hs
  simp only[Sem.runT]at h
  split at h
  ·simp at h
  ·exact ih _ _ _ x w' es' h ho hs
  ·simp at h
 |setObj r o k ih=>
  intro w es x w' es' h ho hs
  simp only[Sem.runT]at h
  split at h
  ·simp at h
  ·rename_i hnc hh
   have hne:r≠B:=fun e=>by
    obtain⟨c,e',f,hb⟩:=nb w hs
    rw[e,hb]at hh
    cases hh
    exact hnc _ _ _ rfl
   have e2:({w with heap:=w.heap.setIfInBounds r o}:World).cell? ⟨B,i,none⟩=w.cell? ⟨B,i,none⟩:=by
    unfold World.cell?
    show(match(w.heap.setIfInBounds r o)[B]? with|some (.cells c _ _)=>_|_=>none)=_
    rw[Array.getElem?_setIfInBounds_ne hne]
    rfl
   exact(ih _ _ x w' es' h ho (by rw[e2];exact hs)).trans e2
  ·simp at h
 |choose q k ih=>
  intro w es x w' es' h ho hs
  simp only[Sem.runT]at h
  split at h
  ·exact ih _ _ _ x w' es' h ho hs
  ·exact(ih _ {w with drawn:=w.drawn+1} _ x w' es' h ho hs).trans rfl
 |sys c k ih=>
  intro w es x w' es' h ho hs
  simp only[Sem.runT]at h
  exact absurd rfl ((ho _ (keep _ _ _ ⟨.output,true,false⟩ _ h (by simp))).out)
 |program k ih=>
  intro w es x w' es' h ho hs
  simp only[Sem.runT]at h
  exact ih _ _ _ x w' es' h ho hs
 |mark m k ih=>
  intro w es x w' es' h ho hs
  simp only[Sem.runT]at h
  exact ih _ _ x w' es' h ho hs
 |halt hh=>
  intro w es x w' es' h ho hs
  simp[Sem.runT]at h
theorem Ow.keep {P:Program} {pr:Nat→Prop} {a b:Cf} {B i:Nat} (h:Ow P pr a b) (hB:pr B) {v:Value} (hv:a.w.cell? ⟨B,i,none⟩=some v):b.w.cell? ⟨B,i,none⟩=some v:=by
 obtain⟨α,s,F,x,es,g1,g2,g3,g4⟩:=h
 rw[Zlr P hB i s _ _ _ _ _ g2 g4 ⟨v,hv⟩,hv]
end Go.Proofs.YtjgpiclllehgmaaGreat.Conc1
