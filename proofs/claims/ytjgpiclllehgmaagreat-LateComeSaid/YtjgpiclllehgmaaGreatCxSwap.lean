/- A channel that an operation does not touch may hold anything. -/
import Derived.Test.YtjgpiclllehgmaaGreatCxOwn
set_option linter.unusedSimpArgs false
set_option linter.unusedVariables false
namespace Go.Proofs.YtjgpiclllehgmaaGreat.Conc1
open Go
def sw (w:World) (ch:Nat) (o:Obj):World:={w with heap:=w.heap.setIfInBounds ch o}
section
variable {w:World} {ch:Nat} {o₁ o₂:Obj} (h1:w.heap[ch]? =some o₁) (hc1:o₁.isChan=true) (hc2:o₂.isChan=true)
include h1
theorem ZbL:(sw w ch o₂).heap[ch]? =some o₂:=by
 have hlt:ch<w.heap.size:=(Array.getElem?_eq_some_iff.1 h1).1
 simp[sw,hlt]
omit h1 in
theorem ZdV {b:Nat} (hb:b≠ch):(sw w ch o₂).heap[b]? =w.heap[b]? :=by
 show(w.heap.setIfInBounds ch o₂)[b]? =_
 rw[Array.getElem?_setIfInBounds_ne (Ne.symm hb)]
include hc1 hc2
theorem ZhR (a:Addr):(sw w ch o₂).cell? a=w.cell? a:=by
 unfold World.cell?
 by_cases hb:a.block=ch
 ·rw[hb,ZbL h1,h1]
  cases o₁<;>cases hc1
  cases o₂<;>cases hc2
  rfl
 ·rw[ZdV hb]
theorem ZnQ (r:Nat):(sw w ch o₂).shape? r=w.shape? r:=by
 unfold World.shape?
 by_cases hb:r=ch
 ·rw[hb,ZbL h1,h1]
  cases o₁<;>cases hc1
  cases o₂<;>cases hc2
  rfl
 ·rw[ZdV hb]
theorem ZgI (a:Addr):(sw w ch o₂).frozen? a=w.frozen? a:=by
 unfold World.frozen?
 by_cases hb:a.block=ch
 ·rw[hb,ZbL h1,h1]
  cases o₁<;>cases hc1
  cases o₂<;>cases hc2
  rfl
 ·rw[ZdV hb]
theorem ZkI (p:Program) (a:Addr) (u:TypeId) (k:Addr) (b:Bool):(sw w ch o₂).seen p a u k b=w.seen p a u k b:=by
 unfold World.seen
 by_cases hb:a.block=ch
 ·rw[hb,ZbL h1,h1]
  cases o₁<;>cases hc1
  cases o₂<;>cases hc2
  rfl
 ·rw[ZdV hb]
theorem Zia (p:Program) (a:Addr) (u:TypeId) (k:Addr) (b:Bool):(sw w ch o₂).viewLoad p a u k b=w.viewLoad p a u k b:=by
 unfold World.viewLoad
 rw[ZkI h1 hc1 hc2]
theorem Zj5 {p:Program} {a:Addr} {b:Bool} {r:Value×List Addr} (h:w.farLoad p a b= .ok r):(sw w ch o₂).farLoad p a b= .ok r:=by
 unfold World.farLoad at h⊢
 by_cases hb:a.block=ch
 ·rw[hb,h1]at h
  cases o₁<;>cases hc1
  cases h
 ·rw[ZdV hb]
  simp only[Zia h1 hc1 hc2]
  split at h
  ·exact h
  ·cases h
omit hc2 in
theorem Zp6 {p:Program} {a:Addr} {u:TypeId} {k:Addr} {b:Bool} {x} (h:w.seen p a u k b= .ok x):a.block≠ch:=by
 intro hb
 unfold World.seen at h
 rw[hb,h1]at h
 cases o₁<;>cases hc1
 simp only[bind,Except.bind]at h
 (repeat' split at h)<;>first|cases h|skip
theorem Zg5 {p:Program} {a:Addr} {u:TypeId} {k:Addr} {v:Value} {b:Bool} {r:World×List Addr} (h:w.viewStore p a u k v b= .ok r):
  (sw w ch o₂).viewStore p a u k v b= .ok (sw r.1 ch o₂,r.2)∧r.1.heap[ch]? =w.heap[ch]? :=by
 have ob:∀ {ε α β:Type} (x:α) (f:α→Except ε β),(Except.ok x>>=f)=f x:=fun _ _=>rfl
 unfold World.viewStore at h⊢
 rw[ZkI h1 hc1 hc2]
 cases ht:(!tight p p.depth u)
 case true=>rw[ht]at h;simp only[if_true]at h;cases h
 case false=>
  rw[ht]at h
  simp only[Bool.false_eq_true,if_false]at h⊢
  cases hs:w.seen p a u k b with
  |error e=>rw[hs]at h;cases h
  |ok x=>
   have hne:=Zp6 h1 hc1 hs
   rw[hs]at h
   obtain⟨c,e,frozen,first,like,cells⟩:=x
   simp only[ob]at h⊢
   cases hv:v.bytes? with
   |none=>rw[hv]at h;cases h
   |some bytes=>
    rw[hv]at h
    simp only at h⊢
    by_cases hz:some bytes.length≠like.bytes?.map (·.length)
    ·simp only[if_pos hz]at h;cases h
    ·simp only[if_neg hz]at h⊢
     revert h
     generalize List.foldlM (m:=Except String) _ c cells=z
     intro h
     cases z with
     |error e=>cases h
     |ok c=>
      cases h
      refine⟨?_,?_⟩
      ·show Except.ok (_,_)=Except.ok (_,_)
       congr 2
       show World.mk _ _ _ _ _=World.mk _ _ _ _ _
       congr 1
       show(w.heap.setIfInBounds ch o₂).setIfInBounds a.block _=(w.heap.setIfInBounds a.block _).setIfInBounds ch o₂
       exact Array.setIfInBounds_comm _ _ (Ne.symm hne)
      ·show(w.heap.setIfInBounds a.block _)[ch]? =_
       rw[Array.getElem?_setIfInBounds_ne hne]
theorem ZiR {p:Program} {a:Addr} {v:Value} {b:Bool} {r:World×List Addr} (h:w.farStore p a v b= .ok r):
  (sw w ch o₂).farStore p a v b= .ok (sw r.1 ch o₂,r.2)∧r.1.heap[ch]? =w.heap[ch]? :=by
 unfold World.farStore at h⊢
 by_cases hb:a.block=ch
 ·rw[hb,h1]at h
  cases o₁<;>cases hc1
  cases h
 ·rw[ZdV hb]
  cases hh:w.heap[a.block]? with
  |none=>rw[hh]at h;cases h
  |some o=>
   rw[hh]at h
   cases o with
   |view at_ u=>
    simp only at h⊢
    cases hv:w.viewStore p at_ u a v b with
    |error e=>rw[hv]at h;cases h
    |ok x=>
     rw[hv]at h
     cases h
     obtain⟨h3,h4⟩:=Zg5 h1 hc1 hc2 hv
     rw[h3]
     exact⟨rfl,h4⟩
   |_=>cases h
end
theorem Zlq {α:Type} (P:Program) {pr:Nat→Prop} {ch:Nat} (hpr:pr ch) {o₂:Obj} (hc2:o₂.isChan=true):∀(s:Sem α) (w:World) (es:Array Event) (x:α) (w':World) (es':Array Event) (o₁:Obj),
  s.runT P w es=(.ok x w',es')→(∀e∈es',Yc pr e)→w.heap[ch]? =some o₁→o₁.isChan=true→w'.heap[ch]? =some o₁∧s.runT P (sw w ch o₂) es=(.ok x (sw w' ch o₂),es'):=by
 intro s
 have keep:∀ {β:Type} (k:Sem β) (w:World) (es:Array Event) (e:Event) r,k.runT P w (es.push e)=r→e∈r.2:=fun k w es e r h=>by
  rw[←h];exact Sem.events_keep P k e w _ (by simp)
 induction s with
 |pure a=>
  intro w es x w' es' o₁ h _ h1 _
  simp only[Sem.runT,Prod.mk.injEq,Result.ok.injEq]at h
  obtain⟨⟨rfl,rfl⟩,rfl⟩:=h
  exact⟨h1,by simp[Sem.runT]⟩
 |load m a k ih=>
  intro w es x w' es' o₁ h ho h1 hc1
  simp only[Sem.runT,ZhR h1 hc1 hc2]at h⊢
  cases hv:w.cell? a with
  |some v=>
   rw[hv]at h
   exact ih v w _ x w' es' o₁ h ho h1 hc1
  |none=>
   rw[hv]at h
   simp only at h⊢
   cases hf:w.farLoad P a (m== .atomic)with
   |error e=>rw[hf]at h;simp at h
   |ok r=>
    obtain⟨v,l⟩:=r
    rw[hf]at h
    rw[Zj5 h1 hc1 hc2 hf]
    exact ih v w _ x w' es' o₁ h ho h1 hc1
 |store m a v k ih=>
  intro w es x w' es' o₁ h ho h1 hc1
  have key:∀v,(∀c,v≠ .agg c)→(∀c,v≠ .tuple c)→(Sem.store m a v k).runT P w es=(.ok x w',es')→w'.heap[ch]? =some o₁∧(Sem.store m a v k).runT P (sw w ch o₂) es=(.ok x (sw w' ch o₂),es'):=by
   intro v hn1 hn2 h
   have e1:∀(w:World),(Sem.store m a v k).runT P w es=(match w.cell? a with
    |some _=>
     if w.frozen? a then(.halt (.unsupported (.unsafePointer "a write to bytes that a string shares")) w,es)
     else k.runT P (w.setCell a v) (es.push ⟨.cell a,true,m== .atomic⟩)
    |none=>match w.farStore P a v (m== .atomic)with
     |.ok (w,touched)=>k.runT P w (es++touched.toArray.map (⟨.cell ·,true,m== .atomic⟩))
     |.error h=>(.halt h w,es)):=by
    intro w
    cases v<;>first|rfl|exact absurd rfl (hn1 _)|exact absurd rfl (hn2 _)
   rw[e1]at h⊢
   rw[ZhR h1 hc1 hc2]
   cases hv:w.cell? a with
   |some u=>
    rw[hv]at h
    simp only at h⊢
    rw[ZgI h1 hc1 hc2]
    split at h
    ·simp at h
    ·rename_i hf
     rw[if_neg hf]
     have hne:a.block≠ch:=fun e=>by
      unfold World.cell? at hv
      rw[e,h1]at hv
      cases o₁<;>cases hc1
      cases hv
     have e2:(sw w ch o₂).setCell a v=sw (w.setCell a v) ch o₂:=by
      unfold World.setCell sw
      congr 1
      apply Array.ext_getElem?
      intro j
      simp only[Array.getElem?_modify,Array.getElem?_setIfInBounds,Array.size_modify]
      by_cases hj:a.block=j
      ·subst hj
       simp[Ne.symm hne]
      ·simp[hj]
     rw[e2]
     exact ih _ _ x w' es' o₁ h ho (by
      show(w.heap.modify a.block _)[ch]? =_
      rw[Array.getElem?_modify,if_neg hne];exact h1) hc1
   |none=>
    rw[hv]at h
    simp only at h⊢
    cases hf:w.farStore P a v (m== .atomic)with
    |error e=>rw[hf]at h;simp at h
    |ok r=>
     obtain⟨h3,h4⟩:=ZiR h1 hc1 hc2 hf
     rw[hf]at h
     rw[h3]
     exact ih _ _ x w' es' o₁ h ho (h4.trans h1) hc1
  cases v with
  |agg c=>simp[Sem.runT]at h
  |tuple c=>simp[Sem.runT]at h
  |_=>exact key _ (by simp) (by simp) h
 |new o k ih=>
  intro w es x w' es' o₁ h ho h1 hc1
  simp only[Sem.runT]at h⊢
  have hlt:ch<w.heap.size:=(Array.getElem?_eq_some_iff.1 h1).1
  have e2:({sw w ch o₂ with heap:=(sw w ch o₂).heap.push o}:World)=sw {w with heap:=w.heap.push o} ch o₂:=by
   show World.mk ((w.heap.setIfInBounds ch o₂).push o) _ _ _ _=World.mk ((w.heap.push o).setIfInBounds ch o₂) _ _ _ _
   congr 1
   apply Array.ext_getElem?
   intro j
   simp only[Array.getElem?_push,Array.getElem?_setIfInBounds,Array.size_setIfInBounds,Array.size_push]
   by_cases hj:ch=j
   ·subst hj
    have:¬ch=w.heap.size:=by omega
    simp[this,hlt];omega
   ·simp[hj]
  have e3:(sw w ch o₂).heap.size=w.heap.size:=by simp[sw]
  rw[e2,e3]
  exact ih _ _ _ x w' es' o₁ h ho (by
   show(w.heap.push o)[ch]? =_
   rw[Array.getElem?_push,if_neg (by omega)];exact h1) hc1
 |shape r k ih=>
  intro w es x w' es' o₁ h ho h1 hc1
  simp only[Sem.runT,ZnQ h1 hc1 hc2]at h⊢
  exact ih _ _ _ x w' es' o₁ h ho h1 hc1
 |freeze a n k ih=>
  intro w es x w' es' o₁ h ho h1 hc1
  simp only[Sem.runT]at h⊢
  have e1:(w.freeze a n).heap[ch]? =some o₁:=by
   unfold World.freeze
   split
   ·exact h1
   ·show(w.heap.modify a.block _)[ch]? =_
    rw[Array.getElem?_modify]
    split
    ·rw[h1];cases o₁<;>cases hc1;rfl
    ·exact h1
  have e2:(sw w ch o₂).freeze a n=sw (w.freeze a n) ch o₂:=by
   unfold World.freeze
   split
   ·rfl
   ·unfold sw
    congr 1
    apply Array.ext_getElem?
    intro j
    simp only[Array.getElem?_modify,Array.getElem?_setIfInBounds,Array.size_modify]
    by_cases hj:ch=j
    ·subst hj
     have hlt:ch<w.heap.size:=(Array.getElem?_eq_some_iff.1 h1).1
     simp only[if_true,hlt]
     by_cases ha:a.block=ch
     ·simp only[ha,if_true]
      cases o₂<;>cases hc2;rfl
     ·simp[ha]
    ·simp[hj]
  rw[e2]
  exact ih _ _ x w' es' o₁ h ho e1 hc1
 |frozen a k ih=>
  intro w es x w' es' o₁ h ho h1 hc1
  simp only[Sem.runT,ZgI h1 hc1 hc2]at h⊢
  exact ih _ _ _ x w' es' o₁ h ho h1 hc1
 |getObj r k ih=>
  intro w es x w' es' o₁ h ho h1 hc1
  by_cases hr:r=ch
  ·subst hr
   have e:∀o:Obj,o.isChan=true→w.heap[r]? =some o→(k o).runT P w (es.push ⟨.obj r,false,true⟩)=(.ok x w',es'):=fun o hc e=>by
    simp only[Sem.runT]at h
    rw[e]at h
    cases o<;>cases hc
    exact h
   have:=ho _ (keep _ _ _ _ _ (e _ hc1 h1))
   simp[Yc]at this
  ·simp only[Sem.runT]at h⊢
   rw[ZdV hr]
   cases hh:w.heap[r]? with
   |none=>rw[hh]at h;simp at h
   |some o=>
    rw[hh]at h
    cases o<;>first|(simp at h;done)|exact ih _ _ _ x w' es' o₁ h ho h1 hc1
 |setObj r o k ih=>
  intro w es x w' es' o₁ h ho h1 hc1
  by_cases hr:r=ch
  ·subst hr
   have e:∀o':Obj,o'.isChan=true→w.heap[r]? =some o'→k.runT P {w with heap:=w.heap.setIfInBounds r o} (es.push ⟨.obj r,true,o.isChan⟩)=(.ok x w',es'):=fun o' hc e=>by
    simp only[Sem.runT]at h
    rw[e]at h
    cases o'<;>cases hc
    exact h
   have:=ho _ (keep _ _ _ _ _ (e _ hc1 h1))
   simp[Yc]at this
   exact absurd hpr this.2
  ·have e2:({sw w ch o₂ with heap:=(sw w ch o₂).heap.setIfInBounds r o}:World)=sw {w with heap:=w.heap.setIfInBounds r o} ch o₂:=by
    show World.mk ((w.heap.setIfInBounds ch o₂).setIfInBounds r o) _ _ _ _=World.mk ((w.heap.setIfInBounds r o).setIfInBounds ch o₂) _ _ _ _
    rw[Array.setIfInBounds_comm _ _ (Ne.symm hr)]
    rfl
   have e1:({w with heap:=w.heap.setIfInBounds r o}:World).heap[ch]? =some o₁:=by
    show(w.heap.setIfInBounds r o)[ch]? =_
    rw[Array.getElem?_setIfInBounds_ne hr];exact h1
   simp only[Sem.runT]at h⊢
   rw[ZdV hr]
   cases hh:w.heap[r]? with
   |none=>rw[hh]at h;simp at h
   |some o'=>
    rw[hh]at h
    cases o'<;>first|(simp at h;done)|(rw[e2];exact ih _ _ x w' es' o₁ h ho e1 hc1)
 |choose q k ih=>
  intro w es x w' es' o₁ h ho h1 hc1
  simp only[Sem.runT]at h⊢
  by_cases hf:q.forced=true
  ·rw[if_pos hf]at h⊢
   exact ih _ _ _ x w' es' o₁ h ho h1 hc1
  ·rw[if_neg hf]at h⊢
   exact ih _ {w with drawn:=w.drawn+1} _ x w' es' o₁ h ho h1 hc1
 |sys c k ih=>
  intro w es x w' es' o₁ h ho h1 hc1
  simp only[Sem.runT]at h
  have:=keep _ _ _ _ _ h
  have:=ho _ this
  simp[Yc]at this
 |program k ih=>
  intro w es x w' es' o₁ h ho h1 hc1
  simp only[Sem.runT]at h⊢
  exact ih _ _ _ x w' es' o₁ h ho h1 hc1
 |mark m k ih=>
  intro w es x w' es' o₁ h ho h1 hc1
  simp only[Sem.runT]at h⊢
  exact ih _ _ x w' es' o₁ h ho h1 hc1
 |halt hh=>
  intro w es x w' es' o₁ h ho h1 hc1
  simp[Sem.runT]at h
end Go.Proofs.YtjgpiclllehgmaaGreat.Conc1
