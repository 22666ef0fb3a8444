/- Operations that touch memory plainly and do not ask what shares its bytes with a string. -/
import GoSem.Dispatch
import Derived.Conc.CrowdComm
import Derived.Test.YtjgpiclllehgmaaGreatCxKeep
set_option linter.unusedSimpArgs false
set_option linter.unusedVariables false
namespace Go.Proofs.YtjgpiclllehgmaaGreat.Conc1
open Go
def Qi (P:Program) {α:Type}:Sem α→Prop
 |.pure _=>False
 |.load _ _ k=>∀v,Qi P (k v)
 |.store _ _ _ k=>Qi P k
 |.new _ k=>∀r,Qi P (k r)
 |.shape _ k=>∀s,Qi P (k s)
 |.freeze _ _ k=>Qi P k
 |.frozen _ k=>∀b,Qi P (k b)
 |.getObj _ k=>∀o,Qi P (k o)
 |.setObj _ _ k=>Qi P k
 |.choose _ k=>∀n,Qi P (k n)
 |.sys _ k=>∀r,Qi P (k r)
 |.program k=>Qi P (k P)
 |.mark _ k=>Qi P k
 |.halt _=>True
def Z9 (P:Program) {α:Type} (Q:α→Prop):(Nat→Prop)→Sem α→Prop
 |_,.pure a=>Q a
 |K,.load m _ k=>(m= .plain∨∀v,Qi P (k v))∧∀v,Z9 P Q K (k v)
 |K,.store m _ _ k=>(m= .plain∨Qi P k)∧Z9 P Q K k
 |K,.new o k=>(o.isChan=false∧∀r,Z9 P Q (fun x=>K x∨x=r) (k r))∨∀r,Qi P (k r)
 |K,.shape _ k=>∀s,Z9 P Q K (k s)
 |_,.freeze _ _ k=>Qi P k
 |_,.frozen _ k=>∀b,Qi P (k b)
 |K,.getObj r k=>∀o,(o.isChan=true→Qi P (k o))∧(o.isChan=false→Z9 P Q (fun x=>K x∨x=r) (k o))
 |K,.setObj r o k=>(K r∧o.isChan=false∧Z9 P Q K k)∨Qi P k
 |K,.choose _ k=>∀n,Z9 P Q K (k n)
 |_,.sys _ k=>∀r,Qi P (k r)
 |K,.program k=>Z9 P Q K (k P)
 |K,.mark m k=>(m= .noRoom∧Z9 P Q K k)∨Qi P k
 |_,.halt _=>True
def Zt (P:Program) {α:Type} (K:Nat→Prop) (s:Sem α):Prop:=Z9 P (fun _=>True) K s
section
variable {P:Program} {α β:Type}
theorem Qi.bind_left {s:Sem α} {f:α→Sem β} (h:Qi P s):Qi P (s.bind f):=by
 induction s with
 |pure a=>exact h.elim
 |load m a k ih=>exact fun v=>ih v (h v)
 |store m a v k ih=>exact ih h
 |new o k ih=>exact fun v=>ih v (h v)
 |shape r k ih=>exact fun v=>ih v (h v)
 |freeze a n k ih=>exact ih h
 |frozen a k ih=>exact fun v=>ih v (h v)
 |getObj r k ih=>exact fun v=>ih v (h v)
 |setObj r o k ih=>exact ih h
 |choose q k ih=>exact fun v=>ih v (h v)
 |sys c k ih=>exact fun v=>ih v (h v)
 |program k ih=>exact ih P h
 |mark m k ih=>exact ih h
 |halt h=>trivial
theorem Qi.bind_right {f:α→Sem β} (h:∀a,Qi P (f a)):∀s:Sem α,Qi P (s.bind f):=fun s=>by
 induction s with
 |pure a=>exact h a
 |load m a k ih=>exact fun v=>ih v
 |store m a v k ih=>exact ih
 |new o k ih=>exact fun v=>ih v
 |shape r k ih=>exact fun v=>ih v
 |freeze a n k ih=>exact ih
 |frozen a k ih=>exact fun v=>ih v
 |getObj r k ih=>exact fun v=>ih v
 |setObj r o k ih=>exact ih
 |choose q k ih=>exact fun v=>ih v
 |sys c k ih=>exact fun v=>ih v
 |program k ih=>exact ih P
 |mark m k ih=>exact ih
 |halt h=>trivial
theorem Qi.runT {s:Sem α} (h:Qi P s) (w:World) (es:Array Event) (x:α) (w':World) (es':Array Event) (hr:s.runT P w es=(.ok x w',es')):False:=by
 induction s generalizing w es with
 |pure a=>exact h
 |load m a k ih=>
  simp only[Sem.runT]at hr
  split at hr
  ·exact ih _ (h _) _ _ hr
  ·split at hr
   ·exact ih _ (h _) _ _ hr
   ·simp at hr
 |store m a v k ih=>
  have h:Qi P k:=h
  cases v<;>simp only[Sem.runT]at hr<;>(first|(simp at hr;done)|skip)<;>(repeat' split at hr)<;>first|(simp at hr;done)|exact ih h _ _ hr
 |new o k ih=>exact ih _ (h _) _ _ hr
 |shape r k ih=>exact ih _ (h _) _ _ hr
 |freeze a n k ih=>exact ih h _ _ hr
 |frozen a k ih=>exact ih _ (h _) _ _ hr
 |getObj r k ih=>
  simp only[Sem.runT]at hr
  split at hr
  ·simp at hr
  ·exact ih _ (h _) _ _ hr
  ·simp at hr
 |setObj r o k ih=>
  simp only[Sem.runT]at hr
  split at hr
  ·simp at hr
  ·exact ih h _ _ hr
  ·simp at hr
 |choose q k ih=>
  simp only[Sem.runT]at hr
  split at hr
  ·exact ih _ (h _) _ _ hr
  ·exact ih _ (h _) _ _ hr
 |sys c k ih=>exact ih _ (h _) _ _ hr
 |program k ih=>exact ih P h _ _ hr
 |mark m k ih=>exact ih h _ _ hr
 |halt hh=>simp[Sem.runT]at hr
theorem Z9.of_dies {Q:α→Prop} {s:Sem α} (h:Qi P s):∀K,Z9 P Q K s:=by
 induction s with
 |pure a=>exact h.elim
 |load m a k ih=>exact fun K=>⟨.inr h,fun v=>ih v (h v) K⟩
 |store m a v k ih=>exact fun K=>⟨.inr h,ih h K⟩
 |new o k ih=>exact fun K=>.inr h
 |shape r k ih=>exact fun K v=>ih v (h v) K
 |freeze a n k ih=>exact fun K=>h
 |frozen a k ih=>exact fun K=>h
 |getObj r k ih=>exact fun K o=>⟨fun _=>h o,fun _=>ih o (h o) _⟩
 |setObj r o k ih=>exact fun K=>.inr h
 |choose q k ih=>exact fun K v=>ih v (h v) K
 |sys c k ih=>exact fun K=>h
 |program k ih=>exact fun K=>ih P h K
 |mark m k ih=>exact fun K=>.inr h
 |halt h=>exact fun K=>trivial
theorem Z9.mono {Q Q':α→Prop} {s:Sem α} (hQ:∀a,Q a→Q' a):∀ {K K':Nat→Prop},(∀r,K r→K' r)→Z9 P Q K s→Z9 P Q' K' s:=by
 induction s with
 |pure a=>exact fun _ h=>hQ _ h
 |load m a k ih=>exact fun hK h=>⟨h.1,fun v=>ih v hK (h.2 v)⟩
 |store m a v k ih=>exact fun hK h=>⟨h.1,ih hK h.2⟩
 |new o k ih=>exact fun hK h=>h.imp (fun x=>⟨x.1,fun r=>ih r (fun y hy=>hy.imp (hK y) id) (x.2 r)⟩) id
 |shape r k ih=>exact fun hK h v=>ih v hK (h v)
 |freeze a n k ih=>exact fun hK h=>h
 |frozen a k ih=>exact fun hK h=>h
 |getObj r k ih=>exact fun hK h o=>⟨(h o).1,fun e=>ih o (fun y hy=>hy.imp (hK y) id) ((h o).2 e)⟩
 |setObj r o k ih=>exact fun hK h=>h.imp (fun x=>⟨hK _ x.1,x.2.1,ih hK x.2.2⟩) id
 |choose q k ih=>exact fun hK h v=>ih v hK (h v)
 |sys c k ih=>exact fun hK h=>h
 |program k ih=>exact fun hK h=>ih P hK h
 |mark m k ih=>exact fun hK h=>h.imp (fun x=>⟨x.1,ih hK x.2⟩) id
 |halt h=>exact fun _ h=>h
theorem Z9.bind {Q:α→Prop} {Q':β→Prop} {s:Sem α} {f:α→Sem β}:∀ {K:Nat→Prop},Z9 P Q K s→(∀a K',Q a→(∀r,K r→K' r)→Z9 P Q' K' (f a))→Z9 P Q' K (s.bind f):=by
 induction s with
 |pure a=>exact fun h hf=>hf a _ h fun _ h=>h
 |load m a k ih=>exact fun h hf=>⟨h.1.imp id fun x v=>(x v).bind_left,fun v=>ih v (h.2 v) hf⟩
 |store m a v k ih=>exact fun h hf=>⟨h.1.imp id fun x=>x.bind_left,ih h.2 hf⟩
 |new o k ih=>exact fun h hf=>h.imp (fun x=>⟨x.1,fun r=>ih r (x.2 r) fun a K' hq hK=>hf a K' hq fun y hy=>hK y (.inl hy)⟩) fun x r=>(x r).bind_left
 |shape r k ih=>exact fun h hf v=>ih v (h v) hf
 |freeze a n k ih=>exact fun h hf=>Qi.bind_left h
 |frozen a k ih=>exact fun h hf b=>(h b).bind_left
 |getObj r k ih=>exact fun h hf o=>⟨fun e=>((h o).1 e).bind_left,fun e=>ih o ((h o).2 e) fun a K' hq hK=>hf a K' hq fun y hy=>hK y (.inl hy)⟩
 |setObj r o k ih=>exact fun h hf=>h.imp (fun x=>⟨x.1,x.2.1,ih x.2.2 hf⟩) Qi.bind_left
 |choose q k ih=>exact fun h hf v=>ih v (h v) hf
 |sys c k ih=>exact fun h hf b=>(h b).bind_left
 |program k ih=>exact fun h hf=>ih P h hf
 |mark m k ih=>exact fun h hf=>h.imp (fun x=>⟨x.1,ih x.2 hf⟩) Qi.bind_left
 |halt h=>exact fun _ _=>trivial
end
def Zh2 (w:World) (r:Nat):Prop:=∃o,w.heap[r]? =some o∧o.isChan=false
structure Fz (cell:Nat) (wf w:World):Prop where
 tape:w.tape=wf.tape
 drawn:w.drawn=wf.drawn
 os:w.os=wf.os
 output:w.output=wf.output
 size:w.heap.size=wf.heap.size
 ne:∀b,b≠cell→w.heap[b]? =wf.heap[b]?
 at_:∃c e f,w.heap[cell]? =some (.cells c e f)∧wf.heap[cell]? =some (.cells c e (0,c.size))
section
variable {P:Program} {α:Type} {cell ch:Nat} {wf w:World}
theorem Fz.cell_eq (h:Fz cell wf w) (a:Addr):w.cell? a=wf.cell? a:=by
 unfold World.cell?
 by_cases hb:a.block=cell
 ·obtain⟨c,e,f,h1,h2⟩:=h.at_
  rw[hb,h1,h2]
 ·rw[h.ne _ hb]
theorem Fz.shape_eq (h:Fz cell wf w) (r:Nat):w.shape? r=wf.shape? r:=by
 unfold World.shape?
 by_cases hb:r=cell
 ·obtain⟨c,e,f,h1,h2⟩:=h.at_
  rw[hb,h1,h2]
 ·rw[h.ne _ hb]
theorem ZeU {w w':World} {p:Program} {a:Addr} {u:TypeId} {k:Addr} {b:Bool} {c:Array Value} {e:TypeId} {f f':Nat×Nat} {x} (h1:w.heap[a.block]? =some (.cells c e f)) (h2:w'.heap[a.block]? =some (.cells c e f')) (h:w'.seen p a u k b= .ok x):
  w.seen p a u k b= .ok (x.1,x.2.1,f,x.2.2.2):=by
 unfold World.seen at h⊢
 rw[h2]at h
 rw[h1]
 simp only[bind,Except.bind,pure,Except.pure]at h⊢
 (repeat' split at h)<;>first|(cases h;done)|skip
 all_goals
  cases h
  simp_all
theorem Fz.farLoad (h:Fz cell wf w) {p:Program} {a:Addr} {b:Bool} {r:Value×List Addr} (hr:wf.farLoad p a b= .ok r):w.farLoad p a b= .ok r:=by
 unfold World.farLoad at hr⊢
 by_cases hb:a.block=cell
 ·obtain⟨c,e,f,h1,h2⟩:=h.at_
  rw[hb,h2]at hr
  cases hr
 ·rw[h.ne _ hb]
  cases hh:wf.heap[a.block]? with
  |none=>rw[hh]at hr;cases hr
  |some o=>
   rw[hh]at hr
   cases o with
   |view at_ u=>
    simp only at hr⊢
    have:w.viewLoad p at_ u a b=wf.viewLoad p at_ u a b∨∃e,wf.viewLoad p at_ u a b= .error e:=by
     unfold World.viewLoad
     cases hs:wf.seen p at_ u a b with
     |error e=>exact .inr ⟨e,rfl⟩
     |ok x=>
      refine .inl ?_
      by_cases hc:at_.block=cell
      ·obtain⟨c,e,f,h1,h2⟩:=h.at_
       rw[ZeU (by rw[hc];exact h1) (by rw[hc];exact h2) hs]
       rfl
      ·have:w.seen p at_ u a b=wf.seen p at_ u a b:=by
        unfold World.seen
        rw[h.ne _ hc]
       rw[this,hs]
    rcases this with e|⟨e,he⟩
    ·rw[e];exact hr
    ·rw[he]at hr;cases hr
   |_=>cases hr
theorem ZiO {A B:Type} {c:A} {g:A→B→Except String A} (hg:∀y r,g c y≠ .ok r):∀(cells:List B),cells≠ []→∀r,cells.foldlM (init:=c) g≠ .ok r:=by
 intro cells hne r h
 cases cells with
 |nil=>exact hne rfl
 |cons y l=>
  simp only[List.foldlM_cons,Bind.bind,Except.bind]at h
  split at h
  ·cases h
  ·rename_i hok;exact hg _ _ hok
theorem Fz.lt (h:Fz cell wf w):cell<wf.heap.size:=by
 obtain⟨c,e,f,h1,h2⟩:=h.at_
 exact(Array.getElem?_eq_some_iff.1 h2).1
theorem Fz.set_at (h:Fz cell wf w) (c:Array Value) (e:TypeId) (f:Nat×Nat):Fz cell {wf with heap:=wf.heap.setIfInBounds cell (.cells c e (0,c.size))} {w with heap:=w.heap.setIfInBounds cell (.cells c e f)}:=by
 have hlt:=h.lt
 refine⟨h.tape,h.drawn,h.os,h.output,by simpa using h.size,fun b hb=>?_,c,e,f,?_,?_⟩
 ·show(w.heap.setIfInBounds cell _)[b]? =(wf.heap.setIfInBounds cell _)[b]?
  rw[Array.getElem?_setIfInBounds_ne (Ne.symm hb),Array.getElem?_setIfInBounds_ne (Ne.symm hb)]
  exact h.ne b hb
 ·show(w.heap.setIfInBounds cell _)[cell]? =_
  rw[Array.getElem?_setIfInBounds_self_of_lt (by rw[h.size];exact hlt)]
 ·show(wf.heap.setIfInBounds cell _)[cell]? =_
  rw[Array.getElem?_setIfInBounds_self_of_lt hlt]
theorem Fz.set_ne (h:Fz cell wf w) {b:Nat} (hb:b≠cell) (o:Obj):Fz cell {wf with heap:=wf.heap.setIfInBounds b o} {w with heap:=w.heap.setIfInBounds b o}:=by
 refine⟨h.tape,h.drawn,h.os,h.output,by simpa using h.size,fun b' hb'=>?_,?_⟩
 ·show(w.heap.setIfInBounds b o)[b']? =(wf.heap.setIfInBounds b o)[b']?
  rw[Array.getElem?_setIfInBounds,Array.getElem?_setIfInBounds,h.size,h.ne b' hb']
 ·obtain⟨c,e,f,h1,h2⟩:=h.at_
  refine⟨c,e,f,?_,?_⟩
  ·show(w.heap.setIfInBounds b o)[cell]? =_
   rw[Array.getElem?_setIfInBounds_ne hb];exact h1
  ·show(wf.heap.setIfInBounds b o)[cell]? =_
   rw[Array.getElem?_setIfInBounds_ne hb];exact h2
theorem Fz.viewStore (h:Fz cell wf w) {p:Program} {a:Addr} {u:TypeId} {k:Addr} {v:Value} {b:Bool} {r:World×List Addr} (hr:wf.viewStore p a u k v b= .ok r):
  ∃w',w.viewStore p a u k v b= .ok (w',r.2)∧Fz cell r.1 w'∧(∀x∈r.2,x.block≠cell)∧(∀ch o,wf.heap[ch]? =some o→o.isChan=true→r.1.heap[ch]? =some o∧∀x∈r.2,x.block≠ch):=by
 have ob:∀ {ε α β:Type} (x:α) (f:α→Except ε β),(Except.ok x>>=f)=f x:=fun _ _=>rfl
 unfold World.viewStore at hr⊢
 cases ht:(!tight p p.depth u)
 case true=>rw[ht]at hr;simp only[if_true]at hr;cases hr
 case false=>
  rw[ht]at hr
  simp only[Bool.false_eq_true,if_false]at hr⊢
  cases hs:wf.seen p a u k b with
  |error e=>rw[hs]at hr;cases hr
  |ok x=>
   have hcl:=ZeV hs
   have hnc:∀ch o,wf.heap[ch]? =some o→o.isChan=true→a.block≠ch:=fun ch o h1 h2 e=>by
    rw[e,h1]at hcl
    cases hcl
    cases h2
   have hs':∃f,w.seen p a u k b= .ok (x.1,x.2.1,f,x.2.2.2)∧(a.block≠cell→f=x.2.2.1)∧w.heap[a.block]? =some (.cells x.1 x.2.1 f):=by
    by_cases hc:a.block=cell
    ·obtain⟨c,e,f,h1,h2⟩:=h.at_
     rw[hc,h2]at hcl
     simp only[Option.some.injEq,Obj.cells.injEq]at hcl
     exact⟨f,ZeU (by rw[hc];exact h1) (by rw[hc];exact h2) hs,fun hn=>absurd hc hn,by rw[hc,←hcl.1,←hcl.2.1];exact h1⟩
    ·refine⟨x.2.2.1,?_,fun _=>rfl,by rw[h.ne _ hc];exact hcl⟩
     have:w.seen p a u k b=wf.seen p a u k b:=by
      unfold World.seen
      rw[h.ne _ hc]
     rw[this,hs]
   obtain⟨f,hs',hf,hcl'⟩:=hs'
   rw[hs]at hr
   rw[hs']
   obtain⟨c,e,frozen,first,like,cells⟩:=x
   simp only[ob]at hr hcl hcl' hf⊢
   cases hv:v.bytes? with
   |none=>rw[hv]at hr;cases hr
   |some bytes=>
    rw[hv]at hr
    simp only at hr⊢
    by_cases hz:some bytes.length≠like.bytes?.map (·.length)
    ·simp only[if_pos hz]at hr;cases hr
    ·simp only[if_neg hz]at hr⊢
     by_cases hc:a.block=cell
     ·have hnil:cells=[]:=by
       refine Classical.byContradiction fun hne=>?_
       have hfz:frozen=(0,c.size):=by
        obtain⟨c',e',f',h1,h2⟩:=h.at_
        rw[hc,h2]at hcl
        simp only[Option.some.injEq,Obj.cells.injEq]at hcl
        rw[←hcl.2.2,hcl.1]
       subst hfz
       revert hr
       generalize hzz:List.foldlM (m:=Except String) _ c cells=z
       intro hr
       cases z with
       |error e=>cases hr
       |ok c'=>
        refine absurd hzz (ZiO ?_ cells hne _)
        intro y r hok
        obtain⟨i,s,bs⟩:=y
        simp only[Bind.bind,Except.bind,Pure.pure,Except.pure]at hok
        split at hok
        ·cases hok
        ·split at hok
         ·cases hok
         ·rename_i hi
          have hlt:¬i<c.size:=by
           intro hlt
           simp[hlt]at hi
          have:c[i]? =none:=by simp;omega
          rw[this]at hok
          cases hok
      subst hnil
      cases hr
      refine⟨_,rfl,?_,fun x hx=>by simp at hx,fun ch o h1 h2=>⟨?_,fun x hx=>by simp at hx⟩⟩
      ·have hfz:frozen=(0,c.size):=by
        obtain⟨c',e',f',h1,h2⟩:=h.at_
        rw[hc,h2]at hcl
        simp only[Option.some.injEq,Obj.cells.injEq]at hcl
        rw[←hcl.2.2,hcl.1]
       subst hfz
       rw[hc]
       exact h.set_at c e f
      ·show(wf.heap.setIfInBounds a.block _)[ch]? =_
       rw[Array.getElem?_setIfInBounds_ne (hnc ch o h1 h2)]
       exact h1
     ·obtain rfl:=hf hc
      revert hr
      generalize List.foldlM (m:=Except String) _ c cells=z
      intro hr
      cases z with
      |error e=>cases hr
      |ok c'=>
       cases hr
       refine⟨_,rfl,h.set_ne hc _,fun x hx=>?_,fun ch o h1 h2=>⟨?_,fun x hx=>?_⟩⟩
       ·obtain⟨y,_,rfl⟩:=List.mem_map.1 hx
        exact hc
       ·show(wf.heap.setIfInBounds a.block _)[ch]? =_
        rw[Array.getElem?_setIfInBounds_ne (hnc ch o h1 h2)]
        exact h1
       ·obtain⟨y,_,rfl⟩:=List.mem_map.1 hx
        exact hnc ch o h1 h2
theorem Fz.farStore (h:Fz cell wf w) {p:Program} {a:Addr} {v:Value} {b:Bool} {r:World×List Addr} (hr:wf.farStore p a v b= .ok r):
  ∃w',w.farStore p a v b= .ok (w',r.2)∧Fz cell r.1 w'∧(∀x∈r.2,x.block≠cell)∧(∀ch o,wf.heap[ch]? =some o→o.isChan=true→r.1.heap[ch]? =some o∧∀x∈r.2,x.block≠ch):=by
 unfold World.farStore at hr⊢
 by_cases hb:a.block=cell
 ·obtain⟨c,e,f,h1,h2⟩:=h.at_
  rw[hb,h2]at hr
  cases hr
 ·rw[h.ne _ hb]
  cases hh:wf.heap[a.block]? with
  |none=>rw[hh]at hr;cases hr
  |some o=>
   rw[hh]at hr
   cases o with
   |view at_ u=>
    simp only at hr⊢
    cases hv:wf.viewStore p at_ u a v b with
    |error e=>rw[hv]at hr;cases hr
    |ok x=>
     rw[hv]at hr
     cases hr
     obtain⟨w',h1,h2⟩:=h.viewStore hv
     rw[h1]
     exact⟨w',rfl,h2⟩
   |_=>cases hr
end
theorem Zal {P:Program} {w:World} {a:Addr} {v:Value} {b:Bool} {r:World×List Addr} (h:w.farStore P a v b= .ok r) {k:Nat} {o:Obj} (ho:w.heap[k]? =some o) (hi:o.isChan=false):Zh2 r.1 k:=by
 have ob:∀ {ε α β:Type} (x:α) (f:α→Except ε β),(Except.ok x>>=f)=f x:=fun _ _=>rfl
 unfold World.farStore at h
 cases hh:w.heap[a.block]? with
 |none=>rw[hh]at h;cases h
 |some o₁=>
 rw[hh]at h
 cases o₁ with
 |view at_ u=>
  simp only at h
  cases hv:w.viewStore P at_ u a v b with
  |error e=>rw[hv]at h;cases h
  |ok x=>
   rw[hv]at h
   cases h
   unfold World.viewStore at hv
   cases ht:(!tight P P.depth u)
   case true=>rw[ht]at hv;simp only[if_true]at hv;cases hv
   case false=>
   rw[ht]at hv
   simp only[Bool.false_eq_true,if_false]at hv
   cases hs:w.seen P at_ u a b with
   |error e=>rw[hs]at hv;cases hv
   |ok x=>
    rw[hs]at hv
    obtain⟨c,e,frozen,first,like,cells⟩:=x
    simp only[ob]at hv
    cases hvb:v.bytes? with
    |none=>rw[hvb]at hv;cases hv
    |some bytes=>
     rw[hvb]at hv
     simp only at hv
     by_cases hz:some bytes.length≠like.bytes?.map (·.length)
     ·simp only[if_pos hz]at hv;cases hv
     ·simp only[if_neg hz]at hv
      revert hv
      generalize List.foldlM (m:=Except String) _ c cells=z
      intro hv
      cases z with
      |error e=>cases hv
      |ok c'=>
       cases hv
       by_cases hk:at_.block=k
       ·subst hk
        refine⟨.cells c' e frozen,?_,rfl⟩
        show(w.heap.setIfInBounds at_.block _)[at_.block]? =_
        rw[Array.getElem?_setIfInBounds_self_of_lt (Array.getElem?_eq_some_iff.1 ho).1]
       ·refine⟨o,?_,hi⟩
        show(w.heap.setIfInBounds at_.block _)[k]? =_
        rw[Array.getElem?_setIfInBounds_ne hk];exact ho
 |_=>cases h
def pr2 (cell ch:Nat) (n:Nat):Prop:=n=cell∨n=ch
theorem ZmK {α:Type} (P:Program) {cell ch:Nat}:∀(s:Sem α) (K:Nat→Prop) (wf w:World) (es:Array Event) (x:α) (wf':World) (es':Array Event),Zt P K s→Fz cell wf w→(∀r,K r→Zh2 wf r)→(∃o,wf.heap[ch]? =some o∧o.isChan=true)→
  s.runT P wf es=(.ok x wf',es')→(∃w',s.runT P w es=(.ok x w',es')∧Fz cell wf' w')∧wf'.heap[ch]? =wf.heap[ch]? ∧∀e∈es',e∈es∨Yc (pr2 cell ch) e:=by
 intro s
 induction s with
 |pure a=>
  intro K wf w es x wf' es' _ hF _ _ h
  simp only[Sem.runT,Prod.mk.injEq,Result.ok.injEq]at h
  obtain⟨⟨rfl,rfl⟩,rfl⟩:=h
  exact⟨⟨w,rfl,hF⟩,rfl,fun e he=>.inl he⟩
 |load m a k ih=>
  intro K wf w es x wf' es' hM hF hK hC h
  rcases hM.1 with rfl|hd
  case inr=>exact(Qi.runT (s:=.load m a k) hd _ _ _ _ _ h).elim
  simp only[Sem.runT,hF.cell_eq]at h⊢
  cases hv:wf.cell? a with
  |some v=>
   rw[hv]at h
   obtain⟨h1,h2,h3⟩:=ih v K wf w _ x wf' es' (hM.2 v) hF hK hC h
   refine⟨h1,h2,fun e he=>?_⟩
   rcases h3 e he with h4|h4
   ·rcases Array.mem_push.1 h4 with h5|rfl
    ·exact .inl h5
    ·exact .inr ⟨rfl,fun hw=>by cases hw⟩
   ·exact .inr h4
  |none=>
   rw[hv]at h
   simp only at h⊢
   cases hf:wf.farLoad P a (Mode.plain== .atomic)with
   |error e=>rw[hf]at h;simp at h
   |ok r=>
    obtain⟨v,l⟩:=r
    rw[hf]at h
    rw[hF.farLoad hf]
    obtain⟨h1,h2,h3⟩:=ih v K wf w _ x wf' es' (hM.2 v) hF hK hC h
    refine⟨h1,h2,fun e he=>?_⟩
    rcases h3 e he with h4|h4
    ·rcases Array.mem_append.1 h4 with h5|h5
     ·exact .inl h5
     ·obtain⟨y,_,rfl⟩:=Array.mem_map.1 h5
      exact .inr ⟨rfl,fun hw=>by cases hw⟩
    ·exact .inr h4
 |store m a v k ih=>
  intro K wf w es x wf' es' hM hF hK hC h
  rcases hM.1 with rfl|hd
  case inr=>exact(Qi.runT (s:=.store m a v k) hd _ _ _ _ _ h).elim
  have key:∀v,(∀c,v≠ .agg c)→(∀c,v≠ .tuple c)→(Sem.store .plain a v k).runT P wf es=(.ok x wf',es')→
    (∃w',(Sem.store .plain a v k).runT P w es=(.ok x w',es')∧Fz cell wf' w')∧wf'.heap[ch]? =wf.heap[ch]? ∧∀e∈es',e∈es∨Yc (pr2 cell ch) e:=by
   intro v hn1 hn2 h
   have e1:∀(w:World),(Sem.store .plain a v k).runT P w es=(match w.cell? a with
    |some _=>
     if w.frozen? a then(.halt (.unsupported (.unsafePointer "a write to bytes that a string shares")) w,es)
     else k.runT P (w.setCell a v) (es.push ⟨.cell a,true,Mode.plain== .atomic⟩)
    |none=>match w.farStore P a v (Mode.plain== .atomic)with
     |.ok (w,touched)=>k.runT P w (es++touched.toArray.map (⟨.cell ·,true,Mode.plain== .atomic⟩))
     |.error h=>(.halt h w,es)):=by
    intro w
    cases v<;>first|rfl|exact absurd rfl (hn1 _)|exact absurd rfl (hn2 _)
   rw[e1]at h⊢
   rw[hF.cell_eq]
   obtain⟨oc,hoc,hic⟩:=hC
   cases hv:wf.cell? a with
   |some u=>
    rw[hv]at h
    simp only at h⊢
    split at h
    ·simp at h
    ·rename_i hf
     have hne:a.block≠cell:=fun e=>by
      obtain⟨c,t,f,h1,h2⟩:=hF.at_
      unfold World.cell? at hv
      rw[e,h2]at hv
      simp only at hv
      split at hv
      ·cases hv
      ·refine hf ?_
       unfold World.frozen?
       rw[e,h2]
       have hlt:a.off<c.size:=(Array.getElem?_eq_some_iff.1 hv).1
       simp[hlt]
     have hnc:a.block≠ch:=fun e=>by
      unfold World.cell? at hv
      rw[e,hoc]at hv
      cases oc<;>cases hic
      cases hv
     have hfw:w.frozen? a=wf.frozen? a:=by
      unfold World.frozen?
      rw[hF.ne _ hne]
     rw[hfw,if_neg hf]
     obtain⟨c,t,f,hb⟩:∃c t f,wf.heap[a.block]? =some (.cells c t f):=by
      unfold World.cell? at hv
      split at hv
      ·rename_i c t f hh;exact⟨c,t,f,hh⟩
      ·cases hv
     have hset:∀(w:World),w.heap[a.block]? =some (.cells c t f)→w.setCell a v={w with heap:=w.heap.setIfInBounds a.block (.cells (if a.spot.isSome then c else c.setIfInBounds a.off v) t f)}:=fun w hw=>by
      unfold World.setCell
      congr 1
      exact Conc.modify_eq_set _ _ _ _ hw
     rw[hset wf hb]at h
     rw[hset w (by rw[hF.ne _ hne];exact hb)]
     have hch:({wf with heap:=wf.heap.setIfInBounds a.block (.cells (if a.spot.isSome then c else c.setIfInBounds a.off v) t f)}:World).heap[ch]? =some oc:=by
      show(wf.heap.setIfInBounds a.block _)[ch]? =_
      rw[Array.getElem?_setIfInBounds_ne hnc];exact hoc
     obtain⟨h1,h2,h3⟩:=ih K _ _ _ x wf' es' hM.2 (hF.set_ne hne _) (fun r hr=>by
      obtain⟨o,ho,hi⟩:=hK r hr
      by_cases hra:a.block=r
      ·subst hra
       refine⟨.cells (if a.spot.isSome then c else c.setIfInBounds a.off v) t f,?_,rfl⟩
       ·show(wf.heap.setIfInBounds a.block _)[a.block]? =_
        rw[Array.getElem?_setIfInBounds_self_of_lt (Array.getElem?_eq_some_iff.1 ho).1]
      ·refine⟨o,?_,hi⟩
       show(wf.heap.setIfInBounds a.block _)[r]? =_
       rw[Array.getElem?_setIfInBounds_ne hra];exact ho) ⟨oc,hch,hic⟩ h
     refine⟨h1,h2.trans (hch.trans hoc.symm),fun e he=>?_⟩
     rcases h3 e he with h4|h4
     ·rcases Array.mem_push.1 h4 with h5|rfl
      ·exact .inl h5
      ·exact .inr ⟨rfl,fun _ hp=>hp.elim hne hnc⟩
     ·exact .inr h4
   |none=>
    rw[hv]at h
    simp only at h⊢
    cases hf:wf.farStore P a v (Mode.plain== .atomic)with
    |error e=>rw[hf]at h;simp at h
    |ok r=>
     obtain⟨w',h3,h4,h5,h6⟩:=hF.farStore hf
     obtain⟨h7,h8⟩:=h6 ch oc hoc hic
     rw[hf]at h
     rw[h3]
     obtain⟨h1,h2,h9⟩:=ih K _ _ _ x wf' es' hM.2 h4 (fun r' hr=>by
      obtain⟨o,ho,hi⟩:=hK r' hr
      exact Zal hf ho hi) ⟨oc,h7,hic⟩ h
     refine⟨h1,h2.trans (h7.trans hoc.symm),fun e he=>?_⟩
     rcases h9 e he with h10|h10
     ·rcases Array.mem_append.1 h10 with h11|h11
      ·exact .inl h11
      ·obtain⟨y,hy,rfl⟩:=Array.mem_map.1 h11
       exact .inr ⟨rfl,fun _ hp=>hp.elim (h5 y (by simpa using hy)) (h8 y (by simpa using hy))⟩
     ·exact .inr h10
  cases v with
  |agg c=>simp[Sem.runT]at h
  |tuple c=>simp[Sem.runT]at h
  |_=>exact key _ (by simp) (by simp) h
 |new o k ih=>
  intro K wf w es x wf' es' hM hF hK hC h
  rcases hM with⟨ho,hM⟩|hd
  case inr=>exact(Qi.runT (s:=.new o k) hd _ _ _ _ _ h).elim
  simp only[Sem.runT]at h⊢
  have hsz:=hF.size
  rw[hsz]
  have hget:∀b,b<wf.heap.size→(wf.heap.push o)[b]? =wf.heap[b]? :=fun b hb=>by rw[Array.getElem?_push_lt hb,←Array.getElem?_eq_getElem hb]
  obtain⟨oc,hoc,hic⟩:=hC
  have hlc:=(Array.getElem?_eq_some_iff.1 hoc).1
  have hF':Fz cell {wf with heap:=wf.heap.push o} {w with heap:=w.heap.push o}:=by
   refine⟨hF.tape,hF.drawn,hF.os,hF.output,by simpa using hsz,fun b hb=>?_,?_⟩
   ·show(w.heap.push o)[b]? =(wf.heap.push o)[b]?
    rw[Array.getElem?_push,Array.getElem?_push,hsz,hF.ne b hb]
   ·obtain⟨c,e,f,h1,h2⟩:=hF.at_
    refine⟨c,e,f,?_,?_⟩
    ·show(w.heap.push o)[cell]? =_
     rw[Array.getElem?_push,if_neg (by have:=hF.lt;omega)];exact h1
    ·show(wf.heap.push o)[cell]? =_
     rw[hget _ hF.lt];exact h2
  obtain⟨h1,h2,h3⟩:=ih wf.heap.size _ _ _ _ x wf' es' (hM _) hF' (fun r hr=>by
   rcases hr with hr|rfl
   ·obtain⟨o',ho',hi⟩:=hK r hr
    exact⟨o',(hget r (Array.getElem?_eq_some_iff.1 ho').1).trans ho',hi⟩
   ·exact⟨o,by show(wf.heap.push o)[wf.heap.size]? =_;simp,ho⟩) ⟨oc,(hget ch hlc).trans hoc,hic⟩ h
  exact⟨h1,h2.trans (hget ch hlc),h3⟩
 |shape r k ih=>
  intro K wf w es x wf' es' hM hF hK hC h
  simp only[Sem.runT,hF.shape_eq]at h⊢
  exact ih _ K wf w es x wf' es' (hM _) hF hK hC h
 |freeze a n k ih=>exact fun K wf w es x wf' es' hM hF hK hC h=>(Qi.runT (s:=.freeze a n k) hM _ _ _ _ _ h).elim
 |frozen a k ih=>exact fun K wf w es x wf' es' hM hF hK hC h=>(Qi.runT (s:=.frozen a k) hM _ _ _ _ _ h).elim
 |getObj r k ih=>
  intro K wf w es x wf' es' hM hF hK hC h
  simp only[Sem.runT]at h⊢
  split at h
  ·simp at h
  ·rename_i o hne ho
   have hrc:r≠cell:=fun e=>by
    obtain⟨c,t,f,h1,h2⟩:=hF.at_
    rw[e,h2]at ho
    cases ho
    exact hne _ _ _ rfl
   rw[hF.ne r hrc,ho]
   cases hch:o.isChan with
   |true=>exact((hM o).1 hch|>.runT _ _ _ _ _ h).elim
   |false=>
    obtain⟨h1,h2,h3⟩:=ih o _ wf w _ x wf' es' ((hM o).2 hch) hF (fun r' hr=>hr.elim (hK r') fun e=>⟨o,by rw[e];exact ho,hch⟩) hC h
    refine⟨?_,h2,fun e he=>?_⟩
    ·obtain⟨w',h4,h5⟩:=h1
     refine⟨w',?_,h5⟩
     cases o<;>first|exact absurd rfl (hne _ _ _)|exact h4
    ·rcases h3 e he with h4|h4
     ·rcases Array.mem_push.1 h4 with h5|rfl
      ·exact .inl h5
      ·exact .inr ⟨hch,fun hw=>by cases hw⟩
     ·exact .inr h4
  ·simp at h
 |setObj r o k ih=>
  intro K wf w es x wf' es' hM hF hK hC h
  rcases hM with⟨hr,ho,hM⟩|hd
  case inr=>exact(Qi.runT (s:=.setObj r o k) hd _ _ _ _ _ h).elim
  simp only[Sem.runT]at h⊢
  obtain⟨oc,hoc,hic⟩:=hC
  obtain⟨o',ho',hi'⟩:=hK r hr
  have hrch:r≠ch:=fun e=>by
   rw[e,hoc]at ho'
   cases ho'
   rw[hic]at hi'
   cases hi'
  split at h
  ·simp at h
  ·rename_i u hne hu
   have hrc:r≠cell:=fun e=>by
    obtain⟨c,t,f,h1,h2⟩:=hF.at_
    rw[e,h2]at hu
    cases hu
    exact hne _ _ _ rfl
   rw[hF.ne r hrc,hu]
   have hch:({wf with heap:=wf.heap.setIfInBounds r o}:World).heap[ch]? =some oc:=by
    show(wf.heap.setIfInBounds r o)[ch]? =_
    rw[Array.getElem?_setIfInBounds_ne hrch];exact hoc
   obtain⟨h1,h2,h3⟩:=ih K _ _ _ x wf' es' hM (hF.set_ne hrc o) (fun r' hr'=>by
    by_cases e:r=r'
    ·subst e
     refine⟨o,?_,ho⟩
     show(wf.heap.setIfInBounds r o)[r]? =_
     rw[Array.getElem?_setIfInBounds_self_of_lt (Array.getElem?_eq_some_iff.1 ho').1]
    ·obtain⟨o2,ho2,hi2⟩:=hK r' hr'
     refine⟨o2,?_,hi2⟩
     show(wf.heap.setIfInBounds r o)[r']? =_
     rw[Array.getElem?_setIfInBounds_ne e];exact ho2) ⟨oc,hch,hic⟩ h
   refine⟨?_,h2.trans (hch.trans hoc.symm),fun e he=>?_⟩
   ·obtain⟨w',h4,h5⟩:=h1
    refine⟨w',?_,h5⟩
    cases u<;>first|exact absurd rfl (hne _ _ _)|exact h4
   ·rcases h3 e he with h4|h4
    ·rcases Array.mem_push.1 h4 with h5|rfl
     ·exact .inl h5
     ·exact .inr ⟨ho,fun _ hp=>hp.elim hrc hrch⟩
    ·exact .inr h4
  ·simp at h
 |choose q k ih=>
  intro K wf w es x wf' es' hM hF hK hC h
  simp only[Sem.runT]at h⊢
  rw[hF.drawn]
  split at h
  ·rename_i hf
   rw[if_pos hf]
   exact ih _ K wf w es x wf' es' (hM _) hF hK hC h
  ·rename_i hf
   rw[if_neg hf]
   have:=ih _ K {wf with drawn:=wf.drawn+1} {w with drawn:=wf.drawn+1} es x wf' es' (hM _) ⟨hF.tape,rfl,hF.os,hF.output,hF.size,hF.ne,hF.at_⟩ hK hC h
   rw[show w.tape wf.drawn q=wf.tape wf.drawn q by rw[hF.tape]]
   exact this
 |sys c k ih=>exact fun K wf w es x wf' es' hM hF hK hC h=>(Qi.runT (s:=.sys c k) hM _ _ _ _ _ h).elim
 |program k ih=>
  intro K wf w es x wf' es' hM hF hK hC h
  exact ih P K wf w es x wf' es' hM hF hK hC h
 |mark m k ih=>
  intro K wf w es x wf' es' hM hF hK hC h
  rcases hM with⟨rfl,hM⟩|hd
  case inr=>exact(Qi.runT (s:=.mark m k) hd _ _ _ _ _ h).elim
  simp only[Sem.runT]at h⊢
  obtain⟨h1,h2,h3⟩:=ih K wf w _ x wf' es' hM hF hK hC h
  refine⟨h1,h2,fun e he=>?_⟩
  rcases h3 e he with h4|h4
  ·rcases Array.mem_push.1 h4 with h5|rfl
   ·exact .inl h5
   ·exact .inr (show Conc.Neutral .noRoom from rfl)
  ·exact .inr h4
 |halt hh=>
  intro K wf w es x wf' es' hM hF hK hC h
  simp[Sem.runT]at h
end Go.Proofs.YtjgpiclllehgmaaGreat.Conc1
