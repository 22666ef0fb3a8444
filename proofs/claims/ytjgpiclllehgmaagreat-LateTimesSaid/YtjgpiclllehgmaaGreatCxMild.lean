/- Lemmas. -/
import GoSem.Dispatch
import Derived.Conc.CrowdComm
import Derived.Test.YtjgpiclllehgmaaGreatCxKeep
set_option linter.all false
open Array renaming getElem?_eq_some_iff->aM,getElem?_push->bK,getElem?_setIfInBounds->bR,getElem?_setIfInBounds_ne->aF,getElem?_setIfInBounds_self_of_lt->bH,mem_append->eC,mem_map->gk,mem_push->ej
open Bool renaming false_eq_true->aX
open List renaming foldlM->fD,mem_map->bE
open Option.some renaming injEq->aC
open Go.World renaming cell?->bU
namespace Go.Proofs.YtjgpiclllehgmaaGreat
namespace Conc1
open Go
def Qn (P:Program) {α:Type}:Sem α->Prop
 |.pure _=>False
 |.load _ _ k=>∀v,Qn P (k v)
 |.store _ _ _ k=>Qn P k
 |.new _ k=>∀r,Qn P (k r)
 |.shape _ k=>∀s,Qn P (k s)
 |.freeze _ _ k=>Qn P k
 |.frozen _ k=>∀b,Qn P (k b)
 |.getObj _ k=>∀o,Qn P (k o)
 |.setObj _ _ k=>Qn P k
 |.choose _ k=>∀n,Qn P (k n)
 |.sys _ k=>∀r,Qn P (k r)
 |.program k=>Qn P (k P)
 |.mark _ k=>Qn P k
 |.halt _=>True
def Qc (P:Program) {α:Type} (Q:α->Prop):(Nat->Prop)->Sem α->Prop
 |_,.pure a=>Q a
 |K,.load m _ k=>(m= .plain\/∀v,Qn P (k v))/\∀v,Qc P Q K (k v)
 |K,.store m _ _ k=>(m= .plain\/Qn P k)/\Qc P Q K k
 |K,.new o k=>(o.isChan=false/\∀r,Qc P Q (fun x=>K x\/x=r) (k r))\/∀r,Qn P (k r)
 |K,.shape _ k=>∀s,Qc P Q K (k s)
 |_,.freeze _ _ k=>Qn P k
 |_,.frozen _ k=>∀b,Qn P (k b)
 |K,.getObj r k=>∀o,(o.isChan=true->Qn P (k o))/\(o.isChan=false->Qc P Q (fun x=>K x\/x=r) (k o))
 |K,.setObj r o k=>(K r/\o.isChan=false/\Qc P Q K k)\/Qn P k
 |K,.choose _ k=>∀n,Qc P Q K (k n)
 |_,.sys _ k=>∀r,Qn P (k r)
 |K,.program k=>Qc P Q K (k P)
 |K,.mark m k=>(m= .noRoom/\Qc P Q K k)\/Qn P k
 |_,.halt _=>True
def Zv (P:Program) {α:Type} (K:Nat->Prop) (s:Sem α):Prop:=Qc P (fun _=>True) K s
section
variable {P:Program} {α β:Type}
theorem Qn.bind_left {s:Sem α} {f:α->Sem β} (h:Qn P s):Qn P (s.bind f):=by
 induction s with
 |pure a=>exact h.elim
 |load m a k A=>exact fun v=>A v (h v)
 |store m a v k A=>exact A h
 |new o k A=>exact fun v=>A v (h v)
 |shape r k A=>exact fun v=>A v (h v)
 |freeze a n k A=>exact A h
 |frozen a k A=>exact fun v=>A v (h v)
 |getObj r k A=>exact fun v=>A v (h v)
 |setObj r o k A=>exact A h
 |choose q k A=>exact fun v=>A v (h v)
 |sys c k A=>exact fun v=>A v (h v)
 |program k A=>exact A P h
 |mark m k A=>exact A h
 |halt h=>trivial
theorem Qn.bind_right {f:α->Sem β} (h:∀a,Qn P (f a)):∀s:Sem α,Qn P (s.bind f):=fun s=>by
 induction s with
 |pure a=>exact h a
 |load m a k A=>exact fun v=>A v
 |store m a v k A=>exact A
 |new o k A=>exact fun v=>A v
 |shape r k A=>exact fun v=>A v
 |freeze a n k A=>exact A
 |frozen a k A=>exact fun v=>A v
 |getObj r k A=>exact fun v=>A v
 |setObj r o k A=>exact A
 |choose q k A=>exact fun v=>A v
 |sys c k A=>exact fun v=>A v
 |program k A=>exact A P
 |mark m k A=>exact A
 |halt h=>trivial
theorem Qn.runT {s:Sem α} (h:Qn P s) (w:World) (es:Array Event) (x:α) (w':World) (G:Array Event) (hr:s.runT P w es=(.ok x w',G)):False:=by
 induction s generalizing w es with
 |pure a=>exact h
 |load m a k A=>
  simp only[Sem.runT]at hr;split at hr
  ·exact A _ (h _) _ _ hr
  split at hr
  ·exact A _ (h _) _ _ hr
  simp at hr
 |store m a v k A=>
  have h:Qn P k:=h;cases v<;>simp only[Sem.runT]at hr<;>(first|(simp at hr;done)|skip)<;>(repeat' split at hr)<;>first|(simp at hr;done)|exact A h _ _ hr
 |new o k A=>exact A _ (h _) _ _ hr
 |shape r k A=>exact A _ (h _) _ _ hr
 |freeze a n k A=>exact A h _ _ hr
 |frozen a k A=>exact A _ (h _) _ _ hr
 |getObj r k A=>
  simp only[Sem.runT]at hr;split at hr
  ·simp at hr
  ·exact A _ (h _) _ _ hr
  simp at hr
 |setObj r o k A=>
  simp only[Sem.runT]at hr;split at hr
  ·simp at hr
  ·exact A h _ _ hr
  simp at hr
 |choose q k A=>
  simp only[Sem.runT]at hr;split at hr
  ·exact A _ (h _) _ _ hr
  exact A _ (h _) _ _ hr
 |sys c k A=>exact A _ (h _) _ _ hr
 |program k A=>exact A P h _ _ hr
 |mark m k A=>exact A h _ _ hr
 |halt H=>simp[Sem.runT]at hr
theorem Qc.of_dies {Q:α->Prop} {s:Sem α} (h:Qn P s):∀K,Qc P Q K s:=by
 induction s with
 |pure a=>exact h.elim
 |load m a k A=>exact fun K=>⟨.inr h,fun v=>A v (h v) K⟩
 |store m a v k A=>exact fun K=>⟨.inr h,A h K⟩
 |new o k A=>exact fun K=>.inr h
 |shape r k A=>exact fun K v=>A v (h v) K
 |freeze a n k A=>exact fun K=>h
 |frozen a k A=>exact fun K=>h
 |getObj r k A=>exact fun K o=>⟨fun _=>h o,fun _=>A o (h o) _⟩
 |setObj r o k A=>exact fun K=>.inr h
 |choose q k A=>exact fun K v=>A v (h v) K
 |sys c k A=>exact fun K=>h
 |program k A=>exact fun K=>A P h K
 |mark m k A=>exact fun K=>.inr h
 |halt h=>exact fun K=>trivial
theorem Qc.mono {Q Q':α->Prop} {s:Sem α} (J:∀a,Q a->Q' a):∀ {K I:Nat->Prop},(∀r,K r->I r)->Qc P Q K s->Qc P Q' I s:=by
 induction s with
 |pure a=>exact fun _ h=>J _ h
 |load m a k G=>exact fun A h=>⟨h.1,fun v=>G v A (h.2 v)⟩
 |store m a v k G=>exact fun A h=>⟨h.1,G A h.2⟩
 |new o k G=>exact fun A h=>h.imp (fun x=>⟨x.1,fun r=>G r (fun y H=>H.imp (A y) id) (x.2 r)⟩) id
 |shape r k G=>exact fun A h v=>G v A (h v)
 |freeze a n k G=>exact fun A h=>h
 |frozen a k G=>exact fun A h=>h
 |getObj r k G=>exact fun A h o=>⟨(h o).1,fun e=>G o (fun y H=>H.imp (A y) id) ((h o).2 e)⟩
 |setObj r o k G=>exact fun A h=>h.imp (fun x=>⟨A _ x.1,x.2.1,G A x.2.2⟩) id
 |choose q k G=>exact fun A h v=>G v A (h v)
 |sys c k G=>exact fun A h=>h
 |program k G=>exact fun A h=>G P A h
 |mark m k G=>exact fun A h=>h.imp (fun x=>⟨x.1,G A x.2⟩) id
 |halt h=>exact fun _ h=>h
theorem Qc.bind {Q:α->Prop} {Q':β->Prop} {s:Sem α} {f:α->Sem β}:∀ {K:Nat->Prop},Qc P Q K s->(∀a H,Q a->(∀r,K r->H r)->Qc P Q' H (f a))->Qc P Q' K (s.bind f):=by
 induction s with
 |pure a=>exact fun h A=>A a _ h fun _ h=>h
 |load m a k G=>exact fun h A=>⟨h.1.imp id fun x v=>(x v).bind_left,fun v=>G v (h.2 v) A⟩
 |store m a v k G=>exact fun h A=>⟨h.1.imp id fun x=>x.bind_left,G h.2 A⟩
 |new o k G=>exact fun h A=>h.imp (fun x=>⟨x.1,fun r=>G r (x.2 r) fun a H J I=>A a H J fun y S=>I y (.inl S)⟩) fun x r=>(x r).bind_left
 |shape r k G=>exact fun h A v=>G v (h v) A
 |freeze a n k G=>exact fun h A=>Qn.bind_left h
 |frozen a k G=>exact fun h A b=>(h b).bind_left
 |getObj r k G=>exact fun h A o=>⟨fun e=>((h o).1 e).bind_left,fun e=>G o ((h o).2 e) fun a H J I=>A a H J fun y S=>I y (.inl S)⟩
 |setObj r o k G=>exact fun h A=>h.imp (fun x=>⟨x.1,x.2.1,G x.2.2 A⟩) Qn.bind_left
 |choose q k G=>exact fun h A v=>G v (h v) A
 |sys c k G=>exact fun h A b=>(h b).bind_left
 |program k G=>exact fun h A=>G P h A
 |mark m k G=>exact fun h A=>h.imp (fun x=>⟨x.1,G x.2 A⟩) Qn.bind_left
 |halt h=>exact fun _ _=>trivial
end
def Zjf (w:World) (r:Nat):Prop:=∃o,w.heap[r]? =some o/\o.isChan=false
structure Fz (cell:Nat) (wf w:World):Prop where
 tape:w.tape=wf.tape
 drawn:w.drawn=wf.drawn
 os:w.os=wf.os
 output:w.output=wf.output
 size:w.heap.size=wf.heap.size
 ne:∀b,b≠cell->w.heap[b]? =wf.heap[b]?
 at_:∃c e f,w.heap[cell]? =some (.cells c e f)/\wf.heap[cell]? =some (.cells c e (0,c.size))
section
variable {P:Program} {α:Type} {cell ch:Nat} {wf w:World}
theorem Fz.cell_eq (h:Fz cell wf w) (a:Addr):w.cell? a=wf.cell? a:=by
 unfold bU;by_cases hb:a.block=cell
 ·obtain⟨c,e,f,G,A⟩:=h.at_;rw[hb,G,A]
 rw[h.ne _ hb]
theorem Fz.shape_eq (h:Fz cell wf w) (r:Nat):w.shape? r=wf.shape? r:=by
 unfold World.shape?;by_cases hb:r=cell
 ·obtain⟨c,e,f,G,A⟩:=h.at_;rw[hb,G,A]
 rw[h.ne _ hb]
theorem ZfU {w w':World} {p:Program} {a:Addr} {u:TypeId} {k:Addr} {b:Bool} {c:Array Value} {e:TypeId} {f A:Nat×Nat} {x} (H:w.heap[a.block]? =some (.cells c e f)) (G:w'.heap[a.block]? =some (.cells c e A)) (h:w'.seen p a u k b= .ok x):
  w.seen p a u k b= .ok (x.1,x.2.1,f,x.2.2.2):=by
 unfold World.seen at h|-;rw[G]at h;rw[H];simp only[bind,Except.bind,pure,Except.pure]at h|-;(repeat' split at h)<;>first|(cases h;done)|skip
 all_goals
  cases h;simp_all
theorem Fz.farLoad (h:Fz cell wf w) {p:Program} {a:Addr} {b:Bool} {r:Value×List Addr} (hr:wf.farLoad p a b= .ok r):w.farLoad p a b= .ok r:=by
 unfold World.farLoad at hr|-;by_cases hb:a.block=cell
 ·obtain⟨c,e,f,G,A⟩:=h.at_;rw[hb,A]at hr;cases hr
 rw[h.ne _ hb];cases hh:wf.heap[a.block]? with
 |none=>rw[hh]at hr;cases hr
 |some o=>
  rw[hh]at hr;cases o with
  |view at_ u=>
   simp only at hr|-;have:w.viewLoad p at_ u a b=wf.viewLoad p at_ u a b\/∃e,wf.viewLoad p at_ u a b= .error e:=by
    unfold World.viewLoad;cases hs:wf.seen p at_ u a b with
    |error e=>exact .inr ⟨e,rfl⟩
    |ok x=>
     refine .inl ?_;by_cases hc:at_.block=cell
     ·obtain⟨c,e,f,G,A⟩:=h.at_;rw[ZfU (by rw[hc];exact G) (by rw[hc];exact A) hs];rfl
     have:w.seen p at_ u a b=wf.seen p at_ u a b:=by
      unfold World.seen;rw[h.ne _ hc]
     rw[this,hs]
   rcases this with e|⟨e,H⟩
   ·rw[e];exact hr
   rw[H]at hr;cases hr
  |_=>cases hr
theorem Zj6 {A B:Type} {c:A} {g:A->B->Except String A} (I:∀y r,g c y≠ .ok r):∀(cells:List B),cells≠ []->∀r,cells.foldlM (init:=c) g≠ .ok r:=by
 intro cells H r h;cases cells with
 |nil=>exact H rfl
 |cons y l=>
  simp only[List.foldlM_cons,Bind.bind,Except.bind]at h;split at h
  ·cases h
  rename_i G;exact I _ _ G
theorem Fz.lt (h:Fz cell wf w):cell<wf.heap.size:=by
 obtain⟨c,e,f,G,A⟩:=h.at_;exact(aM.1 A).1
theorem Fz.set_at (h:Fz cell wf w) (c:Array Value) (e:TypeId) (f:Nat×Nat):Fz cell {wf with heap:=wf.heap.setIfInBounds cell (.cells c e (0,c.size))} {w with heap:=w.heap.setIfInBounds cell (.cells c e f)}:=by
 have A:=h.lt;refine⟨h.tape,h.drawn,h.os,h.output,by simpa using h.size,fun b G=>?_,c,e,f,?_,?_⟩
 ·show(w.heap.setIfInBounds cell _)[b]? =(wf.heap.setIfInBounds cell _)[b]?;rw[aF (Ne.symm G),aF (Ne.symm G)];exact h.ne b G
 ·show(w.heap.setIfInBounds cell _)[cell]? =_;rw[bH (by rw[h.size];exact A)]
 show(wf.heap.setIfInBounds cell _)[cell]? =_;rw[bH A]
theorem Fz.set_ne (h:Fz cell wf w) {b:Nat} (G:b≠cell) (o:Obj):Fz cell {wf with heap:=wf.heap.setIfInBounds b o} {w with heap:=w.heap.setIfInBounds b o}:=by
 refine⟨h.tape,h.drawn,h.os,h.output,by simpa using h.size,fun A H=>?_,?_⟩
 ·show(w.heap.setIfInBounds b o)[A]? =(wf.heap.setIfInBounds b o)[A]?;rw[bR,bR,h.size,h.ne A H]
 obtain⟨c,e,f,J,I⟩:=h.at_;refine⟨c,e,f,?_,?_⟩
 ·show(w.heap.setIfInBounds b o)[cell]? =_;rw[aF G];exact J
 show(wf.heap.setIfInBounds b o)[cell]? =_;rw[aF G];exact I
theorem Fz.viewStore (h:Fz cell wf w) {p:Program} {a:Addr} {u:TypeId} {k:Addr} {v:Value} {b:Bool} {r:World×List Addr} (hr:wf.viewStore p a u k v b= .ok r):
  ∃w',w.viewStore p a u k v b= .ok (w',r.2)/\Fz cell r.1 w'/\(∀x∈r.2,x.block≠cell)/\(∀G o,wf.heap[G]? =some o->o.isChan=true->r.1.heap[G]? =some o/\∀x∈r.2,x.block≠G):=by
 have ob:∀ {ε α β:Type} (x:α) (f:α->Except ε β),(Except.ok x>>=f)=f x:=fun _ _=>rfl;unfold World.viewStore at hr|-;cases ht:(!tight p p.depth u);case true=>rw[ht]at hr;simp only[if_true]at hr;cases hr
 case false=>
  rw[ht]at hr;simp only[aX,if_false]at hr|-;cases hs:wf.seen p a u k b with
  |error e=>rw[hs]at hr;cases hr
  |ok x=>
   have A:=ZfV hs;have V:∀G o,wf.heap[G]? =some o->o.isChan=true->a.block≠G:=fun G o I H e=>by
    rw[e,I]at A;cases A;cases H
   have Y:∃f,w.seen p a u k b= .ok (x.1,x.2.1,f,x.2.2.2)/\(a.block≠cell->f=x.2.2.1)/\w.heap[a.block]? =some (.cells x.1 x.2.1 f):=by
    by_cases hc:a.block=cell
    ·obtain⟨c,e,f,I,H⟩:=h.at_;rw[hc,H]at A;simp only[aC,Obj.cells.injEq]at A;exact⟨f,ZfU (by rw[hc];exact I) (by rw[hc];exact H) hs,fun hn=>absurd hc hn,by rw[hc,<-A.1,<-A.2.1];exact I⟩
    refine⟨x.2.2.1,?_,fun _=>rfl,by rw[h.ne _ hc];exact A⟩;have:w.seen p a u k b=wf.seen p a u k b:=by
     unfold World.seen;rw[h.ne _ hc]
    rw[this,hs]
   obtain⟨f,Y,hf,ac⟩:=Y;rw[hs]at hr;rw[Y];obtain⟨c,e,S,first,ae,cells⟩:=x;simp only[ob]at hr A ac hf|-;cases hv:v.bytes? with
   |none=>rw[hv]at hr;cases hr
   |some bytes=>
    rw[hv]at hr;simp only at hr|-;by_cases hz:some bytes.length≠ae.bytes?.map (·.length)
    ·simp only[if_pos hz]at hr;cases hr
    simp only[if_neg hz]at hr|-;by_cases hc:a.block=cell
    ·have ab:cells=[]:=by
      refine Classical.byContradiction fun ah=>?_;have Z:S=(0,c.size):=by
       obtain⟨c',e',f',I,H⟩:=h.at_;rw[hc,H]at A;simp only[aC,Obj.cells.injEq]at A;rw[<-A.2.2,A.1]
      subst Z;revert hr;generalize ai:fD (m:=Except String) _ c cells=z;intro hr;cases z with
      |error e=>cases hr
      |ok c'=>
       refine absurd ai (Zj6 ?_ cells ah _);intro y r J;obtain⟨i,s,bs⟩:=y;simp only[Bind.bind,Except.bind,Pure.pure,Except.pure]at J;split at J
       ·cases J
       split at J
       ·cases J
       rename_i hi;have aa:¬i<c.size:=by
        intro aa;simp[aa]at hi
       have:c[i]? =none:=by simp;omega
       rw[this]at J;cases J
     subst ab;cases hr;refine⟨_,rfl,?_,fun x U=>by simp at U,fun G o I H=>⟨?_,fun x U=>by simp at U⟩⟩
     ·have Z:S=(0,c.size):=by
       obtain⟨c',e',f',I,H⟩:=h.at_;rw[hc,H]at A;simp only[aC,Obj.cells.injEq]at A;rw[<-A.2.2,A.1]
      subst Z;rw[hc];exact h.set_at c e f
     show(wf.heap.setIfInBounds a.block _)[G]? =_;rw[aF (V G o I H)];exact I
    obtain rfl:=hf hc;revert hr;generalize fD (m:=Except String) _ c cells=z;intro hr;cases z with
    |error e=>cases hr
    |ok c'=>
     cases hr;refine⟨_,rfl,h.set_ne hc _,fun x U=>?_,fun G o I H=>⟨?_,fun x U=>?_⟩⟩
     ·obtain⟨y,_,rfl⟩:=bE.1 U;exact hc
     ·show(wf.heap.setIfInBounds a.block _)[G]? =_;rw[aF (V G o I H)];exact I
     obtain⟨y,_,rfl⟩:=bE.1 U;exact V G o I H
theorem Fz.farStore (h:Fz cell wf w) {p:Program} {a:Addr} {v:Value} {b:Bool} {r:World×List Addr} (hr:wf.farStore p a v b= .ok r):
  ∃A,w.farStore p a v b= .ok (A,r.2)/\Fz cell r.1 A/\(∀x∈r.2,x.block≠cell)/\(∀H o,wf.heap[H]? =some o->o.isChan=true->r.1.heap[H]? =some o/\∀x∈r.2,x.block≠H):=by
 unfold World.farStore at hr|-;by_cases hb:a.block=cell
 ·obtain⟨c,e,f,I,G⟩:=h.at_;rw[hb,G]at hr;cases hr
 rw[h.ne _ hb];cases hh:wf.heap[a.block]? with
 |none=>rw[hh]at hr;cases hr
 |some o=>
  rw[hh]at hr;cases o with
  |view at_ u=>
   simp only at hr|-;cases hv:wf.viewStore p at_ u a v b with
   |error e=>rw[hv]at hr;cases hr
   |ok x=>
    rw[hv]at hr;cases hr;obtain⟨A,I,G⟩:=h.viewStore hv;rw[I];exact⟨A,rfl,G⟩
  |_=>cases hr
end
theorem ZaY {P:Program} {w:World} {a:Addr} {v:Value} {b:Bool} {r:World×List Addr} (h:w.farStore P a v b= .ok r) {k:Nat} {o:Obj} (I:w.heap[k]? =some o) (hi:o.isChan=false):Zjf r.1 k:=by
 have ob:∀ {S α U:Type} (x:α) (f:α->Except S U),(Except.ok x>>=f)=f x:=fun _ _=>rfl;unfold World.farStore at h;cases hh:w.heap[a.block]? with
 |none=>rw[hh]at h;cases h
 |some H=>
 rw[hh]at h;cases H with
 |view at_ u=>
  simp only at h;cases hv:w.viewStore P at_ u a v b with
  |error e=>rw[hv]at h;cases h
  |ok x=>
   rw[hv]at h;cases h;unfold World.viewStore at hv;cases ht:(!tight P P.depth u);case true=>rw[ht]at hv;simp only[if_true]at hv;cases hv
   case false=>
   rw[ht]at hv;simp only[aX,if_false]at hv;cases hs:w.seen P at_ u a b with
   |error e=>rw[hs]at hv;cases hv
   |ok x=>
    rw[hs]at hv;obtain⟨c,e,A,first,G,cells⟩:=x;simp only[ob]at hv;cases hvb:v.bytes? with
    |none=>rw[hvb]at hv;cases hv
    |some bytes=>
     rw[hvb]at hv;simp only at hv;by_cases hz:some bytes.length≠G.bytes?.map (·.length)
     ·simp only[if_pos hz]at hv;cases hv
     simp only[if_neg hz]at hv;revert hv;generalize fD (m:=Except String) _ c cells=z;intro hv;cases z with
     |error e=>cases hv
     |ok J=>
      cases hv;by_cases hk:at_.block=k
      ·subst hk;refine⟨.cells J e A,?_,rfl⟩;show(w.heap.setIfInBounds at_.block _)[at_.block]? =_;rw[bH (aM.1 I).1]
      refine⟨o,?_,hi⟩;show(w.heap.setIfInBounds at_.block _)[k]? =_;rw[aF hk];exact I
 |_=>cases h
def pr2 (cell ch:Nat) (n:Nat):Prop:=n=cell\/n=ch
theorem ZoJ {α:Type} (P:Program) {cell ch:Nat}:∀(s:Sem α) (K:Nat->Prop) (A w:World) (es:Array Event) (x:α) (I:World) (H:Array Event),Zv P K s->Fz cell A w->(∀r,K r->Zjf A r)->(∃o,A.heap[ch]? =some o/\o.isChan=true)->
  s.runT P A es=(.ok x I,H)->(∃w',s.runT P w es=(.ok x w',H)/\Fz cell I w')/\I.heap[ch]? =A.heap[ch]? /\∀e∈H,e∈es\/Yw (pr2 cell ch) e:=by
 intro s;induction s with
 |pure a=>
  intro K A w es x I H _ G _ _ h;simp only[Sem.runT,Prod.mk.injEq,Result.ok.injEq]at h;obtain⟨⟨rfl,rfl⟩,rfl⟩:=h;exact⟨⟨w,rfl,G⟩,rfl,fun e he=>.inl he⟩
 |load m a k Y=>
  intro K A w es x I H J G U Z h;rcases J.1 with rfl|hd;case inr=>exact(Qn.runT (s:=.load m a k) hd _ _ _ _ _ h).elim
  simp only[Sem.runT,G.cell_eq]at h|-;cases hv:A.cell? a with
  |some v=>
   rw[hv]at h;obtain⟨h1,V,h3⟩:=Y v K A w _ x I H (J.2 v) G U Z h;refine⟨h1,V,fun e he=>?_⟩;rcases h3 e he with S|S
   ·rcases ej.1 S with h5|rfl
    ·exact .inl h5
    exact .inr ⟨rfl,fun hw=>by cases hw⟩
   exact .inr S
  |none=>
   rw[hv]at h;simp only at h|-;cases hf:A.farLoad P a (Mode.plain== .atomic)with
   |error e=>rw[hf]at h;simp at h
   |ok r=>
    obtain⟨v,l⟩:=r;rw[hf]at h;rw[G.farLoad hf];obtain⟨h1,V,h3⟩:=Y v K A w _ x I H (J.2 v) G U Z h;refine⟨h1,V,fun e he=>?_⟩;rcases h3 e he with S|S
    ·rcases eC.1 S with h5|h5
     ·exact .inl h5
     obtain⟨y,_,rfl⟩:=gk.1 h5;exact .inr ⟨rfl,fun hw=>by cases hw⟩
    exact .inr S
 |store m a v k Y=>
  intro K A w es x I H J G U Z h;rcases J.1 with rfl|hd;case inr=>exact(Qn.runT (s:=.store m a v k) hd _ _ _ _ _ h).elim
  have bg:∀v,(∀c,v≠ .agg c)->(∀c,v≠ .tuple c)->(Sem.store .plain a v k).runT P A es=(.ok x I,H)->
    (∃w',(Sem.store .plain a v k).runT P w es=(.ok x w',H)/\Fz cell I w')/\I.heap[ch]? =A.heap[ch]? /\∀e∈H,e∈es\/Yw (pr2 cell ch) e:=by
   intro v aw bk h
   have e1:∀(w:World),(Sem.store .plain a v k).runT P w es=(match w.cell? a with
    |some _=>
     if w.frozen? a then(.halt (.unsupported (.unsafePointer "a write to bytes that a string shares")) w,es)
     else k.runT P (w.setCell a v) (es.push ⟨.cell a,true,Mode.plain== .atomic⟩)
    |none=>match w.farStore P a v (Mode.plain== .atomic)with
     |.ok (w,touched)=>k.runT P w (es++touched.toArray.map (⟨.cell ·,true,Mode.plain== .atomic⟩))
     |.error h=>(.halt h w,es)):=by
    intro w;cases v<;>first|rfl|exact absurd rfl (aw _)|exact absurd rfl (bk _)
   rw[e1]at h|-;rw[G.cell_eq];obtain⟨oc,aa,ae⟩:=Z;cases hv:A.cell? a with
   |some u=>
    rw[hv]at h;simp only at h|-;split at h
    ·simp at h
    rename_i hf;have ab:a.block≠cell:=fun e=>by
     obtain⟨c,t,f,h1,V⟩:=G.at_;unfold bU at hv;rw[e,V]at hv;simp only at hv;split at hv
     ·cases hv
     refine hf ?_;unfold World.frozen?;rw[e,V];have ba:a.off<c.size:=(aM.1 hv).1;simp[ba]
    have aq:a.block≠ch:=fun e=>by
     unfold bU at hv;rw[e,aa]at hv;cases oc<;>cases ae;cases hv
    have a9:w.frozen? a=A.frozen? a:=by
     unfold World.frozen?;rw[G.ne _ ab]
    rw[a9,if_neg hf];obtain⟨c,t,f,hb⟩:∃c t f,A.heap[a.block]? =some (.cells c t f):=by
     unfold bU at hv;split at hv
     ·rename_i c t f hh;exact⟨c,t,f,hh⟩
     cases hv
    have ao:∀(w:World),w.heap[a.block]? =some (.cells c t f)->w.setCell a v={w with heap:=w.heap.setIfInBounds a.block (.cells (if a.spot.isSome then c else c.setIfInBounds a.off v) t f)}:=fun w hw=>by
     unfold World.setCell;congr 1;exact Conc.modify_eq_set _ _ _ _ hw
    rw[ao A hb]at h;rw[ao w (by rw[G.ne _ ab];exact hb)];have ac:({A with heap:=A.heap.setIfInBounds a.block (.cells (if a.spot.isSome then c else c.setIfInBounds a.off v) t f)}:World).heap[ch]? =some oc:=by
     show(A.heap.setIfInBounds a.block _)[ch]? =_;rw[aF aq];exact aa
    obtain⟨h1,V,h3⟩:=Y K _ _ _ x I H J.2 (G.set_ne ab _) (fun r hr=>by
     obtain⟨o,ho,hi⟩:=U r hr;by_cases hra:a.block=r
     ·subst hra;refine⟨.cells (if a.spot.isSome then c else c.setIfInBounds a.off v) t f,?_,rfl⟩;show(A.heap.setIfInBounds a.block _)[a.block]? =_;rw[bH (aM.1 ho).1]
     refine⟨o,?_,hi⟩;show(A.heap.setIfInBounds a.block _)[r]? =_
     rw[aF hra];exact ho) ⟨oc,ac,ae⟩ h
    refine⟨h1,V.trans (ac.trans aa.symm),fun e he=>?_⟩;rcases h3 e he with S|S
    ·rcases ej.1 S with h5|rfl
     ·exact .inl h5
     exact .inr ⟨rfl,fun _ hp=>hp.elim ab aq⟩
    exact .inr S
   |none=>
    rw[hv]at h;simp only at h|-;cases hf:A.farStore P a v (Mode.plain== .atomic)with
    |error e=>rw[hf]at h;simp at h
    |ok r=>
     obtain⟨w',h3,S,h5,h6⟩:=G.farStore hf;obtain⟨h7,h8⟩:=h6 ch oc aa ae;rw[hf]at h;rw[h3]
     obtain⟨h1,V,h9⟩:=Y K _ _ _ x I H J.2 S (fun r' hr=>by
      obtain⟨o,ho,hi⟩:=U r' hr
      exact ZaY hf ho hi) ⟨oc,h7,ae⟩ h
     refine⟨h1,V.trans (h7.trans aa.symm),fun e he=>?_⟩;rcases h9 e he with al|al
     ·rcases eC.1 al with ap|ap
      ·exact .inl ap
      obtain⟨y,hy,rfl⟩:=gk.1 ap;exact .inr ⟨rfl,fun _ hp=>hp.elim (h5 y (by simpa using hy)) (h8 y (by simpa using hy))⟩
     exact .inr al
  cases v with
  |agg c=>simp[Sem.runT]at h
  |tuple c=>simp[Sem.runT]at h
  |_=>exact bg _ (by simp) (by simp) h
 |new o k Y=>
  intro K A w es x I H J G U Z h;rcases J with⟨ho,J⟩|hd;case inr=>exact(Qn.runT (s:=.new o k) hd _ _ _ _ _ h).elim
  simp only[Sem.runT]at h|-;have ak:=G.size;rw[ak];have ai:∀b,b<A.heap.size->(A.heap.push o)[b]? =A.heap[b]? :=fun b hb=>by rw[Array.getElem?_push_lt hb,<-Array.getElem?_eq_getElem hb]
  obtain⟨oc,aa,ae⟩:=Z;have ar:=(aM.1 aa).1;have bh:Fz cell {A with heap:=A.heap.push o} {w with heap:=w.heap.push o}:=by
   refine⟨G.tape,G.drawn,G.os,G.output,by simpa using ak,fun b hb=>?_,?_⟩
   ·show(w.heap.push o)[b]? =(A.heap.push o)[b]?;rw[bK,bK,ak,G.ne b hb]
   obtain⟨c,e,f,h1,V⟩:=G.at_;refine⟨c,e,f,?_,?_⟩
   ·show(w.heap.push o)[cell]? =_;rw[bK,if_neg (by have:=G.lt;omega)];exact h1
   show(A.heap.push o)[cell]? =_;rw[ai _ G.lt];exact V
  obtain⟨h1,V,h3⟩:=Y A.heap.size _ _ _ _ x I H (J _) bh (fun r hr=>by
   rcases hr with hr|rfl
   ·obtain⟨o',ah,hi⟩:=U r hr;exact⟨o',(ai r (aM.1 ah).1).trans ah,hi⟩
   exact⟨o,by show(A.heap.push o)[A.heap.size]? =_;simp,ho⟩) ⟨oc,(ai ch ar).trans aa,ae⟩ h
  exact⟨h1,V.trans (ai ch ar),h3⟩
 |shape r k Y=>
  intro K A w es x I H J G U Z h;simp only[Sem.runT,G.shape_eq]at h|-;exact Y _ K A w es x I H (J _) G U Z h
 |freeze a n k Y=>exact fun K A w es x I H J G U Z h=>(Qn.runT (s:=.freeze a n k) J _ _ _ _ _ h).elim
 |frozen a k Y=>exact fun K A w es x I H J G U Z h=>(Qn.runT (s:=.frozen a k) J _ _ _ _ _ h).elim
 |getObj r k Y=>
  intro K A w es x I H J G U Z h;simp only[Sem.runT]at h|-;split at h
  ·simp at h
  ·rename_i o ab ho;have aj:r≠cell:=fun e=>by
    obtain⟨c,t,f,h1,V⟩:=G.at_;rw[e,V]at ho;cases ho;exact ab _ _ _ rfl
   rw[G.ne r aj,ho];cases ac:o.isChan with
   |true=>exact((J o).1 ac|>.runT _ _ _ _ _ h).elim
   |false=>
    obtain⟨h1,V,h3⟩:=Y o _ A w _ x I H ((J o).2 ac) G (fun r' hr=>hr.elim (U r') fun e=>⟨o,by rw[e];exact ho,ac⟩) Z h;refine⟨?_,V,fun e he=>?_⟩
    ·obtain⟨w',S,h5⟩:=h1;refine⟨w',?_,h5⟩;cases o<;>first|exact absurd rfl (ab _ _ _)|exact S
    rcases h3 e he with S|S
    ·rcases ej.1 S with h5|rfl
     ·exact .inl h5
     exact .inr ⟨ac,fun hw=>by cases hw⟩
    exact .inr S
  simp at h
 |setObj r o k Y=>
  intro K A w es x I H J G U Z h;rcases J with⟨hr,ho,J⟩|hd;case inr=>exact(Qn.runT (s:=.setObj r o k) hd _ _ _ _ _ h).elim
  simp only[Sem.runT]at h|-;obtain⟨oc,aa,ae⟩:=Z;obtain⟨o',ah,au⟩:=U r hr;have am:r≠ch:=fun e=>by
   rw[e,aa]at ah;cases ah;rw[ae]at au;cases au
  split at h
  ·simp at h
  ·rename_i u ab hu;have aj:r≠cell:=fun e=>by
    obtain⟨c,t,f,h1,V⟩:=G.at_;rw[e,V]at hu;cases hu;exact ab _ _ _ rfl
   rw[G.ne r aj,hu];have ac:({A with heap:=A.heap.setIfInBounds r o}:World).heap[ch]? =some oc:=by
    show(A.heap.setIfInBounds r o)[ch]? =_;rw[aF am];exact aa
   obtain⟨h1,V,h3⟩:=Y K _ _ _ x I H J (G.set_ne aj o) (fun r' bc=>by
    by_cases e:r=r'
    ·subst e;refine⟨o,?_,ho⟩;show(A.heap.setIfInBounds r o)[r]? =_;rw[bH (aM.1 ah).1]
    obtain⟨o2,az,bl⟩:=U r' bc;refine⟨o2,?_,bl⟩;show(A.heap.setIfInBounds r o)[r']? =_
    rw[aF e];exact az) ⟨oc,ac,ae⟩ h
   refine⟨?_,V.trans (ac.trans aa.symm),fun e he=>?_⟩
   ·obtain⟨w',S,h5⟩:=h1;refine⟨w',?_,h5⟩;cases u<;>first|exact absurd rfl (ab _ _ _)|exact S
   rcases h3 e he with S|S
   ·rcases ej.1 S with h5|rfl
    ·exact .inl h5
    exact .inr ⟨ho,fun _ hp=>hp.elim aj am⟩
   exact .inr S
  simp at h
 |choose q k Y=>
  intro K A w es x I H J G U Z h;simp only[Sem.runT]at h|-;rw[G.drawn];split at h
  ·rename_i hf;rw[if_pos hf];exact Y _ K A w es x I H (J _) G U Z h
  rename_i hf;rw[if_neg hf];have:=Y _ K {A with drawn:=A.drawn+1} {w with drawn:=A.drawn+1} es x I H (J _) ⟨G.tape,rfl,G.os,G.output,G.size,G.ne,G.at_⟩ U Z h;rw[show w.tape A.drawn q=A.tape A.drawn q by rw[G.tape]];exact this
 |sys c k Y=>exact fun K A w es x I H J G U Z h=>(Qn.runT (s:=.sys c k) J _ _ _ _ _ h).elim
 |program k Y=>
  intro K A w es x I H J G U Z h;exact Y P K A w es x I H J G U Z h
 |mark m k Y=>
  intro K A w es x I H J G U Z h;rcases J with⟨rfl,J⟩|hd;case inr=>exact(Qn.runT (s:=.mark m k) hd _ _ _ _ _ h).elim
  simp only[Sem.runT]at h|-;obtain⟨h1,V,h3⟩:=Y K A w _ x I H J G U Z h;refine⟨h1,V,fun e he=>?_⟩;rcases h3 e he with S|S
  ·rcases ej.1 S with h5|rfl
   ·exact .inl h5
   exact .inr (show Conc.Neutral .noRoom from rfl)
  exact .inr S
 |halt hh=>
  intro K A w es x I H J G U Z h;simp[Sem.runT]at h
end Conc1
end Go.Proofs.YtjgpiclllehgmaaGreat
