/- Lemmas. -/
import Derived.Test.YtjgpiclllehgmaaGreatCxOwn
set_option linter.all false
open Array renaming ext_getElem?->ff,getElem?_eq_some_iff->aM,getElem?_modify->cU,getElem?_push->bK,getElem?_setIfInBounds->bS,getElem?_setIfInBounds_ne->aF,setIfInBounds_comm->gH,size_modify->gq
open Go.World renaming cell?->bV
namespace Go.Proofs.YtjgpiclllehgmaaGreat
namespace Conc1
open Go
def sw (w:World) (ch:Nat) (o:Obj):World:={w with heap:=w.heap.setIfInBounds ch o}
section
variable {w:World} {ch:Nat} {o₁ o₂:Obj} (h1:w.heap[ch]? =some o₁) (hc1:o₁.isChan=true) (hc2:o₂.isChan=true)
include h1
theorem Zcz:(sw w ch o₂).heap[ch]? =some o₂:=by
 have A:ch<w.heap.size:=(aM.1 h1).1;simp[sw,A]
omit h1 in
theorem Ze7 {b:Nat} (A:b≠ch):(sw w ch o₂).heap[b]? =w.heap[b]? :=by
 show(w.heap.setIfInBounds ch o₂)[b]? =_;rw[aF (Ne.symm A)]
include hc1 hc2
theorem Zjr (a:Addr):(sw w ch o₂).cell? a=w.cell? a:=by
 unfold bV;by_cases hb:a.block=ch
 ·rw[hb,Zcz h1,h1];cases o₁<;>cases hc1;cases o₂<;>cases hc2;rfl
 rw[Ze7 hb]
theorem Zqd (r:Nat):(sw w ch o₂).shape? r=w.shape? r:=by
 unfold World.shape?;by_cases hb:r=ch
 ·rw[hb,Zcz h1,h1];cases o₁<;>cases hc1;cases o₂<;>cases hc2;rfl
 rw[Ze7 hb]
theorem Zid (a:Addr):(sw w ch o₂).frozen? a=w.frozen? a:=by
 unfold World.frozen?;by_cases hb:a.block=ch
 ·rw[hb,Zcz h1,h1];cases o₁<;>cases hc1;cases o₂<;>cases hc2;rfl
 rw[Ze7 hb]
theorem ZmH (p:Program) (a:Addr) (u:TypeId) (k:Addr) (b:Bool):(sw w ch o₂).seen p a u k b=w.seen p a u k b:=by
 unfold World.seen;by_cases hb:a.block=ch
 ·rw[hb,Zcz h1,h1];cases o₁<;>cases hc1;cases o₂<;>cases hc2;rfl
 rw[Ze7 hb]
theorem ZjJ (p:Program) (a:Addr) (u:TypeId) (k:Addr) (b:Bool):(sw w ch o₂).viewLoad p a u k b=w.viewLoad p a u k b:=by
 unfold World.viewLoad;rw[ZmH h1 hc1 hc2]
theorem Zl2 {p:Program} {a:Addr} {b:Bool} {r:Value×List Addr} (h:w.farLoad p a b= .ok r):(sw w ch o₂).farLoad p a b= .ok r:=by
 unfold World.farLoad at h|-;by_cases hb:a.block=ch
 ·rw[hb,h1]at h;cases o₁<;>cases hc1;cases h
 rw[Ze7 hb];simp only[ZjJ h1 hc1 hc2];split at h
 ·exact h
 cases h
omit hc2 in
theorem ZsH {p:Program} {a:Addr} {u:TypeId} {k:Addr} {b:Bool} {x} (h:w.seen p a u k b= .ok x):a.block≠ch:=by
 intro A;unfold World.seen at h;rw[A,h1]at h;cases o₁<;>cases hc1;simp only[bind,Except.bind]at h;(repeat' split at h)<;>first|cases h|skip
theorem ZiD {p:Program} {a:Addr} {u:TypeId} {k:Addr} {v:Value} {b:Bool} {r:World×List Addr} (h:w.viewStore p a u k v b= .ok r):
  (sw w ch o₂).viewStore p a u k v b= .ok (sw r.1 ch o₂,r.2)/\r.1.heap[ch]? =w.heap[ch]? :=by
 have ob:∀ {J α I:Type} (x:α) (f:α->Except J I),(Except.ok x>>=f)=f x:=λ_ _=>rfl;unfold World.viewStore at h|-;rw[ZmH h1 hc1 hc2];cases ht:(!tight p p.depth u);case true=>rw[ht]at h;simp only[if_true]at h;cases h
 case false=>
  rw[ht]at h;simp only[Bool.false_eq_true,if_false]at h|-;cases hs:w.seen p a u k b with
  |error e=>rw[hs]at h;cases h
  |ok x=>
   have A:=ZsH h1 hc1 hs;rw[hs]at h;obtain⟨c,e,H,first,G,cells⟩:=x;simp only[ob]at h|-;cases hv:v.bytes? with
   |none=>rw[hv]at h;cases h
   |some bytes=>
    rw[hv]at h;simp only at h|-;by_cases hz:some bytes.length≠G.bytes?.map (·.length)
    ·simp only[if_pos hz]at h;cases h
    simp only[if_neg hz]at h|-;revert h;generalize List.foldlM (m:=Except String) _ c cells=z;intro h;cases z with
    |error e=>cases h
    |ok c=>
     cases h;refine⟨?_,?_⟩
     ·show Except.ok (_,_)=Except.ok (_,_);congr 2;show World.mk _ _ _ _ _=World.mk _ _ _ _ _;congr 1;show(w.heap.setIfInBounds ch o₂).setIfInBounds a.block _=(w.heap.setIfInBounds a.block _).setIfInBounds ch o₂;exact gH _ _ (Ne.symm A)
     show(w.heap.setIfInBounds a.block _)[ch]? =_;rw[aF A]
theorem Zky {p:Program} {a:Addr} {v:Value} {b:Bool} {r:World×List Addr} (h:w.farStore p a v b= .ok r):
  (sw w ch o₂).farStore p a v b= .ok (sw r.1 ch o₂,r.2)/\r.1.heap[ch]? =w.heap[ch]? :=by
 unfold World.farStore at h|-;by_cases hb:a.block=ch
 ·rw[hb,h1]at h;cases o₁<;>cases hc1;cases h
 rw[Ze7 hb];cases hh:w.heap[a.block]? with
 |none=>rw[hh]at h;cases h
 |some o=>
  rw[hh]at h;cases o with
  |view at_ u=>
   simp only at h|-;cases hv:w.viewStore p at_ u a v b with
   |error e=>rw[hv]at h;cases h
   |ok x=>
    rw[hv]at h;cases h;obtain⟨G,A⟩:=ZiD h1 hc1 hc2 hv;rw[G];exact⟨rfl,A⟩
  |_=>cases h
end
theorem ZnD {α:Type} (P:Program) {pr:Nat->Prop} {ch:Nat} (ah:pr ch) {o₂:Obj} (V:o₂.isChan=true):∀(s:Sem α) (w:World) (es:Array Event) (x:α) (J:World) (H:Array Event) (A:Obj),
  s.runT P w es=(.ok x J,H)->(∀e∈H,YI pr e)->w.heap[ch]? =some A->A.isChan=true->J.heap[ch]? =some A/\s.runT P (sw w ch o₂) es=(.ok x (sw J ch o₂),H):=by
 intro s;have keep:∀ {β:Type} (k:Sem β) (w:World) (es:Array Event) (e:Event) r,k.runT P w (es.push e)=r->e∈r.2:=λk w es e r h=>by
  rw[<-h];exact Sem.events_keep P k e w _ (by simp)
 induction s with
 |pure a=>
  intro w es x J H A h _ I _;simp only[Sem.runT,Prod.mk.injEq,Result.ok.injEq]at h;obtain⟨⟨rfl,rfl⟩,rfl⟩:=h;exact⟨I,by simp[Sem.runT]⟩
 |load m a k U=>
  intro w es x J H A h S I G;simp only[Sem.runT,Zjr I G V]at h|-;cases hv:w.cell? a with
  |some v=>
   rw[hv]at h;exact U v w _ x J H A h S I G
  |none=>
   rw[hv]at h;simp only at h|-;cases Y:w.farLoad P a (m== .atomic)with
   |error e=>rw[Y]at h;simp at h
   |ok r=>
    obtain⟨v,l⟩:=r;rw[Y]at h;rw[Zl2 I G V Y];exact U v w _ x J H A h S I G
 |store m a v k U=>
  intro w es x J H A h S I G;have ae:∀v,(∀c,v≠ .agg c)->(∀c,v≠ .tuple c)->(Sem.store m a v k).runT P w es=(.ok x J,H)->J.heap[ch]? =some A/\(Sem.store m a v k).runT P (sw w ch o₂) es=(.ok x (sw J ch o₂),H):=by
   intro v ac ai h
   have e1:∀(w:World),(Sem.store m a v k).runT P w es=(match w.cell? a with
    |some _=>
     if w.frozen? a then(.halt (.unsupported (.unsafePointer "a write to bytes that a string shares")) w,es)
     else k.runT P (w.setCell a v) (es.push ⟨.cell a,true,m== .atomic⟩)
    |none=>match w.farStore P a v (m== .atomic)with
     |.ok (w,touched)=>k.runT P w (es++touched.toArray.map (⟨.cell ·,true,m== .atomic⟩))
     |.error h=>(.halt h w,es)):=by
    intro w;cases v<;>first|rfl|exact absurd rfl (ac _)|exact absurd rfl (ai _)
   rw[e1]at h|-;rw[Zjr I G V];cases hv:w.cell? a with
   |some u=>
    rw[hv]at h;simp only at h|-;rw[Zid I G V];split at h
    ·simp at h
    rename_i Y;rw[if_neg Y];have ab:a.block≠ch:=λe=>by
     unfold bV at hv;rw[e,I]at hv;cases A<;>cases G;cases hv
    have Z:(sw w ch o₂).setCell a v=sw (w.setCell a v) ch o₂:=by
     unfold World.setCell sw;congr 1;apply ff;intro j;simp only[cU,bS,gq];by_cases hj:a.block=j
     ·subst hj;simp[Ne.symm ab]
     simp[hj]
    rw[Z]
    exact U _ _ x J H A h S (by
     show(w.heap.modify a.block _)[ch]? =_
     rw[cU,if_neg ab];exact I) G
   |none=>
    rw[hv]at h;simp only at h|-;cases Y:w.farStore P a v (m== .atomic)with
    |error e=>rw[Y]at h;simp at h
    |ok r=>
     obtain⟨h3,h4⟩:=Zky I G V Y;rw[Y]at h;rw[h3];exact U _ _ x J H A h S (h4.trans I) G
  cases v with
  |agg c=>simp[Sem.runT]at h
  |tuple c=>simp[Sem.runT]at h
  |_=>exact ae _ (by simp) (by simp) h
 |new o k U=>
  intro w es x J H A h S I G;simp only[Sem.runT]at h|-;have aa:ch<w.heap.size:=(aM.1 I).1;have Z:({sw w ch o₂ with heap:=(sw w ch o₂).heap.push o}:World)=sw {w with heap:=w.heap.push o} ch o₂:=by
   show World.mk ((w.heap.setIfInBounds ch o₂).push o) _ _ _ _=World.mk ((w.heap.push o).setIfInBounds ch o₂) _ _ _ _;congr 1;apply ff;intro j;simp only[bK,bS,Array.size_setIfInBounds,Array.size_push];by_cases hj:ch=j
   ·subst hj;have:¬ch=w.heap.size:=by omega
    simp[this,aa];omega
   simp[hj]
  have e3:(sw w ch o₂).heap.size=w.heap.size:=by simp[sw]
  rw[Z,e3]
  exact U _ _ _ x J H A h S (by
   show(w.heap.push o)[ch]? =_
   rw[bK,if_neg (by omega)];exact I) G
 |shape r k U=>
  intro w es x J H A h S I G;simp only[Sem.runT,Zqd I G V]at h|-;exact U _ _ _ x J H A h S I G
 |freeze a n k U=>
  intro w es x J H A h S I G;simp only[Sem.runT]at h|-;have e1:(w.freeze a n).heap[ch]? =some A:=by
   unfold World.freeze;split
   ·exact I
   show(w.heap.modify a.block _)[ch]? =_;rw[cU];split
   ·rw[I];cases A<;>cases G;rfl
   exact I
  have Z:(sw w ch o₂).freeze a n=sw (w.freeze a n) ch o₂:=by
   unfold World.freeze;split
   ·rfl
   unfold sw;congr 1;apply ff;intro j;simp only[cU,bS,gq];by_cases hj:ch=j
   ·subst hj;have aa:ch<w.heap.size:=(aM.1 I).1;simp only[if_true,aa];by_cases ha:a.block=ch
    ·simp only[ha,if_true];cases o₂<;>cases V;rfl
    simp[ha]
   simp[hj]
  rw[Z];exact U _ _ x J H A h S e1 G
 |frozen a k U=>
  intro w es x J H A h S I G;simp only[Sem.runT,Zid I G V]at h|-;exact U _ _ _ x J H A h S I G
 |getObj r k U=>
  intro w es x J H A h S I G;by_cases hr:r=ch
  ·subst hr;have e:∀o:Obj,o.isChan=true->w.heap[r]? =some o->(k o).runT P w (es.push ⟨.obj r,false,true⟩)=(.ok x J,H):=λo hc e=>by
    simp only[Sem.runT]at h;rw[e]at h;cases o<;>cases hc;exact h
   have:=S _ (keep _ _ _ _ _ (e _ G I));simp[YI]at this
  simp only[Sem.runT]at h|-;rw[Ze7 hr];cases hh:w.heap[r]? with
  |none=>rw[hh]at h;simp at h
  |some o=>
   rw[hh]at h;cases o<;>first|(simp at h;done)|exact U _ _ _ x J H A h S I G
 |setObj r o k U=>
  intro w es x J H A h S I G;by_cases hr:r=ch
  ·subst hr;have e:∀o':Obj,o'.isChan=true->w.heap[r]? =some o'->k.runT P {w with heap:=w.heap.setIfInBounds r o} (es.push ⟨.obj r,true,o.isChan⟩)=(.ok x J,H):=λo' hc e=>by
    simp only[Sem.runT]at h;rw[e]at h;cases o'<;>cases hc;exact h
   have:=S _ (keep _ _ _ _ _ (e _ G I));simp[YI]at this;exact absurd ah this.2
  have Z:({sw w ch o₂ with heap:=(sw w ch o₂).heap.setIfInBounds r o}:World)=sw {w with heap:=w.heap.setIfInBounds r o} ch o₂:=by
   show World.mk ((w.heap.setIfInBounds ch o₂).setIfInBounds r o) _ _ _ _=World.mk ((w.heap.setIfInBounds r o).setIfInBounds ch o₂) _ _ _ _;rw[gH _ _ (Ne.symm hr)];rfl
  have e1:({w with heap:=w.heap.setIfInBounds r o}:World).heap[ch]? =some A:=by
   show(w.heap.setIfInBounds r o)[ch]? =_;rw[aF hr];exact I
  simp only[Sem.runT]at h|-;rw[Ze7 hr];cases hh:w.heap[r]? with
  |none=>rw[hh]at h;simp at h
  |some o'=>
   rw[hh]at h;cases o'<;>first|(simp at h;done)|(rw[Z];exact U _ _ x J H A h S e1 G)
 |choose q k U=>
  intro w es x J H A h S I G;simp only[Sem.runT]at h|-;by_cases Y:q.forced=true
  ·rw[if_pos Y]at h|-;exact U _ _ _ x J H A h S I G
  rw[if_neg Y]at h|-;exact U _ {w with drawn:=w.drawn+1} _ x J H A h S I G
 |sys c k U=>
  intro w es x J H A h S I G;simp only[Sem.runT]at h;have:=keep _ _ _ _ _ h;have:=S _ this;simp[YI]at this
 |program k U=>
  intro w es x J H A h S I G;simp only[Sem.runT]at h|-;exact U _ _ _ x J H A h S I G
 |mark m k U=>
  intro w es x J H A h S I G;simp only[Sem.runT]at h|-;exact U _ _ x J H A h S I G
 |halt hh=>
  intro w es x J H A h S I G;simp[Sem.runT]at h
end Conc1
end Go.Proofs.YtjgpiclllehgmaaGreat
