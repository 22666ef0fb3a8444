/- Lemmas. -/
import Derived.Test.YtjgpiclllehgmaaGreatCxSwap
set_option linter.all false
open Array renaming getElem?_eq_some_iff->aM,getElem?_modify->cU,getElem?_setIfInBounds_ne->aF
open List renaming foldlM->fC
open Go.World renaming cell?->bV
namespace Go.Proofs.YtjgpiclllehgmaaGreat
namespace Conc1
open Go
section
variable {w:World} {B:Nat}
theorem Zf9 {p:Program} {a:Addr} {u:TypeId} {k:Addr} {b:Bool} {x} (h:w.seen p a u k b= .ok x):w.heap[a.block]? =some (.cells x.1 x.2.1 x.2.2.1):=by
 unfold World.seen at h;simp only[bind,Except.bind,pure,Except.pure]at h;(repeat' split at h)<;>first|(cases h;done)|(cases h;assumption)
theorem ZfX {p:Program} {a:Addr} {u:TypeId} {k:Addr} {v:Value} {b:Bool} {r:World×List Addr} (h:w.viewStore p a u k v b= .ok r) (S:∀x∈r.2,x.block≠B) (i:Nat):
  r.1.cell? ⟨B,i,none⟩=w.cell? ⟨B,i,none⟩:=by
 have ob:∀ {U α J:Type} (x:α) (f:α->Except U J),(Except.ok x>>=f)=f x:=λ_ _=>rfl;unfold World.viewStore at h;cases ht:(!tight p p.depth u);case true=>rw[ht]at h;simp only[if_true]at h;cases h
 case false=>
  rw[ht]at h;simp only[Bool.false_eq_true,if_false]at h;cases hs:w.seen p a u k b with
  |error e=>rw[hs]at h;cases h
  |ok x=>
   have A:=Zf9 hs;rw[hs]at h;obtain⟨c,e,I,first,G,cells⟩:=x;simp only[ob]at h A;cases hv:v.bytes? with
   |none=>rw[hv]at h;cases h
   |some bytes=>
    rw[hv]at h;simp only at h;by_cases hz:some bytes.length≠G.bytes?.map (·.length)
    ·simp only[if_pos hz]at h;cases h
    simp only[if_neg hz]at h;by_cases hB:a.block=B
    ·cases cells with
     |nil=>
      cases h;unfold bV;show(match(w.heap.setIfInBounds a.block _)[B]? with|some (.cells c _ _)=>_|_=>none)=_;rw[hB]at A|-;have H:B<w.heap.size:=(aM.1 A).1;rw[Array.getElem?_setIfInBounds_self_of_lt H,A]
     |cons y l=>
      revert h;generalize fC (m:=Except String) _ c (y::l)=z;intro h;cases z with
      |error e=>cases h
      |ok c=>
       cases h;exact absurd hB (S ⟨a.block,y.1,none⟩ (by simp))
    revert h;generalize fC (m:=Except String) _ c cells=z;intro h;cases z with
    |error e=>cases h
    |ok c=>
     cases h;unfold bV;show(match(w.heap.setIfInBounds a.block _)[B]? with|some (.cells c _ _)=>_|_=>none)=_;rw[aF hB];rfl
theorem ZhE {p:Program} {a:Addr} {v:Value} {b:Bool} {r:World×List Addr} (h:w.farStore p a v b= .ok r) (A:∀x∈r.2,x.block≠B) (i:Nat):
  r.1.cell? ⟨B,i,none⟩=w.cell? ⟨B,i,none⟩:=by
 unfold World.farStore at h;split at h
 ·split at h
  ·rename_i hv;cases h;exact ZfX hv A i
  cases h
 cases h
end
theorem ZnE {α:Type} (P:Program) {pr:Nat->Prop} {B:Nat} (hB:pr B) (i:Nat):∀(s:Sem α) (w:World) (es:Array Event) (x:α) (G:World) (A:Array Event),
  s.runT P w es=(.ok x G,A)->(∀e∈A,YI pr e)->(∃v,w.cell? ⟨B,i,none⟩=some v)->G.cell? ⟨B,i,none⟩=w.cell? ⟨B,i,none⟩:=by
 intro s;have keep:∀ {β:Type} (k:Sem β) (w:World) (es:Array Event) (e:Event) r,k.runT P w es=r->e∈es->e∈r.2:=λk w es e r h Y=>by
  rw[<-h];exact Sem.events_keep P k e w _ Y
 have nb:∀(w:World),(∃v,w.cell? ⟨B,i,none⟩=some v)->∃c e f,w.heap[B]? =some (.cells c e f):=λw ⟨v,hv⟩=>by
  unfold bV at hv;split at hv
  ·rename_i c e f U;exact⟨c,e,f,U⟩
  cases hv
 induction s with
 |pure a=>
  intro w es x G A h _ _;simp only[Sem.runT,Prod.mk.injEq,Result.ok.injEq]at h;obtain⟨⟨rfl,rfl⟩,rfl⟩:=h;rfl
 |load m a k J=>
  intro w es x G A h H I;simp only[Sem.runT]at h;split at h
  ·exact J _ w _ x G A h H I
  split at h
  ·exact J _ w _ x G A h H I
  simp at h
 |store m a v k J=>
  intro w es x G A h H I;have ab:∀v,(∀c,v≠ .agg c)->(∀c,v≠ .tuple c)->(Sem.store m a v k).runT P w es=(.ok x G,A)->G.cell? ⟨B,i,none⟩=w.cell? ⟨B,i,none⟩:=by
   intro v aa ae h
   have e1:∀(w:World),(Sem.store m a v k).runT P w es=(match w.cell? a with
    |some _=>
     if w.frozen? a then(.halt (.unsupported (.unsafePointer "a write to bytes that a string shares")) w,es)
     else k.runT P (w.setCell a v) (es.push ⟨.cell a,true,m== .atomic⟩)
    |none=>match w.farStore P a v (m== .atomic)with
     |.ok (w,touched)=>k.runT P w (es++touched.toArray.map (⟨.cell ·,true,m== .atomic⟩))
     |.error h=>(.halt h w,es)):=by
    intro w;cases v<;>first|rfl|exact absurd rfl (aa _)|exact absurd rfl (ae _)
   rw[e1]at h;split at h
   ·split at h
    ·simp at h
    have Y:=H _ (keep _ _ _ ⟨.cell a,true,m== .atomic⟩ _ h (by simp));have V:a.block≠B:=λe=>Y.2 rfl (e▸hB);have S:(w.setCell a v).cell? ⟨B,i,none⟩=w.cell? ⟨B,i,none⟩:=by
     unfold bV World.setCell;simp only[cU,if_neg V]
    exact(J _ _ x G A h H (by rw[S];exact I)).trans S
   split at h
   ·rename_i w1 l hw
    have S:=ZhE (B:=B) hw (λy hy e=>by
     have Y:=H _ (keep _ _ _ ⟨.cell y,true,m== .atomic⟩ _ h (by simp;exact .inr hy))
     exact Y.2 rfl (e▸hB)) i
    exact(J _ _ x G A h H (by rw[S];exact I)).trans S
   simp at h
  cases v with
  |agg c=>simp[Sem.runT]at h
  |tuple c=>simp[Sem.runT]at h
  |_=>exact ab _ (by simp) (by simp) h
 |new o k J=>
  intro w es x G A h H I;simp only[Sem.runT]at h;obtain⟨c,e,f,U⟩:=nb w I;have Z:B<w.heap.size:=(aM.1 U).1;have S:({w with heap:=w.heap.push o}:World).cell? ⟨B,i,none⟩=w.cell? ⟨B,i,none⟩:=by
   unfold bV;show(match(w.heap.push o)[B]? with|some (.cells c _ _)=>_|_=>none)=_;rw[Array.getElem?_push_lt Z,<-Array.getElem?_eq_getElem Z];rfl
  exact(J _ _ _ x G A h H (by rw[S];exact I)).trans S
 |shape r k J=>
  intro w es x G A h H I;simp only[Sem.runT]at h;exact J _ _ _ x G A h H I
 |freeze a n k J=>
  intro w es x G A h H I;simp only[Sem.runT]at h;have S:(w.freeze a n).cell? ⟨B,i,none⟩=w.cell? ⟨B,i,none⟩:=by
   unfold World.freeze;split
   ·rfl
   unfold bV;simp only[cU];obtain⟨c,e,f,U⟩:=nb w I;by_cases hab:a.block=B
   ·simp only[hab,U,if_true,Option.map_some]
   simp only[hab,if_false]
  exact(J _ _ x G A h H (by rw[S];exact I)).trans S
 |frozen a k J=>
  intro w es x G A h H I;simp only[Sem.runT]at h;exact J _ _ _ x G A h H I
 |getObj r k J=>
  intro w es x G A h H I;simp only[Sem.runT]at h;split at h
  ·simp at h
  ·exact J _ _ _ x G A h H I
  simp at h
 |setObj r o k J=>
  intro w es x G A h H I;simp only[Sem.runT]at h;split at h
  ·simp at h
  ·rename_i ac U;have V:r≠B:=λe=>by
    obtain⟨c,e',f,hb⟩:=nb w I;rw[e,hb]at U;cases U;exact ac _ _ _ rfl
   have S:({w with heap:=w.heap.setIfInBounds r o}:World).cell? ⟨B,i,none⟩=w.cell? ⟨B,i,none⟩:=by
    unfold bV;show(match(w.heap.setIfInBounds r o)[B]? with|some (.cells c _ _)=>_|_=>none)=_;rw[aF V];rfl
   exact(J _ _ x G A h H (by rw[S];exact I)).trans S
  simp at h
 |choose q k J=>
  intro w es x G A h H I;simp only[Sem.runT]at h;split at h
  ·exact J _ _ _ x G A h H I
  exact(J _ {w with drawn:=w.drawn+1} _ x G A h H I).trans rfl
 |sys c k J=>
  intro w es x G A h H I;simp only[Sem.runT]at h;exact absurd rfl ((H _ (keep _ _ _ ⟨.output,true,false⟩ _ h (by simp))).out)
 |program k J=>
  intro w es x G A h H I;simp only[Sem.runT]at h;exact J _ _ _ x G A h H I
 |mark m k J=>
  intro w es x G A h H I;simp only[Sem.runT]at h;exact J _ _ x G A h H I
 |halt U=>
  intro w es x G A h H I;simp[Sem.runT]at h
theorem Ow.keep {P:Program} {pr:Nat->Prop} {a b:Cf} {B i:Nat} (h:Ow P pr a b) (H:pr B) {v:Value} (hv:a.w.cell? ⟨B,i,none⟩=some v):b.w.cell? ⟨B,i,none⟩=some v:=by
 obtain⟨α,s,F,x,es,I,G,J,A⟩:=h;rw[ZnE P H i s _ _ _ _ _ G A ⟨v,hv⟩,hv]
end Conc1
end Go.Proofs.YtjgpiclllehgmaaGreat
