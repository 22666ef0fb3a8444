/- Lemmas. -/
import Derived.Test.YtjgpiclllehgmaaGreatCxSwap
set_option linter.all false
open Array renaming getElem?_eq_some_iff->aM,getElem?_modify->cU,getElem?_setIfInBounds_ne->aF
open List renaming foldlM->fD
open Go.World renaming cell?->bU
namespace Go.Proofs.YtjgpiclllehgmaaGreat
namespace Conc1
open Go
section
variable {w:World} {B:Nat}
theorem ZfV {p:Program} {a:Addr} {u:TypeId} {k:Addr} {b:Bool} {x} (h:w.seen p a u k b= .ok x):w.heap[a.block]? =some (.cells x.1 x.2.1 x.2.2.1):=by
 unfold World.seen at h;simp only[bind,Except.bind,pure,Except.pure]at h;(repeat' split at h)<;>first|(cases h;done)|(cases h;assumption)
theorem ZfL {p:Program} {a:Addr} {u:TypeId} {k:Addr} {v:Value} {b:Bool} {r:World×List Addr} (h:w.viewStore p a u k v b= .ok r) (J:∀x∈r.2,x.block≠B) (i:Nat):
  r.1.cell? ⟨B,i,none⟩=w.cell? ⟨B,i,none⟩:=by
 have ob:∀ {S α U:Type} (x:α) (f:α->Except S U),(Except.ok x>>=f)=f x:=fun _ _=>rfl;unfold World.viewStore at h;cases ht:(!tight p p.depth u);case true=>rw[ht]at h;simp only[if_true]at h;cases h
 case false=>
  rw[ht]at h;simp only[Bool.false_eq_true,if_false]at h;cases hs:w.seen p a u k b with
  |error e=>rw[hs]at h;cases h
  |ok x=>
   have A:=ZfV hs;rw[hs]at h;obtain⟨c,e,H,first,G,cells⟩:=x;simp only[ob]at h A;cases hv:v.bytes? with
   |none=>rw[hv]at h;cases h
   |some bytes=>
    rw[hv]at h;simp only at h;by_cases hz:some bytes.length≠G.bytes?.map (·.length)
    ·simp only[if_pos hz]at h;cases h
    simp only[if_neg hz]at h;by_cases hB:a.block=B
    ·cases cells with
     |nil=>
      cases h;unfold bU;show(match(w.heap.setIfInBounds a.block _)[B]? with|some (.cells c _ _)=>_|_=>none)=_;rw[hB]at A|-;have I:B<w.heap.size:=(aM.1 A).1;rw[Array.getElem?_setIfInBounds_self_of_lt I,A]
     |cons y l=>
      revert h;generalize fD (m:=Except String) _ c (y::l)=z;intro h;cases z with
      |error e=>cases h
      |ok c=>
       cases h;exact absurd hB (J ⟨a.block,y.1,none⟩ (by simp))
    revert h;generalize fD (m:=Except String) _ c cells=z;intro h;cases z with
    |error e=>cases h
    |ok c=>
     cases h;unfold bU;show(match(w.heap.setIfInBounds a.block _)[B]? with|some (.cells c _ _)=>_|_=>none)=_;rw[aF hB];rfl
theorem Zho {p:Program} {a:Addr} {v:Value} {b:Bool} {r:World×List Addr} (h:w.farStore p a v b= .ok r) (A:∀x∈r.2,x.block≠B) (i:Nat):
  r.1.cell? ⟨B,i,none⟩=w.cell? ⟨B,i,none⟩:=by
 unfold World.farStore at h;split at h
 ·split at h
  ·rename_i hv;cases h;exact ZfL hv A i
  cases h
 cases h
end
theorem Znd {α:Type} (P:Program) {pr:Nat->Prop} {B:Nat} (hB:pr B) (i:Nat):∀(s:Sem α) (w:World) (es:Array Event) (x:α) (G:World) (A:Array Event),
  s.runT P w es=(.ok x G,A)->(∀e∈A,Yw pr e)->(∃v,w.cell? ⟨B,i,none⟩=some v)->G.cell? ⟨B,i,none⟩=w.cell? ⟨B,i,none⟩:=by
 intro s;have keep:∀ {β:Type} (k:Sem β) (w:World) (es:Array Event) (e:Event) r,k.runT P w es=r->e∈es->e∈r.2:=fun k w es e r h Y=>by
  rw[<-h];exact Sem.events_keep P k e w _ Y
 have nb:∀(w:World),(∃v,w.cell? ⟨B,i,none⟩=some v)->∃c e f,w.heap[B]? =some (.cells c e f):=fun w ⟨v,hv⟩=>by
  unfold bU at hv;split at hv
  ·rename_i c e f U;exact⟨c,e,f,U⟩
  cases hv
 induction s with
 |pure a=>
  intro w es x G A h _ _;simp only[Sem.runT,Prod.mk.injEq,Result.ok.injEq]at h;obtain⟨⟨rfl,rfl⟩,rfl⟩:=h;rfl
 |load m a k J=>
  intro w es x G A h I H;simp only[Sem.runT]at h;split at h
  ·exact J _ w _ x G A h I H
  split at h
  ·exact J _ w _ x G A h I H
  simp at h
 |store m a v k J=>
  intro w es x G A h I H;have ac:∀v,(∀c,v≠ .agg c)->(∀c,v≠ .tuple c)->(Sem.store m a v k).runT P w es=(.ok x G,A)->G.cell? ⟨B,i,none⟩=w.cell? ⟨B,i,none⟩:=by
   intro v aa ae h
   have e1:∀(w:World),(Sem.store m a v k).runT P w es=(match w.cell? a with
    |some _=>
     if w.frozen? a then(.halt (.unsupported (.unsafePointer "a write to bytes that a string shares")) w,es)
     else k.runT P (w.setCell a v) (es.push ⟨.cell a,true,m== .atomic⟩)
    |none=>match w.farStore P a v (m== .atomic)with
     |.ok (w,touched)=>k.runT P w (es++touched.toArray.map (⟨.cell ·,true,m== .atomic⟩))
     |.error h=>(.halt h w,es)):=by
    intro w;cases v<;>first|rfl|exact absurd rfl (aa _)|exact absurd rfl (ae _)
   rw[e1]at h;split at h
   ·split at h
    ·simp at h
    have Y:=I _ (keep _ _ _ ⟨.cell a,true,m== .atomic⟩ _ h (by simp));have V:a.block≠B:=fun e=>Y.2 rfl (e▸hB);have S:(w.setCell a v).cell? ⟨B,i,none⟩=w.cell? ⟨B,i,none⟩:=by
     unfold bU World.setCell;simp only[cU,if_neg V]
    exact(J _ _ x G A h I (by rw[S];exact H)).trans S
   split at h
   ·rename_i w1 l hw
    have S:=Zho (B:=B) hw (fun y hy e=>by
     have Y:=I _ (keep _ _ _ ⟨.cell y,true,m== .atomic⟩ _ h (by simp;exact .inr hy))
     exact Y.2 rfl (e▸hB)) i
    exact(J _ _ x G A h I (by rw[S];exact H)).trans S
   simp at h
  cases v with
  |agg c=>simp[Sem.runT]at h
  |tuple c=>simp[Sem.runT]at h
  |_=>exact ac _ (by simp) (by simp) h
 |new o k J=>
  intro w es x G A h I H;simp only[Sem.runT]at h;obtain⟨c,e,f,U⟩:=nb w H;have Z:B<w.heap.size:=(aM.1 U).1;have S:({w with heap:=w.heap.push o}:World).cell? ⟨B,i,none⟩=w.cell? ⟨B,i,none⟩:=by
   unfold bU;show(match(w.heap.push o)[B]? with|some (.cells c _ _)=>_|_=>none)=_;rw[Array.getElem?_push_lt Z,<-Array.getElem?_eq_getElem Z];rfl
  exact(J _ _ _ x G A h I (by rw[S];exact H)).trans S
 |shape r k J=>
  intro w es x G A h I H;simp only[Sem.runT]at h;exact J _ _ _ x G A h I H
 |freeze a n k J=>
  intro w es x G A h I H;simp only[Sem.runT]at h;have S:(w.freeze a n).cell? ⟨B,i,none⟩=w.cell? ⟨B,i,none⟩:=by
   unfold World.freeze;split
   ·rfl
   unfold bU;simp only[cU];obtain⟨c,e,f,U⟩:=nb w H;by_cases hab:a.block=B
   ·simp only[hab,U,if_true,Option.map_some]
   simp only[hab,if_false]
  exact(J _ _ x G A h I (by rw[S];exact H)).trans S
 |frozen a k J=>
  intro w es x G A h I H;simp only[Sem.runT]at h;exact J _ _ _ x G A h I H
 |getObj r k J=>
  intro w es x G A h I H;simp only[Sem.runT]at h;split at h
  ·simp at h
  ·exact J _ _ _ x G A h I H
  simp at h
 |setObj r o k J=>
  intro w es x G A h I H;simp only[Sem.runT]at h;split at h
  ·simp at h
  ·rename_i ab U;have V:r≠B:=fun e=>by
    obtain⟨c,e',f,hb⟩:=nb w H;rw[e,hb]at U;cases U;exact ab _ _ _ rfl
   have S:({w with heap:=w.heap.setIfInBounds r o}:World).cell? ⟨B,i,none⟩=w.cell? ⟨B,i,none⟩:=by
    unfold bU;show(match(w.heap.setIfInBounds r o)[B]? with|some (.cells c _ _)=>_|_=>none)=_;rw[aF V];rfl
   exact(J _ _ x G A h I (by rw[S];exact H)).trans S
  simp at h
 |choose q k J=>
  intro w es x G A h I H;simp only[Sem.runT]at h;split at h
  ·exact J _ _ _ x G A h I H
  exact(J _ {w with drawn:=w.drawn+1} _ x G A h I H).trans rfl
 |sys c k J=>
  intro w es x G A h I H;simp only[Sem.runT]at h;exact absurd rfl ((I _ (keep _ _ _ ⟨.output,true,false⟩ _ h (by simp))).out)
 |program k J=>
  intro w es x G A h I H;simp only[Sem.runT]at h;exact J _ _ _ x G A h I H
 |mark m k J=>
  intro w es x G A h I H;simp only[Sem.runT]at h;exact J _ _ x G A h I H
 |halt U=>
  intro w es x G A h I H;simp[Sem.runT]at h
theorem Ow.keep {P:Program} {pr:Nat->Prop} {a b:Cf} {B i:Nat} (h:Ow P pr a b) (H:pr B) {v:Value} (hv:a.w.cell? ⟨B,i,none⟩=some v):b.w.cell? ⟨B,i,none⟩=some v:=by
 obtain⟨α,s,F,x,es,J,A,I,G⟩:=h;rw[Znd P H i s _ _ _ _ _ A G ⟨v,hv⟩,hv]
end Conc1
end Go.Proofs.YtjgpiclllehgmaaGreat
