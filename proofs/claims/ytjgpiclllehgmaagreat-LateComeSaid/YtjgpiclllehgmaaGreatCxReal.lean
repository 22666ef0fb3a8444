/- Goroutines: steps in canonical order. -/
import Derived.Conc.CrowdComm
import Derived.Test.YtjgpiclllehgmaaGreatCxFlat
import Derived.Test.YtjgpiclllehgmaaGreatCxPast2
import Derived.Test.YtjgpiclllehgmaaGreatCxSwap
set_option linter.unusedSimpArgs false
set_option linter.unusedVariables false
namespace Go.Proofs.YtjgpiclllehgmaaGreat.Conc1
open Go Go.Conc
theorem Ow.swap {P:Program} {pr:Nat→Prop} {a b:Cf} {ch:Nat} {o₁ o₂:Obj} (h:Ow P pr a b) (hpr:pr ch) (h1:a.w.heap[ch]? =some o₁) (hc1:o₁.isChan=true) (hc2:o₂.isChan=true):
  b.w.heap[ch]? =some o₁∧Ow P pr ⟨a.fr,a.cs,sw a.w ch o₂⟩ ⟨b.fr,b.cs,sw b.w ch o₂⟩:=by
 obtain⟨α,s,F,x,es,g1,g2,g3,g4⟩:=h
 obtain⟨h3,h4⟩:=Zlq P hpr hc2 s _ _ _ _ _ o₁ g2 g4 h1 hc1
 exact⟨h3,α,s,F,x,es,g1,h4,g3,g4⟩
def Qy (P:Program) (St:Frame→List Frame→World→Prop) (m:Machine) (t:Trace):Prop:=
 ∃(N:Nat) (gs:Array Goroutine) (fr:Frame) (cs:List Frame) (w:World) (sl:Option (Nat×Nat)) (t':Trace) (q:Nat→Nat),
  runNT P N m t=(.next (crowd gs w sl),t')∧gs[0]? =some (G fr cs)∧St fr cs w∧Leavers P t' gs q∧Xu t'
theorem Qy.step {P:Program} {St:Frame→List Frame→World→Prop} {m m':Machine} {t ops:Trace} (hs:stepT P m=(.next m',ops)) (h:Qy P St m' (t++ops)):Qy P St m t:=by
 obtain⟨N,gs,fr,cs,w,sl,t',q,h1,h2⟩:=h
 exact⟨N+1,gs,fr,cs,w,sl,t',q,by simp only[runNT,hs];exact h1,h2⟩
section
variable {P:Program} {St:Frame→List Frame→World→Prop}
def ZbE (P:Program) (St:Frame→List Frame→World→Prop) (a:Cf):Prop:=
 ∀(gs:Array Goroutine) (sl:Option (Nat×Nat)) (t:Trace) (q:Nat→Nat) (d:Nat),gs[0]? =some (G a.fr a.cs)→Leavers P t gs q→Xu t→Qy P St (crowd gs (a.w.at d) sl) t
theorem ZbE.of_main {a:Cf} (hmain:∀(gs:Array Goroutine) (sl:Option (Nat×Nat)) (t:Trace) (q:Nat→Nat) (d:Nat),gs[0]? =some (G a.fr a.cs)→Leavers P t gs q→Xu t→
  ∃m' ops,runT P (crowd gs (a.w.at d) sl) 0=(.next m',ops)∧Qy P St m' (t++ops)):ZbE P St a:=by
 have key:∀(M:Nat) (gs:Array Goroutine) (sl:Option (Nat×Nat)) (t:Trace) (q:Nat→Nat) (d:Nat),ConcN.sumTo gs.size q≤M→gs[0]? =some (G a.fr a.cs)→Leavers P t gs q→Xu t→Qy P St (crowd gs (a.w.at d) sl) t:=by
  intro M
  induction M using Nat.strongRecOn with
  |_ M ih=>
   intro gs sl t q d hM h0 hL hP
   have hrun:(G a.fr a.cs).status= .running:=rfl
   have haw:∀g∈gs,awake g:=by
    intro g hg
    obtain⟨i,hi,rfl⟩:=Array.mem_iff_getElem.1 hg
    rcases Nat.eq_zero_or_pos i with rfl|hpos
    ·have:gs[0]=G a.fr a.cs:=by simpa [Array.getElem?_eq_getElem hi]using h0
     rw[this];exact awake_of (.inl hrun)
    ·exact awake_of ((hL.old i _ hpos (Array.getElem?_eq_getElem hi)).status.elim .inl fun x=>.inr (.inr x))
   obtain⟨i,g,d',sl',hi,hg,hst⟩:=crowd_pick (P:=P) (w:=a.w.at d) (sl:=sl) haw ⟨0,_,h0,hrun⟩
   have hst:stepT P (crowd gs (a.w.at d) sl)=runT P (crowd gs (a.w.at d') sl') i:=hst
   rcases Nat.eq_zero_or_pos i with rfl|hpos
   ·obtain⟨m',ops,h1,h2⟩:=hmain gs sl' t q d' h0 hL hP
    exact Qy.step (hst.trans h1) h2
   ·have hq:=hL.old i g hpos hi
    have hi0:(i==0)=false:=by simp;omega
    have hlt:i<gs.size:=(Array.getElem?_eq_some_iff.1 hi).1
    cases hqi:q i with
    |zero=>rw[hqi]at hq;rw[hq.1]at hg;cases hg
    |succ k=>
     rw[hqi]at hq
     rcases hq with⟨hf,_⟩|⟨_,g',es,hm,hstp,hq'⟩
     ·rw[hf]at hg;cases hg
     have hrunT:=runT_crowd_go (P:=P) (sl:=sl') (i:=i) hi (by rw[hi0];exact hstp (a.w.at d'))
     have hsz:((gs.map (woken P g g' (a.w.at d'))).setIfInBounds i g').size=gs.size:=by simp
     have hsum:ConcN.sumTo gs.size (ConcN.upd q i k)+(k+1)=ConcN.sumTo gs.size q+k:=by
      have:=ConcN.sumTo_upd q k id hlt
      simpa [hqi]using this
     refine Qy.step (hst.trans hrunT) (ih (ConcN.sumTo gs.size (ConcN.upd q i k)) (by omega) _ sl' _ (ConcN.upd q i k) d' (by rw[hsz];exact Nat.le_refl _) ?_ ⟨fun j x hj hx=>?_,fun j hj=>?_⟩ (hP.mute (by omega) hm))
     ·have hne:i≠0:=by omega
      rw[Array.getElem?_setIfInBounds_ne hne,Array.getElem?_map,h0]
      simp[woken_run hrun]
     ·by_cases hji:i=j
      ·subst hji
       rw[Array.getElem?_setIfInBounds_self_of_lt (by simpa using hlt)]at hx
       obtain rfl:=Option.some.inj hx
       rw[ConcN.upd_same,Deaf_own]
       exact hq'
      ·rw[Array.getElem?_setIfInBounds_ne hji,Array.getElem?_map]at hx
       obtain⟨y,hy,rfl⟩:=Option.map_eq_some_iff.1 hx
       have hqj:=hL.old j y hj hy
       rw[woken_quitsD hqj,ConcN.upd_ne q k (Ne.symm hji),Deaf_other t hji _ (fun op hop=>by obtain⟨e,_,rfl⟩:=Conc.mem_ofEvents hop;rfl)]
       exact hqj
     ·rw[Deaf_other t (g':=i) (by simp at hj;omega) _ (fun op hop=>by obtain⟨e,_,rfl⟩:=Conc.mem_ofEvents hop;rfl)]
      exact hL.above j (by simpa using hj)
 exact fun gs sl t q d h0 hL hP=>key _ gs sl t q d (Nat.le_refl _) h0 hL hP
theorem ZbE.own {a:Cf} (h:∀d,∃b,Ow P (fun _=>False) ⟨a.fr,a.cs,a.w.at d⟩ b∧ZbE P St b):ZbE P St a:=by
 refine ZbE.of_main fun gs sl t q d h0 hL hP=>?_
 obtain⟨b,hb,hG⟩:=h d
 obtain⟨es,e1,e2⟩:=hb.step true
 have hrunT:=runT_crowd_go (P:=P) (sl:=sl) (i:=0) h0 (show stepG P (0==0) _ (a.w.at d)=_ from e1)
 have hlt:0<gs.size:=(Array.getElem?_eq_some_iff.1 h0).1
 refine⟨_,_,hrunT,?_⟩
 have:=hG ((gs.map (woken P (G a.fr a.cs) (G b.fr b.cs) b.w)).setIfInBounds 0 (G b.fr b.cs)) sl (t++MemOp.ofEvents 0 (G a.fr a.cs).frame.fn (G a.fr a.cs).frame.place es) q b.w.drawn (by simp[hlt]) ⟨fun j x hj hx=>?_,fun j hj=>?_⟩ (hP.own e2)
 ·exact this
 ·have hne:0≠j:=by omega
  rw[Array.getElem?_setIfInBounds_ne hne,Array.getElem?_map]at hx
  obtain⟨y,hy,rfl⟩:=Option.map_eq_some_iff.1 hx
  have hq:=hL.old j y hj hy
  rw[woken_quitsD hq,Deaf_other t (by omega) _ (fun op hop=>by obtain⟨e,_,rfl⟩:=Conc.mem_ofEvents hop;rfl)]
  exact hq
 ·rw[Deaf_other t (g':=0) (by simp at hj;omega) _ (fun op hop=>by obtain⟨e,_,rfl⟩:=Conc.mem_ofEvents hop;rfl)]
  exact hL.above j (by simpa using hj)
end
inductive ZdL (P:Program) (ch cell:Nat) (R:RP) (L:List Bool):Nat→Goroutine→Prop
 |run {n:Nat} {x:Frame×List Frame}:ZdM P ch cell n x (R L)→ZdL P ch cell R L (n+1) (G x.1 x.2)
 |parked:ZdL P ch cell R L 0 (Conc.parked (G (R L).1 (R L).2) #[rcase ch (.bool false)] (.recv true))
inductive Zb3 (P:Program) (pr:Nat→Prop) (ch:Nat) (a:Cf):Nat→Goroutine→Prop
 |run:Zb3 P pr ch a 1 (G a.fr a.cs)
 |parked {v:Bool} {z:Value}:(∀w,∃es,stepG P false (G a.fr a.cs) w= .comm (G a.fr a.cs) #[scase ch (.bool v) z] true .send w es∧∀e∈es,Yc pr e)→Zb3 P pr ch a 0 (Conc.parked (G a.fr a.cs) #[scase ch (.bool v) z] .send)
structure Qj (P:Program) (t:Trace) (gs:Array Goroutine) (j:Nat) (q:Nat→Nat):Prop where
 old:∀i g,0<i→i≠j→gs[i]? =some g→QuitsD P (q i) (Deaf t i) g
 above:∀i,gs.size≤i→Deaf t i=0
def ZgQ (L:List Bool):Array Value:=(L.map Value.bool).toArray
def Zjl (P:Program) (St:Frame→List Frame→World→Prop) (ch cell:Nat) (R:RP) (a:Cf):Prop:=
 ∀(gs:Array Goroutine) (sl:Option (Nat×Nat)) (t:Trace) (q:Nat→Nat) (d j p:Nat) (L:List Bool) (s r:Nat) (tm:Bool) (nm nc:Nat) (gm gc:Goroutine),
  gs[0]? =some gm→ZdL P ch cell R L nm gm→gs[j]? =some gc→Zb3 P (fun n=>n=cell∨n=ch) ch a nc gc→0<nm+nc→Qj P t gs j q→JD t j p cell→p≤t.size→
  a.w.heap[ch]? =some (.chan 0 (ZgQ L) false s r tm)→a.w.cell? ⟨cell,0,none⟩=some (.chan (some ch))→ch≠cell→
  Qy P St (crowd gs ((sw a.w ch (.chan 0 #[] false s s tm)).at d) sl) t
theorem ZpX {w:World} {ch:Nat} {o:Obj} (h:w.heap[ch]? =some o):sw w ch o=w:=by
 unfold sw
 have:w.heap.setIfInBounds ch o=w.heap:=by
  apply Array.ext_getElem?
  intro j
  rw[Array.getElem?_setIfInBounds]
  by_cases hj:ch=j
  ·subst hj
   obtain⟨hlt,he⟩:=Array.getElem?_eq_some_iff.1 h
   simp[hlt,he]
  ·simp[hj]
 rw[this]
end Go.Proofs.YtjgpiclllehgmaaGreat.Conc1
