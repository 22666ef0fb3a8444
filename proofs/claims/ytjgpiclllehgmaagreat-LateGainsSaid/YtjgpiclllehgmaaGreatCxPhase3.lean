/- Lemmas. -/
import Derived.Test.YtjgpiclllehgmaaGreatCxPhase2
set_option linter.all false
open Array renaming append_assoc->dC,getElem?_eq_getElem->aY,getElem?_map->cA,getElem?_setIfInBounds_ne->aF
open Nat renaming eq_zero_or_pos->cJ
namespace Go.Proofs.YtjgpiclllehgmaaGreat
namespace Conc1
open Go Go.Conc
section
variable {P:Program} {St:Frame->List Frame->World->Prop}
theorem Zd0 (g:Goroutine) (cs:Array CommCase) (A:CommShape):awake (Conc.parked g cs A):=awake_of (.inr (.inl rfl))
inductive Zbc (P:Program) (ch cell:Nat) (R:RP) (L:List Bool):Nat->Goroutine->Prop
 |run {n:Nat} {x:Frame×List Frame}:ZeX P ch cell n x (R L)->Zbc P ch cell R L n (G x.1 x.2)
 |woken:Zbc P ch cell R L 0 {Conc.parked (G (R L).1 (R L).2) #[rcase ch (.bool false)] (.recv true)with status:=.running}
def ZrA (P:Program) (ch cell:Nat) (R:RP):Prop:=∀L w,w.cell? ⟨cell,0,none⟩=some (.chan (some ch))->∃es,stepG P true (G (R L).1 (R L).2) w= .comm (G (R L).1 (R L).2) #[rcase ch (.bool false)] true (.recv true) w es/\∀e∈es,e=⟨.cell ⟨cell,0,none⟩,false,false⟩
theorem Zbc.status {ch cell n:Nat} {R:RP} {L:List Bool} {g:Goroutine} (h:Zbc P ch cell R L n g):g.status= .running:=by cases h<;>rfl
theorem ZeU.main {t:Trace} {j p cell ch J:Nat} {fn:FuncId} {pos:String} {es:Array Event} (h:ZeU t j p cell ch J) (H:∀e∈es,e=⟨.cell ⟨cell,0,none⟩,false,false⟩):ZeU (t++MemOp.ofEvents 0 fn pos es) j p cell ch J:=by
 refine h.app0 Yj ?_ (λS I a A hm=>?_)
 ·rw[Deaf_own];exact deafBehind_still (λe G=>by rw[H e G];simp) _
 obtain⟨e,G,rfl⟩:=Conc.mem_ofEvents I;rw[H e G]at A;simp[MemAct.ofEvent,MemAct.touch?]at A;rw[<-A];exact⟨rfl,rfl⟩
theorem Zxr {ch cell:Nat} {R:RP} {L:List Bool} (hR:ZrA P ch cell R) {w:World} {s:Nat} {tm:Bool} (hc:w.heap[ch]? =some (.chan 0 #[] true s s tm)) (ae:w.cell? ⟨cell,0,none⟩=some (.chan (some ch)))
  (hG:Zcw P St ⟨(got (R L) false false).1,(got (R L) false false).2,w⟩):
  ∀(M:Nat) (A:Array Goroutine) (sl:Option (Nat×Nat)) (t:Trace) (q:Nat->Nat) (d j p pc nm:Nat) (gm:Goroutine),nm+ConcN.sumTo A.size q<=M->A[0]? =some gm->Zbc P ch cell R L nm gm->Leavers P t A q->ZeU t j p cell ch pc->0<j->j<A.size->
   QY P St (crowd A (w.at d) sl) t:=by
 intro M;induction M using Nat.strongRecOn with
 |_ M ih=>
  intro A sl t q d j p pc nm gm hM S hm hL hS hj aj;have ab:=hm.status;have am:∀g∈A,awake g:=by
   intro g hg;obtain⟨i,hi,rfl⟩:=Array.mem_iff_getElem.1 hg;rcases cJ i with rfl|aa
   ·have:A[0]=gm:=by simpa [aY hi]using S
    rw[this];exact awake_of (.inl ab)
   exact awake_of ((hL.old i _ aa (aY hi)).status.elim .inl λx=>.inr (.inr x))
  obtain⟨i,g,U,J,hi,hg,Z⟩:=crowd_pick (P:=P) (w:=w.at d) (sl:=sl) am ⟨0,_,S,ab⟩;have Z:stepT P (crowd A (w.at d) sl)=runT P (crowd A (w.at U) J) i:=Z;have I:0<A.size:=(Array.getElem?_eq_some_iff.1 S).1;rcases cJ i with rfl|aa
  ·obtain rfl:g=gm:=by rw[S]at hi;exact(Option.some.inj hi).symm
   have ac:∀g,(∀w,stepG P true g w=stepG P true (G (R L).1 (R L).2) w)->g.frame=(R L).1->A[0]? =some g->QY P St (crowd A (w.at d) sl) t:=by
    intro g ai ar S;obtain⟨es,e1,e2⟩:=hR L (w.at U) ae;have hp:partners (A.setIfInBounds 0 ph) ch true=[]:=by
     refine partners_nil λk x V=>?_;rcases getElem?_stand A 0 k x V with⟨_,rfl⟩|⟨hk,V⟩
     ·rfl
     refine offersAt_of_not_blocked ?_ _ _;rcases(hL.old k x (by omega) V).status with e|e<;>rw[e]<;>simp
    have H:=crowd_recv_closed (sl:=J) S (show stepG P (0==0) g (w.at U)=_ from(ai _).trans e1) (w₁:=w.at U) hc hp;refine QY.step (Z.trans H) ?_;have ah:=hS.main (fn:=g.frame.fn) (pos:=g.frame.place) e2;have hP:=ah.done {g:=0,fn:=(G (R L).1 (R L).2).frame.fn,pos:=(G (R L).1 (R L).2).frame.place,act:=.recvClosed ch} ⟨rfl,rfl⟩;have e3:(G (R L).1 (R L).2).finishComm P #[rcase ch (.bool false)] (.recv true) 0 (.bool false) false=G (got (R L) false false).1 (got (R L) false false).2:=by rw[finishComm_recv];rfl
    rw[e3,<-dC];refine hG (A.setIfInBounds 0 (G (got (R L) false false).1 (got (R L) false false).2)) J _ q U (by simp[I]) ?_ hP;have ak:=(QA.of_zero hL).apps (gs':=A.setIfInBounds 0 (G (got (R L) false false).1 (got (R L) false false).2)) (u:=MemOp.ofEvents 0 g.frame.fn g.frame.place es++ #[{g:=0,fn:=(G (R L).1 (R L).2).frame.fn,pos:=(G (R L).1 (R L).2).frame.place,act:=.recvClosed ch}]) ?_ I I (by simp) ?_
    ·rw[<-dC]at ak;exact ak.zero
    ·intro op Y;rcases Array.mem_append.1 Y with h|h
     ·obtain⟨e,_,rfl⟩:=Conc.mem_ofEvents h;exact .inl rfl
     simp only[List.mem_toArray,List.mem_cons,List.not_mem_nil,or_false]at h;rw[h];exact .inl rfl
    intro i x hi _ V;rw[aF (by omega)]at V;exact⟨x,V,λ_=>rfl⟩
   cases hm with
   |woken=>exact ac _ (λw=>stepG_tries true _ w) rfl S
   | @run n x hn=>
    cases hn with
    |zero=>exact ac _ (λ_=>rfl) rfl S
    | @succ n _ y _ h1 h2=>
     obtain⟨es,e1,e2⟩:=h1 (w.at U) ae;have H:=runT_crowd_go (P:=P) (sl:=J) (i:=0) S (show stepG P (0==0) _ (w.at U)=_ from e1);refine QY.step (Z.trans H) ?_;have ah:=hS.main (fn:=(G x.1 x.2).frame.fn) (pos:=(G x.1 x.2).frame.place) e2;refine ih (n+ConcN.sumTo A.size q) (by omega) _ J _ q U j p pc n (G y.1 y.2) (by simp) (by simp[I]) (.run h2) ?_ ah hj (by simpa using aj);refine((QA.of_zero hL).apps (λop Y=>?_) I I (by simp) ?_).zero
     ·obtain⟨e,_,rfl⟩:=Conc.mem_ofEvents Y;exact .inl rfl
     intro i x hi _ V;rw[aF (by omega),cA]at V;obtain⟨y,hy,rfl⟩:=Option.map_eq_some_iff.1 V;refine⟨y,hy,λhs=>?_⟩;unfold Conc.woken;split
     ·exact again_running _ hs
     rfl
  obtain⟨g',es,k,au,ao,H,ap,aq⟩:=(QA.of_zero hL).move hi aa (by omega) hg (w.at U) J;refine QY.step (Z.trans H) ?_;have hn:∀op∈MemOp.ofEvents i g.frame.fn g.frame.place es,op.act.touch?=none:=λop Y=>by obtain⟨e,he,rfl⟩:=Conc.mem_ofEvents Y;exact touch_mute (ao e he)
  have al:∀op∈MemOp.ofEvents i g.frame.fn g.frame.place es,op.g=i:=Yj;refine ih (nm+ConcN.sumTo A.size (ConcN.upd q i k)) (by omega) _ J _ _ U j p pc nm gm (by simp) ?_ hm ap.zero ?_ hj (by simpa using aj)
  ·rw[aF (by omega),cA,S];simp[woken_run ab]
  exact hS.appMute (by omega) al hn
end
end Conc1
end Go.Proofs.YtjgpiclllehgmaaGreat
