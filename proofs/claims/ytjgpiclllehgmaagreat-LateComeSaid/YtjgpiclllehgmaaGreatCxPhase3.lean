/- Goroutines: steps in canonical order. -/
import Derived.Test.YtjgpiclllehgmaaGreatCxPhase2
set_option linter.unusedSimpArgs false
set_option linter.unusedVariables false
namespace Go.Proofs.YtjgpiclllehgmaaGreat.Conc1
open Go Go.Conc
section
variable {P:Program} {St:Frame→List Frame→World→Prop}
theorem ZcZ (g:Goroutine) (cs:Array CommCase) (sh:CommShape):awake (Conc.parked g cs sh):=awake_of (.inr (.inl rfl))
inductive Zar (P:Program) (ch cell:Nat) (R:RP) (L:List Bool):Nat→Goroutine→Prop
 |run {n:Nat} {x:Frame×List Frame}:ZdM P ch cell n x (R L)→Zar P ch cell R L n (G x.1 x.2)
 |woken:Zar P ch cell R L 0 {Conc.parked (G (R L).1 (R L).2) #[rcase ch (.bool false)] (.recv true)with status:=.running}
def Zo4 (P:Program) (ch cell:Nat) (R:RP):Prop:=∀L w,w.cell? ⟨cell,0,none⟩=some (.chan (some ch))→∃es,stepG P true (G (R L).1 (R L).2) w= .comm (G (R L).1 (R L).2) #[rcase ch (.bool false)] true (.recv true) w es∧∀e∈es,e=⟨.cell ⟨cell,0,none⟩,false,false⟩
theorem Zar.status {ch cell n:Nat} {R:RP} {L:List Bool} {g:Goroutine} (h:Zar P ch cell R L n g):g.status= .running:=by cases h<;>rfl
theorem ZdJ.main {t:Trace} {j p cell ch pc:Nat} {fn:FuncId} {pos:String} {es:Array Event} (h:ZdJ t j p cell ch pc) (he:∀e∈es,e=⟨.cell ⟨cell,0,none⟩,false,false⟩):ZdJ (t++MemOp.ofEvents 0 fn pos es) j p cell ch pc:=by
 refine h.app0 XO ?_ (fun op hop a ha hm=>?_)
 ·rw[Deaf_own]
  exact deafBehind_still (fun e hx=>by rw[he e hx];simp) _
 ·obtain⟨e,hx,rfl⟩:=Conc.mem_ofEvents hop
  rw[he e hx]at ha
  simp[MemAct.ofEvent,MemAct.touch?]at ha
  rw[←ha]
  exact⟨rfl,rfl⟩
theorem Zuf {ch cell:Nat} {R:RP} {L:List Bool} (hR:Zo4 P ch cell R) {w:World} {s:Nat} {tm:Bool} (hc:w.heap[ch]? =some (.chan 0 #[] true s s tm)) (hcell:w.cell? ⟨cell,0,none⟩=some (.chan (some ch)))
  (hG:ZbE P St ⟨(got (R L) false false).1,(got (R L) false false).2,w⟩):
  ∀(M:Nat) (gs:Array Goroutine) (sl:Option (Nat×Nat)) (t:Trace) (q:Nat→Nat) (d j p pc nm:Nat) (gm:Goroutine),nm+ConcN.sumTo gs.size q≤M→gs[0]? =some gm→Zar P ch cell R L nm gm→Leavers P t gs q→ZdJ t j p cell ch pc→0<j→j<gs.size→
   Qy P St (crowd gs (w.at d) sl) t:=by
 intro M
 induction M using Nat.strongRecOn with
 |_ M ih=>
  intro gs sl t q d j p pc nm gm hM h0 hm hL hS hj hjs
  have hrun:=hm.status
  have haw:∀g∈gs,awake g:=by
   intro g hg
   obtain⟨i,hi,rfl⟩:=Array.mem_iff_getElem.1 hg
   rcases Nat.eq_zero_or_pos i with rfl|hpos
   ·have:gs[0]=gm:=by simpa [Array.getElem?_eq_getElem hi]using h0
    rw[this];exact awake_of (.inl hrun)
   ·exact awake_of ((hL.old i _ hpos (Array.getElem?_eq_getElem hi)).status.elim .inl fun x=>.inr (.inr x))
  obtain⟨i,g,d',sl',hi,hg,hst⟩:=crowd_pick (P:=P) (w:=w.at d) (sl:=sl) haw ⟨0,_,h0,hrun⟩
  have hst:stepT P (crowd gs (w.at d) sl)=runT P (crowd gs (w.at d') sl') i:=hst
  have hlt0:0<gs.size:=(Array.getElem?_eq_some_iff.1 h0).1
  rcases Nat.eq_zero_or_pos i with rfl|hpos
  ·obtain rfl:g=gm:=by rw[h0]at hi;exact(Option.some.inj hi).symm
   have hrecv:∀g,(∀w,stepG P true g w=stepG P true (G (R L).1 (R L).2) w)→g.frame=(R L).1→gs[0]? =some g→Qy P St (crowd gs (w.at d) sl) t:=by
    intro g hsame hfr h0
    obtain⟨es,e1,e2⟩:=hR L (w.at d') hcell
    have hp:partners (gs.setIfInBounds 0 ph) ch true=[]:=by
     refine partners_nil fun k x hx=>?_
     rcases getElem?_stand gs 0 k x hx with⟨_,rfl⟩|⟨hk,hx⟩
     ·rfl
     ·refine offersAt_of_not_blocked ?_ _ _
      rcases(hL.old k x (by omega) hx).status with e|e<;>rw[e]<;>simp
    have hrunT:=crowd_recv_closed (sl:=sl') h0 (show stepG P (0==0) g (w.at d')=_ from(hsame _).trans e1) (w₁:=w.at d') hc hp
    refine Qy.step (hst.trans hrunT) ?_
    have hS1:=hS.main (fn:=g.frame.fn) (pos:=g.frame.place) e2
    have hP:=hS1.done {g:=0,fn:=(G (R L).1 (R L).2).frame.fn,pos:=(G (R L).1 (R L).2).frame.place,act:=.recvClosed ch} ⟨rfl,rfl⟩
    have e3:(G (R L).1 (R L).2).finishComm P #[rcase ch (.bool false)] (.recv true) 0 (.bool false) false=G (got (R L) false false).1 (got (R L) false false).2:=by rw[finishComm_recv];rfl
    rw[e3,←Array.append_assoc]
    refine hG (gs.setIfInBounds 0 (G (got (R L) false false).1 (got (R L) false false).2)) sl' _ q d' (by simp[hlt0]) ?_ hP
    have hL2:=(Qj.of_zero hL).apps (gs':=gs.setIfInBounds 0 (G (got (R L) false false).1 (got (R L) false false).2)) (u:=MemOp.ofEvents 0 g.frame.fn g.frame.place es++ #[{g:=0,fn:=(G (R L).1 (R L).2).frame.fn,pos:=(G (R L).1 (R L).2).frame.place,act:=.recvClosed ch}]) ?_ hlt0 hlt0 (by simp) ?_
    ·rw[←Array.append_assoc]at hL2;exact hL2.zero
    ·intro op hop
     rcases Array.mem_append.1 hop with h|h
     ·obtain⟨e,_,rfl⟩:=Conc.mem_ofEvents h;exact .inl rfl
     ·simp only[List.mem_toArray,List.mem_cons,List.not_mem_nil,or_false]at h
      rw[h];exact .inl rfl
    ·intro i x hi _ hx
     rw[Array.getElem?_setIfInBounds_ne (by omega)]at hx
     exact⟨x,hx,fun _=>rfl⟩
   cases hm with
   |woken=>exact hrecv _ (fun w=>stepG_tries true _ w) rfl h0
   | @run n x hn=>
    cases hn with
    |zero=>exact hrecv _ (fun _=>rfl) rfl h0
    | @succ n _ y _ h1 h2=>
     obtain⟨es,e1,e2⟩:=h1 (w.at d') hcell
     have hrunT:=runT_crowd_go (P:=P) (sl:=sl') (i:=0) h0 (show stepG P (0==0) _ (w.at d')=_ from e1)
     refine Qy.step (hst.trans hrunT) ?_
     have hS1:=hS.main (fn:=(G x.1 x.2).frame.fn) (pos:=(G x.1 x.2).frame.place) e2
     refine ih (n+ConcN.sumTo gs.size q) (by omega) _ sl' _ q d' j p pc n (G y.1 y.2) (by simp) (by simp[hlt0]) (.run h2) ?_ hS1 hj (by simpa using hjs)
     refine((Qj.of_zero hL).apps (fun op hop=>?_) hlt0 hlt0 (by simp) ?_).zero
     ·obtain⟨e,_,rfl⟩:=Conc.mem_ofEvents hop;exact .inl rfl
     ·intro i x hi _ hx
      rw[Array.getElem?_setIfInBounds_ne (by omega),Array.getElem?_map]at hx
      obtain⟨y,hy,rfl⟩:=Option.map_eq_some_iff.1 hx
      refine⟨y,hy,fun hs=>?_⟩
      unfold Conc.woken
      split
      ·exact again_running _ hs
      ·rfl
  ·obtain⟨g',es,k,hqi,hmu,hrunT,hL',hlt⟩:=(Qj.of_zero hL).move hi hpos (by omega) hg (w.at d') sl'
   refine Qy.step (hst.trans hrunT) ?_
   have hn:∀op∈MemOp.ofEvents i g.frame.fn g.frame.place es,op.act.touch?=none:=fun op hop=>by obtain⟨e,he,rfl⟩:=Conc.mem_ofEvents hop;exact touch_mute (hmu e he)
   have hg':∀op∈MemOp.ofEvents i g.frame.fn g.frame.place es,op.g=i:=XO
   refine ih (nm+ConcN.sumTo gs.size (ConcN.upd q i k)) (by omega) _ sl' _ _ d' j p pc nm gm (by simp) ?_ hm hL'.zero ?_ hj (by simpa using hjs)
   ·rw[Array.getElem?_setIfInBounds_ne (by omega),Array.getElem?_map,h0]
    simp[woken_run hrun]
   ·exact hS.appMute (by omega) hg' hn
end
end Go.Proofs.YtjgpiclllehgmaaGreat.Conc1
