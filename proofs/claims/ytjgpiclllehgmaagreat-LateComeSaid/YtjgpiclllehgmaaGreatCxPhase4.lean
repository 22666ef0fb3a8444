/- Goroutines: steps in canonical order. -/
import Derived.Test.YtjgpiclllehgmaaGreatCxPhase3
import Derived.Test.YtjgpiclllehgmaaGreatCxKeep
set_option linter.unusedSimpArgs false
set_option linter.unusedVariables false
namespace Go.Proofs.YtjgpiclllehgmaaGreat.Conc1
open Go Go.Conc
structure Zr0 (P:Program) (ch cell:Nat) (R:RP):Prop where
 recv:Zo4 P ch cell R
 next:∀L v,∃n,ZdM P ch cell n (got (R L) v true) (R (L++[v]))
def Zo6 (P:Program) (St:Frame→List Frame→World→Prop):Fc→Prop
 |.one a=>ZbE P St a
 |.two ch cell R a=>Zr0 P ch cell R→Zjl P St ch cell R a
section
variable {P:Program} {St:Frame→List Frame→World→Prop} {KF:Frame→List Frame→Option (Nat×Nat×RP)}
theorem ZfK (L:List Bool) (v:Bool):ZgQ (L++[v])=(ZgQ L).push (.bool v):=by simp[ZgQ]
theorem ZeS {w:World} {ch d cap:Nat} {o:Obj} {buf buf':Array Value} {s r s' r':Nat} {tm tm' c c':Bool}:
  ((sw w ch o).at d).setChan ch cap buf c s r tm=(sw ((w.at d).setChan ch 0 buf' c' s' r' tm') ch (.chan cap buf c s r tm)).at d:=by
 show World.mk ((w.heap.setIfInBounds ch _).setIfInBounds ch _) w.tape d w.os w.output=World.mk ((w.heap.setIfInBounds ch _).setIfInBounds ch _) w.tape d w.os w.output
 simp
theorem Zkr {ch cell n:Nat} {R:RP} {L:List Bool} {g:Goroutine} (h:ZdL P ch cell R L n g):awake g:=by
 cases h with
 |run _=>exact awake_of (.inl rfl)
 |parked=>exact ZcZ _ _ _
theorem Zi6 {pr:Nat→Prop} {ch n:Nat} {a:Cf} {g:Goroutine} (h:Zb3 P pr ch a n g):awake g:=by
 cases h with
 |run=>exact awake_of (.inl rfl)
 |parked _=>exact ZcZ _ _ _
theorem ZeJ {ch cell n s r cap:Nat} {R:RP} {L:List Bool} {g x y:Goroutine} {w:World} {buf:Array Value} {tm:Bool} (h:ZdL P ch cell R L n g) (hc:w.heap[ch]? =some (.chan cap buf false s r tm)):woken P x y w g=g:=by
 cases h with
 |run _=>exact woken_run rfl
 |parked=>exact woken_recv_open _ _ hc
theorem ZdR {pr:Nat→Prop} {ch n s r cap:Nat} {a:Cf} {g x y:Goroutine} {w:World} {buf:Array Value} {tm:Bool} (h:Zb3 P pr ch a n g) (hc:w.heap[ch]? =some (.chan cap buf false s r tm)):woken P x y w g=g:=by
 cases h with
 |run=>exact woken_run rfl
 |parked _=>exact woken_send_open _ _ hc
theorem Zau {g x y:Goroutine} {w:World} (h:g.status= .running∨g.status= .finished):woken P x y w g=g:=by
 unfold woken
 split
 ·exact again_running _ h
 ·rfl
theorem ZiZ {j cell i k c s r:Nat} {f₁ f₂ f₃ f₄:FuncId} {p₁ p₂ p₃ p₄:String} {cap:Nat} (h1:i=0∨i=j) (h2:k=0∨k=j):
  ∀op∈ [({g:=i,fn:=f₁,pos:=p₁,act:=.send c s}:MemOp),{g:=k,fn:=f₂,pos:=p₂,act:=.recv c r cap},{g:=i,fn:=f₃,pos:=p₃,act:=.sendDone c s},{g:=k,fn:=f₄,pos:=p₄,act:=.recvDone c r}],Zgi j cell op:=by
 intro op hop
 simp only[List.mem_cons,List.not_mem_nil,or_false]at hop
 rcases hop with rfl|rfl|rfl|rfl<;>exact⟨by assumption,⟨by simp,by simp⟩,fun a ha=>by simp[MemAct.touch?]at ha⟩
theorem ZjD {pr:Nat→Prop} {j cell ch:Nat} {fn:FuncId} {pos:String} {es:Array Event} (hpr:pr cell) (h:∀e∈es,Yc pr e∨e=⟨.obj ch,false,true⟩):∀op∈(MemOp.ofEvents j fn pos es).toList,Zgi j cell op:=by
 intro op hop
 obtain⟨e,he,rfl⟩:=Conc.mem_ofEvents (Array.mem_toList_iff.1 hop)
 rcases h e he with h1|rfl
 ·exact Zcp (es:= #[e]) (fn:=fn) (pos:=pos) hpr (fun e' he'=>by rw[show e'=e by simpa using he'];exact h1) _ (by simp[ofEvents_eq])
 ·refine⟨.inr rfl,⟨by simp[MemAct.ofEvent],by simp[MemAct.ofEvent]⟩,fun a ha hm=>.inr ⟨rfl,fun ad had hw=>?_⟩⟩
  simp[MemAct.ofEvent,MemAct.touch?]at ha
  rw[←ha]at had
  cases had
theorem JD.shut {t:Trace} {j p cell ch:Nat} (h:JD t j p cell) (hp:p≤t.size) (y:MemOp) (hg:y.g=j) (hy:y.act= .close ch):ZdJ (t++ #[y]) j p cell ch t.size:=by
 have ty:y.act.touch?=none:=by rw[hy];rfl
 have hnot:∀(i:Nat) (a:Touch) (x:MemOp),(t++ #[y])[i]? =some x→x.act.touch?=some a→t[i]? =some x:=fun i a x hx hxa=>by
  rcases getElem?_append_cases hx with⟨_,hx'⟩|⟨_,hxu⟩
  ·exact hx'
  ·have:x=y:=by simpa using hxu
   rw[this,ty]at hxa;cases hxa
 refine⟨h.pos,Yn h.clean (g:=j) (by simp[hg]) (by simp[ty]),(ZfY (by rw[hy];exact⟨by simp,by simp⟩)).trans h.hears0,fun i a ha hm hi=>?_,fun i a x hx hxa hm hi=>h.late i a x (hnot i a x hx hxa) hxa hm hi,⟨y,by simp,hg,hy⟩,⟨j,by simp[Trace.g?,hg],by rw[deaf_old (Nat.le_refl _)];exact h.hearsJ⟩,fun i a x hx hxa hm _=>Nat.le_of_lt (lt_size_of_getElem? (hnot i a x hx hxa)),by simp;omega⟩
 obtain⟨x,hx,hxa⟩:=touch_of ha
 exact(h.early i a (by rw[touchAt_of (hnot i a x hx hxa)];exact hxa) hm hi).1.app _
theorem Zjl.of {ch cell:Nat} {R:RP} {a:Cf} (hE:Zr0 P ch cell R) (h:∀d,∃b,T P KF (.two ch cell R ⟨a.fr,a.cs,a.w.at d⟩) b∧Zo6 P St b):Zjl P St ch cell R a:=by
 intro gs sl t q d j p L s r tm nm nc gm gc h0 hm hj hc hpos hL hPh hp hch hcell hne
 have key:∀(M:Nat) (gs:Array Goroutine) (sl:Option (Nat×Nat)) (t:Trace) (q:Nat→Nat) (d nm nc:Nat) (gm gc:Goroutine),nm+nc+ConcN.sumTo gs.size q≤M→
   gs[0]? =some gm→ZdL P ch cell R L nm gm→gs[j]? =some gc→Zb3 P (fun n=>n=cell∨n=ch) ch a nc gc→0<nm+nc→Qj P t gs j q→JD t j p cell→p≤t.size→
   Qy P St (crowd gs ((sw a.w ch (.chan 0 #[] false s s tm)).at d) sl) t:=by
  clear h0 hm hj hc hpos hL hPh hp
  intro M
  induction M using Nat.strongRecOn with
  |_ M ih=>
   intro gs sl t q d nm nc gm gc hM h0 hm hj hc hpos hL hPh hp
   have hj0:=hPh.pos
   have hlt0:0<gs.size:=(Array.getElem?_eq_some_iff.1 h0).1
   have hltj:j<gs.size:=(Array.getElem?_eq_some_iff.1 hj).1
   have hchW:∀d,((sw a.w ch (.chan 0 #[] false s s tm)).at d).heap[ch]? =some (.chan 0 #[] false s s tm):=fun _=>ZbL hch
   have hcellW:∀d,((sw a.w ch (.chan 0 #[] false s s tm)).at d).cell? ⟨cell,0,none⟩=some (.chan (some ch)):=fun _=>(ZhR hch rfl rfl _).trans hcell
   have haw:∀g∈gs,awake g:=by
    intro g hg
    obtain⟨i,hi,rfl⟩:=Array.mem_iff_getElem.1 hg
    by_cases hi0:i=0
    ·subst hi0
     have:gs[0]=gm:=by simpa [Array.getElem?_eq_getElem hi]using h0
     rw[this];exact Zkr hm
    ·by_cases hij:i=j
     ·subst hij
      have:gs[i]=gc:=by simpa [Array.getElem?_eq_getElem hi]using hj
      rw[this];exact Zi6 hc
     ·exact awake_of ((hL.old i _ (by omega) hij (Array.getElem?_eq_getElem hi)).status.elim .inl fun x=>.inr (.inr x))
   have hsome:∃(i:Nat) (g:Goroutine),gs[i]? =some g∧g.status= .running:=by
    cases hm with
    |run hn=>exact⟨0,_,h0,rfl⟩
    |parked=>
     cases hc with
     |run=>exact⟨j,_,hj,rfl⟩
     |parked _=>omega
   obtain⟨i,g,d',sl',hi,hg,hst⟩:=crowd_pick (P:=P) (w:=(sw a.w ch (.chan 0 #[] false s s tm)).at d) (sl:=sl) haw hsome
   have hst:stepT P (crowd gs ((sw a.w ch (.chan 0 #[] false s s tm)).at d) sl)=runT P (crowd gs ((sw a.w ch (.chan 0 #[] false s s tm)).at d') sl') i:=hst
   have hothers:∀(i₁:Nat) (x₁:Goroutine) (i₂:Nat) (x₂:Goroutine),(i₁=0∨i₁=j)→(i₂=0∨i₂=j)→∀(f:Goroutine→Goroutine),(∀g,g.status= .running∨g.status= .finished→f g=g)→
     ∀i g,0<i→i≠j→(((gs.map f).setIfInBounds i₁ x₁).setIfInBounds i₂ x₂)[i]? =some g→∃y,gs[i]? =some y∧((y.status= .running∨y.status= .finished)→g=y):=by
    intro i₁ x₁ i₂ x₂ e1 e2 f hf i g hi hij hx
    rw[Array.getElem?_setIfInBounds_ne (by omega),Array.getElem?_setIfInBounds_ne (by omega),Array.getElem?_map]at hx
    obtain⟨y,hy,rfl⟩:=Option.map_eq_some_iff.1 hx
    exact⟨y,hy,hf y⟩
   have hothers1:∀(i₁:Nat) (x₁:Goroutine),(i₁=0∨i₁=j)→∀(f:Goroutine→Goroutine),(∀g,g.status= .running∨g.status= .finished→f g=g)→
     ∀i g,0<i→i≠j→((gs.map f).setIfInBounds i₁ x₁)[i]? =some g→∃y,gs[i]? =some y∧((y.status= .running∨y.status= .finished)→g=y):=by
    intro i₁ x₁ e1 f hf i g hi hij hx
    rw[Array.getElem?_setIfInBounds_ne (by omega),Array.getElem?_map]at hx
    obtain⟨y,hy,rfl⟩:=Option.map_eq_some_iff.1 hx
    exact⟨y,hy,hf y⟩
   have hleft:∀(k:Nat) (x:Goroutine) (i:Nat) (snd:Bool),(gs.setIfInBounds i ph)[k]? =some x→0<k→k≠j→offersAt x ch snd=[]:=by
    intro k x i snd hx hk hkj
    rcases getElem?_stand gs i k x hx with⟨_,rfl⟩|⟨hk',hx⟩
    ·rfl
    ·refine offersAt_of_not_blocked ?_ _ _
     rcases(hL.old k x hk hkj hx).status with e|e<;>rw[e]<;>simp
   by_cases hi0:i=0
   ·
    subst hi0
    obtain rfl:g=gm:=by rw[h0]at hi;exact(Option.some.inj hi).symm
    cases hm with
    |parked=>cases hg
    | @run n x hn=>
     cases hn with
     |zero=>
      obtain⟨es,e1,e2⟩:=hE.recv L _ (hcellW d')
      have hk:∀op∈(MemOp.ofEvents 0 (G (R L).1 (R L).2).frame.fn (G (R L).1 (R L).2).frame.place es).toList,Zgi j cell op:=Zgv e2
      have hPh1:=hPh.apps _ hp hk
      cases hc with
      |run=>
       have hpn:partners (gs.setIfInBounds 0 ph) ch true=[]:=by
        refine partners_nil fun k x hx=>?_
        by_cases hk0:k=0
        ·rcases getElem?_stand gs 0 k x hx with⟨_,rfl⟩|⟨hk',_⟩
         ·rfl
         ·exact absurd hk0 hk'
        ·by_cases hkj:k=j
         ·subst hkj
          rw[Array.getElem?_setIfInBounds_ne (by omega),hj]at hx
          cases hx
          exact offersAt_of_not_blocked (by simp[G]) _ _
         ·exact hleft k x 0 true hx (by omega) hkj
       have hrunT:=crowd_waits (sl:=sl') h0 (show stepG P (0==0) _ _=_ from e1) (fun cc hcc=>by
        have:cc=rcase ch (.bool false):=by simpa using hcc
        rw[this];exact ways_recv_none (hchW d') hpn)
       refine Qy.step (hst.trans hrunT) ?_
       refine ih (0+1+ConcN.sumTo gs.size q) (by omega) _ sl' _ q d' 0 1 _ (G a.fr a.cs) (by simp) (by first|(simp[hlt0];done)|(simp[hlt0];rfl)) .parked ?_ .run (by omega) ?_ ?_ ?_
       ·rw[Array.getElem?_setIfInBounds_ne (by omega)];exact hj
       ·refine hL.apps (fun op hop=>(hk op (by simpa using hop)).1) hltj hlt0 (by simp) ?_
        have:=hothers1 0 (Conc.parked (G (R L).1 (R L).2) #[rcase ch (.bool false)] (.recv true)) (.inl rfl) id (fun _ _=>rfl)
        rw[Array.map_id]at this
        exact this
       ·simpa using hPh1
       ·simp;omega
      | @parked v z hs=>
       have hpn:partners (gs.setIfInBounds 0 ph) ch true=[(j,0)]:=by
        have:=partners_one (gs:=gs.setIfInBounds 0 ph) (r:=ch) (send:=true) (stand_get (i:=0) (by omega) hj) (fun k x hkj hx=>by
         by_cases hk0:k=0
         ·rcases getElem?_stand gs 0 k x hx with⟨_,rfl⟩|⟨hk',_⟩
          ·rfl
          ·exact absurd hk0 hk'
         ·exact hleft k x 0 true hx (by omega) hkj)
        rw[this,offersAt_parked_send,if_pos rfl];rfl
       have hrunT:=crowd_recv_meets (sl:=sl') h0 (show stepG P (0==0) _ _=_ from e1) (hchW d') (by omega) hj hpn
       refine Qy.step (hst.trans hrunT) ?_
       obtain⟨b,hT,hG⟩:=h d'
       obtain⟨es0,hs0,_⟩:=hs (a.w.at d')
       cases hT with
       |cown h1=>
        obtain⟨es',e3,_⟩:=h1.step false
        have e3:stepG P false (G a.fr a.cs) (a.w.at d')=_:=e3
        rw[hs0]at e3;cases e3
       |close h1 hc1=>
        obtain⟨_,g,es',n,h1,_⟩:=h1
        have e3:stepG P false (G a.fr a.cs) (a.w.at d')=_:=h1 _ _ _ _ _ hc1
        rw[hs0]at e3;cases e3
       | @send _ _ _ _ v' buf' s' r' tm' h1 hc1=>
        obtain⟨rfl,rfl,rfl,rfl⟩:=Zfc hch (show a.w.heap[ch]? =_ from hc1)
        obtain⟨z',h1⟩:=h1
        obtain⟨es',e3,_⟩:=h1 (a.w.at d')
        have e3:stepG P false (G a.fr a.cs) (a.w.at d')=_:=e3
        rw[hs0]at e3
        obtain rfl:v'=v:=by
         injection e3 with _ e4
         have:=congrArg (fun x:Array CommCase=>(x[0]?).map (·.send)) e4
         simp[scase]at this
         exact this.symm
        have hG:=hG hE
        obtain⟨n',hn'⟩:=hE.next L v'
        rw[finishComm_send,finishComm_recv]
        have hk2:=ZiZ (j:=j) (cell:=cell) (i:=j) (k:=0) (c:=ch) (s:=s) (r:=s) (f₁:=(G a.fr a.cs).frame.fn) (f₂:=(G (R L).1 (R L).2).frame.fn) (f₃:=(G a.fr a.cs).frame.fn) (f₄:=(G (R L).1 (R L).2).frame.fn) (p₁:=(G a.fr a.cs).frame.place) (p₂:=(G (R L).1 (R L).2).frame.place) (p₃:=(G a.fr a.cs).frame.place) (p₄:=(G (R L).1 (R L).2).frame.place) (cap:=0) (.inr rfl) (.inl rfl)
        have hPh2:=hPh1.apps _ (by simp;omega) hk2
        have:=hG ((gs.setIfInBounds j (Conc.served (G a.fr a.cs) undef)).setIfInBounds 0 (Conc.served (G (R L).1 (R L).2) (recvd true (.bool v') true))) sl'
         (t++(MemOp.ofEvents 0 (G (R L).1 (R L).2).frame.fn (G (R L).1 (R L).2).frame.place es++ #[{g:=j,fn:=(G a.fr a.cs).frame.fn,pos:=(G a.fr a.cs).frame.place,act:=.send ch s},{g:=0,fn:=(G (R L).1 (R L).2).frame.fn,pos:=(G (R L).1 (R L).2).frame.place,act:=.recv ch s 0},
          {g:=j,fn:=(G a.fr a.cs).frame.fn,pos:=(G a.fr a.cs).frame.place,act:=.sendDone ch s},{g:=0,fn:=(G (R L).1 (R L).2).frame.fn,pos:=(G (R L).1 (R L).2).frame.place,act:=.recvDone ch s}])) q d' j p (L++[v']) (s+1) r tm (n'+1) 1 (G (got (R L) v' true).1 (got (R L) v' true).2) (G (a.fr.finish undef) a.cs)
         (by first|(simp[hlt0];done)|(simp[hlt0];rfl)) (.run hn') (by rw[Array.getElem?_setIfInBounds_ne (by omega)];simp[hltj];rfl) .run (by omega) ?_ ?_ (by simp;omega) ?_ ?_ hne
        ·rw[ZeS (buf':=(ZgQ L).push (.bool v')) (c':=false) (s':=s+1) (r':=r) (tm':=tm)]
         exact this
        ·refine hL.apps (fun op hop=>?_) hltj hlt0 (by simp) ?_
         ·rcases Array.mem_append.1 hop with h|h
          ·exact(hk op (by simpa using h)).1
          ·exact(hk2 op (by simpa using h)).1
         ·have:=hothers j (Conc.served (G a.fr a.cs) undef) 0 (Conc.served (G (R L).1 (R L).2) (recvd true (.bool v') true)) (.inr rfl) (.inl rfl) id (fun _ _=>rfl)
          rw[Array.map_id]at this
          exact this
        ·simpa [Array.append_assoc]using hPh2
        ·have hlt:ch<a.w.heap.size:=(Array.getElem?_eq_some_iff.1 hch).1
         show(a.w.heap.setIfInBounds ch _)[ch]? =_
         rw[Array.getElem?_setIfInBounds_self_of_lt hlt,ZfK]
        ·show World.cell? {a.w.at d' with heap:=a.w.heap.setIfInBounds ch _} _=_
         unfold World.cell?
         show(match(a.w.heap.setIfInBounds ch _)[cell]? with|some (.cells c _ _)=>_|_=>none)=_
         rw[Array.getElem?_setIfInBounds_ne hne]
         exact hcell
     | @succ n _ y _ h1 h2=>
      obtain⟨es,e1,e2⟩:=h1 _ (hcellW d')
      have hk:∀op∈(MemOp.ofEvents 0 (G x.1 x.2).frame.fn (G x.1 x.2).frame.place es).toList,Zgi j cell op:=Zgv e2
      have hPh1:=hPh.apps _ hp hk
      have hrunT:=runT_crowd_go (P:=P) (sl:=sl') (i:=0) h0 (show stepG P (0==0) _ _=_ from e1)
      refine Qy.step (hst.trans hrunT) ?_
      refine ih (n+1+nc+ConcN.sumTo gs.size q) (by omega) _ sl' _ q d' (n+1) nc (G y.1 y.2) gc (by simp) (by simp[hlt0]) (.run h2) ?_ hc (by omega) ?_ ?_ ?_
      ·rw[Array.getElem?_setIfInBounds_ne (by omega),Array.getElem?_map,hj]
       exact congrArg some (ZdR hc (hchW d'))
      ·exact hL.apps (fun op hop=>(hk op (by simpa using hop)).1) hltj hlt0 (by simp) (hothers1 0 (G y.1 y.2) (.inl rfl) _ fun g hs=>Zau hs)
      ·simpa using hPh1
      ·simp;omega
   ·by_cases hij:i=j
    ·
     subst hij
     obtain rfl:g=gc:=by rw[hj]at hi;exact(Option.some.inj hi).symm
     have hi0':(i==0)=false:=by simp;omega
     cases hc with
     |parked _=>cases hg
     |run=>
      obtain⟨b,hT,hG⟩:=h d'
      cases hT with
      | @cown _ b _ _ _ h1=>
       have hG:=hG hE
       obtain⟨hb1,h1'⟩:=h1.swap (o₂:=.chan 0 #[] false s s tm) (.inr rfl) (show a.w.heap[ch]? =_ from hch) rfl rfl
       obtain⟨es,e1,e2⟩:=h1'.step false
       have hk:∀op∈(MemOp.ofEvents i (G a.fr a.cs).frame.fn (G a.fr a.cs).frame.place es).toList,Zgi i cell op:=Zcp (pr:=fun n=>n=cell∨n=ch) (.inl rfl) e2
       have hPh1:=hPh.apps _ hp hk
       have hrunT:=runT_crowd_go (P:=P) (sl:=sl') (i:=i) hj ((congrArg (fun b=>stepG P b (G a.fr a.cs) ((sw a.w ch (.chan 0 #[] false s s tm)).at d')) hi0').trans e1)
       refine Qy.step (hst.trans hrunT) ?_
       have hcb:b.w.cell? ⟨cell,0,none⟩=some (.chan (some ch)):=h1.keep (.inl rfl) (show(a.w.at d').cell? _=_ from hcell)
       have hself:(sw b.w ch (.chan 0 #[] false s s tm)).heap[ch]? =some (.chan 0 #[] false s s tm):=ZbL hb1
       have:=hG ((gs.map (woken P (G a.fr a.cs) (G b.fr b.cs) (sw b.w ch (.chan 0 #[] false s s tm)))).setIfInBounds i (G b.fr b.cs)) sl' (t++MemOp.ofEvents i (G a.fr a.cs).frame.fn (G a.fr a.cs).frame.place es) q b.w.drawn i p L s r tm nm 1 gm (G b.fr b.cs)
        (by rw[Array.getElem?_setIfInBounds_ne (by omega),Array.getElem?_map,h0];exact congrArg some (ZeJ hm hself)) hm (by simp[hltj]) .run (by omega) ?_ ?_ (by simp;omega) hb1 hcb hne
       ·exact this
       ·exact hL.apps (fun op hop=>(hk op (by simpa using hop)).1) hltj hlt0 (by simp) (hothers1 i (G b.fr b.cs) (.inr rfl) _ fun g hs=>Zau hs)
       ·simpa using hPh1
      | @send _ _ _ _ v' buf' s' r' tm' h1 hc1=>
       obtain⟨rfl,rfl,rfl,rfl⟩:=Zfc hch (show a.w.heap[ch]? =_ from hc1)
       obtain⟨z',h1⟩:=h1
       obtain⟨es,e1,e2⟩:=h1 ((sw a.w ch (.chan 0 #[] false s s tm)).at d')
       have e1:=(congrArg (fun b=>stepG P b (G a.fr a.cs) ((sw a.w ch (.chan 0 #[] false s s tm)).at d')) hi0').trans e1
       have hk:∀op∈(MemOp.ofEvents i (G a.fr a.cs).frame.fn (G a.fr a.cs).frame.place es).toList,Zgi i cell op:=Zcp (pr:=fun n=>n=cell∨n=ch) (.inl rfl) e2
       have hPh1:=hPh.apps _ hp hk
       cases hm with
       | @run n x hn=>
        have hpn:partners (gs.setIfInBounds i ph) ch false=[]:=by
         refine partners_nil fun k x hx=>?_
         by_cases hkj:k=i
         ·rcases getElem?_stand gs i k x hx with⟨_,rfl⟩|⟨hk',_⟩
          ·rfl
          ·exact absurd hkj hk'
         ·by_cases hk0:k=0
          ·subst hk0
           rw[Array.getElem?_setIfInBounds_ne (by omega),h0]at hx
           cases hx
           exact offersAt_of_not_blocked (by simp[G]) _ _
          ·exact hleft k x i false hx (by omega) hkj
        have hrunT:=crowd_waits (sl:=sl') hj e1 (fun cc hcc=>by
         have:cc=scase ch (.bool v') z':=by simpa using hcc
         rw[this];exact ways_send_none (hchW d') (by simp) hpn)
        refine Qy.step (hst.trans hrunT) ?_
        refine ih (n+1+0+ConcN.sumTo gs.size q) (by omega) _ sl' _ q d' (n+1) 0 (G x.1 x.2) _ (by simp) (by rw[Array.getElem?_setIfInBounds_ne (by omega)];exact h0) (.run hn) (by first|(simp[hltj];done)|(simp[hltj];rfl)) (.parked h1) (by omega) ?_ ?_ ?_
        ·refine hL.apps (fun op hop=>(hk op (by simpa using hop)).1) hltj hlt0 (by simp) ?_
         have:=hothers1 i (Conc.parked (G a.fr a.cs) #[scase ch (.bool v') z'] .send) (.inr rfl) id (fun _ _=>rfl)
         rw[Array.map_id]at this
         exact this
        ·simpa using hPh1
        ·simp;omega
       |parked=>
        have hpn:partners (gs.setIfInBounds i ph) ch false=[(0,0)]:=by
         have:=partners_one (gs:=gs.setIfInBounds i ph) (r:=ch) (send:=false) (stand_get (i:=i) (by omega) h0) (fun k x hk0 hx=>by
          by_cases hkj:k=i
          ·rcases getElem?_stand gs i k x hx with⟨_,rfl⟩|⟨hk',_⟩
           ·rfl
           ·exact absurd hkj hk'
          ·exact hleft k x i false hx (by omega) hkj)
         rw[this,offersAt_parked_recv,if_pos rfl];rfl
        have hrunT:=crowd_send_meets (sl:=sl') hj e1 (hchW d') (by omega) h0 hpn
        refine Qy.step (hst.trans hrunT) ?_
        have hG:=hG hE
        obtain⟨n',hn'⟩:=hE.next L v'
        rw[finishComm_send,finishComm_recv]
        have hk2:=ZiZ (j:=i) (cell:=cell) (i:=i) (k:=0) (c:=ch) (s:=s) (r:=s) (f₁:=(G a.fr a.cs).frame.fn) (f₂:=(G (R L).1 (R L).2).frame.fn) (f₃:=(G a.fr a.cs).frame.fn) (f₄:=(G (R L).1 (R L).2).frame.fn) (p₁:=(G a.fr a.cs).frame.place) (p₂:=(G (R L).1 (R L).2).frame.place) (p₃:=(G a.fr a.cs).frame.place) (p₄:=(G (R L).1 (R L).2).frame.place) (cap:=0) (.inr rfl) (.inl rfl)
        have hPh2:=hPh1.apps _ (by simp;omega) hk2
        have:=hG ((gs.setIfInBounds 0 (Conc.served (G (R L).1 (R L).2) (recvd true (.bool v') true))).setIfInBounds i (Conc.served (G a.fr a.cs) undef)) sl'
         (t++(MemOp.ofEvents i (G a.fr a.cs).frame.fn (G a.fr a.cs).frame.place es++ #[{g:=i,fn:=(G a.fr a.cs).frame.fn,pos:=(G a.fr a.cs).frame.place,act:=.send ch s},{g:=0,fn:=(G (R L).1 (R L).2).frame.fn,pos:=(G (R L).1 (R L).2).frame.place,act:=.recv ch s 0},
          {g:=i,fn:=(G a.fr a.cs).frame.fn,pos:=(G a.fr a.cs).frame.place,act:=.sendDone ch s},{g:=0,fn:=(G (R L).1 (R L).2).frame.fn,pos:=(G (R L).1 (R L).2).frame.place,act:=.recvDone ch s}])) q d' i p (L++[v']) (s+1) r tm (n'+1) 1 (G (got (R L) v' true).1 (got (R L) v' true).2) (G (a.fr.finish undef) a.cs)
         (by rw[Array.getElem?_setIfInBounds_ne (by omega)];simp[hlt0];rfl) (.run hn') (by first|(simp[hltj];done)|(simp[hltj];rfl)) .run (by omega) ?_ ?_ (by simp;omega) ?_ ?_ hne
        ·rw[ZeS (buf':=(ZgQ L).push (.bool v')) (c':=false) (s':=s+1) (r':=r) (tm':=tm)]
         exact this
        ·refine hL.apps (fun op hop=>?_) hltj hlt0 (by simp) ?_
         ·rcases Array.mem_append.1 hop with h|h
          ·exact(hk op (by simpa using h)).1
          ·exact(hk2 op (by simpa using h)).1
         ·have:=hothers 0 (Conc.served (G (R L).1 (R L).2) (recvd true (.bool v') true)) i (Conc.served (G a.fr a.cs) undef) (.inl rfl) (.inr rfl) id (fun _ _=>rfl)
          rw[Array.map_id]at this
          exact this
        ·simpa [Array.append_assoc]using hPh2
        ·have hlt:ch<a.w.heap.size:=(Array.getElem?_eq_some_iff.1 hch).1
         show(a.w.heap.setIfInBounds ch _)[ch]? =_
         rw[Array.getElem?_setIfInBounds_self_of_lt hlt,ZfK]
        ·show World.cell? {a.w.at d' with heap:=a.w.heap.setIfInBounds ch _} _=_
         unfold World.cell?
         show(match(a.w.heap.setIfInBounds ch _)[cell]? with|some (.cells c _ _)=>_|_=>none)=_
         rw[Array.getElem?_setIfInBounds_ne hne]
         exact hcell
      | @close _ _ _ _ L' s' r' tm' h1 hc1=>
       obtain⟨e3,rfl,rfl,rfl⟩:=Zfc hch (show a.w.heap[ch]? =_ from hc1)
       obtain rfl:=ZgS e3
       obtain⟨hmw,g,es,n,h1,h2,h3⟩:=h1
       have e1:=h1 ((sw a.w ch (.chan 0 #[] false s s tm)).at d') _ _ _ _ (hchW d')
       have hG:ZbE P St _:=hG
       have e1:=(congrArg (fun b=>stepG P b (G a.fr a.cs) ((sw a.w ch (.chan 0 #[] false s s tm)).at d')) hi0').trans e1
       have hrunT:=runT_crowd_go (P:=P) (sl:=sl') (i:=i) hj e1
       refine Qy.step (hst.trans hrunT) ?_
       have hW:((sw a.w ch (.chan 0 #[] false s s tm)).at d').setChan ch 0 #[] true s s tm=(a.w.at d').setChan ch 0 #[] true s s tm:=by
        show World.mk ((a.w.heap.setIfInBounds ch _).setIfInBounds ch _) a.w.tape d' a.w.os a.w.output=World.mk (a.w.heap.setIfInBounds ch _) a.w.tape d' a.w.os a.w.output
        simp
       have hk:∀op∈(MemOp.ofEvents i (G a.fr a.cs).frame.fn (G a.fr a.cs).frame.place es).toList,Zgi i cell op:=ZjD (pr:=fun n=>n=cell∨n=ch) (.inl rfl) h2
       have hPh1:=hPh.apps _ hp hk
       have hS:=hPh1.shut (by simp;omega) {g:=i,fn:=(G a.fr a.cs).frame.fn,pos:=(G a.fr a.cs).frame.place,act:=.close ch} (ch:=ch) rfl rfl
       have hop:t++MemOp.ofEvents i (G a.fr a.cs).frame.fn (G a.fr a.cs).frame.place (es.push ⟨.obj ch,true,true⟩)=(t++(MemOp.ofEvents i (G a.fr a.cs).frame.fn (G a.fr a.cs).frame.place es).toList.toArray)++ #[{g:=i,fn:=(G a.fr a.cs).frame.fn,pos:=(G a.fr a.cs).frame.place,act:=.close ch}]:=by
        rw[Array.toArray_toList,Array.append_assoc,ofEvents_eq,ofEvents_eq]
        congr 1
        rw[Array.map_push,Array.push_eq_append]
        rfl
       have hlt:ch<a.w.heap.size:=(Array.getElem?_eq_some_iff.1 hch).1
       have hcw:((a.w.at d').setChan ch 0 #[] true s s tm).heap[ch]? =some (.chan 0 #[] true s s tm):=by
        show(a.w.heap.setIfInBounds ch _)[ch]? =_
        rw[Array.getElem?_setIfInBounds_self_of_lt hlt]
       have hcc:((a.w.at d').setChan ch 0 #[] true s s tm).cell? ⟨cell,0,none⟩=some (.chan (some ch)):=by
        unfold World.cell?
        show(match(a.w.heap.setIfInBounds ch _)[cell]? with|some (.cells c _ _)=>_|_=>none)=_
        rw[Array.getElem?_setIfInBounds_ne hne]
        exact hcell
       have hmain:∃nm' gm',(if mayWake P (G a.fr a.cs)&&g.status != .blocked&&g.status != .waiting then gm.again ((a.w.at d').setChan ch 0 #[] true s s tm)else gm)=gm'∧Zar P ch cell R L nm' gm':=by
        cases hm with
        | @run n x hn=>
         refine⟨n,G x.1 x.2,?_,.run hn⟩
         split
         ·exact again_running _ (.inl rfl)
         ·rfl
        |parked=>
         refine⟨0,_,?_,.woken⟩
         rw[if_pos,again_recv_closed hcw]
         rw[hmw]
         rcases h3.status with e|e<;>rw[e]<;>rfl
       obtain⟨nm',gm',hgm,hms⟩:=hmain
       rw[hop,hW]
       have h0':((gs.map (woken P (G a.fr a.cs) g ((a.w.at d').setChan ch 0 #[] true s s tm))).setIfInBounds i g)[0]? =some gm':=by
        rw[Array.getElem?_setIfInBounds_ne (by omega),Array.getElem?_map,h0]
        exact congrArg some hgm
       refine Zuf (q:=ConcN.upd q i n) (j:=i) (p:=p) (d:=d') hE.recv hcw hcc hG _ _ _ _ _ nm' gm' (Nat.le_refl _) h0' hms ?_ hS (by omega) (by simpa using hltj)
       have hL2:=hL.apps (gs':=(gs.map (woken P (G a.fr a.cs) g ((a.w.at d').setChan ch 0 #[] true s s tm))).setIfInBounds i g) (u:=MemOp.ofEvents i (G a.fr a.cs).frame.fn (G a.fr a.cs).frame.place (es.push ⟨.obj ch,true,true⟩)) (fun op h=>by obtain⟨e,_,rfl⟩:=Conc.mem_ofEvents h;exact .inr rfl) hltj hlt0 (by simp) (hothers1 i g (.inr rfl) _ fun g hs=>Zau hs)
       rw[hop]at hL2
       refine⟨fun k x hk0 hx=>?_,hL2.above⟩
       by_cases hki:k=i
       ·subst hki
        rw[Array.getElem?_setIfInBounds_self_of_lt (by simpa using hltj)]at hx
        obtain rfl:=Option.some.inj hx
        rw[ConcN.upd_same,ZfY ⟨by simp,by simp⟩,hPh1.hearsJ]
        exact h3
       ·rw[ConcN.upd_ne q n hki]
        exact hL2.old k x hk0 hki hx
    ·
     obtain⟨g',es,k,hqi,hmu,hrunT,hL',hlt⟩:=hL.move hi (by omega) hij hg ((sw a.w ch (.chan 0 #[] false s s tm)).at d') sl'
     refine Qy.step (hst.trans hrunT) ?_
     have hn:∀op∈MemOp.ofEvents i g.frame.fn g.frame.place es,op.act.touch?=none:=fun op hop=>by obtain⟨e,he,rfl⟩:=Conc.mem_ofEvents hop;exact touch_mute (hmu e he)
     refine ih (nm+nc+ConcN.sumTo gs.size (ConcN.upd q i k)) (by omega) _ sl' _ _ d' nm nc gm gc (by simp) ?_ hm ?_ hc hpos hL' (hPh.appMute hi0 hij XO hn hp) (by simp;omega)
     ·rw[Array.getElem?_setIfInBounds_ne hi0,Array.getElem?_map,h0]
      exact congrArg some (ZeJ hm (hchW d'))
     ·rw[Array.getElem?_setIfInBounds_ne hij,Array.getElem?_map,hj]
      exact congrArg some (ZdR hc (hchW d'))
 exact key _ gs sl t q d nm nc gm gc (Nat.le_refl _) h0 hm hj hc hpos hL hPh hp
end
end Go.Proofs.YtjgpiclllehgmaaGreat.Conc1
