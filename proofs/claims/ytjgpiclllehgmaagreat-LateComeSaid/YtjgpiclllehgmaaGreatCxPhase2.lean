/- Goroutines: steps in canonical order. -/
import Derived.Test.YtjgpiclllehgmaaGreatCxReal
set_option linter.unusedSimpArgs false
set_option linter.unusedVariables false
namespace Go.Proofs.YtjgpiclllehgmaaGreat.Conc1
open Go Go.Conc
def Zgi (j cell:Nat) (op:MemOp):Prop:=(op.g=0∨op.g=j)∧(op.act≠ .mark .disable∧op.act≠ .mark .enable)∧
 ∀a,op.act.touch?=some a→a.loc.isMemory=true→(op.g=0∧a.loc= .cell ⟨cell,0,none⟩∧a.write=false)∨(op.g=j∧∀ad,a.loc= .cell ad→a.write=true→ad.block≠cell)
theorem ZfY {t:Trace} {g:Nat} {op:MemOp} (h:op.act≠ .mark .disable∧op.act≠ .mark .enable):Deaf (t++ #[op]) g=Deaf t g:=by
 rw[show(#[op]:Trace)=[op].toArray from rfl,Deaf_append]
 simp only[List.foldl_cons,List.foldl_nil]
 unfold deafStep
 split
 ·rename_i e;exact absurd e h.1
 ·rename_i e;exact absurd e h.2
 ·rfl
theorem Zja (t:Trace) (op:MemOp) (l:List MemOp):t++(op::l).toArray=(t++ #[op])++l.toArray:=by
 rw[Array.append_assoc]
 congr 1
 simp
theorem JD.apps {j p cell:Nat}:∀(l:List MemOp) {t:Trace},JD t j p cell→p≤t.size→(∀op∈l,Zgi j cell op)→JD (t++l.toArray) j p cell
 |[],t,h,_,_=>by simpa using h
 |op::l,t,h,hp,hu=>by
  obtain⟨h1,h2,h3⟩:=hu op (by simp)
  rw[Zja]
  refine JD.apps l (h.app h1 (by simp) (ZfY h2) (fun op' ho a ha hm=>?_) hp) (by simp;omega) fun op' ho=>hu op' (by simp[ho])
  have:op'=op:=by simpa using ho
  subst this
  exact h3 a ha hm
theorem JD.appMute {t:Trace} {j p cell g:Nat} (h:JD t j p cell) (hg:g≠0) (hj:g≠j) {u:Trace} (hu:∀op∈u,op.g=g) (hn:∀op∈u,op.act.touch?=none) (hp:p≤t.size):JD (t++u) j p cell:=by
 refine⟨h.pos,Yn h.clean hu hn,(Deaf_other t hg u hu).trans h.hears0,(Deaf_other t hj u hu).trans h.hearsJ,fun i a ha hm hi=>?_,fun i a x hx hxa hm hi=>?_⟩
 ·obtain⟨x,hx,hxa⟩:=touch_of ha
  rcases getElem?_append_cases hx with⟨_,hx'⟩|⟨hge,_⟩
  ·have:=h.early i a (by rw[touchAt_of hx'];exact hxa) hm hi
   exact⟨this.1.app u,this.2.app u⟩
  ·omega
 ·rcases getElem?_append_cases hx with⟨_,hx'⟩|⟨_,hxu⟩
  ·exact h.late i a x hx' hxa hm hi
  ·rw[hn x hxu]at hxa;cases hxa
section
variable {P:Program} {t:Trace} {gs:Array Goroutine} {j:Nat} {q:Nat→Nat}
theorem Qj.zero (h:Qj P t gs 0 q):Leavers P t gs q:=⟨fun i g hi=>h.old i g hi (by omega),h.above⟩
theorem Qj.of_zero (h:Leavers P t gs q):Qj P t gs 0 q:=⟨fun i g hi _=>h.old i g hi,h.above⟩
theorem Qj.move (hL:Qj P t gs j q) {i:Nat} {g:Goroutine} (hi:gs[i]? =some g) (hpos:0<i) (hij:i≠j) (hg:g.status= .running) (w:World) (sl:Option (Nat×Nat)):
  ∃g' es k,q i=k+1∧(∀e∈es,Event.mute e=true)∧runT P (crowd gs w sl) i=(.next (crowd ((gs.map (woken P g g' w)).setIfInBounds i g') w sl),MemOp.ofEvents i g.frame.fn g.frame.place es)∧
   Qj P (t++MemOp.ofEvents i g.frame.fn g.frame.place es) ((gs.map (woken P g g' w)).setIfInBounds i g') j (ConcN.upd q i k)∧ConcN.sumTo gs.size (ConcN.upd q i k)<ConcN.sumTo gs.size q:=by
 have hq:=hL.old i g hpos hij hi
 have hi0:(i==0)=false:=by simp;omega
 have hlt:i<gs.size:=(Array.getElem?_eq_some_iff.1 hi).1
 cases hqi:q i with
 |zero=>rw[hqi]at hq;rw[hq.1]at hg;cases hg
 |succ k=>
  rw[hqi]at hq
  rcases hq with⟨hf,_⟩|⟨_,g',es,hm,hstp,hq'⟩
  ·rw[hf]at hg;cases hg
  have hrunT:=runT_crowd_go (P:=P) (sl:=sl) (i:=i) hi (by rw[hi0];exact hstp w)
  have hsum:ConcN.sumTo gs.size (ConcN.upd q i k)+(k+1)=ConcN.sumTo gs.size q+k:=by
   have:=ConcN.sumTo_upd q k id hlt
   simpa [hqi]using this
  refine⟨g',es,k,rfl,hm,hrunT,⟨fun i' x hi' hij' hx=>?_,fun i' hi'=>?_⟩,by omega⟩
  ·by_cases hji:i=i'
   ·subst hji
    rw[Array.getElem?_setIfInBounds_self_of_lt (by simpa using hlt)]at hx
    obtain rfl:=Option.some.inj hx
    rw[ConcN.upd_same,Deaf_own]
    exact hq'
   ·rw[Array.getElem?_setIfInBounds_ne hji,Array.getElem?_map]at hx
    obtain⟨y,hy,rfl⟩:=Option.map_eq_some_iff.1 hx
    have hqj:=hL.old i' y hi' hij' hy
    rw[woken_quitsD hqj,ConcN.upd_ne q k (Ne.symm hji),Deaf_other t hji _ (fun op hop=>by obtain⟨e,_,rfl⟩:=Conc.mem_ofEvents hop;rfl)]
    exact hqj
  ·rw[Deaf_other t (g':=i) (by simp at hi';omega) _ (fun op hop=>by obtain⟨e,_,rfl⟩:=Conc.mem_ofEvents hop;rfl)]
   exact hL.above i' (by simpa using hi')
theorem Qj.apps (hL:Qj P t gs j q) {gs':Array Goroutine} {u:Trace} (hu:∀op∈u,(op.g=0∨op.g=j)) (hj:j<gs.size) (h0:0<gs.size)
  (hsz:gs'.size=gs.size) (hgs:∀i g,0<i→i≠j→gs'[i]? =some g→∃y,gs[i]? =some y∧((y.status= .running∨y.status= .finished)→g=y)):Qj P (t++u) gs' j q:=by
 have hd:∀(l:List MemOp) (t:Trace),(∀op∈l,(op.g=0∨op.g=j))→∀i,0<i→i≠j→Deaf (t++l.toArray) i=Deaf t i:=by
  intro l
  induction l with
  |nil=>intro t _ i _ _;simp
  |cons op l ih=>
   intro t h i hi hij
   rw[Zja,ih _ (fun x hx=>h x (by simp[hx])) i hi hij]
   refine Deaf_other t (g':=op.g) ?_ _ (by simp)
   rcases h op (by simp)with e|e<;>omega
 have hd:∀i,0<i→i≠j→Deaf (t++u) i=Deaf t i:=hd u.toList t (by simpa using hu)
 refine⟨fun i g hi hij hg=>?_,fun i hi=>?_⟩
 ·obtain⟨y,hy,he⟩:=hgs i g hi hij hg
  have:=hL.old i y hi hij hy
  rw[he this.status,hd i hi hij]
  exact this
 ·rw[hsz]at hi
  rw[hd i (by omega) (by omega)]
  exact hL.above i hi
end
section
variable {j cell:Nat} {pr:Nat→Prop} {fn:FuncId} {pos:String} {es:Array Event}
theorem Zqe {g:Nat} {e:Event} (h:Yc pr e):(MemAct.ofEvent e)≠ .mark .disable∧(MemAct.ofEvent e)≠ .mark .enable:=by
 constructor<;>intro he
 all_goals
  unfold MemAct.ofEvent at he
  split at he
  ·cases he
  ·rename_i m _ _
   cases he
   have h:Neutral _:=h
   first|exact h.ne_disable rfl|exact h.ne_enable rfl
  ·cases he
theorem Zcp (hpr:pr cell) (h:∀e∈es,Yc pr e):∀op∈(MemOp.ofEvents j fn pos es).toList,Zgi j cell op:=by
 intro op hop
 obtain⟨e,he,rfl⟩:=Conc.mem_ofEvents (Array.mem_toList_iff.1 hop)
 refine⟨.inr rfl,Zqe (g:=j) (h e he),fun a ha hm=>.inr ⟨rfl,fun ad had hw=>?_⟩⟩
 obtain⟨e1,e2⟩:=Zfb (h e he) ha
 have:=h e he
 unfold Yc at this
 rw[←e1,had]at this
 intro hb
 exact this.2 (e2▸hw) (hb▸hpr)
theorem Zgv (h:∀e∈es,e=⟨.cell ⟨cell,0,none⟩,false,false⟩):∀op∈(MemOp.ofEvents 0 fn pos es).toList,Zgi j cell op:=by
 intro op hop
 obtain⟨e,he,rfl⟩:=Conc.mem_ofEvents (Array.mem_toList_iff.1 hop)
 rw[h e he]
 refine⟨.inl rfl,⟨(by simp[MemAct.ofEvent]),by simp[MemAct.ofEvent]⟩,fun a ha hm=>.inl ⟨rfl,?_⟩⟩
 simp[MemAct.ofEvent,MemAct.touch?]at ha
 rw[←ha]
 exact⟨rfl,rfl⟩
end
end Go.Proofs.YtjgpiclllehgmaaGreat.Conc1
