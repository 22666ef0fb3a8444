/- Lemmas. -/
import Derived.Conc.CrowdComm
import Derived.Test.YtjgpiclllehgmaaGreatCxFlat
import Derived.Test.YtjgpiclllehgmaaGreatCxPast2
import Derived.Test.YtjgpiclllehgmaaGreatCxSwap
set_option linter.all false
open Array renaming getElem?_eq_getElem->aY,getElem?_eq_some_iff->aM,getElem?_map->cA,getElem?_setIfInBounds_ne->aF
open Nat renaming eq_zero_or_pos->cJ,le_refl->aJ
open Option renaming map_eq_some_iff->aG
namespace Go.Proofs.YtjgpiclllehgmaaGreat
namespace Conc1
open Go Go.Conc
theorem Ow.swap {P:Program} {pr:Nat->Prop} {a b:Cf} {ch:Nat} {A o₂:Obj} (h:Ow P pr a b) (H:pr ch) (Y:a.w.heap[ch]? =some A) (J:A.isChan=true) (I:o₂.isChan=true):
  b.w.heap[ch]? =some A/\Ow P pr ⟨a.fr,a.cs,sw a.w ch o₂⟩ ⟨b.fr,b.cs,sw b.w ch o₂⟩:=by
 obtain⟨α,s,F,x,es,U,S,g3,G⟩:=h;obtain⟨Z,V⟩:=ZnD P H I s _ _ _ _ _ A S G Y J;exact⟨Z,α,s,F,x,es,U,V,g3,G⟩
def QY (P:Program) (St:Frame->List Frame->World->Prop) (m:Machine) (t:Trace):Prop:=
 ∃(N:Nat) (A:Array Goroutine) (fr:Frame) (cs:List Frame) (w:World) (sl:Option (Nat×Nat)) (H:Trace) (q:Nat->Nat),
  runNT P N m t=(.next (crowd A w sl),H)/\A[0]? =some (G fr cs)/\St fr cs w/\Leavers P H A q/\XX H
theorem QY.step {P:Program} {St:Frame->List Frame->World->Prop} {m m':Machine} {t ops:Trace} (J:stepT P m=(.next m',ops)) (h:QY P St m' (t++ops)):QY P St m t:=by
 obtain⟨N,G,fr,cs,w,sl,H,q,I,A⟩:=h;exact⟨N+1,G,fr,cs,w,sl,H,q,by simp only[runNT,J];exact I,A⟩
section
variable {P:Program} {St:Frame->List Frame->World->Prop}
def Zcw (P:Program) (St:Frame->List Frame->World->Prop) (a:Cf):Prop:=
 ∀(A:Array Goroutine) (sl:Option (Nat×Nat)) (t:Trace) (q:Nat->Nat) (d:Nat),A[0]? =some (G a.fr a.cs)->Leavers P t A q->XX t->QY P St (crowd A (a.w.at d) sl) t
theorem Zcw.of_main {a:Cf} (ab:∀(A:Array Goroutine) (sl:Option (Nat×Nat)) (t:Trace) (q:Nat->Nat) (d:Nat),A[0]? =some (G a.fr a.cs)->Leavers P t A q->XX t->
  ∃m' ops,runT P (crowd A (a.w.at d) sl) 0=(.next m',ops)/\QY P St m' (t++ops)):Zcw P St a:=by
 have am:∀(M:Nat) (A:Array Goroutine) (sl:Option (Nat×Nat)) (t:Trace) (q:Nat->Nat) (d:Nat),ConcN.sumTo A.size q<=M->A[0]? =some (G a.fr a.cs)->Leavers P t A q->XX t->QY P St (crowd A (a.w.at d) sl) t:=by
  intro M;induction M using Nat.strongRecOn with
  |_ M ih=>
   intro A sl t q d hM V I hP;have J:(G a.fr a.cs).status= .running:=rfl;have ak:∀g∈A,awake g:=by
    intro g Y;obtain⟨i,Z,rfl⟩:=Array.mem_iff_getElem.1 Y;rcases cJ i with rfl|H
    ·have:A[0]=G a.fr a.cs:=by simpa [aY Z]using V
     rw[this];exact awake_of (.inl J)
    exact awake_of ((I.old i _ H (aY Z)).status.elim .inl λx=>.inr (.inr x))
   obtain⟨i,g,d',U,Z,Y,S⟩:=crowd_pick (P:=P) (w:=a.w.at d) (sl:=sl) ak ⟨0,_,V,J⟩;have S:stepT P (crowd A (a.w.at d) sl)=runT P (crowd A (a.w.at d') U) i:=S;rcases cJ i with rfl|H
   ·obtain⟨m',ops,h1,h2⟩:=ab A U t q d' V I hP;exact QY.step (S.trans h1) h2
   have hq:=I.old i g H Z;have ap:(i==0)=false:=by simp;omega
   have ae:i<A.size:=(aM.1 Z).1;cases hqi:q i with
   |zero=>rw[hqi]at hq;rw[hq.1]at Y;cases Y
   |succ k=>
    rw[hqi]at hq;rcases hq with⟨hf,_⟩|⟨_,g',es,hm,ai,ao⟩
    ·rw[hf]at Y;cases Y
    have ac:=runT_crowd_go (P:=P) (sl:=U) (i:=i) Z (by rw[ap];exact ai (a.w.at d'));have al:((A.map (woken P g g' (a.w.at d'))).setIfInBounds i g').size=A.size:=by simp
    have aq:ConcN.sumTo A.size (ConcN.upd q i k)+(k+1)=ConcN.sumTo A.size q+k:=by
     have:=ConcN.sumTo_upd q k id ae;simpa [hqi]using this
    refine QY.step (S.trans ac) (ih (ConcN.sumTo A.size (ConcN.upd q i k)) (by omega) _ U _ (ConcN.upd q i k) d' (by rw[al];exact aJ _) ?_ ⟨λj x hj hx=>?_,λj hj=>?_⟩ (hP.mute (by omega) hm))
    ·have aj:i≠0:=by omega
     rw[aF aj,cA,V];simp[woken_run J]
    ·by_cases hji:i=j
     ·subst hji;rw[Array.getElem?_setIfInBounds_self_of_lt (by simpa using ae)]at hx;obtain rfl:=Option.some.inj hx;rw[ConcN.upd_same,Deaf_own];exact ao
     rw[aF hji,cA]at hx;obtain⟨y,hy,rfl⟩:=aG.1 hx;have ah:=I.old j y hj hy;rw[woken_quitsD ah,ConcN.upd_ne q k (Ne.symm hji),Deaf_other t hji _ (λop aa=>by obtain⟨e,_,rfl⟩:=Conc.mem_ofEvents aa;rfl)];exact ah
    rw[Deaf_other t (g':=i) (by simp at hj;omega) _ (λop aa=>by obtain⟨e,_,rfl⟩:=Conc.mem_ofEvents aa;rfl)];exact I.above j (by simpa using hj)
 exact λA sl t q d V I hP=>am _ A sl t q d (aJ _) V I hP
theorem Zcw.own {a:Cf} (h:∀d,∃b,Ow P (λ_=>False) ⟨a.fr,a.cs,a.w.at d⟩ b/\Zcw P St b):Zcw P St a:=by
 refine Zcw.of_main λY sl t q d U Z hP=>?_;obtain⟨b,hb,hG⟩:=h d;obtain⟨es,e1,e2⟩:=hb.step true;have H:=runT_crowd_go (P:=P) (sl:=sl) (i:=0) U (show stepG P (0==0) _ (a.w.at d)=_ from e1);have J:0<Y.size:=(aM.1 U).1;refine⟨_,_,H,?_⟩;have:=hG ((Y.map (woken P (G a.fr a.cs) (G b.fr b.cs) b.w)).setIfInBounds 0 (G b.fr b.cs)) sl (t++MemOp.ofEvents 0 (G a.fr a.cs).frame.fn (G a.fr a.cs).frame.place es) q b.w.drawn (by simp[J]) ⟨λj x I hx=>?_,λj I=>?_⟩ (hP.own e2)
 ·exact this
 ·have S:0≠j:=by omega
  rw[aF S,cA]at hx;obtain⟨y,hy,rfl⟩:=aG.1 hx;have V:=Z.old j y I hy;rw[woken_quitsD V,Deaf_other t (by omega) _ (λop A=>by obtain⟨e,_,rfl⟩:=Conc.mem_ofEvents A;rfl)];exact V
 rw[Deaf_other t (g':=0) (by simp at I;omega) _ (λop A=>by obtain⟨e,_,rfl⟩:=Conc.mem_ofEvents A;rfl)];exact Z.above j (by simpa using I)
end
inductive ZeW (P:Program) (ch cell:Nat) (R:RP) (L:List Bool):Nat->Goroutine->Prop
 |run {n:Nat} {x:Frame×List Frame}:ZeX P ch cell n x (R L)->ZeW P ch cell R L (n+1) (G x.1 x.2)
 |parked:ZeW P ch cell R L 0 (Conc.parked (G (R L).1 (R L).2) #[rcase ch (.bool false)] (.recv true))
inductive ZcU (P:Program) (pr:Nat->Prop) (ch:Nat) (a:Cf):Nat->Goroutine->Prop
 |run:ZcU P pr ch a 1 (G a.fr a.cs)
 |parked {v:Bool} {z:Value}:(∀w,∃es,stepG P false (G a.fr a.cs) w= .comm (G a.fr a.cs) #[scase ch (.bool v) z] true .send w es/\∀e∈es,YI pr e)->ZcU P pr ch a 0 (Conc.parked (G a.fr a.cs) #[scase ch (.bool v) z] .send)
structure QA (P:Program) (t:Trace) (gs:Array Goroutine) (j:Nat) (q:Nat->Nat):Prop where
 old:∀i g,0<i->i≠j->gs[i]? =some g->QuitsD P (q i) (Deaf t i) g
 above:∀i,gs.size<=i->Deaf t i=0
def Zil (L:List Bool):Array Value:=(L.map Value.bool).toArray
def Zk8 (P:Program) (St:Frame->List Frame->World->Prop) (ch cell:Nat) (R:RP) (a:Cf):Prop:=
 ∀(A:Array Goroutine) (sl:Option (Nat×Nat)) (t:Trace) (q:Nat->Nat) (d j p:Nat) (L:List Bool) (s r:Nat) (G:Bool) (H nc:Nat) (J I:Goroutine),
  A[0]? =some J->ZeW P ch cell R L H J->A[j]? =some I->ZcU P (λn=>n=cell\/n=ch) ch a nc I->0<H+nc->QA P t A j q->Zam t j p cell->p<=t.size->
  a.w.heap[ch]? =some (.chan 0 (Zil L) false s r G)->a.w.cell? ⟨cell,0,none⟩=some (.chan (some ch))->ch≠cell->
  QY P St (crowd A ((sw a.w ch (.chan 0 #[] false s s G)).at d) sl) t
theorem Zsz {w:World} {ch:Nat} {o:Obj} (h:w.heap[ch]? =some o):sw w ch o=w:=by
 unfold sw;have:w.heap.setIfInBounds ch o=w.heap:=by
  apply Array.ext_getElem?;intro j;rw[Array.getElem?_setIfInBounds];by_cases hj:ch=j
  ·subst hj;obtain⟨A,G⟩:=aM.1 h;simp[A,G]
  simp[hj]
 rw[this]
end Conc1
end Go.Proofs.YtjgpiclllehgmaaGreat
