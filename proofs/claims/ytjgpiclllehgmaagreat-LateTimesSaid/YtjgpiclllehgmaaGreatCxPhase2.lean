/- Lemmas. -/
import Derived.Test.YtjgpiclllehgmaaGreatCxReal
set_option linter.all false
open Array renaming mem_toList_iff->cM
namespace Go.Proofs.YtjgpiclllehgmaaGreat
namespace Conc1
open Go Go.Conc
def Zhr (j cell:Nat) (op:MemOp):Prop:=(op.g=0\/op.g=j)/\(op.act≠ .mark .disable/\op.act≠ .mark .enable)/\
 ∀a,op.act.touch?=some a->a.loc.isMemory=true->(op.g=0/\a.loc= .cell ⟨cell,0,none⟩/\a.write=false)\/(op.g=j/\∀A,a.loc= .cell A->a.write=true->A.block≠cell)
theorem Zg8 {t:Trace} {g:Nat} {op:MemOp} (h:op.act≠ .mark .disable/\op.act≠ .mark .enable):Deaf (t++ #[op]) g=Deaf t g:=by
 rw[show(#[op]:Trace)=[op].toArray from rfl,Deaf_append];simp only[List.foldl_cons,List.foldl_nil];unfold deafStep;split
 ·rename_i e;exact absurd e h.1
 ·rename_i e;exact absurd e h.2
 rfl
theorem Zkz (t:Trace) (op:MemOp) (l:List MemOp):t++(op::l).toArray=(t++ #[op])++l.toArray:=by
 rw[Array.append_assoc];congr 1;simp
theorem Zad.apps {j p cell:Nat}:∀(l:List MemOp) {t:Trace},Zad t j p cell->p<=t.size->(∀op∈l,Zhr j cell op)->Zad (t++l.toArray) j p cell
 |[],t,h,_,_=>by simpa using h
 |op::l,t,h,hp,hu=>by
  obtain⟨J,I,H⟩:=hu op (by simp);rw[Zkz];refine Zad.apps l (h.app J (by simp) (Zg8 I) (fun A G a S hm=>?_) hp) (by simp;omega) fun A G=>hu A (by simp[G]);have:A=op:=by simpa using G
  subst this;exact H a S hm
theorem Zad.appMute {t:Trace} {j p cell g:Nat} (h:Zad t j p cell) (Y:g≠0) (V:g≠j) {u:Trace} (J:∀op∈u,op.g=g) (S:∀op∈u,op.act.touch?=none) (hp:p<=t.size):Zad (t++u) j p cell:=by
 refine⟨h.pos,YM h.clean J S,(Deaf_other t Y u J).trans h.hears0,(Deaf_other t V u J).trans h.hearsJ,fun i a Z hm H=>?_,fun i a x I A hm H=>?_⟩
 ·obtain⟨x,I,A⟩:=touch_of Z;rcases getElem?_append_cases I with⟨_,G⟩|⟨aa,_⟩
  ·have:=h.early i a (by rw[touchAt_of G];exact A) hm H;exact⟨this.1.app u,this.2.app u⟩
  omega
 rcases getElem?_append_cases I with⟨_,G⟩|⟨_,U⟩
 ·exact h.late i a x G A hm H
 rw[S x U]at A;cases A
section
variable {P:Program} {t:Trace} {gs:Array Goroutine} {j:Nat} {q:Nat->Nat}
theorem Qo.zero (h:Qo P t gs 0 q):Leavers P t gs q:=⟨fun i g A=>h.old i g A (by omega),h.above⟩
theorem Qo.of_zero (h:Leavers P t gs q):Qo P t gs 0 q:=⟨fun i g A _=>h.old i g A,h.above⟩
theorem Qo.move (hL:Qo P t gs j q) {i:Nat} {g:Goroutine} (hi:gs[i]? =some g) (ab:0<i) (ah:i≠j) (U:g.status= .running) (w:World) (sl:Option (Nat×Nat)):
  ∃A es k,q i=k+1/\(∀e∈es,Event.mute e=true)/\runT P (crowd gs w sl) i=(.next (crowd ((gs.map (woken P g A w)).setIfInBounds i A) w sl),MemOp.ofEvents i g.frame.fn g.frame.place es)/\
   Qo P (t++MemOp.ofEvents i g.frame.fn g.frame.place es) ((gs.map (woken P g A w)).setIfInBounds i A) j (ConcN.upd q i k)/\ConcN.sumTo gs.size (ConcN.upd q i k)<ConcN.sumTo gs.size q:=by
 have J:=hL.old i g ab ah hi;have ai:(i==0)=false:=by simp;omega
 have Y:i<gs.size:=(Array.getElem?_eq_some_iff.1 hi).1;cases hqi:q i with
 |zero=>rw[hqi]at J;rw[J.1]at U;cases U
 |succ k=>
  rw[hqi]at J;rcases J with⟨hf,_⟩|⟨_,A,es,hm,aa,ae⟩
  ·rw[hf]at U;cases U
  have I:=runT_crowd_go (P:=P) (sl:=sl) (i:=i) hi (by rw[ai];exact aa w);have aj:ConcN.sumTo gs.size (ConcN.upd q i k)+(k+1)=ConcN.sumTo gs.size q+k:=by
   have:=ConcN.sumTo_upd q k id Y;simpa [hqi]using this
  refine⟨A,es,k,rfl,hm,I,⟨fun S x G ac V=>?_,fun S G=>?_⟩,by omega⟩
  ·by_cases hji:i=S
   ·subst hji;rw[Array.getElem?_setIfInBounds_self_of_lt (by simpa using Y)]at V;obtain rfl:=Option.some.inj V;rw[ConcN.upd_same,Deaf_own];exact ae
   rw[Array.getElem?_setIfInBounds_ne hji,Array.getElem?_map]at V;obtain⟨y,hy,rfl⟩:=Option.map_eq_some_iff.1 V;have Z:=hL.old S y G ac hy;rw[woken_quitsD Z,ConcN.upd_ne q k (Ne.symm hji),Deaf_other t hji _ (fun op H=>by obtain⟨e,_,rfl⟩:=Conc.mem_ofEvents H;rfl)];exact Z
  rw[Deaf_other t (g':=i) (by simp at G;omega) _ (fun op H=>by obtain⟨e,_,rfl⟩:=Conc.mem_ofEvents H;rfl)];exact hL.above S (by simpa using G)
theorem Qo.apps (U:Qo P t gs j q) {gs':Array Goroutine} {u:Trace} (hu:∀H∈u,(H.g=0\/H.g=j)) (hj:j<gs.size) (h0:0<gs.size)
  (J:gs'.size=gs.size) (S:∀i g,0<i->i≠j->gs'[i]? =some g->∃y,gs[i]? =some y/\((y.status= .running\/y.status= .finished)->g=y)):Qo P (t++u) gs' j q:=by
 have I:∀(l:List MemOp) (t:Trace),(∀H∈l,(H.g=0\/H.g=j))->∀i,0<i->i≠j->Deaf (t++l.toArray) i=Deaf t i:=by
  intro l;induction l with
  |nil=>intro t _ i _ _;simp
  |cons H l V=>
   intro t h i G A;rw[Zkz,V _ (fun x hx=>h x (by simp[hx])) i G A];refine Deaf_other t (g':=H.g) ?_ _ (by simp);rcases h H (by simp)with e|e<;>omega
 have I:∀i,0<i->i≠j->Deaf (t++u) i=Deaf t i:=I u.toList t (by simpa using hu);refine⟨fun i g G A Y=>?_,fun i G=>?_⟩
 ·obtain⟨y,Z,he⟩:=S i g G A Y;have:=U.old i y G A Z;rw[he this.status,I i G A];exact this
 rw[J]at G;rw[I i (by omega) (by omega)];exact U.above i G
end
section
variable {j cell:Nat} {pr:Nat->Prop} {fn:FuncId} {pos:String} {es:Array Event}
theorem Zsv {g:Nat} {e:Event} (h:Yw pr e):(MemAct.ofEvent e)≠ .mark .disable/\(MemAct.ofEvent e)≠ .mark .enable:=by
 constructor<;>intro A;all_goals
  unfold MemAct.ofEvent at A;split at A
  ·cases A
  ·rename_i m _ _;cases A;have h:Neutral _:=h;first|exact h.ne_disable rfl|exact h.ne_enable rfl
  cases A
theorem Zc9 (I:pr cell) (h:∀e∈es,Yw pr e):∀J∈(MemOp.ofEvents j fn pos es).toList,Zhr j cell J:=by
 intro J G;obtain⟨e,A,rfl⟩:=Conc.mem_ofEvents (cM.1 G);refine⟨.inr rfl,Zsv (g:=j) (h e A),fun a Y hm=>.inr ⟨rfl,fun Z H hw=>?_⟩⟩;obtain⟨S,V⟩:=Zgd (h e A) Y;have:=h e A;unfold Yw at this;rw[<-S,H]at this;intro U;exact this.2 (V▸hw) (U▸I)
theorem ZhD (h:∀e∈es,e=⟨.cell ⟨cell,0,none⟩,false,false⟩):∀H∈(MemOp.ofEvents 0 fn pos es).toList,Zhr j cell H:=by
 intro H A;obtain⟨e,I,rfl⟩:=Conc.mem_ofEvents (cM.1 A);rw[h e I];refine⟨.inl rfl,⟨(by simp[MemAct.ofEvent]),by simp[MemAct.ofEvent]⟩,fun a G hm=>.inl ⟨rfl,?_⟩⟩;simp[MemAct.ofEvent,MemAct.touch?]at G;rw[<-G];exact⟨rfl,rfl⟩
end
end Conc1
end Go.Proofs.YtjgpiclllehgmaaGreat
