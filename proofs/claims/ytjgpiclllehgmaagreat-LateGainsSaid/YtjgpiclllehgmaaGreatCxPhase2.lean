/- Lemmas. -/
import Derived.Test.YtjgpiclllehgmaaGreatCxReal
set_option linter.all false
open Array renaming mem_toList_iff->cL
namespace Go.Proofs.YtjgpiclllehgmaaGreat
namespace Conc1
open Go Go.Conc
def ZhI (j cell:Nat) (op:MemOp):Prop:=(op.g=0\/op.g=j)/\(op.act≠ .mark .disable/\op.act≠ .mark .enable)/\
 ∀a,op.act.touch?=some a->a.loc.isMemory=true->(op.g=0/\a.loc= .cell ⟨cell,0,none⟩/\a.write=false)\/(op.g=j/\∀A,a.loc= .cell A->a.write=true->A.block≠cell)
theorem Zhn {t:Trace} {g:Nat} {op:MemOp} (h:op.act≠ .mark .disable/\op.act≠ .mark .enable):Deaf (t++ #[op]) g=Deaf t g:=by
 rw[show(#[op]:Trace)=[op].toArray from rfl,Deaf_append];simp only[List.foldl_cons,List.foldl_nil];unfold deafStep;split
 ·rename_i e;exact absurd e h.1
 ·rename_i e;exact absurd e h.2
 rfl
theorem ZkW (t:Trace) (op:MemOp) (l:List MemOp):t++(op::l).toArray=(t++ #[op])++l.toArray:=by
 rw[Array.append_assoc];congr 1;simp
theorem Zam.apps {j p cell:Nat}:∀(l:List MemOp) {t:Trace},Zam t j p cell->p<=t.size->(∀op∈l,ZhI j cell op)->Zam (t++l.toArray) j p cell
 |[],t,h,_,_=>by simpa using h
 |op::l,t,h,hp,hu=>by
  obtain⟨J,I,S⟩:=hu op (by simp);rw[ZkW];refine Zam.apps l (h.app J (by simp) (Zhn I) (λA G a H hm=>?_) hp) (by simp;omega) λA G=>hu A (by simp[G]);have:A=op:=by simpa using G
  subst this;exact S a H hm
theorem Zam.appMute {t:Trace} {j p cell g:Nat} (h:Zam t j p cell) (Z:g≠0) (V:g≠j) {u:Trace} (H:∀op∈u,op.g=g) (U:∀op∈u,op.act.touch?=none) (hp:p<=t.size):Zam (t++u) j p cell:=by
 refine⟨h.pos,YX h.clean H U,(Deaf_other t Z u H).trans h.hears0,(Deaf_other t V u H).trans h.hearsJ,λi a Y hm I=>?_,λi a x J A hm I=>?_⟩
 ·obtain⟨x,J,A⟩:=touch_of Y;rcases getElem?_append_cases J with⟨_,G⟩|⟨aa,_⟩
  ·have:=h.early i a (by rw[touchAt_of G];exact A) hm I;exact⟨this.1.app u,this.2.app u⟩
  omega
 rcases getElem?_append_cases J with⟨_,G⟩|⟨_,S⟩
 ·exact h.late i a x G A hm I
 rw[U x S]at A;cases A
section
variable {P:Program} {t:Trace} {gs:Array Goroutine} {j:Nat} {q:Nat->Nat}
theorem QA.zero (h:QA P t gs 0 q):Leavers P t gs q:=⟨λi g A=>h.old i g A (by omega),h.above⟩
theorem QA.of_zero (h:Leavers P t gs q):QA P t gs 0 q:=⟨λi g A _=>h.old i g A,h.above⟩
theorem QA.move (hL:QA P t gs j q) {i:Nat} {g:Goroutine} (hi:gs[i]? =some g) (ab:0<i) (ae:i≠j) (I:g.status= .running) (w:World) (sl:Option (Nat×Nat)):
  ∃A es k,q i=k+1/\(∀e∈es,Event.mute e=true)/\runT P (crowd gs w sl) i=(.next (crowd ((gs.map (woken P g A w)).setIfInBounds i A) w sl),MemOp.ofEvents i g.frame.fn g.frame.place es)/\
   QA P (t++MemOp.ofEvents i g.frame.fn g.frame.place es) ((gs.map (woken P g A w)).setIfInBounds i A) j (ConcN.upd q i k)/\ConcN.sumTo gs.size (ConcN.upd q i k)<ConcN.sumTo gs.size q:=by
 have S:=hL.old i g ab ae hi;have ai:(i==0)=false:=by simp;omega
 have Y:i<gs.size:=(Array.getElem?_eq_some_iff.1 hi).1;cases hqi:q i with
 |zero=>rw[hqi]at S;rw[S.1]at I;cases I
 |succ k=>
  rw[hqi]at S;rcases S with⟨hf,_⟩|⟨_,A,es,hm,aa,ah⟩
  ·rw[hf]at I;cases I
  have J:=runT_crowd_go (P:=P) (sl:=sl) (i:=i) hi (by rw[ai];exact aa w);have aj:ConcN.sumTo gs.size (ConcN.upd q i k)+(k+1)=ConcN.sumTo gs.size q+k:=by
   have:=ConcN.sumTo_upd q k id Y;simpa [hqi]using this
  refine⟨A,es,k,rfl,hm,J,⟨λV x G ac U=>?_,λV G=>?_⟩,by omega⟩
  ·by_cases hji:i=V
   ·subst hji;rw[Array.getElem?_setIfInBounds_self_of_lt (by simpa using Y)]at U;obtain rfl:=Option.some.inj U;rw[ConcN.upd_same,Deaf_own];exact ah
   rw[Array.getElem?_setIfInBounds_ne hji,Array.getElem?_map]at U;obtain⟨y,hy,rfl⟩:=Option.map_eq_some_iff.1 U;have Z:=hL.old V y G ac hy;rw[woken_quitsD Z,ConcN.upd_ne q k (Ne.symm hji),Deaf_other t hji _ (λop H=>by obtain⟨e,_,rfl⟩:=Conc.mem_ofEvents H;rfl)];exact Z
  rw[Deaf_other t (g':=i) (by simp at G;omega) _ (λop H=>by obtain⟨e,_,rfl⟩:=Conc.mem_ofEvents H;rfl)];exact hL.above V (by simpa using G)
theorem QA.apps (S:QA P t gs j q) {gs':Array Goroutine} {u:Trace} (hu:∀A∈u,(A.g=0\/A.g=j)) (hj:j<gs.size) (h0:0<gs.size)
  (U:gs'.size=gs.size) (J:∀i g,0<i->i≠j->gs'[i]? =some g->∃y,gs[i]? =some y/\((y.status= .running\/y.status= .finished)->g=y)):QA P (t++u) gs' j q:=by
 have I:∀(l:List MemOp) (t:Trace),(∀A∈l,(A.g=0\/A.g=j))->∀i,0<i->i≠j->Deaf (t++l.toArray) i=Deaf t i:=by
  intro l;induction l with
  |nil=>intro t _ i _ _;simp
  |cons A l Z=>
   intro t h i H G;rw[ZkW,Z _ (λx hx=>h x (by simp[hx])) i H G];refine Deaf_other t (g':=A.g) ?_ _ (by simp);rcases h A (by simp)with e|e<;>omega
 have I:∀i,0<i->i≠j->Deaf (t++u) i=Deaf t i:=I u.toList t (by simpa using hu);refine⟨λi g H G hg=>?_,λi H=>?_⟩
 ·obtain⟨y,V,Y⟩:=J i g H G hg;have:=S.old i y H G V;rw[Y this.status,I i H G];exact this
 rw[U]at H;rw[I i (by omega) (by omega)];exact S.above i H
end
section
variable {j cell:Nat} {pr:Nat->Prop} {fn:FuncId} {pos:String} {es:Array Event}
theorem ZsR {g:Nat} {e:Event} (h:YI pr e):(MemAct.ofEvent e)≠ .mark .disable/\(MemAct.ofEvent e)≠ .mark .enable:=by
 constructor<;>intro A;all_goals
  unfold MemAct.ofEvent at A;split at A
  ·cases A
  ·rename_i m _ _;cases A;have h:Neutral _:=h;first|exact h.ne_disable rfl|exact h.ne_enable rfl
  cases A
theorem Zdi (H:pr cell) (h:∀e∈es,YI pr e):∀G∈(MemOp.ofEvents j fn pos es).toList,ZhI j cell G:=by
 intro G J;obtain⟨e,A,rfl⟩:=Conc.mem_ofEvents (cL.1 J);refine⟨.inr rfl,ZsR (g:=j) (h e A),λa U hm=>.inr ⟨rfl,λZ I hw=>?_⟩⟩;obtain⟨S,Y⟩:=Zgr (h e A) U;have:=h e A;unfold YI at this;rw[<-S,I]at this;intro V;exact this.2 (Y▸hw) (V▸H)
theorem ZhZ (h:∀e∈es,e=⟨.cell ⟨cell,0,none⟩,false,false⟩):∀A∈(MemOp.ofEvents 0 fn pos es).toList,ZhI j cell A:=by
 intro A G;obtain⟨e,I,rfl⟩:=Conc.mem_ofEvents (cL.1 G);rw[h e I];refine⟨.inl rfl,⟨(by simp[MemAct.ofEvent]),by simp[MemAct.ofEvent]⟩,λa H hm=>.inl ⟨rfl,?_⟩⟩;simp[MemAct.ofEvent,MemAct.touch?]at H;rw[<-H];exact⟨rfl,rfl⟩
end
end Conc1
end Go.Proofs.YtjgpiclllehgmaaGreat
