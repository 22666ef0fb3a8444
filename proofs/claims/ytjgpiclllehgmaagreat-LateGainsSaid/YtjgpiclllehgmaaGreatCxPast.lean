/- Lemmas. -/
import Derived.Conc.Beside
import Derived.Test.YtjgpiclllehgmaaGreatCxOwn
set_option linter.all false
namespace Go.Proofs.YtjgpiclllehgmaaGreat
namespace Conc1
open Go Go.Conc
structure XX (t:Trace):Prop where
 clean:∀said,¬Race said t
 known:∀i a,touchAt t i=some a->a.loc.isMemory=true->Knows t 0 i
 hears:Deaf t 0=0
theorem XX.over {t:Trace} (h:XX t):t.HandedOver:=by
 intro i g A G S;obtain⟨x,U,hm,_⟩:=S;obtain⟨q,z,I,H,J⟩:=h.known i x U hm;refine⟨q,by simp[Trace.g?,I,H],J.resolve_left ?_⟩;rintro rfl;rw[Trace.g?,I]at A;simp[H]at A;exact G A.symm
theorem YI.quiet {pr:Nat->Prop} {e:Event} (h:YI pr e):e.loc≠ .mark .disable/\e.loc≠ .mark .enable:=by
 unfold YI at h;constructor<;>(intro A;rw[A]at h;first|exact h.ne_disable rfl|exact h.ne_enable rfl)
variable {pr:Nat->Prop} {fn:FuncId} {pos:String} {es:Array Event} {t:Trace}
theorem Yj {g:Nat}:∀A∈MemOp.ofEvents g fn pos es,A.g=g:=λA G=>by obtain⟨e,_,rfl⟩:=Conc.mem_ofEvents G;rfl
theorem XX.app0 (h:XX t) {u:Trace} (S:∀I∈u,I.g=0) (Y:Deaf (t++u) 0=Deaf t 0):XX (t++u):=by
 refine⟨λA=>noRace_append (h.clean A) S λi a G I aa b hb Z=>h.known i a G Z.2.1,λi a G hm=>?_,Y.trans h.hears⟩;obtain⟨x,V,U⟩:=touch_of G;rcases getElem?_append_cases V with⟨_,H⟩|⟨_,J⟩
 ·exact(h.known i a (by rw[touchAt_of H];exact U) hm).app u
 have:=knows_own V;rwa [S x J]at this
theorem XX.own (h:XX t) (A:∀e∈es,YI pr e):XX (t++MemOp.ofEvents 0 fn pos es):=
 h.app0 Yj (by rw[Deaf_own];exact deafBehind_still (λe G=>(A e G).quiet) _)
theorem XX.appMute {g:Nat} (h:XX t) (hg:g≠0) {u:Trace} (S:∀A∈u,A.g=g) (Y:∀A∈u,A.act.touch?=none):XX (t++u):=by
 refine⟨λH=>noRace_append (h.clean H) S λi a _ A V b U _=>(by rw[Y A V]at U;cases U),λi a Z hm=>?_,(Deaf_other t hg u S).trans h.hears⟩;obtain⟨x,hx,G⟩:=touch_of Z;rcases getElem?_append_cases hx with⟨_,I⟩|⟨_,J⟩
 ·exact(h.known i a (by rw[touchAt_of I];exact G) hm).app u
 rw[Y x J]at G;cases G
theorem XX.mute (h:XX t) {g:Nat} (H:g≠0) (hm:∀e∈es,e.mute=true):XX (t++MemOp.ofEvents g fn pos es):=
 h.appMute H Yj (λI A=>by obtain⟨e,G,rfl⟩:=Conc.mem_ofEvents A;exact touch_mute (hm e G))
structure Zam (t:Trace) (j p cell:Nat):Prop where
 pos:j≠0
 clean:∀said,¬Race said t
 hears0:Deaf t 0=0
 hearsJ:Deaf t j=0
 early:∀i a,touchAt t i=some a->a.loc.isMemory=true->i<p->Knows t 0 i/\Knows t j i
 late:∀i a x,t[i]? =some x->x.act.touch?=some a->a.loc.isMemory=true->p<=i->(x.g=0/\a.loc= .cell ⟨cell,0,none⟩/\a.write=false)\/(x.g=j/\∀ad,a.loc= .cell ad->a.write=true->ad.block≠cell)
theorem Zgr {e:Event} {x:Touch} (h:YI pr e) (A:(MemAct.ofEvent e).touch?=some x):x.loc=e.loc/\x.write=e.write:=by
 refine Conc.ofEvent_touch (λm hm=>?_) A;unfold YI at h;rw[hm]at h;exact h
theorem Zam.app {j p cell:Nat} (h:Zam t j p cell) {u:Trace} {g:Nat} (hg:g=0\/g=j) (Z:∀U∈u,U.g=g) (V:Deaf (t++u) g=Deaf t g)
  (hs:∀U∈u,∀a,U.act.touch?=some a->a.loc.isMemory=true->(g=0/\a.loc= .cell ⟨cell,0,none⟩/\a.write=false)\/(g=j/\∀S,a.loc= .cell S->a.write=true->S.block≠cell)) (hp:p<=t.size):Zam (t++u) j p cell:=by
 have Y:∀i a x,(t++u)[i]? =some x->x.act.touch?=some a->a.loc.isMemory=true->p<=i->(x.g=0/\a.loc= .cell ⟨cell,0,none⟩/\a.write=false)\/(x.g=j/\∀S,a.loc= .cell S->a.write=true->S.block≠cell):=λi a x I A hm H=>by
  rcases getElem?_append_cases I with⟨_,J⟩|⟨_,aa⟩
  ·exact h.late i a x J A hm H
  have e:=Z x aa;rw[e];exact hs x aa a A hm
 refine⟨h.pos,λab=>noRace_append (h.clean ab) Z λi a ha U ae b hb G=>?_,?_,?_,λi a ha hm H=>?_,Y⟩
 ·obtain⟨x,I,A⟩:=touch_of ha;rcases Nat.lt_or_ge i p with H|H
  ·have:=h.early i a ha G.2.1 H;rcases hg with rfl|rfl
   ·exact this.1
   exact this.2
  have ac:b.loc.isMemory=true:=G.1▸G.2.1;by_cases hxg:x.g=g
  ·have:=knows_own I;rwa [hxg]at this
  exfalso;rcases h.late i a x I A G.2.1 H with⟨h1,h2,h3⟩|⟨h1,h2⟩<;>rcases hs U ae b hb ac with⟨h4,h5,h6⟩|⟨h4,h5⟩
  ·exact hxg (h1.trans h4.symm)
  ·rcases G.2.2.1 with hw|hw
   ·rw[h3]at hw;cases hw
   exact h5 _ (G.1▸h2) hw rfl
  ·rcases G.2.2.1 with hw|hw
   ·exact h2 _ (G.1.trans h5) hw rfl
   rw[h6]at hw;cases hw
  exact hxg (h1.trans h4.symm)
 ·by_cases hg0:g=0
  ·rw[hg0]at V;exact V.trans h.hears0
  exact(Deaf_other t hg0 u Z).trans h.hears0
 ·by_cases hgj:g=j
  ·rw[hgj]at V;exact V.trans h.hearsJ
  exact(Deaf_other t hgj u Z).trans h.hearsJ
 obtain⟨x,I,A⟩:=touch_of ha;rcases getElem?_append_cases I with⟨_,J⟩|⟨ah,_⟩
 ·have:=h.early i a (by rw[touchAt_of J];exact A) hm H;exact⟨this.1.app u,this.2.app u⟩
 omega
end Conc1
end Go.Proofs.YtjgpiclllehgmaaGreat
