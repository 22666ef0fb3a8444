/- Lemmas. -/
import Derived.Conc.Beside
import Derived.Test.YtjgpiclllehgmaaGreatCxOwn
set_option linter.all false
namespace Go.Proofs.YtjgpiclllehgmaaGreat
namespace Conc1
open Go Go.Conc
structure XH (t:Trace):Prop where
 clean:∀said,¬Race said t
 known:∀i a,touchAt t i=some a->a.loc.isMemory=true->Knows t 0 i
 hears:Deaf t 0=0
theorem XH.over {t:Trace} (h:XH t):t.HandedOver:=by
 intro i g A G J;obtain⟨x,U,hm,_⟩:=J;obtain⟨q,z,I,H,S⟩:=h.known i x U hm;refine⟨q,by simp[Trace.g?,I,H],S.resolve_left ?_⟩;rintro rfl;rw[Trace.g?,I]at A;simp[H]at A;exact G A.symm
theorem Yw.quiet {pr:Nat->Prop} {e:Event} (h:Yw pr e):e.loc≠ .mark .disable/\e.loc≠ .mark .enable:=by
 unfold Yw at h;constructor<;>(intro A;rw[A]at h;first|exact h.ne_disable rfl|exact h.ne_enable rfl)
variable {pr:Nat->Prop} {fn:FuncId} {pos:String} {es:Array Event} {t:Trace}
theorem X7 {g:Nat}:∀G∈MemOp.ofEvents g fn pos es,G.g=g:=fun G A=>by obtain⟨e,_,rfl⟩:=Conc.mem_ofEvents A;rfl
theorem XH.app0 (h:XH t) {u:Trace} (U:∀V∈u,V.g=0) (Z:Deaf (t++u) 0=Deaf t 0):XH (t++u):=by
 refine⟨fun A=>noRace_append (h.clean A) U fun i a G V aa b hb Y=>h.known i a G Y.2.1,fun i a G hm=>?_,Z.trans h.hears⟩;obtain⟨x,S,I⟩:=touch_of G;rcases getElem?_append_cases S with⟨_,H⟩|⟨_,J⟩
 ·exact(h.known i a (by rw[touchAt_of H];exact I) hm).app u
 have:=knows_own S;rwa [U x J]at this
theorem XH.own (h:XH t) (A:∀e∈es,Yw pr e):XH (t++MemOp.ofEvents 0 fn pos es):=
 h.app0 X7 (by rw[Deaf_own];exact deafBehind_still (fun e G=>(A e G).quiet) _)
theorem XH.appMute {g:Nat} (h:XH t) (Z:g≠0) {u:Trace} (Y:∀G∈u,G.g=g) (S:∀G∈u,G.act.touch?=none):XH (t++u):=by
 refine⟨fun H=>noRace_append (h.clean H) Y fun i a _ G I b U _=>(by rw[S G I]at U;cases U),fun i a ha hm=>?_,(Deaf_other t Z u Y).trans h.hears⟩;obtain⟨x,hx,A⟩:=touch_of ha;rcases getElem?_append_cases hx with⟨_,J⟩|⟨_,V⟩
 ·exact(h.known i a (by rw[touchAt_of J];exact A) hm).app u
 rw[S x V]at A;cases A
theorem XH.mute (h:XH t) {g:Nat} (H:g≠0) (hm:∀e∈es,e.mute=true):XH (t++MemOp.ofEvents g fn pos es):=
 h.appMute H X7 (fun I A=>by obtain⟨e,G,rfl⟩:=Conc.mem_ofEvents A;exact touch_mute (hm e G))
structure Zad (t:Trace) (j p cell:Nat):Prop where
 pos:j≠0
 clean:∀said,¬Race said t
 hears0:Deaf t 0=0
 hearsJ:Deaf t j=0
 early:∀i a,touchAt t i=some a->a.loc.isMemory=true->i<p->Knows t 0 i/\Knows t j i
 late:∀i a x,t[i]? =some x->x.act.touch?=some a->a.loc.isMemory=true->p<=i->(x.g=0/\a.loc= .cell ⟨cell,0,none⟩/\a.write=false)\/(x.g=j/\∀ad,a.loc= .cell ad->a.write=true->ad.block≠cell)
theorem Zgd {e:Event} {x:Touch} (h:Yw pr e) (A:(MemAct.ofEvent e).touch?=some x):x.loc=e.loc/\x.write=e.write:=by
 refine Conc.ofEvent_touch (fun m hm=>?_) A;unfold Yw at h;rw[hm]at h;exact h
theorem Zad.app {j p cell:Nat} (h:Zad t j p cell) {u:Trace} {g:Nat} (hg:g=0\/g=j) (V:∀U∈u,U.g=g) (Z:Deaf (t++u) g=Deaf t g)
  (hs:∀U∈u,∀a,U.act.touch?=some a->a.loc.isMemory=true->(g=0/\a.loc= .cell ⟨cell,0,none⟩/\a.write=false)\/(g=j/\∀S,a.loc= .cell S->a.write=true->S.block≠cell)) (hp:p<=t.size):Zad (t++u) j p cell:=by
 have Y:∀i a x,(t++u)[i]? =some x->x.act.touch?=some a->a.loc.isMemory=true->p<=i->(x.g=0/\a.loc= .cell ⟨cell,0,none⟩/\a.write=false)\/(x.g=j/\∀S,a.loc= .cell S->a.write=true->S.block≠cell):=fun i a x I A hm H=>by
  rcases getElem?_append_cases I with⟨_,J⟩|⟨_,aa⟩
  ·exact h.late i a x J A hm H
  have e:=V x aa;rw[e];exact hs x aa a A hm
 refine⟨h.pos,fun ab=>noRace_append (h.clean ab) V fun i a ha U ac b hb G=>?_,?_,?_,fun i a ha hm H=>?_,Y⟩
 ·obtain⟨x,I,A⟩:=touch_of ha;rcases Nat.lt_or_ge i p with H|H
  ·have:=h.early i a ha G.2.1 H;rcases hg with rfl|rfl
   ·exact this.1
   exact this.2
  have ae:b.loc.isMemory=true:=G.1▸G.2.1;by_cases hxg:x.g=g
  ·have:=knows_own I;rwa [hxg]at this
  exfalso;rcases h.late i a x I A G.2.1 H with⟨h1,h2,h3⟩|⟨h1,h2⟩<;>rcases hs U ac b hb ae with⟨h4,h5,h6⟩|⟨h4,h5⟩
  ·exact hxg (h1.trans h4.symm)
  ·rcases G.2.2.1 with hw|hw
   ·rw[h3]at hw;cases hw
   exact h5 _ (G.1▸h2) hw rfl
  ·rcases G.2.2.1 with hw|hw
   ·exact h2 _ (G.1.trans h5) hw rfl
   rw[h6]at hw;cases hw
  exact hxg (h1.trans h4.symm)
 ·by_cases hg0:g=0
  ·rw[hg0]at Z;exact Z.trans h.hears0
  exact(Deaf_other t hg0 u V).trans h.hears0
 ·by_cases hgj:g=j
  ·rw[hgj]at Z;exact Z.trans h.hearsJ
  exact(Deaf_other t hgj u V).trans h.hearsJ
 obtain⟨x,I,A⟩:=touch_of ha;rcases getElem?_append_cases I with⟨_,J⟩|⟨ah,_⟩
 ·have:=h.early i a (by rw[touchAt_of J];exact A) hm H;exact⟨this.1.app u,this.2.app u⟩
 omega
end Conc1
end Go.Proofs.YtjgpiclllehgmaaGreat
