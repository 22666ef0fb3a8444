/- Lemmas. -/
import Derived.Test.YtjgpiclllehgmaaGreatCxPast
set_option linter.all false
open Nat renaming le_refl->aJ,lt_or_ge->fq
namespace Go.Proofs.YtjgpiclllehgmaaGreat
namespace Conc1
open Go Go.Conc
theorem YM {t:Trace} {g:Nat} {u:Trace} (h:∀A,¬Race A t) (S:∀G∈u,G.g=g) (J:∀G∈u,G.act.touch?=none) (A:Bool):¬Race A (t++u):=
 noRace_append (h A) S fun i a _ G H b I _=>(by rw[J G H]at I;cases I)
theorem XH.fork {t:Trace} {j cell:Nat} (h:XH t) (hj:j≠0) (Z:Deaf t j=0) (x y:MemOp) (I:x.g=0/\x.act= .go j) (G:y.g=j/\y.act= .start):Zad (t++ #[x,y]) j (t.size+2) cell:=by
 have V:t++ #[x,y]=(t++ #[x])++ #[y]:=by rw[Array.append_assoc];rfl
 have gx:(t++ #[x,y])[t.size]? =some x:=by simp
 have gy:(t++ #[x,y])[t.size+1]? =some y:=by simp
 have dx:∀g,Deaf (t++ #[x,y]) g=Deaf t g:=fun g=>by
  rw[show(#[x,y]:Trace)=[x,y].toArray from rfl,Deaf_append];simp[deafStep,I.2,G.2]
 have Y:x.act.touch?=none:=by rw[I.2];rfl
 have ty:y.act.touch?=none:=by rw[G.2];rfl
 have U:HappensBefore (t++ #[x,y]) t.size (t.size+1):=by
  refine .single (.inr ⟨.spawn (child:=j) (by simp[Trace.act?,I.2]) (by simp[Trace.act?,G.2]) (by simp[Trace.g?,G.1]),⟨0,by simp[Trace.g?,I.1],?_⟩,⟨j,by simp[Trace.g?,G.1],?_⟩⟩)
  ·rw[deaf_old (aJ _)];exact h.hears
  rw[V,deaf_old (by simp)];have:Deaf (t++ #[x]) j=Deaf t j:=by
   rw[show(#[x]:Trace)=[x].toArray from rfl,Deaf_append];simp[deafStep,I.2]
  have e3:(t++ #[x]).deaf j (t.size+1)=Deaf (t++ #[x]) j:=by unfold Deaf;simp
  rw[e3,this,Z]
 refine⟨hj,fun H=>?_,(dx 0).trans h.hears,(dx j).trans Z,fun i a ha hm hi=>?_,fun i a z S A hm hi=>?_⟩
 ·rw[V];exact YM (fun H=>YM h.clean (g:=0) (by simp[I.1]) (by simp[Y]) H) (g:=j) (by simp[G.1]) (by simp[ty]) H
 ·obtain⟨z,S,A⟩:=touch_of ha;rcases getElem?_append_cases S with⟨ab,aa⟩|⟨_,J⟩
  ·have k:=h.known i a (by rw[touchAt_of aa];exact A) hm;refine⟨k.app _,t.size+1,y,gy,G.1,.inr ?_⟩;exact(k.hb_new (aJ _) gx I.1).trans U
  simp only[List.mem_toArray,List.mem_cons,List.not_mem_nil,or_false]at J;rcases J with rfl|rfl
  ·rw[Y]at A;cases A
  rw[ty]at A;cases A
 have:=lt_size_of_getElem? S;simp at this;omega
structure ZeH (t:Trace) (j p cell ch pc:Nat):Prop where
 pos:j≠0
 clean:∀said,¬Race said t
 hears0:Deaf t 0=0
 early:∀i a,touchAt t i=some a->a.loc.isMemory=true->i<p->Knows t 0 i
 late:∀i a x,t[i]? =some x->x.act.touch?=some a->a.loc.isMemory=true->p<=i->(x.g=0/\a.loc= .cell ⟨cell,0,none⟩/\a.write=false)\/(x.g=j/\∀ad,a.loc= .cell ad->a.write=true->ad.block≠cell)
 close:∃op,t[pc]? =some op/\op.g=j/\op.act= .close ch
 heard:t.heard pc
 last:∀i a x,t[i]? =some x->x.act.touch?=some a->a.loc.isMemory=true->x.g=j->i<=pc
 size:p<=t.size
theorem Zeo {t u:Trace} {G:Nat} (A:G<t.size) (h:t.heard G):(t++u).heard G:=by
 obtain⟨g,H,I⟩:=h;exact⟨g,by unfold Trace.g? at H|-;rw[getElem?_append_old A];exact H,by rw[deaf_old (Nat.le_of_lt A)];exact I⟩
theorem ZeH.appMute {t u:Trace} {j p cell ch Z g:Nat} (h:ZeH t j p cell ch Z) (Y:g≠0) (hu:∀J∈u,J.g=g) (S:∀J∈u,J.act.touch?=none):ZeH (t++u) j p cell ch Z:=by
 obtain⟨J,h1,h2,h3⟩:=h.close;have U:=lt_size_of_getElem? h1;refine⟨h.pos,YM h.clean hu S,(Deaf_other t Y u hu).trans h.hears0,fun i a ha hm V=>?_,fun i a x I A hm V=>?_,⟨J,by rw[getElem?_append_old U];exact h1,h2,h3⟩,Zeo U h.heard,fun i a x I A hm Y=>?_,by have:=h.size;simp;omega⟩
 ·obtain⟨x,I,A⟩:=touch_of ha;rcases getElem?_append_cases I with⟨_,G⟩|⟨_,H⟩
  ·exact(h.early i a (by rw[touchAt_of G];exact A) hm V).app u
  rw[S x H]at A;cases A
 ·rcases getElem?_append_cases I with⟨_,G⟩|⟨_,H⟩
  ·exact h.late i a x G A hm V
  rw[S x H]at A;cases A
 rcases getElem?_append_cases I with⟨_,G⟩|⟨_,H⟩
 ·exact h.last i a x G A hm Y
 rw[S x H]at A;cases A
theorem ZeH.app0 {t u:Trace} {j p cell ch pc:Nat} (h:ZeH t j p cell ch pc) (Z:∀J∈u,J.g=0) (hd:Deaf (t++u) 0=Deaf t 0)
  (hs:∀J∈u,∀a,J.act.touch?=some a->a.loc.isMemory=true->a.loc= .cell ⟨cell,0,none⟩/\a.write=false):ZeH (t++u) j p cell ch pc:=by
 obtain⟨J,h1,h2,h3⟩:=h.close;have Y:=lt_size_of_getElem? h1;refine⟨h.pos,fun aa=>noRace_append (h.clean aa) Z fun i a V J ab b hb U=>?_,hd.trans h.hears0,fun i a V hm I=>?_,fun i a x H A hm I=>?_,⟨J,by rw[getElem?_append_old Y];exact h1,h2,h3⟩,Zeo Y h.heard,fun i a x H A hm hg=>?_,by have:=h.size;simp;omega⟩
 ·obtain⟨x,H,A⟩:=touch_of V;rcases fq i p with I|I
  ·exact h.early i a V U.2.1 I
  have ac:b.loc.isMemory=true:=U.1▸U.2.1;obtain⟨h5,h6⟩:=hs J ab b hb ac;rcases h.late i a x H A U.2.1 I with⟨e1,_⟩|⟨_,e2⟩
  ·have:=knows_own H;rwa [e1]at this
  exfalso;rcases U.2.2.1 with hw|hw
  ·exact e2 _ (U.1.trans h5) hw rfl
  rw[h6]at hw;cases hw
 ·obtain⟨x,H,A⟩:=touch_of V;rcases getElem?_append_cases H with⟨_,G⟩|⟨ae,_⟩
  ·exact(h.early i a (by rw[touchAt_of G];exact A) hm I).app u
  have:=h.size;omega
 ·rcases getElem?_append_cases H with⟨_,G⟩|⟨_,S⟩
  ·exact h.late i a x G A hm I
  exact .inl ⟨Z x S,hs x S a A hm⟩
 rcases getElem?_append_cases H with⟨_,G⟩|⟨_,S⟩
 ·exact h.last i a x G A hm hg
 exact absurd ((Z x S).symm.trans hg) (Ne.symm h.pos)
theorem ZeH.done {t:Trace} {j p cell ch U:Nat} (h:ZeH t j p cell ch U) (y:MemOp) (G:y.g=0/\y.act= .recvClosed ch):XH (t++ #[y]):=by
 have ty:y.act.touch?=none:=by rw[G.2];rfl
 have gy:(t++ #[y])[t.size]? =some y:=by simp
 obtain⟨c,J,ac,ab⟩:=h.close;have S:=lt_size_of_getElem? J;have Y:HappensBefore (t++ #[y]) U t.size:=by
  refine .single (.inr ⟨.closed (c:=ch) (by unfold Trace.act?;rw[getElem?_append_old S,J];exact congrArg some ab) (by simp[Trace.act?,G.2]),Zeo S h.heard,⟨0,by simp[Trace.g?,G.1],?_⟩⟩);rw[deaf_old (aJ _)];exact h.hears0
 refine⟨YM h.clean (g:=0) (by simp[G.1]) (by simp[ty]),fun i a ha hm=>?_,?_⟩
 ·obtain⟨x,Z,A⟩:=touch_of ha;rcases getElem?_append_cases Z with⟨hi,I⟩|⟨_,aa⟩
  ·rcases fq i p with H|H
   ·exact(h.early i a (by rw[touchAt_of I];exact A) hm H).app _
   rcases h.late i a x I A hm H with⟨V,_⟩|⟨V,_⟩
   ·have:=knows_own Z;rwa [V]at this
   refine⟨t.size,y,gy,G.1,.inr ?_⟩;have ae:=h.last i a x I A hm V;rcases fq i U with hl|hl
   ·exact(hb_po hl Z (by rw[getElem?_append_old S];exact J) (V.trans ac.symm)).trans Y
   have:i=U:=by omega
   rw[this];exact Y
  have:x=y:=by simpa using aa
  rw[this,ty]at A;cases A
 rw[show(#[y]:Trace)=[y].toArray from rfl,Deaf_append];simp[deafStep,G.2];exact h.hears0
end Conc1
end Go.Proofs.YtjgpiclllehgmaaGreat
