/- Lemmas. -/
import Derived.Test.YtjgpiclllehgmaaGreatCxPast
set_option linter.all false
open Nat renaming le_refl->aJ,lt_or_ge->fk
namespace Go.Proofs.YtjgpiclllehgmaaGreat
namespace Conc1
open Go Go.Conc
theorem YX {t:Trace} {g:Nat} {u:Trace} (h:∀A,¬Race A t) (J:∀G∈u,G.g=g) (S:∀G∈u,G.act.touch?=none) (A:Bool):¬Race A (t++u):=
 noRace_append (h A) J λi a _ G I b H _=>(by rw[S G I]at H;cases H)
theorem XX.fork {t:Trace} {j cell:Nat} (h:XX t) (hj:j≠0) (V:Deaf t j=0) (x y:MemOp) (I:x.g=0/\x.act= .go j) (H:y.g=j/\y.act= .start):Zam (t++ #[x,y]) j (t.size+2) cell:=by
 have Y:t++ #[x,y]=(t++ #[x])++ #[y]:=by rw[Array.append_assoc];rfl
 have gx:(t++ #[x,y])[t.size]? =some x:=by simp
 have gy:(t++ #[x,y])[t.size+1]? =some y:=by simp
 have dx:∀g,Deaf (t++ #[x,y]) g=Deaf t g:=λg=>by
  rw[show(#[x,y]:Trace)=[x,y].toArray from rfl,Deaf_append];simp[deafStep,I.2,H.2]
 have tx:x.act.touch?=none:=by rw[I.2];rfl
 have ty:y.act.touch?=none:=by rw[H.2];rfl
 have S:HappensBefore (t++ #[x,y]) t.size (t.size+1):=by
  refine .single (.inr ⟨.spawn (child:=j) (by simp[Trace.act?,I.2]) (by simp[Trace.act?,H.2]) (by simp[Trace.g?,H.1]),⟨0,by simp[Trace.g?,I.1],?_⟩,⟨j,by simp[Trace.g?,H.1],?_⟩⟩)
  ·rw[deaf_old (aJ _)];exact h.hears
  rw[Y,deaf_old (by simp)];have:Deaf (t++ #[x]) j=Deaf t j:=by
   rw[show(#[x]:Trace)=[x].toArray from rfl,Deaf_append];simp[deafStep,I.2]
  have e3:(t++ #[x]).deaf j (t.size+1)=Deaf (t++ #[x]) j:=by unfold Deaf;simp
  rw[e3,this,V]
 refine⟨hj,λG=>?_,(dx 0).trans h.hears,(dx j).trans V,λi a ha hm hi=>?_,λi a z U A hm hi=>?_⟩
 ·rw[Y];exact YX (λG=>YX h.clean (g:=0) (by simp[I.1]) (by simp[tx]) G) (g:=j) (by simp[H.1]) (by simp[ty]) G
 ·obtain⟨z,U,A⟩:=touch_of ha;rcases getElem?_append_cases U with⟨aa,Z⟩|⟨_,J⟩
  ·have k:=h.known i a (by rw[touchAt_of Z];exact A) hm;refine⟨k.app _,t.size+1,y,gy,H.1,.inr ?_⟩;exact(k.hb_new (aJ _) gx I.1).trans S
  simp only[List.mem_toArray,List.mem_cons,List.not_mem_nil,or_false]at J;rcases J with rfl|rfl
  ·rw[tx]at A;cases A
  rw[ty]at A;cases A
 have:=lt_size_of_getElem? U;simp at this;omega
structure ZeU (t:Trace) (j p cell ch pc:Nat):Prop where
 pos:j≠0
 clean:∀said,¬Race said t
 hears0:Deaf t 0=0
 early:∀i a,touchAt t i=some a->a.loc.isMemory=true->i<p->Knows t 0 i
 late:∀i a x,t[i]? =some x->x.act.touch?=some a->a.loc.isMemory=true->p<=i->(x.g=0/\a.loc= .cell ⟨cell,0,none⟩/\a.write=false)\/(x.g=j/\∀ad,a.loc= .cell ad->a.write=true->ad.block≠cell)
 close:∃op,t[pc]? =some op/\op.g=j/\op.act= .close ch
 heard:t.heard pc
 last:∀i a x,t[i]? =some x->x.act.touch?=some a->a.loc.isMemory=true->x.g=j->i<=pc
 size:p<=t.size
theorem ZeB {t u:Trace} {G:Nat} (A:G<t.size) (h:t.heard G):(t++u).heard G:=by
 obtain⟨g,H,I⟩:=h;exact⟨g,by unfold Trace.g? at H|-;rw[getElem?_append_old A];exact H,by rw[deaf_old (Nat.le_of_lt A)];exact I⟩
theorem ZeU.appMute {t u:Trace} {j p cell ch pc g:Nat} (h:ZeU t j p cell ch pc) (V:g≠0) (hu:∀I∈u,I.g=g) (S:∀I∈u,I.act.touch?=none):ZeU (t++u) j p cell ch pc:=by
 obtain⟨I,Z,h2,h3⟩:=h.close;have U:=lt_size_of_getElem? Z;refine⟨h.pos,YX h.clean hu S,(Deaf_other t V u hu).trans h.hears0,λi a ha hm Y=>?_,λi a x J A hm Y=>?_,⟨I,by rw[getElem?_append_old U];exact Z,h2,h3⟩,ZeB U h.heard,λi a x J A hm V=>?_,by have:=h.size;simp;omega⟩
 ·obtain⟨x,J,A⟩:=touch_of ha;rcases getElem?_append_cases J with⟨_,G⟩|⟨_,H⟩
  ·exact(h.early i a (by rw[touchAt_of G];exact A) hm Y).app u
  rw[S x H]at A;cases A
 ·rcases getElem?_append_cases J with⟨_,G⟩|⟨_,H⟩
  ·exact h.late i a x G A hm Y
  rw[S x H]at A;cases A
 rcases getElem?_append_cases J with⟨_,G⟩|⟨_,H⟩
 ·exact h.last i a x G A hm V
 rw[S x H]at A;cases A
theorem ZeU.app0 {t u:Trace} {j p cell ch pc:Nat} (h:ZeU t j p cell ch pc) (hu:∀J∈u,J.g=0) (hd:Deaf (t++u) 0=Deaf t 0)
  (hs:∀J∈u,∀a,J.act.touch?=some a->a.loc.isMemory=true->a.loc= .cell ⟨cell,0,none⟩/\a.write=false):ZeU (t++u) j p cell ch pc:=by
 obtain⟨J,h1,h2,h3⟩:=h.close;have Y:=lt_size_of_getElem? h1;refine⟨h.pos,λZ=>noRace_append (h.clean Z) hu λi a V J ab b hb U=>?_,hd.trans h.hears0,λi a V hm I=>?_,λi a x H A hm I=>?_,⟨J,by rw[getElem?_append_old Y];exact h1,h2,h3⟩,ZeB Y h.heard,λi a x H A hm hg=>?_,by have:=h.size;simp;omega⟩
 ·obtain⟨x,H,A⟩:=touch_of V;rcases fk i p with I|I
  ·exact h.early i a V U.2.1 I
  have aa:b.loc.isMemory=true:=U.1▸U.2.1;obtain⟨h5,h6⟩:=hs J ab b hb aa;rcases h.late i a x H A U.2.1 I with⟨e1,_⟩|⟨_,e2⟩
  ·have:=knows_own H;rwa [e1]at this
  exfalso;rcases U.2.2.1 with hw|hw
  ·exact e2 _ (U.1.trans h5) hw rfl
  rw[h6]at hw;cases hw
 ·obtain⟨x,H,A⟩:=touch_of V;rcases getElem?_append_cases H with⟨_,G⟩|⟨ac,_⟩
  ·exact(h.early i a (by rw[touchAt_of G];exact A) hm I).app u
  have:=h.size;omega
 ·rcases getElem?_append_cases H with⟨_,G⟩|⟨_,S⟩
  ·exact h.late i a x G A hm I
  exact .inl ⟨hu x S,hs x S a A hm⟩
 rcases getElem?_append_cases H with⟨_,G⟩|⟨_,S⟩
 ·exact h.last i a x G A hm hg
 exact absurd ((hu x S).symm.trans hg) (Ne.symm h.pos)
theorem ZeU.done {t:Trace} {j p cell ch V:Nat} (h:ZeU t j p cell ch V) (y:MemOp) (G:y.g=0/\y.act= .recvClosed ch):XX (t++ #[y]):=by
 have ty:y.act.touch?=none:=by rw[G.2];rfl
 have gy:(t++ #[y])[t.size]? =some y:=by simp
 obtain⟨c,J,ab,ac⟩:=h.close;have I:=lt_size_of_getElem? J;have Y:HappensBefore (t++ #[y]) V t.size:=by
  refine .single (.inr ⟨.closed (c:=ch) (by unfold Trace.act?;rw[getElem?_append_old I,J];exact congrArg some ac) (by simp[Trace.act?,G.2]),ZeB I h.heard,⟨0,by simp[Trace.g?,G.1],?_⟩⟩);rw[deaf_old (aJ _)];exact h.hears0
 refine⟨YX h.clean (g:=0) (by simp[G.1]) (by simp[ty]),λi a ha hm=>?_,?_⟩
 ·obtain⟨x,Z,A⟩:=touch_of ha;rcases getElem?_append_cases Z with⟨hi,H⟩|⟨_,aa⟩
  ·rcases fk i p with S|S
   ·exact(h.early i a (by rw[touchAt_of H];exact A) hm S).app _
   rcases h.late i a x H A hm S with⟨U,_⟩|⟨U,_⟩
   ·have:=knows_own Z;rwa [U]at this
   refine⟨t.size,y,gy,G.1,.inr ?_⟩;have ae:=h.last i a x H A hm U;rcases fk i V with hl|hl
   ·exact(hb_po hl Z (by rw[getElem?_append_old I];exact J) (U.trans ab.symm)).trans Y
   have:i=V:=by omega
   rw[this];exact Y
  have:x=y:=by simpa using aa
  rw[this,ty]at A;cases A
 rw[show(#[y]:Trace)=[y].toArray from rfl,Deaf_append];simp[deafStep,G.2];exact h.hears0
end Conc1
end Go.Proofs.YtjgpiclllehgmaaGreat
