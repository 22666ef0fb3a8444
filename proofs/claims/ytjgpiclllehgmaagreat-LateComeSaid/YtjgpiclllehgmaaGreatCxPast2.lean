/- Goroutines: steps in canonical order. -/
import Derived.Test.YtjgpiclllehgmaaGreatCxPast
set_option linter.unusedSimpArgs false
set_option linter.unusedVariables false
namespace Go.Proofs.YtjgpiclllehgmaaGreat.Conc1
open Go Go.Conc
theorem Yn {t:Trace} {g:Nat} {u:Trace} (h:∀said,¬Race said t) (hu:∀op∈u,op.g=g) (hn:∀op∈u,op.act.touch?=none) (said:Bool):¬Race said (t++u):=
 noRace_append (h said) hu fun i a _ op hop b hb _=>(by rw[hn op hop]at hb;cases hb)
theorem Xu.fork {t:Trace} {j cell:Nat} (h:Xu t) (hj:j≠0) (hd:Deaf t j=0) (x y:MemOp) (hx:x.g=0∧x.act= .go j) (hy:y.g=j∧y.act= .start):JD (t++ #[x,y]) j (t.size+2) cell:=by
 have e2:t++ #[x,y]=(t++ #[x])++ #[y]:=by rw[Array.append_assoc];rfl
 have gx:(t++ #[x,y])[t.size]? =some x:=by simp
 have gy:(t++ #[x,y])[t.size+1]? =some y:=by simp
 have dx:∀g,Deaf (t++ #[x,y]) g=Deaf t g:=fun g=>by
  rw[show(#[x,y]:Trace)=[x,y].toArray from rfl,Deaf_append]
  simp[deafStep,hx.2,hy.2]
 have tx:x.act.touch?=none:=by rw[hx.2];rfl
 have ty:y.act.touch?=none:=by rw[hy.2];rfl
 have hbxy:HappensBefore (t++ #[x,y]) t.size (t.size+1):=by
  refine .single (.inr ⟨.spawn (child:=j) (by simp[Trace.act?,hx.2]) (by simp[Trace.act?,hy.2]) (by simp[Trace.g?,hy.1]),⟨0,by simp[Trace.g?,hx.1],?_⟩,⟨j,by simp[Trace.g?,hy.1],?_⟩⟩)
  ·rw[deaf_old (Nat.le_refl _)];exact h.hears
  ·rw[e2,deaf_old (by simp)]
   have:Deaf (t++ #[x]) j=Deaf t j:=by
    rw[show(#[x]:Trace)=[x].toArray from rfl,Deaf_append]
    simp[deafStep,hx.2]
   have e3:(t++ #[x]).deaf j (t.size+1)=Deaf (t++ #[x]) j:=by unfold Deaf;simp
   rw[e3,this,hd]
 refine⟨hj,fun said=>?_,(dx 0).trans h.hears,(dx j).trans hd,fun i a ha hm hi=>?_,fun i a z hz hza hm hi=>?_⟩
 ·rw[e2]
  exact Yn (fun said=>Yn h.clean (g:=0) (by simp[hx.1]) (by simp[tx]) said) (g:=j) (by simp[hy.1]) (by simp[ty]) said
 ·obtain⟨z,hz,hza⟩:=touch_of ha
  rcases getElem?_append_cases hz with⟨hi',hz'⟩|⟨_,hzu⟩
  ·have k:=h.known i a (by rw[touchAt_of hz'];exact hza) hm
   refine⟨k.app _,t.size+1,y,gy,hy.1,.inr ?_⟩
   exact(k.hb_new (Nat.le_refl _) gx hx.1).trans hbxy
  ·simp only[List.mem_toArray,List.mem_cons,List.not_mem_nil,or_false]at hzu
   rcases hzu with rfl|rfl
   ·rw[tx]at hza;cases hza
   ·rw[ty]at hza;cases hza
 ·have:=lt_size_of_getElem? hz
  simp at this
  omega
structure ZdJ (t:Trace) (j p cell ch pc:Nat):Prop where
 pos:j≠0
 clean:∀said,¬Race said t
 hears0:Deaf t 0=0
 early:∀i a,touchAt t i=some a→a.loc.isMemory=true→i<p→Knows t 0 i
 late:∀i a x,t[i]? =some x→x.act.touch?=some a→a.loc.isMemory=true→p≤i→(x.g=0∧a.loc= .cell ⟨cell,0,none⟩∧a.write=false)∨(x.g=j∧∀ad,a.loc= .cell ad→a.write=true→ad.block≠cell)
 close:∃op,t[pc]? =some op∧op.g=j∧op.act= .close ch
 heard:t.heard pc
 last:∀i a x,t[i]? =some x→x.act.touch?=some a→a.loc.isMemory=true→x.g=j→i≤pc
 size:p≤t.size
theorem Zds {t u:Trace} {pc:Nat} (hlt:pc<t.size) (h:t.heard pc):(t++u).heard pc:=by
 obtain⟨g,h4,h5⟩:=h
 exact⟨g,by unfold Trace.g? at h4⊢;rw[getElem?_append_old hlt];exact h4,by rw[deaf_old (Nat.le_of_lt hlt)];exact h5⟩
theorem ZdJ.appMute {t u:Trace} {j p cell ch pc g:Nat} (h:ZdJ t j p cell ch pc) (hg:g≠0) (hu:∀op∈u,op.g=g) (hn:∀op∈u,op.act.touch?=none):ZdJ (t++u) j p cell ch pc:=by
 obtain⟨op,h1,h2,h3⟩:=h.close
 have hlt:=lt_size_of_getElem? h1
 refine⟨h.pos,Yn h.clean hu hn,(Deaf_other t hg u hu).trans h.hears0,fun i a ha hm hi=>?_,fun i a x hx hxa hm hi=>?_,⟨op,by rw[getElem?_append_old hlt];exact h1,h2,h3⟩,Zds hlt h.heard,fun i a x hx hxa hm hg=>?_,by have:=h.size;simp;omega⟩
 ·obtain⟨x,hx,hxa⟩:=touch_of ha
  rcases getElem?_append_cases hx with⟨_,hx'⟩|⟨_,hxu⟩
  ·exact(h.early i a (by rw[touchAt_of hx'];exact hxa) hm hi).app u
  ·rw[hn x hxu]at hxa;cases hxa
 ·rcases getElem?_append_cases hx with⟨_,hx'⟩|⟨_,hxu⟩
  ·exact h.late i a x hx' hxa hm hi
  ·rw[hn x hxu]at hxa;cases hxa
 ·rcases getElem?_append_cases hx with⟨_,hx'⟩|⟨_,hxu⟩
  ·exact h.last i a x hx' hxa hm hg
  ·rw[hn x hxu]at hxa;cases hxa
theorem ZdJ.app0 {t u:Trace} {j p cell ch pc:Nat} (h:ZdJ t j p cell ch pc) (hu:∀op∈u,op.g=0) (hd:Deaf (t++u) 0=Deaf t 0)
  (hs:∀op∈u,∀a,op.act.touch?=some a→a.loc.isMemory=true→a.loc= .cell ⟨cell,0,none⟩∧a.write=false):ZdJ (t++u) j p cell ch pc:=by
 obtain⟨op,h1,h2,h3⟩:=h.close
 have hlt:=lt_size_of_getElem? h1
 refine⟨h.pos,fun said=>noRace_append (h.clean said) hu fun i a ha op hop b hb hc=>?_,hd.trans h.hears0,fun i a ha hm hi=>?_,fun i a x hx hxa hm hi=>?_,⟨op,by rw[getElem?_append_old hlt];exact h1,h2,h3⟩,Zds hlt h.heard,fun i a x hx hxa hm hg=>?_,by have:=h.size;simp;omega⟩
 ·obtain⟨x,hx,hxa⟩:=touch_of ha
  rcases Nat.lt_or_ge i p with hi|hi
  ·exact h.early i a ha hc.2.1 hi
  ·have hbm:b.loc.isMemory=true:=hc.1▸hc.2.1
   obtain⟨h5,h6⟩:=hs op hop b hb hbm
   rcases h.late i a x hx hxa hc.2.1 hi with⟨e1,_⟩|⟨_,e2⟩
   ·have:=knows_own hx
    rwa [e1]at this
   ·exfalso
    rcases hc.2.2.1 with hw|hw
    ·exact e2 _ (hc.1.trans h5) hw rfl
    ·rw[h6]at hw;cases hw
 ·obtain⟨x,hx,hxa⟩:=touch_of ha
  rcases getElem?_append_cases hx with⟨_,hx'⟩|⟨hge,_⟩
  ·exact(h.early i a (by rw[touchAt_of hx'];exact hxa) hm hi).app u
  ·have:=h.size;omega
 ·rcases getElem?_append_cases hx with⟨_,hx'⟩|⟨_,hxu⟩
  ·exact h.late i a x hx' hxa hm hi
  ·exact .inl ⟨hu x hxu,hs x hxu a hxa hm⟩
 ·rcases getElem?_append_cases hx with⟨_,hx'⟩|⟨_,hxu⟩
  ·exact h.last i a x hx' hxa hm hg
  ·exact absurd ((hu x hxu).symm.trans hg) (Ne.symm h.pos)
theorem ZdJ.done {t:Trace} {j p cell ch pc:Nat} (h:ZdJ t j p cell ch pc) (y:MemOp) (hy:y.g=0∧y.act= .recvClosed ch):Xu (t++ #[y]):=by
 have ty:y.act.touch?=none:=by rw[hy.2];rfl
 have gy:(t++ #[y])[t.size]? =some y:=by simp
 obtain⟨c,hc1,hc2,hc3⟩:=h.close
 have hlt:=lt_size_of_getElem? hc1
 have hbc:HappensBefore (t++ #[y]) pc t.size:=by
  refine .single (.inr ⟨.closed (c:=ch) (by unfold Trace.act?;rw[getElem?_append_old hlt,hc1];exact congrArg some hc3) (by simp[Trace.act?,hy.2]),Zds hlt h.heard,⟨0,by simp[Trace.g?,hy.1],?_⟩⟩)
  rw[deaf_old (Nat.le_refl _)];exact h.hears0
 refine⟨Yn h.clean (g:=0) (by simp[hy.1]) (by simp[ty]),fun i a ha hm=>?_,?_⟩
 ·obtain⟨x,hx,hxa⟩:=touch_of ha
  rcases getElem?_append_cases hx with⟨hi,hx'⟩|⟨_,hxu⟩
  ·rcases Nat.lt_or_ge i p with hip|hip
   ·exact(h.early i a (by rw[touchAt_of hx'];exact hxa) hm hip).app _
   ·rcases h.late i a x hx' hxa hm hip with⟨h1,_⟩|⟨h1,_⟩
    ·have:=knows_own hx
     rwa [h1]at this
    ·refine⟨t.size,y,gy,hy.1,.inr ?_⟩
     have hle:=h.last i a x hx' hxa hm h1
     rcases Nat.lt_or_ge i pc with hl|hl
     ·exact(hb_po hl hx (by rw[getElem?_append_old hlt];exact hc1) (h1.trans hc2.symm)).trans hbc
     ·have:i=pc:=by omega
      rw[this];exact hbc
  ·have:x=y:=by simpa using hxu
   rw[this,ty]at hxa;cases hxa
 ·rw[show(#[y]:Trace)=[y].toArray from rfl,Deaf_append]
  simp[deafStep,hy.2]
  exact h.hears0
end Go.Proofs.YtjgpiclllehgmaaGreat.Conc1
