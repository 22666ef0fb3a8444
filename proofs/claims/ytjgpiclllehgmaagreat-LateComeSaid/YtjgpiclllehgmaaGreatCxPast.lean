/- What has been touched so far is known to main; while a child runs: the parts of both. -/
import Derived.Conc.Beside
import Derived.Test.YtjgpiclllehgmaaGreatCxOwn
set_option linter.unusedSimpArgs false
set_option linter.unusedVariables false
namespace Go.Proofs.YtjgpiclllehgmaaGreat.Conc1
open Go Go.Conc
structure Xu (t:Trace):Prop where
 clean:∀said,¬Race said t
 known:∀i a,touchAt t i=some a→a.loc.isMemory=true→Knows t 0 i
 hears:Deaf t 0=0
theorem Xu.over {t:Trace} (h:Xu t):t.HandedOver:=by
 intro i g hg hne hc
 obtain⟨x,hx,hm,_⟩:=hc
 obtain⟨q,z,h1,h2,h3⟩:=h.known i x hx hm
 refine⟨q,by simp[Trace.g?,h1,h2],h3.resolve_left ?_⟩
 rintro rfl
 rw[Trace.g?,h1]at hg
 simp[h2]at hg
 exact hne hg.symm
theorem Yc.quiet {pr:Nat→Prop} {e:Event} (h:Yc pr e):e.loc≠ .mark .disable∧e.loc≠ .mark .enable:=by
 unfold Yc at h
 constructor<;>(intro he;rw[he]at h;first|exact h.ne_disable rfl|exact h.ne_enable rfl)
variable {pr:Nat→Prop} {fn:FuncId} {pos:String} {es:Array Event} {t:Trace}
theorem XO {g:Nat}:∀op∈MemOp.ofEvents g fn pos es,op.g=g:=fun op hop=>by obtain⟨e,_,rfl⟩:=Conc.mem_ofEvents hop;rfl
theorem Xu.app0 (h:Xu t) {u:Trace} (hu:∀op∈u,op.g=0) (hd:Deaf (t++u) 0=Deaf t 0):Xu (t++u):=by
 refine⟨fun said=>noRace_append (h.clean said) hu fun i a ha op hop b hb hc=>h.known i a ha hc.2.1,fun i a ha hm=>?_,hd.trans h.hears⟩
 obtain⟨x,hx,hxa⟩:=touch_of ha
 rcases getElem?_append_cases hx with⟨_,hx'⟩|⟨_,hxu⟩
 ·exact(h.known i a (by rw[touchAt_of hx'];exact hxa) hm).app u
 ·have:=knows_own hx
  rwa [hu x hxu]at this
theorem Xu.own (h:Xu t) (he:∀e∈es,Yc pr e):Xu (t++MemOp.ofEvents 0 fn pos es):=
 h.app0 XO (by rw[Deaf_own];exact deafBehind_still (fun e hx=>(he e hx).quiet) _)
theorem Xu.appMute {g:Nat} (h:Xu t) (hg:g≠0) {u:Trace} (hu:∀op∈u,op.g=g) (hn:∀op∈u,op.act.touch?=none):Xu (t++u):=by
 refine⟨fun said=>noRace_append (h.clean said) hu fun i a _ op hop b hb _=>(by rw[hn op hop]at hb;cases hb),fun i a ha hm=>?_,(Deaf_other t hg u hu).trans h.hears⟩
 obtain⟨x,hx,hxa⟩:=touch_of ha
 rcases getElem?_append_cases hx with⟨_,hx'⟩|⟨_,hxu⟩
 ·exact(h.known i a (by rw[touchAt_of hx'];exact hxa) hm).app u
 ·rw[hn x hxu]at hxa;cases hxa
theorem Xu.mute (h:Xu t) {g:Nat} (hg:g≠0) (hm:∀e∈es,e.mute=true):Xu (t++MemOp.ofEvents g fn pos es):=
 h.appMute hg XO (fun op hop=>by obtain⟨e,he,rfl⟩:=Conc.mem_ofEvents hop;exact touch_mute (hm e he))
structure JD (t:Trace) (j p cell:Nat):Prop where
 pos:j≠0
 clean:∀said,¬Race said t
 hears0:Deaf t 0=0
 hearsJ:Deaf t j=0
 early:∀i a,touchAt t i=some a→a.loc.isMemory=true→i<p→Knows t 0 i∧Knows t j i
 late:∀i a x,t[i]? =some x→x.act.touch?=some a→a.loc.isMemory=true→p≤i→(x.g=0∧a.loc= .cell ⟨cell,0,none⟩∧a.write=false)∨(x.g=j∧∀ad,a.loc= .cell ad→a.write=true→ad.block≠cell)
theorem Zfb {e:Event} {x:Touch} (h:Yc pr e) (hx:(MemAct.ofEvent e).touch?=some x):x.loc=e.loc∧x.write=e.write:=by
 refine Conc.ofEvent_touch (fun m hm=>?_) hx
 unfold Yc at h
 rw[hm]at h
 exact h
theorem JD.app {j p cell:Nat} (h:JD t j p cell) {u:Trace} {g:Nat} (hg:g=0∨g=j) (hu:∀op∈u,op.g=g) (hd:Deaf (t++u) g=Deaf t g)
  (hs:∀op∈u,∀a,op.act.touch?=some a→a.loc.isMemory=true→(g=0∧a.loc= .cell ⟨cell,0,none⟩∧a.write=false)∨(g=j∧∀ad,a.loc= .cell ad→a.write=true→ad.block≠cell)) (hp:p≤t.size):JD (t++u) j p cell:=by
 have hlate:∀i a x,(t++u)[i]? =some x→x.act.touch?=some a→a.loc.isMemory=true→p≤i→(x.g=0∧a.loc= .cell ⟨cell,0,none⟩∧a.write=false)∨(x.g=j∧∀ad,a.loc= .cell ad→a.write=true→ad.block≠cell):=fun i a x hx hxa hm hi=>by
  rcases getElem?_append_cases hx with⟨_,hx'⟩|⟨_,hxu⟩
  ·exact h.late i a x hx' hxa hm hi
  ·have e:=hu x hxu
   rw[e]
   exact hs x hxu a hxa hm
 refine⟨h.pos,fun said=>noRace_append (h.clean said) hu fun i a ha op hop b hb hc=>?_,?_,?_,fun i a ha hm hi=>?_,hlate⟩
 ·obtain⟨x,hx,hxa⟩:=touch_of ha
  rcases Nat.lt_or_ge i p with hi|hi
  ·have:=h.early i a ha hc.2.1 hi
   rcases hg with rfl|rfl
   ·exact this.1
   ·exact this.2
  ·have hbm:b.loc.isMemory=true:=hc.1▸hc.2.1
   by_cases hxg:x.g=g
   ·have:=knows_own hx
    rwa [hxg]at this
   ·exfalso
    rcases h.late i a x hx hxa hc.2.1 hi with⟨h1,h2,h3⟩|⟨h1,h2⟩<;>rcases hs op hop b hb hbm with⟨h4,h5,h6⟩|⟨h4,h5⟩
    ·exact hxg (h1.trans h4.symm)
    ·rcases hc.2.2.1 with hw|hw
     ·rw[h3]at hw;cases hw
     ·exact h5 _ (hc.1▸h2) hw rfl
    ·rcases hc.2.2.1 with hw|hw
     ·exact h2 _ (hc.1.trans h5) hw rfl
     ·rw[h6]at hw;cases hw
    ·exact hxg (h1.trans h4.symm)
 ·by_cases hg0:g=0
  ·rw[hg0]at hd;exact hd.trans h.hears0
  ·exact(Deaf_other t hg0 u hu).trans h.hears0
 ·by_cases hgj:g=j
  ·rw[hgj]at hd;exact hd.trans h.hearsJ
  ·exact(Deaf_other t hgj u hu).trans h.hearsJ
 ·obtain⟨x,hx,hxa⟩:=touch_of ha
  rcases getElem?_append_cases hx with⟨_,hx'⟩|⟨hge,_⟩
  ·have:=h.early i a (by rw[touchAt_of hx'];exact hxa) hm hi
   exact⟨this.1.app u,this.2.app u⟩
  ·omega
end Go.Proofs.YtjgpiclllehgmaaGreat.Conc1
