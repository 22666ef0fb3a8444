/- The abstract machine: contracts, loops, and the direct style. -/
import Derived.Test.YtjgpiclllehgmaaGreatM3
set_option linter.unusedSimpArgs false
set_option linter.unusedVariables false
namespace Go.Proofs.YtjgpiclllehgmaaGreat.Vm
open Go Go.Proofs.YtjgpiclllehgmaaGreat.Conc1
def Qk (id:Nat):List Nat→Nat→Option Nat
 |[],_=>none
 |x::r,j=>if ZC x id then some j else Qk id r (j+1)
theorem Jr {id:Nat}:∀ {l:List Nat} {k j:Nat},Qk id l k=some j→k≤j∧l[j-k]? =some id
 |[],_,_,h=>by simp[Qk]at h
 |x::r,k,j,h=>by
  simp only[Qk]at h
  split at h
  ·rename_i hx
   simp only[Option.some.injEq]at h
   subst h
   rw[Nat.sub_self]
   exact⟨Nat.le_refl _,by rw[Zz hx];rfl⟩
  ·obtain⟨h1,h2⟩:=Jr h
   exact⟨by omega,by rw[show j-k=(j-(k+1))+1 from by omega];exact h2⟩
theorem YJ {id:Nat}:∀ {l:List Nat} {k:Nat},Qk id l k=none→id∉l
 |[],_,_=>by simp
 |x::r,k,h=>by
  simp only[Qk]at h
  split at h
  ·cases h
  ·rename_i hx
   have:=YJ h
   intro hm
   rcases List.mem_cons.1 hm with rfl|hm
   ·exact hx (by simp[ZC])
   ·exact this hm
def Qs (fz:Bool) (ι:List Nat) (h:List Zi):Nat→AV→AV
 |0,_=>.undef
 |k+1,a=>(match a with
  |.ptr id off=>(match Qk id ι 0 with
   |some j=>.ptr j off
   |none=>if fz then(match YW h id with
    |some cs=>if(cs.map fun c=>purify (Qs fz ι h k c)).all Y7 then .iptr (cs.map fun c=>purify (Qs fz ι h k c)) off else .undef
    |none=>.undef)else .undef)
  |.aptr id s e off=>(match Qk id ι 0 with
   |some j=>.aptr j s e off
   |none=>.undef)
  |.msl id s lo m c=>(match Qk id ι 0 with
   |some j=>.msl j s lo m c
   |none=>if fz then(match h[id]? with
    |some (.arr s' len f)=>if ZC s s' then .gd (fun _=>decide (0≤lo ()∧lo ()+m ()≤len ())) (.isl s m (fun e=>f fun _=>lo ()+e ()) .none)else .undef
    |_=>.undef)else .undef)
  |.gsl id m=>(match Qk id ι 0 with
   |some j=>.gsl j m
   |none=>if fz then(match h[id]? with
    |some (.gar s m' f)=>.gd (fun _=>decide (m ()=m' ())) (.isl s m' f .none)
    |some (.fro s m' f)=>.gd (fun _=>decide (m ()=m' ())) (.isl s m' f .none)
    |_=>.undef)else .undef)
  |.gptr id s m e off=>(match Qk id ι 0 with
   |some j=>.gptr j s m e off
   |none=>.undef)
  |.lit s cs=>.lit s (cs.map (Qs fz ι h k))
  |.map id=>(match Qk id ι 0 with
   |some j=>.map j
   |none=>if fz then(match h[id]? with
    |some (.gob (.mapL ka n L))=>.imap ka n L
    |_=>.undef)else .undef)
  |.mit id=>(match Qk id ι 0 with
   |some j=>.mit j
   |none=>.undef)
  |.yld id=>(match Qk id ι 0 with
   |some j=>.yld j
   |none=>.undef)
  |.isl s m f (.own id)=>(match Qk id ι 0 with
   |some j=>.isl s m f (.own j)
   |none=>.isl s m f .none)
  |.fn f xs bs=>.fn f (xs.map (Qs fz ι h k)) (bs.map (Qs fz ι h k))
  |.agg cs=>.agg (cs.map (Qs fz ι h k))
  |.tup cs=>.tup (cs.map (Qs fz ι h k))
  |.gd g v=>.gd g (Qs fz ι h k v)
  |a=>a)
def ZK (fz:Bool) (ι:List Nat) (h:List Zi):Zi→Zi
 |.cells cs=>.cells (cs.map (Qs fz ι h 5))
 |.loop s d=>.loop (s.map (Qs fz ι h 5)) d
 |b=>b
def ZeT (fz:Bool) (ι:List Nat) (h:List Zi):List Nat→List Zi
 |[]=>[]
 |i::r=>(match h[i]? with
  |some b=>ZK fz ι h b
  |none=>.dead)::ZeT fz ι h r
def sel (fz:Bool) (ι:List Nat) (h:List Zi):List Zi:=ZeT fz ι h ι
theorem Zaw {fz:Bool} {ι:List Nat} {h:List Zi}:∀ {l:List Nat},(ZeT fz ι h l).length=l.length
 |[]=>rfl
 |_::r=>by simp[ZeT,Zaw (l:=r)]
theorem ZbN {fz:Bool} {ι:List Nat} {h:List Zi}:∀ {l:List Nat} {j:Nat} {x:Zi},(∀i∈l,i<h.length)→(ZeT fz ι h l)[j]? =some x→∃i b,l[j]? =some i∧h[i]? =some b∧x=ZK fz ι h b
 |[],j,x,_,hx=>by simp[ZeT]at hx
 |i::r,j,x,hl,hx=>by
  simp only[ZeT]at hx
  have hi:=hl i (List.mem_cons_self ..)
  rw[List.getElem?_eq_getElem hi]at hx
  cases j with
  |zero=>
   simp only[List.getElem?_cons_zero,Option.some.injEq]at hx
   exact⟨i,_,rfl,List.getElem?_eq_getElem hi,hx.symm⟩
  |succ j=>
   simp only[List.getElem?_cons_succ]at hx
   exact ZbN (l:=r) (fun i hi=>hl i (List.mem_cons_of_mem _ hi)) hx
theorem Zab {R R':RC} {fz:Bool} {ι:List Nat} {h:List Zi} {i j:Nat} (hα:R'.α j=R.α i) (hhv:R'.hv j=R.hv i) {blk:Zi} {b:Nat}:ZG R' j (ZK fz ι h blk) b↔ZG R i blk b:=by
 cases blk with
 |_=>simp only[ZK,ZG,hα,hhv]
theorem ZfQ {R R':RC} {fz:Bool} {ι:List Nat} {h:List Zi} {i j:Nat} (hα:R'.α j=R.α i) (hhv:R'.hv j=R.hv i) {blk:Zi} {b o m:Nat}:Qo R' j (ZK fz ι h blk) b o m↔Qo R i blk b o m:=by
 cases blk with
 |_=>simp only[ZK,Qo,ZG,hα,hhv]
theorem ZmL {fz:Bool} {ι:List Nat} {h:List Zi} {blk:Zi}:Zb5 (ZK fz ι h blk)=Zb5 blk:=by
 cases blk<;>rfl
section
variable {R R':RC} {h:List Zi} {ι:List Nat} {fz:Bool}
theorem ZpU {G:Nat→Nat→Nat→Prop} (H:HR G R h) (hm:R'.m=ι.length) (hw:R'.w=R.w) (hα:∀j i,ι[j]? =some i→R'.α j=R.α i) (hhw:∀j i,ι[j]? =some i→R'.hw j=R.hw i) (hhv:∀j i,ι[j]? =some i→R'.hv j=R.hv i)
  (hok:∀b o n,R.ok b o n→R'.ok b o n) (hfree:fz=true→∀id blk b,id∉ι→h[id]? =some blk→ZG R id blk b→∀o n,R'.ok b o n):∀(k:Nat) {a:AV} {v:Value},VR R a v→VR R' (Qs fz ι h k a) v:=by
 have hpr:∀ {a:AV} {v:Value},PR R.w R.ok a v→PR R'.w R'.ok a v:=fun h=>h.mono hok (fun _ _ _ _ _ _=>by rw[hw]) (fun _ _ _ _ h=>by rw[hw];exact h)
 have lt:∀ {id j:Nat},Qk id ι 0=some j→j<R'.m∧R'.α j=R.α id∧R'.hw j=R.hw id∧R'.hv j=R.hv id:=fun {id j} h=>by
  obtain⟨_,h2⟩:=Jr h
  rw[Nat.sub_zero]at h2
  exact⟨by rw[hm];exact(List.getElem?_eq_some_iff.1 h2).1,hα _ _ h2,hhw _ _ h2,hhv _ _ h2⟩
 intro k
 induction k with
 |zero=>exact fun _=>.undef _
 |succ k ih=>
  intro a v hv
  cases hv with
  |pure _ _ hp=>
   cases hp with
   |isl0 s m f tk h0 ht=>cases tk with
    |own id=>cases ht
    |nn=>cases ht
    |_=>exact .pure _ _ (.isl0 _ _ _ _ h0 ht)
   |islE s m f tk a h0 ht=>cases tk with
    |own id=>exact absurd ht (fun h=>by cases h<;>contradiction)
    |nn=>exact absurd ht (fun h=>by cases h<;>contradiction)
    |_=>exact .pure _ _ (.islE _ _ _ _ a h0 ht)
   |isl s m f tk b o len cap us hn hc ht he hl h1 h2 h3=>cases tk with
    |own id=>exact absurd ht (fun h=>by cases h<;>contradiction)
    |nn=>exact absurd ht (fun h=>by cases h<;>contradiction)
    |_=>exact .pure _ _ (hpr (.isl _ _ _ _ b o len cap us hn hc ht he hl h1 h2 h3))
   |iptr cs off b o us h1 h2 h3=>exact .pure _ _ (hpr (.iptr cs off b o us h1 h2 h3))
   |bool b=>exact .pure _ _ (.bool b)
   |int k n=>exact .pure _ _ (.int k n)
   |str s=>exact .pure _ _ (.str s)
   |nilptr=>exact .pure _ _ .nilptr
   |cch c=>exact .pure _ _ (.cch c)
   |imap ka n L b es clk h1 h2 h3=>exact .pure _ _ (hpr (.imap ka n L b es clk h1 h2 h3))
   |imap0 ka n L h=>exact .pure _ _ (.imap0 ka n L h)
   |nilmap=>exact .pure _ _ .nilmap
   |nilfn=>exact .pure _ _ .nilfn
  |undef=>exact .undef _
  |ptr id off hid=>
   simp only[Qs]
   split
   ·rename_i j hj
    obtain⟨h1,h2,_,_⟩:=lt hj
    rw[←h2]
    exact .ptr j off h1
   ·rename_i hj
    split
    ·rename_i hfz
     split
     ·rename_i cs hcs
      split
      ·rename_i hall
       obtain⟨arr,ty,h1,h2,h3⟩:=H.blk id _ (YR hcs)
       refine .pure _ _ (.iptr _ off (R.α id).b (R.α id).o (fun j=>arr.getD ((R.α id).o+j) undef) (fun j c hc=>?_) (fun j c hc=>?_) (hfree hfz id _ _ (YJ hj) (YR hcs) rfl _ _))
       ·have hlt:=(List.getElem?_eq_some_iff.1 hc).1
        rw[List.length_map]at hlt
        rw[hw]
        exact Qd h1 (by omega)
       ·rw[List.getElem?_map,Option.map_eq_some_iff]at hc
        obtain⟨c0,hc0,rfl⟩:=hc
        rw[List.all_eq_true]at hall
        exact(ih (h3 j c0 hc0)).purify (hall _ (List.mem_map.2 ⟨c0,List.mem_of_getElem? hc0,rfl⟩))
      ·exact .undef _
     ·exact .undef _
    ·exact .undef _
  |nn s m f _ hp hv=>exact .nn s m f v (hpr hp) hv
  |own s m f id _ hid hp hn he=>
   simp only[Qs]
   split
   ·rename_i j hj
    obtain⟨h1,_,h2,h3⟩:=lt hj
    exact .own s m f j v h1 (hpr hp) (by rw[h2];exact hn) (by rw[h2,h3];exact he)
   ·exact .pure _ _ (hpr hp)
  |aptr id s e off i hid he=>
   simp only[Qs]
   split
   ·rename_i j hj
    obtain⟨h1,h2,_,_⟩:=lt hj
    rw[←h2]
    exact .aptr j s e off i h1 he
   ·exact .undef _
  |gptr id s m e off a hid hn he=>
   simp only[Qs]
   split
   ·rename_i j hj
    obtain⟨h1,_,h2,h3⟩:=lt hj
    exact .gptr j s m e off a h1 (by rw[h2];exact hn) (by rw[h2,h3];exact he)
   ·exact .undef _
  |msl id s lo m c i len cap hid hlo hn hc hle=>
   simp only[Qs]
   split
   ·rename_i j hj
    obtain⟨h1,h2,_,_⟩:=lt hj
    rw[←h2]
    exact .msl j s lo m c i len cap h1 hlo hn hc hle
   ·rename_i hj
    split
    ·rename_i hfz
     split
     ·rename_i s' ln f hb
      split
      ·rename_i hs
       have hs:=Zz hs
       subst hs
       refine .gd _ _ _ fun hg=>?_
       have hg:=of_decide_eq_true hg
       obtain⟨arr,ty,l0,h1,h2,h3,h4⟩:=H.blk id _ hb
       have hil:i+len≤l0:=by omega
       have hmul:(i+len)*s≤l0*s:=Nat.mul_le_mul_right _ hil
       rw[Nat.add_mul]at hmul
       have hfe:∀k:Nat,(f fun _=>lo ()+((fun _:Unit=>(k:Int)) ()))=f fun _=>((i+k:Nat):Int):=fun k=>congrArg f (funext fun _=>by show lo ()+(k:Int)=_;omega)
       refine .pure _ _ (.isl _ _ _ _ (R.α id).b ((R.α id).o+i*s) len cap (fun k j=>arr.getD ((R.α id).o+i*s+k*s+j) undef) hn hle (.inl rfl) (fun h=>by cases h) (fun k hk=>?_) (fun k j c hk hj=>?_) (fun k j c hk hj=>?_) (hfree hfz id _ _ (YJ hj) hb rfl _ _))
       ·simp only[hfe]
        exact(h4 (i+k) (by omega)).1
       ·simp only[hfe]at hj
        have hjs:j<s:=by rw[←(h4 (i+k) (by omega)).1];exact(List.getElem?_eq_some_iff.1 hj).1
        have:(k+1)*s≤len*s:=Nat.mul_le_mul_right _ hk
        rw[Nat.succ_mul]at this
        rw[hw]
        exact Qd h1 (by omega)
       ·simp only[hfe]at hj
        have:=hpr ((h4 (i+k) (by omega)).2 j c hj)
        rw[Nat.add_mul]at this
        rw[show(R.α id).o+i*s+k*s+j=(R.α id).o+(i*s+k*s)+j from by omega]
        exact this
      ·exact .undef _
     ·exact .undef _
    ·exact .undef _
  |gsl id m a l c hid hn he hl=>
   simp only[Qs]
   split
   ·rename_i j hj
    obtain⟨h1,_,h2,h3⟩:=lt hj
    exact .gsl j m a l c h1 (by rw[h2];exact hn) (by rw[h2,h3];exact he) hl
   ·rename_i hj
    split
    ·rename_i hfz
     split
     ·rename_i s m' f hb
      refine .gd _ _ _ fun hg=>?_
      have hg:=of_decide_eq_true hg
      obtain⟨e1,h1⟩:=H.blk id _ hb
      have hv:(Value.slice a l c)=R.hv id:=he (by rw[hg,e1])
      rw[hv]
      rcases h1 with⟨h1,a0,h2⟩|⟨b,o,len,cap,arr,ty,h1,h2,h3,h4,h5,h6⟩
      ·rw[h2]
       cases a0 with
       |none=>exact .pure _ _ (.isl0 _ _ _ _ h1 rfl)
       |some a0=>exact .pure _ _ (.islE _ _ _ _ a0 h1 (.inl rfl))
      ·rw[h3]
       rcases Nat.eq_zero_or_pos cap with hc0|hc0
       ·rw[hc0,show len=0 by omega]
        exact .pure _ _ (.islE _ _ _ _ ⟨b,o,none⟩ (by omega) (.inl rfl))
       have hmul:len*s≤cap*s:=Nat.mul_le_mul_right _ h2
       refine .pure _ _ (.isl _ _ _ _ b o len cap (fun k j=>arr.getD (o+k*s+j) undef) h1 h2 (.inl rfl) (fun h=>by cases h) (fun k hk=>(h6 k hk).1) (fun k j c hk hj=>?_) (fun k j c hk hj=>hpr ((h6 k hk).2 j c hj)) (hfree hfz id _ _ (YJ hj) hb ⟨_,_,_,h3,hc0,rfl⟩ _ _))
       have hjs:j<s:=by rw[←(h6 k hk).1];exact(List.getElem?_eq_some_iff.1 hj).1
       have:(k+1)*s≤len*s:=Nat.mul_le_mul_right _ hk
       rw[Nat.succ_mul]at this
       rw[hw]
       exact Qd h4 (by omega)
     ·rename_i s m' f hb
      refine .gd _ _ _ fun hg=>?_
      have hg:=of_decide_eq_true hg
      obtain⟨e1,h1⟩:=H.blk id _ hb
      have hv:(Value.slice a l c)=R.hv id:=he (by rw[hg,e1])
      rw[hv]
      exact .pure _ _ (hpr h1)
     ·exact .undef _
    ·exact .undef _
  |lit s cs b o us hs h1 h2 h3=>
   simp only[Qs]
   refine .lit s _ b o us (by rw[List.length_map];exact hs) (fun j c hj=>?_) (fun j c hj=>?_) (hok _ _ _ h3)
   ·rw[List.getElem?_map,Option.map_eq_some_iff]at hj
    obtain⟨c0,hc0,rfl⟩:=hj
    rw[hw]
    exact h1 j c0 hc0
   ·rw[List.getElem?_map,Option.map_eq_some_iff]at hj
    obtain⟨c0,hc0,rfl⟩:=hj
    exact ih (h2 j c0 hc0)
  |map id hid=>
   simp only[Qs]
   split
   ·rename_i j hj
    obtain⟨h1,h2,_,_⟩:=lt hj
    rw[←h2]
    exact .map j h1
   ·rename_i hj
    split
    ·rename_i hfz
     split
     ·rename_i ka n L hb
      obtain⟨o,ho,_,es,clk,rfl,hg⟩:=H.blk id _ hb
      exact .pure _ _ (.imap ka n L (R.α id).b es clk (by rw[hw];exact ho) hg (hfree hfz id _ _ (YJ hj) hb rfl _ _))
     ·exact .undef _
    ·exact .undef _
  |mit id hid h0=>
   simp only[Qs]
   split
   ·rename_i j hj
    obtain⟨h1,h2,_,_⟩:=lt hj
    rw[←h2]
    exact .mit j h1 (by rw[h2];exact h0)
   ·exact .undef _
  |yld id hid=>
   simp only[Qs]
   split
   ·rename_i j hj
    obtain⟨h1,h2,_,_⟩:=lt hj
    rw[←h2]
    exact .yld j h1
   ·exact .undef _
  |fn f xs bs us vs ha hb h1 h2=>
   refine .fn f _ _ us vs (by simpa using ha) (by simpa using hb) (fun j c hj=>?_) (fun j c hj=>?_)
   ·rw[List.getElem?_map,Option.map_eq_some_iff]at hj
    obtain⟨x,hx,rfl⟩:=hj
    exact ih (h1 j x hx)
   ·rw[List.getElem?_map,Option.map_eq_some_iff]at hj
    obtain⟨x,hx,rfl⟩:=hj
    exact ih (h2 j x hx)
  |agg cs us ha h=>
   refine .agg _ us (by simpa using ha) (fun j c hj=>?_)
   rw[List.getElem?_map,Option.map_eq_some_iff]at hj
   obtain⟨x,hx,rfl⟩:=hj
   exact ih (h j x hx)
  |tup cs us ha h=>
   refine .tup _ us (by simpa using ha) (fun j c hj=>?_)
   rw[List.getElem?_map,Option.map_eq_some_iff]at hj
   obtain⟨x,hx,rfl⟩:=hj
   exact ih (h j x hx)
  |gd g a _ h=>exact .gd g _ _ fun hg=>ih (h hg)
  |ob g b _ h1 h2=>exact .ob g b _ h1 h2
theorem HR.sel {G:Nat→Nat→Nat→Prop} (H:HR G R h) (G':Nat→Nat→Nat→Prop) (hG:∀b o n,R.ok b o n→G' b o n) (hcl:∀b o n o' n',G' b o n→o≤o'→o'+n'≤o+n→G' b o' n') (hfr:∀b o n,R.w.heap.size≤b→G' b o n)
  (htk:∀i blk b,i∈ι→h[i]? =some blk→Zb5 blk=true→ZG R i blk b→∀o n,G' b o n) (hnd:ι.Nodup) (hlt:∀i∈ι,i<h.length)
  (hfree:fz=true→∀id blk b,id∉ι→h[id]? =some blk→ZG R id blk b→∀o n,G' b o n) (n0':Nat) (hn1:n0'≤ι.length) (hn2:fz=true→n0'≤R.n0):
  ∃R',R'.cx=R.cx∧R'.n0=n0'∧R'.w=R.w∧R'.m=ι.length∧(∀j i,ι[j]? =some i→R'.α j=R.α i)∧(∀j i,ι[j]? =some i→R'.hw j=R.hw i)∧(∀j i,ι[j]? =some i→R'.hv j=R.hv i)∧HR G' R' (sel fz ι h)∧(∀b o n,R.ok b o n→R'.ok b o n)∧
   ∀k a v,VR R a v→VR R' (Qs fz ι h k a) v:=by
 let R':=Zlz R.cx G' n0' R.w ι.length (fun j=>R.α (ι.getD j 0)) (fun j=>R.hw (ι.getD j 0)) (fun j=>R.hv (ι.getD j 0)) (Vm.sel fz ι h)
 have hα:∀j i,ι[j]? =some i→R'.α j=R.α i:=fun j i hj=>by show R.α (ι.getD j 0)=_;rw[List.getD_eq_getElem?_getD,hj];rfl
 have hhw:∀j i,ι[j]? =some i→R'.hw j=R.hw i:=fun j i hj=>by show R.hw (ι.getD j 0)=_;rw[List.getD_eq_getElem?_getD,hj];rfl
 have hhv:∀j i,ι[j]? =some i→R'.hv j=R.hv i:=fun j i hj=>by show R.hv (ι.getD j 0)=_;rw[List.getD_eq_getElem?_getD,hj];rfl
 have hget:∀ {j x},(Vm.sel fz ι h)[j]? =some x→∃i b,ι[j]? =some i∧h[i]? =some b∧x=ZK fz ι h b:=fun hx=>ZbN hlt hx
 have hok:∀b o n,R.ok b o n→R'.ok b o n:=fun b o n k=>by
  obtain⟨h1,h2,h3⟩:=(H.okd _ _ _).1 k
  refine⟨h1,hG _ _ _ k,fun j x hx=>?_⟩
  obtain⟨i,y,hi,hy,rfl⟩:=hget hx
  exact(ZfQ (hα j i hi) (hhv j i hi)).2 (h3 i y hy)
 have hfree':fz=true→∀id blk b,id∉ι→h[id]? =some blk→ZG R id blk b→∀o n,R'.ok b o n:=fun hfz id blk b hid hb hp o n=>by
  refine⟨H.phys_lt hb hp,hfree hfz id blk b hid hb hp o n,fun j x hx=>?_⟩
  obtain⟨i,y,hi,hy,rfl⟩:=hget hx
  refine(ZfQ (hα j i hi) (hhv j i hi)).2 ?_
  have hne:i≠id:=fun e=>hid (e▸List.mem_of_getElem? hi)
  have hno:∀ {b'},ZG R i y b'→b'≠b:=fun hp' e=>H.dis i id y blk b hne hy hb (e▸hp') hp
  cases y with
  |tok s1 hw1=>exact fun a len cap hv hl hb'=>absurd hb' (hno ⟨a,len,cap,hv,hl,rfl⟩)
  |_=>exact fun hp'=>hno hp' rfl
 have hsub:∀k a v,VR R a v→VR R' (Qs fz ι h k a) v:=fun k a v hv=>ZpU (R':=R') H rfl rfl hα hhw hhv hok hfree' k hv
 have hpr:∀ {a:AV} {v:Value},PR R.w R.ok a v→PR R'.w R'.ok a v:=fun h=>h.mono hok (fun _ _ _ _ _ _=>rfl) fun _ _ _ _ h=>h
 refine⟨R',rfl,rfl,rfl,rfl,hα,hhw,hhv,⟨Zaw,fun _ _ _=>Iff.rfl,fun j x hx=>?_,fun i j bi bj b hij hi hj hp hp'=>?_,hcl,hfr,fun j x b hx hk hp o n=>?_,hn1⟩,hok,hsub⟩
 ·obtain⟨i,y,hi,hy,rfl⟩:=hget hx
  have hb:=H.blk i y hy
  have e1:=hα j i hi
  have e2:=hhw j i hi
  have e3:=hhv j i hi
  cases y with
  |cells cs=>
   obtain⟨arr,ty,h1,h2,h3⟩:=hb
   refine⟨arr,ty,by rw[e1];exact h1,by rw[List.length_map,e1];exact h2,fun k c hk=>?_⟩
   rw[List.getElem?_map,Option.map_eq_some_iff]at hk
   obtain⟨c0,hc0,rfl⟩:=hk
   rw[e1]
   exact hsub 5 _ _ (h3 k c0 hc0)
  |arr s m f=>
   obtain⟨arr,ty,len,h1,h2,h3,h4⟩:=hb
   exact⟨arr,ty,len,by rw[e1];exact h1,h2,by rw[e1];exact h3,fun k hk=>⟨(h4 k hk).1,fun q c hq=>by rw[e1];exact hpr ((h4 k hk).2 q c hq)⟩⟩
  |tok s hw=>
   obtain⟨h1,h2⟩:=hb
   exact⟨e2.trans h1,by rw[e3];exact h2⟩
  |gar s m f=>
   obtain⟨h1,h2⟩:=hb
   refine⟨e2.trans h1,?_⟩
   rw[e3]
   rcases h2 with h2|⟨b,o,len,cap,arr,ty,g1,g2,g3,g4,g5,g6⟩
   ·exact .inl h2
   ·exact .inr ⟨b,o,len,cap,arr,ty,g1,g2,g3,g4,g5,fun k hk=>⟨(g6 k hk).1,fun q c hq=>hpr ((g6 k hk).2 q c hq)⟩⟩
  |fro s m f=>
   obtain⟨h1,h2⟩:=hb
   exact⟨e2.trans h1,by rw[e3];exact hpr h2⟩
  |mapB m=>
   obtain⟨es,c,h1,h2⟩:=hb
   exact⟨es,c,by rw[e1];exact h1,h2⟩
  |gob g=>
   obtain⟨o,h1,h2,h3⟩:=hb
   exact⟨o,by rw[e1];exact h1,h2,by rw[e1];exact h3.tr rfl hok rfl⟩
  |main=>exact hb
  |loop s d=>
   obtain⟨l,h1,h2,h3,h4,h5,h6,h7,h8⟩:=hb
   refine⟨l,by rw[e1];exact h1,h2,h3,h4,h5,h6,by rw[List.length_map];exact h7,fun k c hk=>?_⟩
   rw[List.getElem?_map,Option.map_eq_some_iff]at hk
   obtain⟨c0,hc0,rfl⟩:=hk
   exact hsub 5 _ _ (h8 k c0 hc0)
  |dead=>trivial
 ·obtain⟨i',y,hi',hy,rfl⟩:=hget hi
  obtain⟨j',z,hj',hz,rfl⟩:=hget hj
  have hp:=(Zab (hα _ _ hi') (hhv _ _ hi')).1 hp
  have hp':=(Zab (hα _ _ hj') (hhv _ _ hj')).1 hp'
  refine H.dis i' j' y z b (fun e=>hij ?_) hy hz hp hp'
  subst e
  have h1:=List.getElem?_eq_some_iff.1 hi'
  have h2:=List.getElem?_eq_some_iff.1 hj'
  exact(List.getElem_inj (h₀:=h1.1) (h₁:=h2.1) hnd).1 (by rw[h1.2,h2.2])
 ·obtain⟨i,y,hi,hy,rfl⟩:=hget hx
  rw[ZmL]at hk
  exact htk i y b (List.mem_of_getElem? hi) hy hk ((Zab (hα _ _ hi) (hhv _ _ hi)).1 hp) o n
end
end Go.Proofs.YtjgpiclllehgmaaGreat.Vm
namespace Go.Proofs.YtjgpiclllehgmaaGreat.Vm
open Go Go.Proofs.YtjgpiclllehgmaaGreat.Conc1
def Zhj (T:Tb) (s:List AV) (h:List Zi):List ResultVar→Option (List AV×Cd)
 |[]=>some ([],[])
 |.tmp t::r=>(match Zhj T s h r with
  |some (vs,c)=>some (strip (ev s (.tmp t))::vs,JQ (ev s (.tmp t))++c)
  |none=>none)
 |.cell a ty::r=>(match ev s (.tmp a),T.ti ty,Zhj T s h r with
  |.ptr id off,some I,some (vs,c)=>(match ZgC I h (.ptr id off)with
   |some (v,c')=>some (v::vs,c'++c)
   |none=>none)
  |_,_,_=>none)
def ZmJ:List AV→AV
 |[v]=>v
 |vs=>.tup vs
def Zk (fn:Func):Code:=match fn.body with
 |some c=>c
 |none=>.skip
def memN (a:Nat):List Nat→Bool
 |[]=>false
 |b::l=>if ZC a b then true else memN a l
theorem Zix {a:Nat}:∀ {l:List Nat},memN a l=false→a∉l
 |[],_=>by simp
 |b::l,h=>by
  unfold memN at h
  split at h
  ·cases h
  ·rename_i hn
   intro hm
   rcases List.mem_cons.1 hm with rfl|hm
   ·exact hn (by simp[ZC])
   ·exact Zix h hm
def ZgW (n m id:Nat) (t:List Nat):List Nat:=if Z4 n id&&ltN id m then(if memN id t then t else id::t)else t
def Ze9 (n m:Nat):List AV→List Nat
 |[]=>[]
 |.isl _ _ _ (.own id)::r=>ZgW n m id (Ze9 n m r)
 |_::r=>Ze9 n m r
def Zhh (n m:Nat):List AV→List Nat
 |.agg cs::_=>Ze9 n m cs
 |.isl _ _ _ (.own id)::_=>ZgW n m id []
 |.gsl id _::_|.msl id _ _ _ _::_|.ptr id _::_=>if Z4 n id&&ltN id m then [id]else []
 |_=>[]
def ZcJ (n m:Nat):List Nat→List Nat
 |[]=>[]
 |i::r=>ZgW n m i (ZcJ n m r)
def Ze3 (ks:Option (List Nat)) (kp:Bool) (n m:Nat) (vs:List AV):List Nat:=List.range n++(match ks with
 |some l=>ZcJ n m l
 |none=>if kp then Zhh n m vs else [])
def ZtD (c:Cd) (Post:AV→List Zi→Prop) (r:AV) (h:List Zi):Prop:=chk (c++JQ r) (Post (strip r) h)
def Ze2 (T:Tb) (rs:List ResultVar) (n:Nat) (Post:AV→List Zi→Prop) (e:Ex) (s:List AV) (h:List Zi) (c:Cd):Prop:=match e with
 |.exit _=>False
 |_=>(match Zhj T s h rs with
  |some (vs,c')=>ZtD (c++c') Post (Qs true (Ze3 T.ks T.kp n h.length vs) h 5 (ZmJ vs)) (sel true (Ze3 T.ks T.kp n h.length vs) h)
  |none=>False)
def entry (n:Nat) (xs:List AV):List AV:=xs++List.replicate (n-xs.length) .undef
section
variable {P:Program}
structure Yv (n m:Nat) (ι:List Nat):Prop where
 ex:∃l,ι=List.range n++l∧l.Nodup∧∀i∈l,n≤i∧i<m
theorem Yv.nodup {n m:Nat} {ι:List Nat} (h:Yv n m ι):ι.Nodup:=by
 obtain⟨l,rfl,h1,h2⟩:=h.ex
 exact List.nodup_append.2 ⟨List.nodup_range,h1,fun a ha b hb=>by have:=List.mem_range.1 ha;have:=(h2 b hb).1;omega⟩
theorem Yv.lt {n m:Nat} {ι:List Nat} (h:Yv n m ι) (hnm:n≤m):∀i∈ι,i<m:=by
 obtain⟨l,rfl,h1,h2⟩:=h.ex
 intro i hi
 rcases List.mem_append.1 hi with hi|hi
 ·have:=List.mem_range.1 hi;omega
 ·exact(h2 i hi).2
theorem Yv.low {n m:Nat} {ι:List Nat} (h:Yv n m ι) {j:Nat} (hj:j<n):ι[j]? =some j:=by
 obtain⟨l,rfl,h1,h2⟩:=h.ex
 rw[List.getElem?_append_left (by simpa using hj)]
 simp[hj]
theorem Yv.high {n m:Nat} {ι:List Nat} (h:Yv n m ι) {j i:Nat} (hj:ι[j]? =some i) (hi:i<n):j=i:=by
 obtain⟨l,rfl,h1,h2⟩:=h.ex
 rw[List.getElem?_append]at hj
 split at hj
 ·rename_i hlt
  rw[List.getElem?_range (by simpa using hlt)]at hj
  exact Option.some.inj hj
 ·have:=(h2 i (List.mem_of_getElem? hj)).1
  omega
theorem Yv.mem {n m:Nat} {ι:List Nat} (h:Yv n m ι) {i:Nat} (hi:i∉ι):n≤i:=by
 obtain⟨l,rfl,h1,h2⟩:=h.ex
 by_cases hlt:i<n
 ·exact absurd (List.mem_append_left _ (List.mem_range.2 hlt)) hi
 ·omega
theorem Yv.len {n m:Nat} {ι:List Nat} (h:Yv n m ι):n≤ι.length:=by
 obtain⟨l,rfl,h1,h2⟩:=h.ex
 simp
theorem Zc1 {n m id:Nat} {t:List Nat} (h:t.Nodup∧∀i∈t,n≤i∧i<m):(ZgW n m id t).Nodup∧∀i∈ZgW n m id t,n≤i∧i<m:=by
 unfold ZgW
 split
 ·rename_i hc
  simp only[Bool.and_eq_true]at hc
  split
  ·exact h
  ·rename_i hm
   refine⟨List.nodup_cons.2 ⟨Zix (by simpa using hm),h.1⟩,fun i hi=>?_⟩
   rcases List.mem_cons.1 hi with rfl|hi
   ·exact⟨Xc hc.1,JV hc.2⟩
   ·exact h.2 i hi
 ·exact h
theorem Ze8 (n m:Nat):∀l,(Ze9 n m l).Nodup∧∀i∈Ze9 n m l,n≤i∧i<m
 |[]=>by simp[Ze9]
 |a::r=>by
  have ih:=Ze8 n m r
  unfold Ze9
  split
  ·simp
  ·rename_i heq
   cases heq
   exact Zc1 ih
  ·rename_i heq
   cases heq
   exact ih
theorem Zco (n m:Nat):∀l,(ZcJ n m l).Nodup∧∀i∈ZcJ n m l,n≤i∧i<m
 |[]=>by simp[ZcJ]
 |a::r=>Zc1 (Zco n m r)
theorem ZlK (ks:Option (List Nat)) (kp:Bool) (n m:Nat) (vs:List AV):Yv n m (Ze3 ks kp n m vs):=by
 cases ks with
 |some l=>exact⟨_,rfl,(Zco n m l).1,(Zco n m l).2⟩
 |none=>
 show Yv n m (List.range n++if kp then Zhh n m vs else [])
 refine⟨_,rfl,?_,?_⟩
 ·split
  ·unfold Zhh
   split<;>(try exact(Ze8 n m _).1)<;>(try exact(Zc1 ⟨List.nodup_nil,fun i hi=>by cases hi⟩).1)<;>(try split)<;>simp
  ·simp
 ·split
  ·unfold Zhh
   split<;>(try exact(Ze8 n m _).2)<;>(try exact(Zc1 ⟨List.nodup_nil,fun i hi=>by cases hi⟩).2)<;>(try split)<;>(try (intro i hi;simp at hi;done))
   all_goals
    rename_i hc
    simp only[Bool.and_eq_true]at hc
    intro i hi
    simp only[List.mem_singleton]at hi
    subst hi
    exact⟨Xc hc.1,JV hc.2⟩
  ·simp
theorem JN {n m:Nat} (N:Nat) (h1:n≤N) (h2:N≤m):Yv n m (List.range N):=by
 refine⟨List.range' n (N-n),?_,List.nodup_range',fun i hi=>?_⟩
 ·rw[List.range_eq_range',List.range_eq_range',show N=n+(N-n)from by omega,←List.range'_append_1]
  simp
 ·have:=List.mem_range'_1.1 hi
  omega
theorem Xf.sel {R₁ R R':RC} {h₁ h:List Zi} {ι:List Nat} (hx:Xf R₁ h₁ R h) (hle:R₁.le R) (hlen:h₁.length=R₁.m) (hk:Yv h₁.length h.length ι) (hm:h₁.length≤h.length) (hcx:R'.cx=R.cx) (hw:R'.w=R.w) (hm':R'.m=ι.length) (hn0:R'.n0=R₁.n0)
  (hα:∀j i,ι[j]? =some i→R'.α j=R.α i) (hhw:∀j i,ι[j]? =some i→R'.hw j=R.hw i) (hhv:∀j i,ι[j]? =some i→R'.hv j=R.hv i) (hok:∀b o n,R.ok b o n→R'.ok b o n):Xf R₁ h₁ R' (sel true ι h)∧R₁.le R':=by
 have hle':R₁.le R':=by
  refine⟨by rw[hm',←hlen];exact hk.len,fun id hi=>?_,fun id hi=>?_,fun id hi=>by rw[hhv id id (hk.low (by omega))];exact hle.fm id hi,fun b o n k=>hok _ _ _ (hle.ok _ _ _ k),fun b o n k j hj=>by rw[hw];exact hle.keep b o n k j hj,fun b k es clk e=>by rw[hw];exact hle.keepM b k es clk e,hcx.trans hle.cx⟩
  ·rw[hα id id (hk.low (by omega))];exact hle.α id hi
  ·rw[hhw id id (hk.low (by omega)),hhv id id (hk.low (by omega))];exact hle.tk id hi
 refine⟨⟨hn0,by rw[hw];exact hx.os,by rw[hw];exact hx.tape,by rw[hw];exact hx.output,by rw[hw];exact hx.size,hle'.m,hle'.α,hle'.ok,hle'.keep,fun b hb hn=>by rw[hw];exact hx.frame b hb hn,fun j blk b hj hp=>?_⟩,hle'⟩
 obtain⟨i,y,hi,hy,rfl⟩:=ZbN (hk.lt hm) hj
 have hp:=(Zab (hα j i hi) (hhv j i hi)).1 hp
 rcases hx.own i y b hy hp with h1|⟨i₁,y₁,h1,h2,h3⟩
 ·exact .inl h1
 ·have hlt:=(List.getElem?_eq_some_iff.1 h1).1
  refine .inr ⟨i₁,y₁,h1,h2,?_⟩
  rcases h3 with rfl|h3
  ·have:=hk.high hi hlt
   exact .inl this.symm
  ·exact .inr h3
theorem JG.leave {G:Nat→Nat→Nat→Prop} {R₀ R:RC} {h₀ h:List Zi} {ι:List Nat} (H₀:HR G R₀ h₀) (H:JG R₀ h₀ R h) (hk:Yv h₀.length h.length ι):
  ∃R',R'.w=R.w∧HR G R' (sel true ι h)∧Xf R₀ h₀ R' (sel true ι h)∧R₀.le R'∧∀k a v,VR R a v→VR R' (Qs true ι h k a) v:=by
 have hle:h₀.length≤h.length:=by rw[H₀.len,H.hr.len];exact H.le.m
 have hG:∀b o n,Gof R₀ h₀ b o n→G b o n:=fun b o n k=>by
  rcases k with k|k|⟨id,blk,hi,hk,hp⟩
  ·exact((H₀.okd _ _ _).1 k).2.1
  ·exact H₀.fresh _ _ _ k
  ·exact H₀.tokG id blk b hi hk hp o n
 obtain⟨R',acx,a0,a1,a2,a3,a4,a5,a6,a7,a8⟩:=H.hr.sel (fz:=true) (ι:=ι) G (fun b o n k=>hG _ _ _ ((H.hr.okd _ _ _).1 k).2.1) H₀.cl (fun b o n hb=>H₀.fresh b o n (Nat.le_trans H.ext.size hb)) (fun i blk b _ hi hk hp o n=>hG _ _ _ (H.hr.tokG i blk b hi hk hp o n)) hk.nodup (hk.lt hle)
  (fun _ id blk b hid hb hp o n=>H₀.fresh b o n (by
   rcases H.ext.own id blk b hb hp with h1|⟨i₁,y,h1,_,h3⟩
   ·exact h1
   ·have:=(List.getElem?_eq_some_iff.1 h1).1
    have:=hk.mem hid
    have:=H.st
    omega)) R₀.n0 (by have:=H₀.n0m;have:=hk.len;have:=H₀.len;omega) (fun _=>by rw[H.ext.n0];exact Nat.le_refl _)
 obtain⟨b1,b2⟩:=H.ext.sel H.le H₀.len hk hle acx a1 a2 a0 a3 a4 a5 a7
 exact⟨R',a1,a6,b1,b2,a8⟩
theorem JG.trim {R₀ R₁ R:RC} {h₀ h₁ h:List Zi} (H:JG R₀ h₀ R h) (hx:Xf R₁ h₁ R h) (hle:R₁.le R) (hlen:h₁.length=R₁.m) (h01:h₀.length≤h₁.length) (H1:R₁.n0≤h₁.length):
  ∃R',R'.w=R.w∧JG R₀ h₀ R' (sel true (List.range h₁.length) h)∧Xf R₁ h₁ R' (sel true (List.range h₁.length) h)∧R₁.le R'∧∀k a v,VR R a v→VR R' (Qs true (List.range h₁.length) h k a) v:=by
 have h1h:h₁.length≤h.length:=by rw[hlen,H.hr.len];exact hle.m
 have hk:Yv h₀.length h.length (List.range h₁.length):=JN _ h01 h1h
 have hk1:Yv h₁.length h.length (List.range h₁.length):=JN _ (Nat.le_refl _) h1h
 obtain⟨R',acx,a0,a1,a2,a3,a4,a5,a6,a7,a8⟩:=H.hr.sel (fz:=true) (ι:=List.range h₁.length) (Gof R₀ h₀) (fun b o n k=>((H.hr.okd _ _ _).1 k).2.1) H.hr.cl H.hr.fresh (fun i blk b _=>H.hr.tokG i blk b) hk.nodup (hk.lt (by omega))
  (fun _ id blk b hid hb hp o n=>.inr (.inl (by
   rcases H.ext.own id blk b hb hp with h1|⟨i₁,y,h1,_,h3⟩
   ·exact h1
   ·have:=(List.getElem?_eq_some_iff.1 h1).1
    have:=hk.mem hid
    have:=H.st
    omega))) R.n0 (by rw[List.length_range];have:=hx.n0;have:=H1;omega) (fun _=>Nat.le_refl _)
 obtain⟨b1,b2⟩:=hx.sel hle hlen hk1 h1h acx a1 a2 (a0.trans hx.n0) a3 a4 a5 a7
 obtain⟨c1,c2⟩:=H.ext.sel H.le H.len hk (by omega) acx a1 a2 (a0.trans H.ext.n0) a3 a4 a5 a7
 exact⟨R',a1,⟨a6,c1,c2,H.len,H.st⟩,b1,b2,a8⟩
theorem JG.trimN {R₀ R:RC} {h₀ h:List Zi} (H:JG R₀ h₀ R h) (n:Nat) (h0n:R₀.n0≤n) (hn:n≤h.length):
  ∃R',R'.w=R.w∧JG R₀ h₀ R' (sel true (List.range n) h)∧∀k a v,VR R a v→VR R' (Qs true (List.range n) h k a) v:=by
 have h01:h₀.length≤n:=Nat.le_trans H.st h0n
 have hk:Yv h₀.length h.length (List.range n):=JN _ h01 hn
 obtain⟨R',acx,a0,a1,a2,a3,a4,a5,a6,a7,a8⟩:=H.hr.sel (fz:=true) (ι:=List.range n) (Gof R₀ h₀) (fun b o n k=>((H.hr.okd _ _ _).1 k).2.1) H.hr.cl H.hr.fresh (fun i blk b _=>H.hr.tokG i blk b) hk.nodup (hk.lt (by omega))
  (fun _ id blk b hid hb hp o n=>.inr (.inl (by
   rcases H.ext.own id blk b hb hp with h1|⟨i₁,y,h1,_,h3⟩
   ·exact h1
   ·have:=(List.getElem?_eq_some_iff.1 h1).1
    have:=hk.mem hid
    have:=H.st
    omega))) R.n0 (by rw[List.length_range,H.ext.n0];exact h0n) (fun _=>Nat.le_refl _)
 obtain⟨c1,c2⟩:=H.ext.sel H.le H.len hk (by omega) acx a1 a2 (a0.trans H.ext.n0) a3 a4 a5 a7
 exact⟨R',a1,⟨a6,c1,c2,H.len,H.st⟩,a8⟩
theorem Zhi {T:Tb} (hTb:T.Of P) {G:Nat→Nat→Nat→Prop} {R:RC} {h:List Zi} (H:HR G R h) {s:List AV} {t:Array Value} (hs:SL R s t):∀ {rs:List ResultVar} {vs:List AV} {c:Cd},Zhj T s h rs=some (vs,c)→ZN c→
  ∃us:List Value,(rs.mapM (m:=Sem) fun
   |.tmp t'=>pure (t.getD t' undef)
   |.cell a ty=>do loadVar ty (←asAddr (t.getD a undef))).run P R.w= .ok us R.w∧us.length=vs.length∧∀j c,vs[j]? =some c→VR R c (us.getD j undef)
 |[],vs,c,hv,_=>by
  simp only[Zhj,Option.some.injEq,Prod.mk.injEq]at hv
  obtain⟨rfl,rfl⟩:=hv
  exact⟨[],by simp,rfl,fun j c h=>by simp at h⟩
 |.tmp t'::r,vs,c,hv,hc=>by
  simp only[Zhj]at hv
  split at hv
  case h_2=>cases hv
  rename_i vs' c' hr
  simp only[Option.some.injEq,Prod.mk.injEq]at hv
  obtain⟨rfl,rfl⟩:=hv
  obtain⟨hc1,hc2⟩:=ZY hc
  obtain⟨us,h1,h2,h3⟩:=Zhi hTb H hs hr hc2
  refine⟨t.getD t' undef::us,by rw[List.mapM_cons];simp only[Sem.run_bind,Sem.run_pure,Result.andThen_ok,h1],by simp[h2],fun j c hj=>?_⟩
  cases j with
  |zero=>simp at hj;subst hj;exact(hs.ev (.tmp t')).strip hc1
  |succ j=>simpa using h3 j c (by simpa using hj)
 |.cell a ty::r,vs,c,hv,hc=>by
  simp only[Zhj]at hv
  split at hv
  case h_2=>cases hv
  rename_i id off I vs' c' ha hT hr
  split at hv
  case h_2=>cases hv
  rename_i v c1 hl
  simp only[Option.some.injEq,Prod.mk.injEq]at hv
  obtain⟨rfl,rfl⟩:=hv
  obtain⟨hc1,hc2⟩:=ZY hc
  obtain⟨us,h1,h2,h3⟩:=Zhi hTb H hs hr hc2
  have hva:=hs.ev (.tmp a)
  rw[ha]at hva
  obtain⟨x,hx,hxr⟩:=ZiE (hTb.ti _ _ hT) H hva hl hc1
  have hvp:∃ad,t.getD a undef= .pointer (some ad):=by
   have:Qv t (.tmp a)=t.getD a undef:=rfl
   rw[this]at hva
   generalize t.getD a undef=u at hva
   cases hva with
   |pure _ _ hp=>cases hp
   |ptr _ _ _=>exact⟨_,rfl⟩
  obtain⟨ad,had⟩:=hvp
  have hx':(loadVar ty ad).run P R.w= .ok x R.w:=by
   have:Qv t (.tmp a)=t.getD a undef:=rfl
   rw[this,had]at hx
   simpa [Instr.loadAt,Instr.sureAddr]using hx
  have hasA:(asAddr (t.getD a undef)).run P R.w= .ok ad R.w:=by rw[had];simp[asAddr]
  refine⟨x::us,by rw[List.mapM_cons];simp only[Sem.run_bind,Sem.run_pure,Result.andThen_ok,h1,hasA,hx'],by simp[h2],fun j c hj=>?_⟩
  cases j with
  |zero=>simp at hj;subst hj;exact hxr
  |succ j=>simpa using h3 j c (by simpa using hj)
theorem ZjA {T:Tb} (hTb:T.Of P) {G:Nat→Nat→Nat→Prop} {R:RC} {h:List Zi} (H:HR G R h) {s:List AV} {t:Array Value} (hs:SL R s t) {fn:Func} {vs:List AV} {c:Cd} (hv:Zhj T s h fn.results.toList=some (vs,c)) (hc:ZN c):
  ∃v,(results fn t).run P R.w= .ok v R.w∧VR R (ZmJ vs) v:=by
 obtain⟨us,h1,h2,h3⟩:=Zhi hTb H hs hv hc
 have h1':(fn.results.mapM (m:=Sem) fun
   |.tmp t'=>pure (t.getD t' undef)
   |.cell a ty=>do loadVar ty (←asAddr (t.getD a undef))).run P R.w= .ok us.toArray R.w:=by
  rw[Array.mapM_eq_mapM_toList,Sem.run_map]
  simp only[h1]
  rfl
 refine⟨if h:us.toArray.size=1 then us.toArray[0]else .tuple us.toArray,?_,?_⟩
 ·unfold results
  rw[Sem.run_bind]
  exact Eq.trans (congrArg (fun r=>Result.andThen r (fun a w'=>Sem.run P (pure (if h:a.size=1 then a[0]else Value.tuple a)) w')) h1') rfl
 ·cases vs with
  |nil=>
   have:us=[]:=List.eq_nil_of_length_eq_zero (by simpa using h2)
   subst this
   exact .tup [] #[] rfl fun j c hj=>by simp at hj
  |cons v vs=>
   cases vs with
   |nil=>
    obtain⟨u,rfl⟩:∃u,us=[u]:=List.length_eq_one_iff.1 h2
    exact h3 0 v rfl
   |cons v' vs=>
    have hne:¬us.toArray.size=1:=by simp[h2]
    rw[dif_neg hne]
    exact .tup _ _ (by simpa using h2.symm) fun j c hj=>by
     rw[Array.getD_eq_getD_getElem?,List.getElem?_toArray,←List.getD_eq_getElem?_getD]
     exact h3 j c hj
theorem JG.taken {R₀ R:RC} {h₀ h:List Zi} (H:JG R₀ h₀ R h) {r:Nat} (hr:R₀.w.heap.size≤r) (hd:R.w.heap[r]? =some (.deferred (some []))):
  ∃R',R'.w={R.w with heap:=R.w.heap.setIfInBounds r (.deferred none)}∧JG R₀ h₀ R' h∧R.le R':=by
 have hcell:∀b i,({R.w with heap:=R.w.heap.setIfInBounds r (.deferred none)}:World).cell? ⟨b,i,none⟩=R.w.cell? ⟨b,i,none⟩:=fun b i=>by
  simp only[World.cell?,Array.getElem?_setIfInBounds]
  by_cases e:r=b
  ·subst e
   simp[hd]
  ·rw[if_neg e]
 have hold:∀b,b≠r→(R.w.heap.setIfInBounds r (.deferred none))[b]? =R.w.heap[b]? :=fun b hb=>by
  rw[Array.getElem?_setIfInBounds,if_neg (Ne.symm hb)]
 have hsz:(R.w.heap.setIfInBounds r (.deferred none)).size=R.w.heap.size:=by simp
 have hnp:∀id blk b,h[id]? =some blk→ZG R id blk b→b≠r:=fun id blk b hi hp e=>by
  subst e
  have hb:=H.hr.blk id blk hi
  cases blk with
  |cells cs=>obtain⟨arr,ty,e,_⟩:=hb;rw[show(R.α id).b=b from hp,hd]at e;cases e
  |arr s n f=>obtain⟨arr,ty,_,e,_⟩:=hb;rw[show(R.α id).b=b from hp,hd]at e;cases e
  |mapB m=>obtain⟨es,c,e,_⟩:=hb;rw[show(R.α id).b=b from hp,hd]at e;cases e
  |gob g=>obtain⟨o,e,h1,_⟩:=hb;rw[show(R.α id).b=b from hp,hd]at e;cases e;cases h1
  |loop s d=>obtain⟨l,e,_⟩:=hb;rw[show(R.α id).b=b from hp,hd]at e;cases e
  |dead=>exact hp
  |main=>exact hp
  |fro s n f=>exact hp
  |gar s n f=>
   obtain⟨a,l,c,e1,e2,e3⟩:=hp
   obtain⟨_,⟨_,a3,e4⟩|⟨b',o,len,cap,arr,ty,_,_,e4,e5,_⟩⟩:=hb
   ·rw[e4]at e1;cases e1;omega
   ·rw[e4]at e1
    cases e1
    rw[show b'=b from e3,hd]at e5
    cases e5
  |tok s hw=>
   obtain⟨a,n,c,e1,e2,e3⟩:=hp
   obtain⟨_,⟨_,a3,e4⟩|⟨b',o,len,cap,_,_,e4,e5⟩⟩:=hb
   ·rw[e4]at e1;cases e1;omega
   ·rw[e4]at e1
    cases e1
    obtain⟨arr,ty,e5,_⟩:=e5 e2
    rw[show b'=b from e3,hd]at e5
    cases e5
 let R':RC:={R with w:={R.w with heap:=R.w.heap.setIfInBounds r (.deferred none)}}
 have hle:R.le R':=⟨Nat.le_refl _,fun _ _=>rfl,fun _ _=>⟨Int.le_refl _,fun _=>rfl⟩,fun _ _=>.refl _,fun _ _ _ h=>h,fun _ _ _ _ _ _=>hcell _ _,(fun b _ es clk e=>(hold b fun hb=>by subst hb;rw[hd]at e;cases e).trans e),rfl⟩
 have hH:HR (Gof R₀ h₀) R' h:=⟨H.hr.len,fun b o n=>by rw[show R'.w.heap.size=R.w.heap.size from hsz];exact H.hr.okd b o n,fun id blk hi=>(H.hr.blk id blk hi).mono hle rfl rfl rfl rfl (fun b hp=>hold b (hnp id blk b hi hp)),H.hr.dis,H.hr.cl,fun b o n hb=>H.hr.fresh b o n (by rw[show R'.w.heap.size=R.w.heap.size from hsz]at hb;exact hb),H.hr.tokG,H.hr.n0m⟩
 have hx':Xf R₀ h₀ R' h:=by
  refine⟨H.ext.n0,H.ext.os,H.ext.tape,H.ext.output,by rw[show R'.w.heap.size=R.w.heap.size from hsz];exact H.ext.size,H.ext.m,H.ext.α,H.ext.ok,fun b o n k j hj=>(hcell _ _).trans (H.ext.keep b o n k j hj),fun b hb hn=>?_,H.ext.own⟩
  exact(hold b (by omega)).trans (H.ext.frame b hb hn)
 exact⟨R',rfl,⟨hH,hx',H.le.trans hle,H.len,H.st⟩,hle⟩
theorem Zcl {R₀:RC} {h₀ h:List Zi} {b:FB} {base:List Deferred} {t:Array Value} {todo:List Item} {cs:List Frame}:∀(rs:List Nat) (R:RC),rs.Nodup→JG R₀ h₀ R h→(∀r∈rs,R₀.w.heap.size≤r∧R.w.heap[r]? =some (.deferred (some [])))→
  ∃R',JG R₀ h₀ R' h∧R.le R'∧Steps P R.cx (ZB {mkF b t ((rs.map fun r=>{target:=.collected r,args:= #[]})++base) todo with mode:=.returning} cs R.w) (ZB {mkF b t base todo with mode:=.returning} cs R'.w)
 |[],R,_,hi,_=>⟨R,hi,RC.le.refl _,.refl _⟩
 |r::rs,R,hn,hi,hd=>by
  rw[List.nodup_cons]at hn
  obtain⟨h1,h2⟩:=hd r (List.mem_cons_self ..)
  obtain⟨R',hw,hi',hle⟩:=hi.taken h1 h2
  obtain⟨R'',hi'',hle',hst⟩:=Zcl (b:=b) (base:=base) (t:=t) (todo:=todo) (cs:=cs) rs R' hn.2 hi' fun x hx=>by
   obtain⟨h3,h4⟩:=hd x (List.mem_cons_of_mem _ hx)
   refine⟨h3,?_⟩
   rw[hw]
   show(R.w.heap.setIfInBounds r _)[x]? =_
   have hne:¬r=x:=fun e=>hn.1 (e▸hx)
   rw[Array.getElem?_setIfInBounds,if_neg hne]
   exact h4
  refine⟨R'',hi'',hle.trans hle',.head ?_ (X3 hle hst)⟩
  rw[hw]
  have hrun:(Instr.takeDeferred r).run P R.w= .ok [] {R.w with heap:=R.w.heap.setIfInBounds r (.deferred none)}:=by
   simp only[Instr.takeDeferred,Sem.run_bind]
   have:(getObj r).run P R.w= .ok (.deferred (some [])) R.w:=by simp[getObj,Sem.run,h2]
   simp only[this,Result.andThen_ok,Sem.run_bind]
   have:(setObj r (.deferred none)).run P R.w= .ok () {R.w with heap:=R.w.heap.setIfInBounds r (.deferred none)}:=by
    simp only[setObj,Sem.run]
    rw[h2]
   simp only[this,Result.andThen_ok,Sem.run_pure]
  exact ZnJ (calls:=[]) hrun
end
section
variable {T:Tb} {p:Unit→Program}
def zOk (_:List Zi):Bool:=true
theorem SC.ofN {p:Unit→Program} {f:FuncId} {xs:List AV} {h:List Zi} {Post:AV→List Zi→Prop} (he:∃fn c,(p ()).funcs[f]? =some fn∧fn.body=some c∧(fn.name== "runtime.NumGoroutine")=false) (hz:zOk h=true)
  (H:∀(G:Nat→Nat→Nat→Prop) (R:RC) (vs:Array Value),HR G R h→R.n0=h.length→XZ R xs vs→
   ∀(cs:List Frame),∃v R' r h',Zg3 (p ()) R.cx f vs cs R.w v R'.w∧HR G R' h'∧Xf R h R' h'∧R.le R'∧VR R' r v∧Post r h'):SC p f xs h Post:=
 ⟨he,fun G R vs hr ha cs=>by
  have hz':True:=trivial
  have H₁:=hr.setN0 h.length (by rw[hr.len];exact Nat.le_refl _) hz'
  obtain⟨v,R',r,h',b1,b3,b4,b5,b6,b7⟩:=H G _ vs H₁ rfl ⟨ha.1,fun j c hj=>(ha.2 j c hj).mono (.setN0 R _)⟩ cs
  have e0:R'.n0=h.length:=b4.n0
  have hle:R.n0≤h.length:=by rw[hr.len];exact hr.n0m
  refine⟨v,{R' with n0:=R.n0},r,h',b1,b3.setN0 R.n0 (Nat.le_trans hle (e0▸b3.n0m)) trivial,⟨rfl,b4.os,b4.tape,b4.output,b4.size,b4.m,b4.α,b4.ok,b4.keep,b4.frame,fun id x b hi hp=>?_⟩,⟨b5.m,b5.α,b5.tk,b5.fm,b5.ok,b5.keep,b5.keepM,b5.cx⟩,b6.mono (.setN0 R' _),b7⟩
  rcases b4.own id x b hi ((ZG.congr (R:=R') (R':={R' with n0:=R.n0}) rfl rfl).1 hp)with h1|⟨i,y,h1,h2,h3⟩
  ·exact .inl h1
  ·refine .inr ⟨i,y,h1,h2,.inl ?_⟩
   have:=(List.getElem?_eq_some_iff.1 h1).1
   rcases h3 with h3|h3
   ·exact h3
   ·have h3:h.length≤i:=h3
    omega⟩
theorem SC.of (hT:T.Of (p ())) (hm:(p ()).follows .mixedOrders=true) {f:FuncId} {fn:Func} {body:Code} (hf:(p ()).funcs[f]? =some fn) (hb:fn.body=some body) (hn:(fn.name== "runtime.NumGoroutine")=false) {xs:List AV} {h:List Zi} {Post:AV→List Zi→Prop} (hz:zOk h=true)
  {n:Nat} (hW:W T p (Ze2 T fn.results.toList h.length Post) n [.code body] (entry fn.ntmps xs) h []) (hnb:T.fl=true→h.length≤T.nb):SC p f xs h Post:=by
 have hK:∀e s h' c,Ze2 T fn.results.toList h.length Post e s h' c→ZN c:=fun e s h' c hk=>by
  cases e with
  |exit id=>exact hk.elim
  |_=>
   simp only[Ze2]at hk
   split at hk
   ·exact(ZY (ZY (Z1 hk).1).1).1
   ·exact hk.elim
 refine SC.ofN ⟨fn,body,hf,hb,hn⟩ hz fun G R vs H hn0 ha cs=>?_
 obtain⟨ha1,ha2⟩:=ha
 have hfr:Frame.enter (p ()) f vs .normal=mkF ⟨f,false,none,[]⟩ (vs++Array.replicate (fn.ntmps-vs.size) undef) [] [.code body]:=by
  simp[Frame.enter,mkF,FB.kind,hf,hb]
 have hsl:SL R (entry fn.ntmps xs) (vs++Array.replicate (fn.ntmps-vs.size) undef):=by
  refine⟨by simp[entry,ha1],fun i a hi=>?_⟩
  rw[entry,List.getElem?_append]at hi
  split at hi
  ·rename_i hlt
   have:=ha2 i a hi
   rw[Array.getD_eq_getD_getElem?]at this⊢
   rw[Array.getElem?_append_left (by omega)]
   exact this
  ·rw[List.getElem?_replicate]at hi
   split at hi
   ·cases hi
    exact .undef _
   ·cases hi
 obtain⟨e,s',h',R',t',ds',⟨c,hk⟩,hi,hs,hd,_,hA⟩:=(Zkw hT (R₀:=R) (h₀:=h) hm (fun hf=>by rw[hn0];exact hnb hf) hK n _ _ h [] hW).2 R _ (JG.refl H (by rw[hn0];exact Nat.le_refl _)) hsl ⟨⟨f,false,none,[]⟩,fun _=>rfl⟩ [] [] cs ⟨[],rfl,List.nodup_nil,fun r hr=>by cases hr⟩
 have hret:∃todo,Steps (p ()) R.cx (ZB (mkF ⟨f,false,none,[]⟩ (vs++Array.replicate (fn.ntmps-vs.size) undef) [] [.code body]) cs R.w) (ZB {mkF ⟨f,false,none,[]⟩ t' ds' todo with mode:=.returning} cs R'.w)∧∃vs' c',Zhj T s' h' fn.results.toList=some (vs',c')∧ZtD (c++c') Post (Qs true (Ze3 T.ks T.kp h.length h'.length vs') h' 5 (ZmJ vs')) (sel true (Ze3 T.ks T.kp h.length h'.length vs') h'):=by
  cases e with
  |exit id=>exact hk.elim
  |normal=>
   refine⟨[],Steps.trans hA (.one (ZnO rfl)),?_⟩
   simp only[Ze2]at hk
   split at hk
   ·exact⟨_,_,‹_›,hk⟩
   ·exact hk.elim
  |ret=>
   obtain⟨todo,hA⟩:=hA
   refine⟨.code .ret::todo,Steps.trans hA (.one (ZnL rfl)),?_⟩
   simp only[Ze2]at hk
   split at hk
   ·exact⟨_,_,‹_›,hk⟩
   ·exact hk.elim
 obtain⟨todo,hst,vs',c',hres,hchk⟩:=hret
 obtain⟨hcc,hpost⟩:=Z1 hchk
 obtain⟨hc,hcs⟩:=ZY hcc
 obtain⟨rs,rfl,hnd,hrs⟩:=hd
 obtain⟨R2,hi2,hle2,hst2⟩:=Zcl (P:=p ()) (b:=⟨f,false,none,[]⟩) (base:=[]) (t:=t') (todo:=todo) (cs:=cs) rs R' hnd hi hrs
 obtain⟨v,hrun,hvr⟩:=ZjA (P:=p ()) (fn:=fn) hT hi2.hr (hs.mono hle2) hres (ZY hc).2
 obtain⟨R3,hw3,H3,hx3,hle3,htell⟩:=hi2.leave H (ZlK T.ks T.kp h.length h'.length vs')
 have hvr3:=(htell 5 _ _ hvr).strip hcs
 refine⟨v,R3,_,_,⟨⟨f,false,none,[]⟩,t',todo,fn,?_,rfl,hf,by rw[hw3];exact hrun,rfl⟩,H3,hx3,hle3,hvr3,hpost⟩
 rw[hfr,hw3]
 exact hst.trans (X3 hi.le hst2)
end
end Go.Proofs.YtjgpiclllehgmaaGreat.Vm
namespace Go.Proofs.YtjgpiclllehgmaaGreat.Vm
open Go Go.Proofs.YtjgpiclllehgmaaGreat.Conc1
inductive Cx where
 |u (ops:Array Oper) (o:Oper) (rest:List Oper)
 |d (ops:Array Oper) (pr:List Pr) (s0:List AV) (n done:Nat) (q:Pr)
inductive Hd where
 |none
 |ops (ops:Array Oper) (rest:List Oper)
 |drawn (ops:Array Oper) (pr:List Pr) (s0:List AV) (n done:Nat)
 |gev (x:Cx)
 |event (x:Cx)
inductive St where
 |bad
 |fin (e:Ex) (s:List AV) (h:List Zi) (c:Cd)
 |br (c:Cd) (b:Unit→Bool) (k₁ k₂:List Item) (s:List AV) (h:List Zi)
 |gd (c:Cd) (g:Unit→Bool) (x:Cx) (k:List Item) (s:List AV) (h:List Zi)
 |call (c:Cd) (f:Tg) (xs:List AV) (x:Cx) (k:List Item) (s:List AV) (h:List Zi)
 |alls (c:Cd) (ops:Array Oper) (pr:List Pr) (s0:List AV) (n done:Nat) (qs:List Pr) (k:List Item) (s:List AV) (h:List Zi)
 |loop (c:Cd) (x:Code) (k:List Item) (s:List AV) (h:List Zi)
 |cb (c:Cd) (f:Operand) (ps:Array Tmp) (a x:Code) (k:List Item) (s:List AV) (h:List Zi)
 |cut (c:Cd) (x:Code) (k:List Item) (s:List AV) (h:List Zi)
 |hand (c:Cd) (k:List Item) (s:List AV) (h:List Zi)
def Cx.o:Cx→Oper
 |.u _ o _=>o
 |.d _ _ _ _ _ q=>q.o
def Cx.ops:Cx→Array Oper
 |.u ops _ _=>ops
 |.d ops _ _ _ _ _=>ops
inductive Ev where
 |bad
 |val (v:AV) (h:List Zi) (c:Cd)
 |call (f:Tg) (xs:List AV) (c:Cd)
def evt (T:Tb) (o:Oper) (E:Operand→AV) (h:List Zi):Ev:=match Zdh o.op with
 |1=>(match ZoA T (fun x=>strip (E x)) h o.op with
  |some (v,h',c')=>.val v h' (gdC E o.op.operands.toList++c')
  |none=>.bad)
 |2=>(match ZhT o.op with
  |some (f,xs)=>(match ZnF (strip (E f))with
   |some (tg,a,b)=>.call tg (a++(xs.map fun x=>strip (E x))++b) (gdC E o.op.operands.toList)
   |none=>.bad)
  |none=>.bad)
 |5=>(match Zhe o.op with
  |some (a,b)=>(match Zie h (strip (E a)) (strip (E b))with
   |some (h',c')=>.val .undef h' (gdC E o.op.operands.toList++c')
   |none=>.bad)
  |none=>.bad)
 |6=>(match Zhm o.op with
  |some x=>(match ZkR (strip (E x))with
   |some id=>.call (.nxt id) [] (gdC E o.op.operands.toList)
   |none=>.bad)
  |none=>.bad)
 |_=>.bad
def YX (T:Tb) (x:Cx) (v:AV) (s:List AV) (h:List Zi) (c:Cd):Option (Hd×List AV×Cd):=match x with
 |.u ops o r=>some (.ops ops r,putO s o.dst v,c)
 |.d ops pr s0 n done q=>(match Yj T ops s0 (putO s q.o.dst v) h q.a done pr with
  |some c'=>some (.drawn ops pr s0 n (add done q.i),putO s q.o.dst v,c++c')
  |none=>none)
def Zum (ops:Array Oper):Cd:=[dd fun _=>ZnY ops=true]
def exec (T:Tb):Nat→Hd→List Item→List AV→List Zi→Cd→St
 |0,_,_,_,_,_=>.bad
 |n+1,hd,k,s,h,c=>(match hd with
  |.none=>(match k with
   |[]=>.fin .normal s h c
   |.inBlock _::k=>exec T n .none k s h c
   |.inScope _::k=>exec T n .none k s h c
   |.code x::k=>(match x with
    |.skip=>exec T n .none k s h c
    |.label _=>exec T n .none k s h c
    |.seq x y=>exec T n .none (.code x:: .code y::k) s h c
    |.cond o x y=>(match ZgN T k with
     |true=>.cut c (.cond o x y) k s h
     |false=>(match strip (ev s o)with
      |.bool b=>.br (c++JQ (ev s o)) b (.code x::k) (.code y::k) s h
      |_=>.bad))
    |.block id x=>(match ZgN T k with
     |true=>.cut c (.block id x) k s h
     |false=>exec T n .none (.code x:: .inBlock id::k) s h c)
    |.scope x=>exec T n .none (.code x:: .inScope x::k) s h c
    |.loop x=>if T.fl&&T.lp then .hand c (.code x:: .inLoop x::k) s h else .loop c x k s h
    |.exit id=>(match exitTo id k with
     |some k=>exec T n .none k s h c
     |none=>.fin (.exit id) s h c)
    |.goto l=>(match gotoIn l k with
     |some k=>if T.fl then .hand c k s h else .bad
     |none=>.bad)
    |.ret=>.fin .ret s h c
    |.region id ops d=>if Zj2 T id then .hand c (.code (.region id ops d)::k) s h else if d then exec T n (.drawn ops (Zqc ops) s (ops.size+1) 0) k s h (c++Zum ops)else exec T n (.ops ops ops.toList) k s h c
    |.rangeFunc f ps a x=>if T.rd then .bad else .cb c f ps a x k s h
    |_=>.bad)
   |.inLoop x::k=>if T.fl then .hand c (.code x:: .inLoop x::k) s h else .bad
   |_=>.bad)
  |.ops ops l=>(match l with
   |[]=>exec T n .none k (Zdc T h s) h c
   |o::r=>if Q8 o.op then(match Y9 T ops o (ev s) h with
     |some (v,c')=>exec T n (.ops ops r) k (putO s o.dst v) h (c++c')
     |none=>.bad)
    else exec T n (.gev (.u ops o r)) k s h c)
  |.drawn ops pr s0 m done=>(match m with
   |0=>.bad
   |m+1=>(match XQ T ops h pr s done c with
    |none=>.bad
    |some (s,done,c)=>if Zgq pr done then(match XT pr done with
      |[]=>if ZoT pr done then exec T n .none k (Zdc T h s) h c else .bad
      |[q]=>exec T n (.gev (.d ops pr s0 m done q)) k s h c
      |qs=>.alls c ops pr s0 m done qs k s h)
     else .bad))
  |.gev x=>if Q8 x.o.op then .bad else(match Zfz x.ops (ev s) x.o.guard with
   |none=>.bad
   |some none=>exec T n (.event x) k s h c
   |some (some g)=>.gd c g x k s h)
  |.event x=>(match evt T x.o (ev s) h with
   |.bad=>.bad
   |.val v h' c'=>(match YX T x v s h' (c++c')with
    |some (hd,s,c)=>exec T n hd k s h' c
    |none=>.bad)
   |.call f xs c'=>.call (c++c') f xs x k s h))
def den (T:Tb) (p:Unit→Program) (K:Ex→List AV→List Zi→Cd→Prop) (D:Hd→List Item→List AV→List Zi→Cd→Prop):St→Prop
 |.bad=>False
 |.fin e s h c=>K e s h c
 |.br c b k₁ k₂ s h=>chk c (Br b (fun _=>D .none k₁ s h []) (fun _=>D .none k₂ s h []))
 |.gd c g x k s h=>chk c (Br g (fun _=>D (.event x) k s h []) (fun _=>match YX T x .undef s h []with
  |some (hd,s,c)=>D hd k s h c
  |none=>False))
 |.call c f xs x k s h=>chk c (SCt p f xs h fun r h'=>match YX T x r s h' []with
  |some (hd,s,c)=>D hd k s h' c
  |none=>False)
 |.alls c ops pr s0 n done qs k s h=>chk c (Zme (fun q:Pr=>D (.gev (.d ops pr s0 n done q)) k s h []) qs)
 |.loop c x k s h=>chk c (LP T.rd p x (fun e s h=>match e with
  |.normal=>False
  |.exit id=>(match exitTo id k with
   |some k=>D .none k s h []
   |none=>K (.exit id) s h [])
  |.ret=>K .ret s h []) s h)
 |.cb c f ps a x k s h=>chk c (CB p (.rangeFunc f ps a x) (fun e s h=>match e with
  |.normal=>D .none k s h []
  |.exit id=>(match exitTo id k with
   |some k=>D .none k s h []
   |none=>K (.exit id) s h [])
  |.ret=>K .ret s h []) s h)
 |.cut c x k s h=>chk c (XP T.rd p x (fun e s h=>match e with
  |.normal=>D .none k s h []
  |.exit id=>(match exitTo id k with
   |some k=>D .none k s h []
   |none=>K (.exit id) s h [])
  |.ret=>K .ret s h []) s h)
 |.hand c k s h=>chk c (HP T.rd T.nb p k K s h)
def Dn (T:Tb) (p:Unit→Program) (K:Ex→List AV→List Zi→Cd→Prop):Nat→Hd→List Item→List AV→List Zi→Cd→Prop
 |0,_,_,_,_,_=>False
 |m+1,hd,k,s,h,c=>den T p K (Dn T p K m) (exec T 4000 hd k s h c)
section
variable {T:Tb} {p:Unit→Program}
theorem Z8 {c:Cd} {G G':Prop} (hg:G→G') (h:chk c G):chk c G':=by
 unfold chk at*
 split at h
 ·exact hg h
 ·exact⟨h.c,hg h.g⟩
theorem XN {c:Cd} {g:Option (Unit→Bool)} {A A':Cd→Prop} {B B':Unit→Prop} (ha:∀c,A c→A' c) (hb:B ()→B' ()) (h:Zca c g A B):Zca c g A' B':=by
 unfold Zca at*
 split at h
 ·exact ha _ h
 ·exact Z8 (fun h=>⟨fun e=>ha _ (h.t e),fun e=>hb (h.f e)⟩) h
theorem Zc2 {ops:Array Oper} {o:Oper} {E:Operand→AV} {h:List Zi} {c:Cd} {K K':AV→List Zi→Cd→Prop} (hk:∀v h c,K v h c→K' v h c) (hW:Wop T p ops o E h c K):Wop T p ops o E h c K':=by
 unfold Wop at*
 split at hW
 ·split at hW
  ·exact hW
  ·refine XN (fun c h=>?_) (fun h=>hk _ _ _ h) hW
   split at h
   ·exact hk _ _ _ h
   ·exact h
 ·split at hW
  ·exact hW
  ·refine XN (fun c h=>?_) (fun h=>hk _ _ _ h) hW
   split at h
   ·split at h
    ·exact Z8 (fun h=>h.mono fun r h' hr=>hk _ _ _ hr) h
    ·exact h
   ·exact h
 ·split at hW
  ·exact hW
  ·refine XN (fun c h=>?_) (fun h=>hk _ _ _ h) hW
   split at h
   ·split at h
    ·exact hk _ _ _ h
    ·exact h
   ·exact h
 ·split at hW
  ·exact hW
  ·refine XN (fun c h=>?_) (fun h=>hk _ _ _ h) hW
   split at h
   ·split at h
    ·exact Z8 (fun h=>h.mono fun r h' hr=>hk _ _ _ hr) h
    ·exact h
   ·exact h
 ·split at hW
  ·exact hk _ _ _ hW
  ·exact hW
theorem Zb1 {ops:Array Oper} {K K':List AV→List Zi→Cd→Prop} (hk:∀s h c,K s h c→K' s h c):∀ {l:List Oper} {s:List AV} {h:List Zi} {c:Cd},ZhZ T p ops l s h c K→ZhZ T p ops l s h c K'
 |[],_,_,_,h=>hk _ _ _ h
 |_::_,_,_,_,h=>Zc2 (fun _ _ _ h=>Zb1 hk h) h
theorem ZfW {ops:Array Oper} {pr:List Pr} {s0:List AV} {K K':List AV→List Zi→Cd→Prop} {n done:Nat} {s:List AV} {q:Pr} (ih:∀done s h c,WD T p ops pr s0 K n done s h c→WD T p ops pr s0 K' n done s h c) (v:AV) (h:List Zi) (c:Cd)
  (hk:WDk T p ops pr s0 K n done s q v h c):WDk T p ops pr s0 K' n done s q v h c:=by
 unfold WDk at*
 split at hk
 ·exact ih _ _ _ _ hk
 ·exact hk
theorem Zb4 {α:Type} {f g:α→Prop} (h:∀a,f a→g a):∀ {l:List α},Zme f l→Zme g l
 |[],_=>trivial
 |[a],hh=>h a hh
 |_::_::_,hh=>⟨h _ hh.l,Zb4 h hh.r⟩
theorem ZeE {ops:Array Oper} {pr:List Pr} {s0:List AV} {K K':List AV→List Zi→Cd→Prop} (hk:∀s h c,K s h c→K' s h c):∀(n done:Nat) (s:List AV) (h:List Zi) (c:Cd),WD T p ops pr s0 K n done s h c→WD T p ops pr s0 K' n done s h c
 |0,_,_,_,_,hW=>by simp only[WD]at hW
 |n+1,done,s,h,c,hW=>by
  have ih:=ZeE (ops:=ops) (pr:=pr) (s0:=s0) hk n
  simp only[WD]at hW⊢
  split at hW
  ·exact hW
  rename_i s1 done1 c1 hf
  split at hW
  case isFalse=>exact hW.elim
  rename_i hsat
  rw[if_pos hsat]
  split at hW
  ·rename_i hr
   split at hW
   ·rename_i ha
    rw[if_pos ha]
    exact hk _ _ _ hW
   ·exact hW.elim
  ·exact Zc2 (fun v h c hh=>ZfW ih v h c hh) hW
  ·exact Z8 (fun h=>Zb4 (fun q hh=>Zc2 (fun v h c hh=>ZfW ih v h c hh) hh) h) hW
theorem CB.mono {x:Code} {Q Q':Ex→List AV→List Zi→Prop} {s:List AV} {h:List Zi} (H:CB p x Q s h) (hq:∀e s h,Q e s h→Q' e s h):CB p x Q' s h:=⟨fun R₀ h₀=>(H.run R₀ h₀).mono hq⟩
theorem ZoZ {K:Ex→List AV→List Zi→Cd→Prop}:∀(n:Nat) (k:List Item) (s:List AV) (h:List Zi) (c:Cd),W T p K n k s h c→W T p K (n+1) k s h c
 |0,_,_,_,_,hW=>by simp only[W]at hW
 |n+1,k,s,h,c,hW=>by
  have ih:=ZoZ (K:=K) n
  have hexit:∀(id:Nat) (k:List Item) (s:List AV) (h:List Zi) (c:Cd),(match exitTo id k with
    |some k=>W T p K n k s h c
    |none=>K (.exit id) s h c)→(match exitTo id k with
    |some k=>W T p K (n+1) k s h c
    |none=>K (.exit id) s h c):=fun id k s h c hh=>by
   split at hh
   ·exact ih _ _ _ _ hh
   ·exact hh
  unfold W at hW⊢
  split at hW
  ·exact hW
  ·exact ih _ _ _ _ hW
  ·exact ih _ _ _ _ hW
  ·split at hW
   ·exact ih _ _ _ _ hW
   ·exact ih _ _ _ _ hW
   ·exact ih _ _ _ _ hW
   ·split at hW
    ·rename_i hc
     rw[if_pos hc]
     refine Z8 (fun h=>h.mono fun e s h hq=>?_) hW
     cases e with
     |normal=>exact ih _ _ _ _ hq
     |exit id=>exact hexit _ _ _ _ _ hq
     |ret=>exact hq
    rename_i hc
    rw[if_neg hc]
    split at hW
    ·exact Z8 (fun h=>⟨fun e=>ih _ _ _ _ (h.t e),fun e=>ih _ _ _ _ (h.f e)⟩) hW
    ·exact hW
   ·split at hW
    ·rename_i hc
     rw[if_pos hc]
     refine Z8 (fun h=>h.mono fun e s h hq=>?_) hW
     cases e with
     |normal=>exact ih _ _ _ _ hq
     |exit id=>exact hexit _ _ _ _ _ hq
     |ret=>exact hq
    rename_i hc
    rw[if_neg hc]
    exact ih _ _ _ _ hW
   ·exact ih _ _ _ _ hW
   ·split at hW
    ·rename_i hc
     rw[if_pos hc]
     exact hW
    rename_i hc
    rw[if_neg hc]
    refine Z8 (fun h=>h.mono fun e s h hq=>?_) hW
    cases e with
    |normal=>exact hq
    |exit id=>exact hexit _ _ _ _ _ hq
    |ret=>exact hq
   ·exact hexit _ _ _ _ _ hW
   ·exact hW
   ·exact hW
   ·rename_i d
    split at hW
    ·rename_i hc
     rw[if_pos hc]
     exact hW
    rename_i hc
    rw[if_neg hc]
    cases d with
    |false=>exact Zb1 (fun s h c hh=>ih _ _ _ _ hh) hW
    |true=>exact ZeE (fun s h c hh=>ih _ _ _ _ hh) _ _ _ _ _ hW
   ·split at hW
    ·exact hW.elim
    rename_i hrd
    rw[if_neg hrd]
    refine Z8 (fun h=>h.mono fun e s h hq=>?_) hW
    cases e with
    |normal=>exact ih _ _ _ _ hq
    |exit id=>exact hexit _ _ _ _ _ hq
    |ret=>exact hq
   ·exact hW
  ·exact hW
  ·exact hW
theorem Zjf {K:Ex→List AV→List Zi→Cd→Prop} {n m:Nat} (hle:n≤m) {k:List Item} {s:List AV} {h:List Zi} {c:Cd} (hW:W T p K n k s h c):W T p K m k s h c:=by
 induction hle with
 |refl=>exact hW
 |step _ ih=>exact ZoZ _ _ _ _ _ ih
def Zh1 (T:Tb) (p:Unit→Program) (o:Oper) (E:Operand→AV) (h:List Zi) (c:Cd) (K:AV→List Zi→Cd→Prop):Prop:=match evt T o E h with
 |.bad=>False
 |.val v h' c'=>K v h' (c++c')
 |.call f xs c'=>chk (c++c') (SCt p f xs h fun r h'=>K r h' [])
theorem ZoY {ops:Array Oper} {o:Oper} {E:Operand→AV} {h:List Zi} {c:Cd} {K:AV→List Zi→Cd→Prop} (hf:Q8 o.op=false) {g:Option (Unit→Bool)} (hg:Zfz ops E o.guard=some g)
  (hW:Zca c g (fun c=>Zh1 T p o E h c K) (fun _=>K .undef h [])):Wop T p ops o E h c K:=by
 unfold Wop
 have hu:∀c,Zh1 T p o E h c K→∀n,Zdh o.op=n→_:=fun c hh n hn=>by
  unfold Zh1 evt at hh
  rw[hn]at hh
  exact hh
 unfold Q8 at hf
 split at hf
 ·rename_i hk
  simp only[hg]
  refine XN (fun c h=>?_) (fun h=>h) hW
  have:=hu c h _ hk
  simp only at this
  cases he:ZoA T (fun x=>strip (E x)) _ o.op with
  |none=>simp only[he]at this
  |some r=>simp only[he]at this⊢;exact this
 ·rename_i hk
  simp only[hg]
  refine XN (fun c h=>?_) (fun h=>h) hW
  have:=hu c h _ hk
  simp only at this
  cases he:ZhT o.op with
  |none=>simp only[he]at this
  |some r=>
   obtain⟨f,xs⟩:=r
   simp only[he]at this⊢
   cases hs:strip (E f)<;>simp only[hs]at this⊢<;>exact this
 ·rename_i hk
  simp only[hg]
  refine XN (fun c h=>?_) (fun h=>h) hW
  have:=hu c h _ hk
  simp only at this
  cases he:Zhe o.op with
  |none=>simp only[he]at this
  |some r=>
   obtain⟨a,b⟩:=r
   simp only[he]at this⊢
   cases hs:Zie _ (strip (E a)) (strip (E b))<;>simp only[hs]at this⊢<;>exact this
 ·rename_i hk
  simp only[hg]
  refine XN (fun c h=>?_) (fun h=>h) hW
  have:=hu c h _ hk
  simp only at this
  cases he:Zhm o.op with
  |none=>simp only[he]at this
  |some x=>
   simp only[he]at this⊢
   cases hs:ZkR (strip (E x))<;>simp only[hs]at this⊢<;>exact this
 ·cases hf
end
end Go.Proofs.YtjgpiclllehgmaaGreat.Vm
namespace Go.Proofs.YtjgpiclllehgmaaGreat.Vm
open Go Go.Proofs.YtjgpiclllehgmaaGreat.Conc1
def ZqS (R:RC) (n k:Nat):Prop:=∀id,n≤id→id<n+k→id<R.m∧R.hw id=0∧R.hv id= .slice none 0 0
structure ZD (n k:Nat) (a b:AV):Prop where
 f:∀(R:RC) (v:Value),ZqS R n k→VR R a v→VR R b v
def To (s:List AV) (h:List Zi) (s₂:List AV) (h₂:List Zi):Prop:=∀(G:Nat→Nat→Nat→Prop) (R:RC) (t:Array Value),HR G R h→SL R s t→∃R',R'.w=R.w∧HR G R' h₂∧Xf R h R' h₂∧R.le R'∧SL R' s₂ t
theorem To.trans {s₁ s₂ s₃:List AV} {h₁ h₂ h₃:List Zi} (a:To s₁ h₁ s₂ h₂) (b:To s₂ h₂ s₃ h₃):To s₁ h₁ s₃ h₃:=fun G R t H hs=>by
 obtain⟨R',a1,a2,a3,a4,a5⟩:=a G R t H hs
 obtain⟨R'',b1,b2,b3,b4,b5⟩:=b G R' t a2 a5
 exact⟨R'',b1.trans a1,b2,a3.trans b3,a4.trans b4,b5⟩
def ZbF (n k:Nat):List AV→List AV→Prop
 |[],[]=>True
 |a::r,b::s=>(match b with
  |.undef=>ZbF n k r s
  |b=>ZD n k a b∧ZbF n k r s)
 |_,_=>False
theorem ZbF.cons {n k:Nat} {a b:AV} {r s:List AV} (h:ZbF n k (a::r) (b::s)):ZD n k a b∧ZbF n k r s:=by
 unfold ZbF at h
 split at h
 ·exact⟨⟨fun _ _ _ _=>.undef _⟩,h⟩
 ·exact h
theorem ZbF.len {n k:Nat}:∀ {s s₂:List AV},ZbF n k s s₂→s.length=s₂.length
 |[],[],_=>rfl
 |_::_,_::_,h=>by simp[ZbF.len h.cons.2]
 |[],_::_,h=>h.elim
 |_::_,[],h=>h.elim
theorem ZbF.get {n k:Nat}:∀ {s s₂:List AV},ZbF n k s s₂→∀ {i:Nat} {b:AV},s₂[i]? =some b→∃a,s[i]? =some a∧ZD n k a b
 |[],[],_,i,b,h=>by simp at h
 |a::_,b::_,h,0,c,hc=>by
  simp only[List.getElem?_cons_zero,Option.some.injEq]at hc
  subst hc
  exact⟨a,rfl,h.cons.1⟩
 |_::_,_::_,h,i+1,c,hc=>ZbF.get h.cons.2 hc
 |[],_::_,h,_,_,_=>h.elim
 |_::_,[],h,_,_,_=>h.elim
structure ZL (n k:Nat) (a b:Zi):Prop where
 br:∀(R:RC) (id:Nat),ZqS R n k→BR R id a→BR R id b
 ph:∀(R:RC) (id x:Nat),ZG R id a x↔ZG R id b x
 av:∀(R:RC) (id x o m:Nat),Qo R id a x o m↔Qo R id b x o m
 tk:Zb5 a=Zb5 b
def ZdQ (n k:Nat):List Zi→List Zi→Prop
 |[],[]=>True
 |a::r,b::s=>ZL n k a b∧ZdQ n k r s
 |_,_=>False
theorem ZdQ.len {n k:Nat}:∀ {s s₂:List Zi},ZdQ n k s s₂→s.length=s₂.length
 |[],[],_=>rfl
 |_::_,_::_,h=>by simp[ZdQ.len h.2]
 |[],_::_,h=>h.elim
 |_::_,[],h=>h.elim
theorem ZdQ.get {n k:Nat}:∀ {s s₂:List Zi},ZdQ n k s s₂→∀ {i:Nat} {b:Zi},s₂[i]? =some b→∃a,s[i]? =some a∧ZL n k a b
 |[],[],_,i,b,h=>by simp at h
 |a::_,b::_,h,0,c,hc=>by
  simp only[List.getElem?_cons_zero,Option.some.injEq]at hc
  subst hc
  exact⟨a,rfl,h.1⟩
 |_::_,_::_,h,i+1,c,hc=>ZdQ.get h.2 hc
 |[],_::_,h,_,_,_=>h.elim
 |_::_,[],h,_,_,_=>h.elim
theorem ZdQ.get' {n k:Nat}:∀ {s s₂:List Zi},ZdQ n k s s₂→∀ {i:Nat} {a:Zi},s[i]? =some a→∃b,s₂[i]? =some b∧ZL n k a b
 |[],[],_,i,b,h=>by simp at h
 |a::_,b::_,h,0,c,hc=>by
  simp only[List.getElem?_cons_zero,Option.some.injEq]at hc
  subst hc
  exact⟨b,rfl,h.1⟩
 |_::_,_::_,h,i+1,c,hc=>ZdQ.get' h.2 hc
 |[],_::_,h,_,_,_=>h.elim
 |_::_,[],h,_,_,_=>h.elim
theorem HR.wk {G:Nat→Nat→Nat→Prop} {R:RC} {h h₂:List Zi} {n k:Nat} (H:HR G R h) (hN:ZqS R n k) (hb:ZdQ n k h h₂):HR G R h₂:=by
 refine⟨hb.len▸H.len,fun b o m=>?_,fun id x hx=>?_,fun i j bi bj b hij hi hj hp hp'=>?_,H.cl,H.fresh,fun id x b hx hk hp o m=>?_,H.n0m⟩
 ·rw[H.okd]
  refine and_congr_right fun _=>and_congr_right fun _=>⟨fun ha id x hx=>?_,fun ha id x hx=>?_⟩
  ·obtain⟨a,h1,h2⟩:=hb.get hx
   exact(h2.av R id b o m).1 (ha id a h1)
  ·obtain⟨a,h1,h2⟩:=hb.get' hx
   exact(h2.av R id b o m).2 (ha id a h1)
 ·obtain⟨a,h1,h2⟩:=hb.get hx
  exact h2.br R id hN (H.blk id a h1)
 ·obtain⟨a,h1,h2⟩:=hb.get hi
  obtain⟨a',h1',h2'⟩:=hb.get hj
  exact H.dis i j a a' b hij h1 h1' ((h2.ph R i b).2 hp) ((h2'.ph R j b).2 hp')
 ·obtain⟨a,h1,h2⟩:=hb.get hx
  exact H.tokG id a b h1 (by rw[h2.tk];exact hk) ((h2.ph R id b).2 hp) o m
theorem Xf.wk {R R':RC} {h h' h₂:List Zi} {n k:Nat} (hx:Xf R h R' h') (hb:ZdQ n k h' h₂):Xf R h R' h₂:=
 ⟨hx.n0,hx.os,hx.tape,hx.output,hx.size,hx.m,hx.α,hx.ok,hx.keep,hx.frame,fun id x b hi hp=>by
  obtain⟨a,h1,h2⟩:=hb.get hi
  exact hx.own id a b h1 ((h2.ph R' id b).2 hp)⟩
def ghosts:List (Nat×Bool)→List Zi
 |[]=>[]
 |(s,true)::r=>.gar s (fun _=>0) (fun _=>[])::ghosts r
 |(s,false)::r=>.tok s (fun _=>0)::ghosts r
theorem HR.ghost {G:Nat→Nat→Nat→Prop} {R:RC} {h:List Zi} (H:HR G R h) (s:Nat) (g:Bool):
  ∃R',R'.w=R.w∧HR G R' (h++ghosts [(s,g)])∧Xf R h R' (h++ghosts [(s,g)])∧R.le R'∧R'.m=R.m+1∧R'.hw R.m=0∧R'.hv R.m= .slice none 0 0:=by
 have key:∀blk,(blk= .gar s (fun _=>0) (fun _=>[])∨blk= .tok s (fun _=>0))→∃R',R'.w=R.w∧HR G R' (h++[blk])∧Xf R h R' (h++[blk])∧R.le R'∧R'.m=R.m+1∧R'.hw R.m=0∧R'.hv R.m= .slice none 0 0:=by
  intro blk hblk
  have hset:∀i x,(h++[blk])[i]? =some x→(i=R.m∧x=blk)∨(i≠R.m∧h[i]? =some x):=fun i x hx=>by
   rcases QD hx with hx|⟨rfl,rfl⟩
   ·exact .inr ⟨fun e=>by have:=(List.getElem?_eq_some_iff.1 hx).1;rw[H.len]at this;omega,hx⟩
   ·exact .inl ⟨H.len,rfl⟩
  have hnop:∀R':RC,R'.hv R.m= .slice none 0 0→∀b,¬ZG R' R.m blk b:=fun R' hv b hp=>by
   rcases hblk with rfl|rfl
   ·obtain⟨a,n,c,h1,_⟩:=hp;rw[hv]at h1;cases h1
   ·obtain⟨a,n,c,h1,_⟩:=hp;rw[hv]at h1;cases h1
  obtain⟨R',a1,a2,a3,a4,a5,a6,a7,_⟩:=H.room R.m (R.m+1) blk 0 (.slice none 0 0) R.w (h++[blk]) (by rw[List.length_append,H.len];rfl) (Nat.le_succ _) hset (fun hi=>absurd hi (Nat.lt_irrefl _)) (fun _=>False)
   (fun b=>⟨fun h=>h.elim,fun h=>absurd h.1 (Nat.lt_irrefl _)⟩) rfl rfl rfl (Nat.le_refl _) (fun _ _ _=>rfl) (fun _ _ _ _ _ _=>rfl)
   (fun R' _ _ hwi hvi _=>by
    rcases hblk with rfl|rfl
    ·first|exact⟨hwi,.inl ⟨rfl,hvi⟩⟩|exact⟨hwi,.inl ⟨rfl,none,hvi⟩⟩
    ·first|exact⟨hwi,.inl ⟨rfl,hvi⟩⟩|exact⟨hwi,.inl ⟨rfl,none,hvi⟩⟩)
   (fun R' hv _ b hp=>absurd hp (hnop R' hv b))
   (fun R' hv b o n _=>by
    rcases hblk with rfl|rfl
    ·exact hnop R' hv b
    ·exact fun a len cap h1=>by rw[hv]at h1;cases h1)
   (by rcases hblk with rfl|rfl<;>rfl)
  exact⟨R',a1,a5,a6,a7,a2,a4,a3⟩
 cases g with
 |true=>exact key _ (.inl rfl)
 |false=>exact key _ (.inr rfl)
theorem HR.ghosts {G:Nat→Nat→Nat→Prop}:∀(l:List (Nat×Bool)) {R:RC} {h:List Zi},HR G R h→
  ∃R',R'.w=R.w∧HR G R' (h++Vm.ghosts l)∧Xf R h R' (h++Vm.ghosts l)∧R.le R'∧R'.m=R.m+l.length∧ZqS R' R.m l.length
 |[],R,h,H=>⟨R,rfl,by simpa [Vm.ghosts]using H,by simpa [Vm.ghosts]using Xf.refl R h,RC.le.refl _,rfl,fun id h1 h2=>by simp at h2;omega⟩
 |(s,g)::l,R,h,H=>by
  obtain⟨R',a1,a2,a3,a4,a5,a6,a7⟩:=H.ghost s g
  obtain⟨R'',b1,b2,b3,b4,b5,b6⟩:=HR.ghosts l a2
  have e:h++Vm.ghosts [(s,g)]++Vm.ghosts l=h++Vm.ghosts ((s,g)::l):=by
   cases g<;>simp[Vm.ghosts]
  rw[e]at b2 b3
  refine⟨R'',b1.trans a1,b2,a3.trans b3,a4.trans b4,by rw[b5,a5,List.length_cons];omega,fun id h1 h2=>?_⟩
  rw[List.length_cons]at h2
  by_cases he:id=R.m
  ·subst he
   obtain⟨t1,t2⟩:=b4.tk R.m (by omega)
   obtain⟨_,c2,c3⟩:R.m<R''.m∧True∧True:=⟨by omega,trivial,trivial⟩
   have hb:=b2.blk R.m
   have hget:∃blk,(h++Vm.ghosts ((s,g)::l))[R.m]? =some blk∧(blk= .gar s (fun _=>0) (fun _=>[])∨blk= .tok s (fun _=>0)):=by
    rw[List.getElem?_append_right (by rw[H.len];exact Nat.le_refl _),H.len,Nat.sub_self]
    cases g
    ·exact⟨_,rfl,.inr rfl⟩
    ·exact⟨_,rfl,.inl rfl⟩
   obtain⟨blk,hg1,hg2⟩:=hget
   have hbr:=hb blk hg1
   have hw0:R''.hw R.m=0:=by
    rcases hg2 with rfl|rfl
    ·exact hbr.1
    ·exact hbr.1
   exact⟨by omega,hw0,by rw[t2 (by rw[a6,hw0])];exact a7⟩
  ·exact b6 id (by omega) (by omega)
theorem To.of (gs:List (Nat×Bool)) {s s₂:List AV} {h h₂:List Zi} (hsb:ZbF h.length gs.length s s₂∧ZdQ h.length gs.length (h++ghosts gs) h₂):To s h s₂ h₂:=fun G R t H hsl=>by
 obtain⟨hs,hb⟩:=hsb
 obtain⟨R',a1,a2,a3,a4,a5,a6⟩:=HR.ghosts gs H
 rw[←H.len]at a6
 refine⟨R',a1,a2.wk a6 hb,a3.wk hb,a4,by rw[←hs.len];exact hsl.1,fun i b hi=>?_⟩
 obtain⟨a,h1,h2⟩:=hs.get hi
 exact h2.f R' _ a6 ((hsl.2 i a h1).mono a4)
section
variable {P:Program} {rd:Bool} {R₀:RC} {h₀:List Zi}
theorem CI.to {pre:List Item} {K:Ex→List AV→List Zi→Prop} {s s₂:List AV} {h h₂:List Zi} (hto:To s h s₂ h₂) (H:CI P rd R₀ h₀ pre K s₂ h₂):CI P rd R₀ h₀ pre K s h:=fun R t hi hs b ds k cs hd=>by
 obtain⟨R',a1,a2,a3,a4,a5⟩:=hto _ R t hi.hr hs
 obtain⟨e,s',h',R'',t',ds',b1,b2,b5,b6,b7,b8⟩:=H R' t (hi.step a2 a3 a4) a5 b ds k cs (by rw[a1];exact hd)
 exact⟨e,s',h',R'',t',ds',b1,b2,b5,b6,b7,by rw[a1]at b8;exact ZsN a4 b8⟩
end
section
variable {T:Tb} {p:Unit→Program}
theorem LP.to {rd:Bool} {x:Code} {Q:Ex→List AV→List Zi→Prop} {s s₂:List AV} {h h₂:List Zi} (hto:To s h s₂ h₂) (H:LP rd p x Q s₂ h₂):LP rd p x Q s h:=⟨fun R₀ h₀=>CI.to hto (H.run R₀ h₀)⟩
def Zbp (L:List Nat):Nat→List AV→List AV
 |_,[]=>[]
 |i,a::r=>(if L.any (ZC i)then a else .undef)::Zbp L (i+1) r
def keep (L:List Nat) (s:List AV):List AV:=Zbp L 0 s
theorem Zfr {L:List Nat}:∀ {s:List AV} {i j:Nat} {a:AV},(Zbp L i s)[j]? =some a→a= .undef∨s[j]? =some a
 |[],_,_,_,h=>by simp[Zbp]at h
 |x::r,i,0,a,h=>by
  simp only[Zbp,List.getElem?_cons_zero,Option.some.injEq]at h
  subst h
  split
  ·exact .inr rfl
  ·exact .inl rfl
 |x::r,i,j+1,a,h=>by
  simp only[Zbp,List.getElem?_cons_succ]at h
  simpa using Zfr h
theorem Zch {L:List Nat}:∀ {s:List AV} {i:Nat},(Zbp L i s).length=s.length
 |[],_=>rfl
 |x::r,i=>by simp[Zbp,Zch]
theorem SL.keep {R:RC} {s:List AV} {t:Array Value} (hs:SL R s t) (L:List Nat):SL R (Vm.keep L s) t:=
 ⟨by rw[Vm.keep,Zch];exact hs.1,fun i a h=>by
  rcases Zfr h with rfl|h
  ·exact .undef _
  ·exact hs.2 i a h⟩
theorem To.keep (L:List Nat) (s:List AV) (h:List Zi):To s h (Vm.keep L s) h:=fun _ R _ H hs=>⟨R,rfl,H,Xf.refl _ _,RC.le.refl _,hs.keep L⟩
def trimS (n:Nat) (h:List Zi) (s:List AV):List AV:=s.map (Qs true (List.range n) h 5)
theorem SL.trimS {R R':RC} {s:List AV} {t:Array Value} {n:Nat} {h:List Zi} (hs:SL R s t) (htell:∀k a v,VR R a v→VR R' (Qs true (List.range n) h k a) v):SL R' (Vm.trimS n h s) t:=
 ⟨by rw[Vm.trimS,List.length_map];exact hs.1,fun i a hi=>by
  rw[Vm.trimS,List.getElem?_map,Option.map_eq_some_iff]at hi
  obtain⟨x,hx,rfl⟩:=hi
  exact htell 5 x _ (hs.2 i x hx)⟩
structure Zr4 {ι:Type} (st:ι→List AV) (hp:ι→List Zi) (inv:ι→Prop) (μ:ι→Nat) (i:ι) (s:List AV) (h:List Zi):Prop where
 ex:∃j,inv j∧μ j<μ i∧To s h (st j) (hp j)
def Zfu {ι:Type} (L:List Nat) (st:ι→List AV) (hp:ι→List Zi) (inv:ι→Prop) (μ:ι→Nat) (i:ι) (n:Nat) (Q:Ex→List AV→List Zi→Prop) (e:Ex) (s:List AV) (h:List Zi) (c:Cd):Prop:=match e with
 |.normal=>(match Z4 n h.length with
  |true=>chk c (Zr4 st hp inv μ i (trimS n h (keep L s)) (sel true (List.range n) h))
  |false=>False)
 |.exit id=>chk c (Q (.exit id) s h)
 |.ret=>chk c (Q .ret s h)
theorem Zbq {ι:Type} {L:List Nat} {st:ι→List AV} {hp:ι→List Zi} {inv:ι→Prop} {μ:ι→Nat} {i:ι} {n:Nat} {Q:Ex→List AV→List Zi→Prop} {s:List AV} {h:List Zi} {c:Cd} (hk:Zfu L st hp inv μ i n Q .normal s h c):n≤h.length∧chk c (Zr4 st hp inv μ i (trimS n h (keep L s)) (sel true (List.range n) h)):=by
 simp only[Zfu]at hk
 split at hk
 ·rename_i hn
  exact⟨Xc hn,hk⟩
 ·exact hk.elim
theorem ZgE {ι:Type} {L:List Nat} {st:ι→List AV} {hp:ι→List Zi} {inv:ι→Prop} {μ:ι→Nat} {i:ι} {n:Nat} {Q:Ex→List AV→List Zi→Prop} {e:Ex} {s:List AV} {h:List Zi} {c:Cd} (hk:Zfu L st hp inv μ i n Q e s h c):ZN c:=by
 cases e with
 |normal=>exact(Z1 (Zbq hk).2).1
 |exit id=>exact(Z1 hk).1
 |ret=>exact(Z1 hk).1
theorem LP.ind (hT:T.Of (p ())) (hm:(p ()).follows .mixedOrders=true) (hfl:T.fl=false) {x:Code} {Q:Ex→List AV→List Zi→Prop} {s:List AV} {h:List Zi} {ι:Type} (L:List Nat) (st:ι→List AV) (hp:ι→List Zi) (inv:ι→Prop) (μ:ι→Nat) (i:ι) (n:Nat)
  (hn:∀i,(hp i).length=n) (hi:inv i) (hto:To (Vm.keep L s) h (st i) (hp i)) {m:Nat} (step:∀i,inv i→W T p (Zfu L st hp inv μ i n Q) m [.code x] (st i) (hp i) []):LP T.rd p x Q s h:=by
 refine LP.to ((To.keep L s h).trans hto) ?_
 have key:∀n i,μ i≤n→inv i→LP T.rd p x Q (st i) (hp i):=by
  intro n'
  induction n' with
  |zero=>
   intro i hmu hi
   refine⟨fun R₀ h₀ R t hI hs b ds k cs hd=>?_⟩
   obtain⟨e,s',h',R',t',ds',⟨c,b1⟩,b2,b5,b6,b7,b8⟩:=(Zkw (R₀:=R₀) (h₀:=h₀) hT hm (fun h=>by rw[hfl]at h;cases h) (fun e s h c hk=>ZgE hk) m _ _ _ [] (step i hi)).2 R t hI hs b ds (.inLoop x::k) cs hd
   cases e with
   |normal=>
    obtain⟨_,b1⟩:=Zbq b1
    obtain⟨j,_,hj,_⟩:=(Z1 b1).2.ex
    omega
   |exit id=>exact⟨.exit id,s',h',R',t',ds',⟨fun h=>(by cases h),(Z1 b1).2⟩,b2,b5,b6,b7,by
     have:=Arr.pass (x:=.inLoop x) (fun _ _=>rfl) (fun h=>(by cases h)) b8
     exact this⟩
   |ret=>exact⟨.ret,s',h',R',t',ds',⟨fun h=>(by cases h),(Z1 b1).2⟩,b2,b5,b6,b7,b8⟩
  |succ n' ih=>
   intro i hmu hi
   refine⟨fun R₀ h₀ R t hI hs b ds k cs hd=>?_⟩
   obtain⟨e,s',h',R',t',ds',⟨c,b1⟩,b2,b5,b6,b7,b8⟩:=(Zkw (R₀:=R₀) (h₀:=h₀) hT hm (fun h=>by rw[hfl]at h;cases h) (fun e s h c hk=>ZgE hk) m _ _ _ [] (step i hi)).2 R t hI hs b ds (.inLoop x::k) cs hd
   cases e with
   |normal=>
    obtain⟨hnl,b1⟩:=Zbq b1
    obtain⟨j,hj1,hj2,hj3⟩:=(Z1 b1).2.ex
    obtain⟨R2,c1,c2,c5⟩:=b2.trimN n (by rw[←hI.ext.n0,←hn i,hI.hr.len];exact hI.hr.n0m) hnl
    obtain⟨R3,d1,d2,d3,d4,d5⟩:=hj3 _ R2 t' c2.hr ((b5.keep L).trimS c5)
    obtain⟨e,s'',h'',R'',t'',ds'',f1,f2,f5,f6,f7,f8⟩:=(ih j (by omega) hj1).run R₀ h₀ R3 t' (c2.step d2 d3 d4) d5 b ds' k cs (by rw[d1,c1];exact b6)
    rw[d1,c1]at f8
    exact⟨e,s'',h'',R'',t'',ds'',f1,f2,f5,f6,fun hr=>(f7 hr).trans (b7 hr),Arr.of_steps (Steps.trans b8 (.one Zgn)) (ZfR hI (c2.step d2 d3 d4) f8)⟩
   |exit id=>exact⟨.exit id,s',h',R',t',ds',⟨fun h=>(by cases h),(Z1 b1).2⟩,b2,b5,b6,b7,Arr.pass (x:=.inLoop x) (fun _ _=>rfl) (fun h=>(by cases h)) b8⟩
   |ret=>exact⟨.ret,s',h',R',t',ds',⟨fun h=>(by cases h),(Z1 b1).2⟩,b2,b5,b6,b7,b8⟩
 exact key (μ i) i (Nat.le_refl _) hi
structure Zub {ι:Type} (st:ι→List AV) (hp:ι→List Zi) (inv:ι→Prop) (s:List AV) (h:List Zi):Prop where
 ex:∃j,inv j∧To s h (st j) (hp j)
def Zkk {ι:Type} (L:List Nat) (st:ι→List AV) (hp:ι→List Zi) (inv:ι→Prop) (n:Nat) (Q:Ex→List AV→List Zi→Prop) (e:Ex) (s:List AV) (h:List Zi) (c:Cd):Prop:=match e with
 |.normal=>(match Z4 n h.length with
  |true=>chk c (Zub st hp inv (trimS n h (keep L s)) (sel true (List.range n) h))
  |false=>False)
 |.exit id=>chk c (Q (.exit id) s h)
 |.ret=>chk c (Q .ret s h)
theorem Zef {ι:Type} {L:List Nat} {st:ι→List AV} {hp:ι→List Zi} {inv:ι→Prop} {n:Nat} {Q:Ex→List AV→List Zi→Prop} {s:List AV} {h:List Zi} {c:Cd} (hk:Zkk L st hp inv n Q .normal s h c):n≤h.length∧chk c (Zub st hp inv (trimS n h (keep L s)) (sel true (List.range n) h)):=by
 simp only[Zkk]at hk
 split at hk
 ·rename_i hn
  exact⟨Xc hn,hk⟩
 ·exact hk.elim
theorem ZlU {ι:Type} {L:List Nat} {st:ι→List AV} {hp:ι→List Zi} {inv:ι→Prop} {n:Nat} {Q:Ex→List AV→List Zi→Prop} {e:Ex} {s:List AV} {h:List Zi} {c:Cd} (hk:Zkk L st hp inv n Q e s h c):ZN c:=by
 cases e with
 |normal=>exact(Z1 (Zef hk).2).1
 |exit id=>exact(Z1 hk).1
 |ret=>exact(Z1 hk).1
theorem XP.by (hT:T.Of (p ())) (hm:(p ()).follows .mixedOrders=true) (hfl:T.fl=false) {x:Code} {Q:Ex→List AV→List Zi→Prop} {s:List AV} {h:List Zi} {ι:Type} (L:List Nat) (st:ι→List AV) (hp:ι→List Zi) (inv:ι→Prop)
  {m:Nat} (step:W T p (Zkk L st hp inv h.length Q) m [.code x] s h []) (rest:∀i,inv i→Q .normal (st i) (hp i)):XP T.rd p x Q s h:=by
 refine⟨fun R₀ h₀ R t hI hs b ds k cs hd=>?_⟩
 obtain⟨e,s',h',R',t',ds',⟨c,b1⟩,b2,b5,b6,b7,b8⟩:=(Zkw (R₀:=R₀) (h₀:=h₀) hT hm (fun h=>by rw[hfl]at h;cases h) (fun e s h c hk=>ZlU hk) m _ _ _ [] step).2 R t hI hs b ds k cs hd
 cases e with
 |normal=>
  obtain⟨hnl,b1⟩:=Zef b1
  obtain⟨j,hj1,hj3⟩:=(Z1 b1).2.ex
  obtain⟨R2,c1,c2,c5⟩:=b2.trimN h.length (by rw[←hI.ext.n0,hI.hr.len];exact hI.hr.n0m) hnl
  obtain⟨R3,d1,d2,d3,d4,d5⟩:=hj3 _ R2 t' c2.hr ((b5.keep L).trimS c5)
  refine⟨.normal,st j,hp j,R3,t',ds',rest j hj1,c2.step d2 d3 d4,d5,by rw[d1,c1];exact b6,b7,by rw[d1,c1];exact b8⟩
 |exit id=>exact⟨.exit id,s',h',R',t',ds',(Z1 b1).2,b2,b5,b6,b7,b8⟩
 |ret=>exact⟨.ret,s',h',R',t',ds',(Z1 b1).2,b2,b5,b6,b7,b8⟩
theorem HP.cut {rd:Bool} {nb:Nat} {K:Ex→List AV→List Zi→Cd→Prop} {k:List Item} {s s₂:List AV} {h h₂:List Zi} (L:List Nat) (n:Nat) (hn:n≤h.length) (h0:nb≤n) (hto:To (trimS n h (Vm.keep L s)) (Vm.sel true (List.range n) h) s₂ h₂) (H:HP rd nb p k K s₂ h₂):HP rd nb p k K s h:=by
 refine⟨fun hK R₀ h₀ hnb R t hI hs b ds k' cs hd=>?_⟩
 obtain⟨R2,c1,c2,c5⟩:=hI.trimN n (Nat.le_trans hnb h0) hn
 obtain⟨R3,d1,d2,d3,d4,d5⟩:=hto _ R2 t c2.hr ((hs.keep L).trimS c5)
 obtain⟨e,s'',h'',R'',t'',ds'',f1,f2,f5,f6,f7,f8⟩:=H.run hK R₀ h₀ hnb R3 t (c2.step d2 d3 d4) d5 b ds k' cs (by rw[d1,c1];exact hd)
 rw[d1,c1]at f8
 exact⟨e,s'',h'',R'',t'',ds'',f1,f2,f5,f6,f7,ZfR hI (c2.step d2 d3 d4) f8⟩
end
end Go.Proofs.YtjgpiclllehgmaaGreat.Vm
