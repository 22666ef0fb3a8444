/- The abstract machine: operations that make memory or write it. -/
import Derived.Laws.CopyRow
import Derived.Laws.AppendOwn
import Derived.Test.YtjgpiclllehgmaaGreatM1
set_option linter.unusedSimpArgs false
set_option linter.unusedVariables false
namespace Go.Proofs.YtjgpiclllehgmaaGreat.Vm
open Go
def Zlz (cx:Option Nat) (G:Nat→Nat→Nat→Prop) (n0:Nat) (w:World) (m:Nat) (α:Nat→Loc) (hw:Nat→Int) (hv:Nat→Value) (h:List Zi):RC:=
 {w,m,n0,α,hw,hv,cx,ok:=fun b o n=>b<w.heap.size∧G b o n∧ZfZ {w,m,n0,α,hw,hv,ok:=fun _ _ _=>False} h b o n}
section
variable {P:Program} {R:RC} {G:Nat→Nat→Nat→Prop} {h:List Zi}
theorem Zjn.heap {Q:AV→Value→Prop} {w:World} {s:Nat} {n:Unit→Int} {f:(Unit→Int)→List AV} {v:Value} {b:Nat} (ha:Zjn Q w s n f v) (hp:ZrW v b):∃arr ty,w.heap[b]? =some (.cells arr ty (0,0)):=by
 obtain⟨a,n,c,h1,hlt,h2⟩:=hp
 rcases ha with⟨_,a3,h3⟩|⟨b',o,len,cap,arr,ty,_,_,h3,h4,_⟩
 ·rw[h3]at h1;cases h1;omega
 ·rw[h3]at h1
  cases h1
  exact⟨arr,ty,h2▸h4⟩
theorem Zjn.isl {w:World} {ok:Nat→Nat→Nat→Prop} {s:Nat} {n:Unit→Int} {f:(Unit→Int)→List AV} {v:Value} (ha:Zjn (PR w ok) w s n f v) (hok:∀b,ZrW v b→∀o n,ok b o n):PR w ok (.isl s n f .none) v:=by
 rcases ha with⟨h1,a0,h2⟩|⟨b,o,len,cap,arr,ty,h1,h2,h3,h4,h5,h6⟩
 ·rw[h2]
  cases a0 with
  |none=>exact .isl0 _ _ _ _ h1 rfl
  |some a0=>exact .islE _ _ _ _ a0 h1 (.inl rfl)
 ·rw[h3]
  rcases Nat.eq_zero_or_pos cap with hc0|hc0
  ·rw[hc0,show len=0 by omega]
   exact .islE _ _ _ _ ⟨b,o,none⟩ (by omega) (.inl rfl)
  have hmul:len*s≤cap*s:=Nat.mul_le_mul_right _ h2
  refine .isl _ _ _ _ b o len cap (fun k j=>arr.getD (o+k*s+j) undef) h1 h2 (.inl rfl) (fun h=>by cases h) (fun k hk=>(h6 k hk).1) (fun k j c hk hj=>?_) (fun k j c hk hj=>(h6 k hk).2 j c hj) (hok b ⟨_,_,_,h3,hc0,rfl⟩ _ _)
  have hjs:j<s:=by rw[←(h6 k hk).1];exact(List.getElem?_eq_some_iff.1 hj).1
  have:(k+1)*s≤len*s:=Nat.mul_le_mul_right _ hk
  rw[Nat.succ_mul]at this
  exact Qd h4 (by omega)
theorem Zjn.len {Q:AV→Value→Prop} {w:World} {s:Nat} {n:Unit→Int} {f:(Unit→Int)→List AV} {a:Option Addr} {l c:Nat} (ha:Zjn Q w s n f (.slice a l c)):n ()=(l:Int)∧l≤c:=by
 rcases ha with⟨h1,a0,h2⟩|⟨b,o,len,cap,arr,ty,h1,h2,h3,h4,h5,h6⟩
 ·cases h2;exact⟨h1,Nat.le_refl _⟩
 ·cases h3;exact⟨h1,h2⟩
theorem HR.phys_lt (H:HR G R h) {id:Nat} {blk:Zi} {b:Nat} (hi:h[id]? =some blk) (hp:ZG R id blk b):b<R.w.heap.size:=by
 have hb:=H.blk id blk hi
 have lt:∀ {o:Obj} {b:Nat},R.w.heap[b]? =some o→b<R.w.heap.size:=fun h=>(Array.getElem?_eq_some_iff.1 h).1
 cases blk with
 |cells cs=>obtain⟨arr,ty,h1,_⟩:=hb;exact hp▸lt h1
 |arr s n f=>obtain⟨arr,ty,_,h1,_⟩:=hb;exact hp▸lt h1
 |mapB m=>obtain⟨es,c,h1,_⟩:=hb;exact hp▸lt h1
 |gob g=>obtain⟨o,h1,_⟩:=hb;exact hp▸lt h1
 |loop s d=>obtain⟨l,h1,_⟩:=hb;exact hp▸lt h1
 |dead=>exact hp.elim
 |main=>exact hp.elim
 |fro s n f=>exact hp.elim
 |gar s n f=>
  obtain⟨a,n,c,h1,hlt,h2⟩:=hp
  obtain⟨_,⟨_,a3,h3⟩|⟨b',o,len,cap,arr,ty,_,_,h3,h4,_⟩⟩:=hb
  ·rw[h3]at h1;cases h1;omega
  ·rw[h3]at h1
   cases h1
   exact h2▸lt h4
 |tok s hw=>
  obtain⟨a,n,c,h1,hlt,h2⟩:=hp
  obtain⟨_,⟨_,a3,h3⟩|⟨b',o,len,cap,_,_,h3,h4⟩⟩:=hb
  ·rw[h3]at h1;cases h1;omega
  ·rw[h3]at h1
   cases h1
   obtain⟨arr,ty,h4,_⟩:=h4 hlt
   exact h2▸lt h4
theorem HR.tok_cells (H:HR G R h) {id:Nat} {blk:Zi} {b:Nat} (hi:h[id]? =some blk) (hk:Zb5 blk=true) (hp:ZG R id blk b):∃arr ty,R.w.heap[b]? =some (.cells arr ty (0,0)):=by
 have hb:=H.blk id blk hi
 cases blk with
 |gar s n f=>
  obtain⟨a,n,c,h1,hlt,h2⟩:=hp
  obtain⟨_,⟨_,a3,h3⟩|⟨b',o,len,cap,arr,ty,_,_,h3,h4,_⟩⟩:=hb
  ·rw[h3]at h1;cases h1;omega
  ·rw[h3]at h1
   cases h1
   exact⟨arr,ty,h2▸h4⟩
 |tok s hw=>
  obtain⟨a,n,c,h1,hlt,h2⟩:=hp
  obtain⟨_,⟨_,a3,h3⟩|⟨b',o,len,cap,_,_,h3,h4⟩⟩:=hb
  ·rw[h3]at h1;cases h1;omega
  ·rw[h3]at h1
   cases h1
   obtain⟨arr,ty,h4,_⟩:=h4 hlt
   exact⟨arr,ty,h2▸h4⟩
 |_=>cases hk
theorem BR.monoZ {R':RC} {id:Nat} {blk:Zi} (hb:BR R id blk) (hr:R.le R') (hn0:True) (hα:R'.α id=R.α id) (hhw:R'.hw id=R.hw id) (hhv:R'.hv id=R.hv id)
  (hh:∀b,ZG R id blk b→R'.w.heap[b]? =R.w.heap[b]?):BR R' id blk:=by
 cases blk with
 |cells cs=>
  obtain⟨arr,ty,h1,h2,h3⟩:=hb
  exact⟨arr,ty,by rw[hα,hh _ rfl];exact h1,by rw[hα];exact h2,fun j c hj=>by rw[hα];exact(h3 j c hj).mono hr⟩
 |arr s n f=>
  obtain⟨arr,ty,len,h1,h2,h3,h4⟩:=hb
  exact⟨arr,ty,len,by rw[hα,hh _ rfl];exact h1,h2,by rw[hα];exact h3,fun i hi=>⟨(h4 i hi).1,fun j c hj=>by rw[hα];exact((h4 i hi).2 j c hj).mono hr.ok hr.keep hr.keepM⟩⟩
 |mapB m=>obtain⟨es,c,h1,h2⟩:=hb;exact⟨es,c,by rw[hα,hh _ rfl];exact h1,h2⟩
 |gob g=>obtain⟨o,h1,h2,h3⟩:=hb;exact⟨o,by rw[hα,hh _ rfl];exact h1,h2,by rw[hα];exact h3.mono hr⟩
 |loop s d=>obtain⟨l,h1,h2,h3,h4,h5,h6,h7⟩:=hb;exact⟨l,by rw[hα,hh _ rfl];exact h1,h2,h3,h4,h5,h6,h7.mono hr⟩
 |main=>exact hr.cx.trans hb
 |dead=>trivial
 |fro s n f=>
  obtain⟨e,h1⟩:=hb
  exact⟨hhw.trans e,by rw[hhv];exact h1.mono hr.ok hr.keep hr.keepM⟩
 |gar s n f=>
  obtain⟨e,h1⟩:=hb
  refine⟨hhw.trans e,?_⟩
  rw[hhv]
  rcases h1 with h1|⟨b,o,len,cap,arr,ty,h1,h2,h3,h4,h5,h6⟩
  ·exact .inl h1
  ·rcases Nat.eq_zero_or_pos cap with h0|h0
   ·exact .inl ⟨by omega,some ⟨b,o,none⟩,by rw[h3,h0,show len=0 by omega]⟩
   exact .inr ⟨b,o,len,cap,arr,ty,h1,h2,h3,by rw[hh b ⟨_,_,_,h3,h0,rfl⟩];exact h4,h5,fun i hi=>⟨(h6 i hi).1,fun j c hj=>((h6 i hi).2 j c hj).mono hr.ok hr.keep hr.keepM⟩⟩
 |tok s hw=>
  obtain⟨e,h1⟩:=hb
  refine⟨hhw.trans e,?_⟩
  rw[hhv]
  rcases h1 with h1|⟨b,o,len,cap,h1,h2,h3,h4⟩
  ·exact .inl h1
  ·exact .inr ⟨b,o,len,cap,h1,h2,h3,fun hlt=>by
    obtain⟨arr,ty,h4,h5⟩:=h4 hlt
    exact⟨arr,ty,by rw[hh b ⟨_,_,_,h3,hlt,rfl⟩];exact h4,h5⟩⟩
theorem BR.mono {R':RC} {id:Nat} {blk:Zi} (hb:BR R id blk) (hr:R.le R') (hn0:R'.n0=R.n0) (hα:R'.α id=R.α id) (hhw:R'.hw id=R.hw id) (hhv:R'.hv id=R.hv id)
  (hh:∀b,ZG R id blk b→R'.w.heap[b]? =R.w.heap[b]?):BR R' id blk:=
 hb.monoZ hr trivial hα hhw hhv hh
theorem BR.tokNo {id s:Nat} {hw:Unit→Int} (hb:BR R id (.tok s hw)):∀us,R.hv id≠ .tuple us:=fun us e=>by
 obtain⟨_,⟨_,a,h1⟩|⟨b,o,len,cap,_,_,h1,_⟩⟩:=hb<;>rw[h1]at e<;>cases e
theorem BR.garNo {id s:Nat} {n:Unit→Int} {f:(Unit→Int)→List AV} (hb:BR R id (.gar s n f)):∀us,R.hv id≠ .tuple us:=fun us e=>by
 obtain⟨_,⟨_,a,h1⟩|⟨b,o,len,cap,_,_,_,_,h1,_⟩⟩:=hb<;>rw[h1]at e<;>cases e
theorem ZG.congr {R R':RC} {id:Nat} {blk:Zi} {b:Nat} (hα:R'.α id=R.α id) (hhv:R'.hv id=R.hv id):ZG R' id blk b↔ZG R id blk b:=by
 cases blk<;>simp only[ZG,hα,hhv]
theorem Qo.congr {R R':RC} {id:Nat} {blk:Zi} {b o n:Nat} (hα:R'.α id=R.α id) (hhv:R'.hv id=R.hv id):Qo R' id blk b o n↔Qo R id blk b o n:=by
 cases blk<;>simp only[Qo,ZG,hα,hhv]
theorem RC.le.setN0 (R:RC) (n:Nat):R.le {R with n0:=n}:=⟨Nat.le_refl _,fun _ _=>rfl,fun _ _=>⟨Int.le_refl _,fun _=>rfl⟩,fun _ _=>.refl _,fun _ _ _ h=>h,fun _ _ _ _ _ _=>rfl,fun _ _ _ _ h=>h,rfl⟩
theorem HR.setN0 (H:HR G R h) (n:Nat) (hn:n≤R.m) (hz:True):HR G {R with n0:=n} h:=
 ⟨H.len,fun b o l=>⟨fun k=>let ⟨h1,h2,h3⟩:=(H.okd b o l).1 k;⟨h1,h2,fun id x hx=>(Qo.congr (R:=R) rfl rfl).2 (h3 id x hx)⟩,fun⟨h1,h2,h3⟩=>(H.okd b o l).2 ⟨h1,h2,fun id x hx=>(Qo.congr (R:=R) (R':={R with n0:=n}) rfl rfl).1 (h3 id x hx)⟩⟩,
  fun id x hx=>(H.blk id x hx).monoZ (RC.le.setN0 R n) trivial rfl rfl rfl fun _ _=>rfl,
  fun i j bi bj b hij hi hj hp hp'=>H.dis i j bi bj b hij hi hj ((ZG.congr (R:=R) (R':={R with n0:=n}) rfl rfl).1 hp) ((ZG.congr (R:=R) (R':={R with n0:=n}) rfl rfl).1 hp'),H.cl,H.fresh,
  fun id x b hx hk hp=>H.tokG id x b hx hk ((ZG.congr (R:=R) (R':={R with n0:=n}) rfl rfl).1 hp),hn⟩
theorem QD {α:Type} {l:List α} {x:α} {i:Nat} {y:α} (h:(l++[x])[i]? =some y):l[i]? =some y∨(i=l.length∧y=x):=by
 rw[List.getElem?_append]at h
 split at h
 ·exact .inl h
 ·right
  have hi:i-l.length<1:=by
   have:=(List.getElem?_eq_some_iff.1 h).1
   simpa using this
  have:i=l.length:=by omega
  subst this
  simp at h
  exact⟨rfl,h.symm⟩
theorem HR.alloc (H:HR G R h) (blk:Zi) (o:Obj) (hk:∀R',ZG R' R.m blk (R'.α R.m).b∧(∀b,ZG R' R.m blk b→b=(R'.α R.m).b)∧∀b o n,Qo R' R.m blk b o n↔¬ZG R' R.m blk b)
  (hb:∀R':RC,R.le R'→(R'.α R.m)=⟨R.w.heap.size,0⟩→R'.w.heap[R.w.heap.size]? =some o→BR R' R.m blk):
  ∃R',R'.w={R.w with heap:=R.w.heap.push o}∧R'.m=R.m+1∧R'.α R.m=⟨R.w.heap.size,0⟩∧HR G R' (h++[blk])∧Xf R h R' (h++[blk])∧R.le R':=by
 let α':Nat→Loc:=fun i=>if i=R.m then⟨R.w.heap.size,0⟩else R.α i
 let R':=Zlz R.cx G R.n0 {R.w with heap:=R.w.heap.push o} (R.m+1) α' R.hw R.hv (h++[blk])
 have hαo:∀i,i<R.m→R'.α i=R.α i:=fun i hi=>if_neg (by omega)
 have hαn:R'.α R.m=⟨R.w.heap.size,0⟩:=if_pos rfl
 have hidx:∀ {i x},h[i]? =some x→i<R.m:=fun hi=>H.len▸(List.getElem?_eq_some_iff.1 hi).1
 have hold:∀b,b<R.w.heap.size→R'.w.heap[b]? =R.w.heap[b]? :=fun b hb=>by
  show(R.w.heap.push o)[b]? =_
  rw[Array.getElem?_push,if_neg (by omega)]
 have hcell:∀b i,b<R.w.heap.size→R'.w.cell? ⟨b,i,none⟩=R.w.cell? ⟨b,i,none⟩:=fun b i hb=>by
  simp only[World.cell?,hold b hb]
 have hok:∀b o n,R.ok b o n→R'.ok b o n:=fun b o n k=>by
  obtain⟨h1,h2,h3⟩:=(H.okd _ _ _).1 k
  refine⟨by show b<(R.w.heap.push _).size;rw[Array.size_push];omega,h2,fun id x hx=>?_⟩
  rcases QD hx with hx|⟨rfl,rfl⟩
  ·exact(Qo.congr (hαo id (hidx hx)) rfl).2 (h3 id x hx)
  ·rw[H.len]
   refine((hk _).2.2 b o n).2 (fun hp=>?_)
   have:=(hk _).2.1 b hp
   have e:(α' R.m).b=R.w.heap.size:=by simp[α']
   have:b=(α' R.m).b:=this
   omega
 have hle:R.le R':=⟨Nat.le_succ _,hαo,fun id hi=>⟨Int.le_refl _,fun _=>rfl⟩,fun _ _=>.refl _,hok,fun b o n k j hj=>hcell b _ ((H.okd _ _ _).1 k).1,fun b k es clk e=>(hold b ((H.okd _ _ _).1 k).1).trans e,rfl⟩
 have hsz:R'.w.heap.size=R.w.heap.size+1:=by show(R.w.heap.push _).size=_;simp
 have hlen:(h++[blk]).length=R'.m:=by rw[List.length_append,H.len];rfl
 refine⟨R',rfl,rfl,hαn,⟨hlen,fun b o n=>Iff.rfl,fun id x hx=>?_,fun i j bi bj b hij hi hj hp=>?_,H.cl,fun b o n hb=>H.fresh b o n (by omega),fun id x b hi hkk hp o n=>?_,Nat.le_succ_of_le H.n0m⟩,?_,hle⟩
 ·rcases QD hx with hx|⟨rfl,rfl⟩
  ·exact(H.blk id x hx).mono hle rfl (hαo id (hidx hx)) rfl rfl (fun b hp=>hold b (H.phys_lt hx hp))
  ·rw[H.len]
   exact hb R' hle hαn (by show(R.w.heap.push _)[_]? =_;simp)
 ·have new:∀ {i x},(h++[blk])[i]? =some x→ZG R' i x b→(b<R.w.heap.size∧h[i]? =some x∧ZG R i x b)∨(b=R.w.heap.size∧i=R.m):=fun {i x} hi hp=>by
   rcases QD hi with hx|⟨rfl,rfl⟩
   ·have:=(ZG.congr (hαo i (hidx hx)) rfl).1 hp
    exact .inl ⟨H.phys_lt hx this,hx,this⟩
   ·rw[H.len]at hp⊢
    have:=(hk _).2.1 b hp
    rw[hαn]at this
    exact .inr ⟨this,rfl⟩
  intro hp'
  rcases new hi hp with⟨a1,a2,a3⟩|⟨a1,a2⟩<;>rcases new hj hp' with⟨b1,b2,b3⟩|⟨b1,b2⟩
  ·exact H.dis i j bi bj b hij a2 b2 a3 b3
  ·omega
  ·omega
  ·omega
 ·rcases QD hi with hx|⟨rfl,rfl⟩
  ·exact H.tokG id x b hx hkk ((ZG.congr (hαo id (hidx hx)) rfl).1 hp) o n
  ·rw[H.len]at hp
   have:=(hk _).2.1 b hp
   rw[hαn]at this
   exact H.fresh b o n (by rw[this];exact Nat.le_refl _)
 ·refine⟨rfl,rfl,rfl,rfl,by omega,Nat.le_succ _,hαo,hok,fun b o n k j hj=>hcell b _ ((H.okd _ _ _).1 k).1,fun b hb _=>hold b hb,fun id x b hx hp=>?_⟩
  rcases QD hx with hx|⟨rfl,rfl⟩
  ·exact .inr ⟨id,x,hx,(ZG.congr (hαo id (hidx hx)) rfl).1 hp,.inl rfl⟩
  ·rw[H.len]at hp
   have:=(hk _).2.1 b hp
   rw[hαn]at this
   exact .inl (by rw[this];exact Nat.le_refl _)
def αk:Zi→Bool
 |.cells _|.arr .. |.mapB _|.loop .. |.gob _=>true
 |_=>false
theorem Zet {blk:Zi} (h:αk blk=true) (R:RC) (id b:Nat):ZG R id blk b↔(R.α id).b=b:=by
 cases blk<;>first|exact Iff.rfl|cases h
theorem Zh8 {blk:Zi} (h:αk blk=true) (R:RC) (id b o n:Nat):Qo R id blk b o n↔¬(R.α id).b=b:=by
 cases blk<;>first|exact Iff.rfl|cases h
theorem HR.upd (H:HR G R h) {id:Nat} {blk blk':Zi} (hi:h[id]? =some blk) (hk:αk blk=true) (hk':αk blk'=true) (w':World)
  (hos:w'.os=R.w.os) (htp:w'.tape=R.w.tape) (hou:w'.output=R.w.output) (hsz:w'.heap.size=R.w.heap.size) (hh:∀b,b≠(R.α id).b→w'.heap[b]? =R.w.heap[b]?)
  (hb:∀R':RC,R.le R'→R'.α=R.α→R'.w=w'→BR R' id blk'):
  ∃R',R'.w=w'∧R'.m=R.m∧R'.α=R.α∧HR G R' (h.set id blk')∧Xf R h R' (h.set id blk')∧R.le R':=by
 let R':=Zlz R.cx G R.n0 w' R.m R.α R.hw R.hv (h.set id blk')
 have hset:∀ {i x},(h.set id blk')[i]? =some x→(i=id∧x=blk')∨(i≠id∧h[i]? =some x):=fun {i x} hx=>by
  rw[List.getElem?_set]at hx
  split at hx
  ·rename_i e
   subst e
   split at hx
   ·simp only[Option.some.injEq]at hx
    exact .inl ⟨rfl,hx.symm⟩
   ·cases hx
  ·rename_i e
   exact .inr ⟨fun h=>e h.symm,hx⟩
 have hcell:∀b i,b≠(R.α id).b→R'.w.cell? ⟨b,i,none⟩=R.w.cell? ⟨b,i,none⟩:=fun b i hb=>by
  show w'.cell? _=_
  simp only[World.cell?,hh b hb]
 have hne:∀b o n,R.ok b o n→b≠(R.α id).b:=fun b o n k e=>by
  have:=((H.okd _ _ _).1 k).2.2 id blk hi
  rw[Zh8 hk]at this
  exact this e.symm
 have hok:∀b o n,R.ok b o n→R'.ok b o n:=fun b o n k=>by
  obtain⟨h1,h2,h3⟩:=(H.okd _ _ _).1 k
  refine⟨by show b<w'.heap.size;omega,h2,fun i x hx=>?_⟩
  rcases hset hx with⟨rfl,rfl⟩|⟨_,hx⟩
  ·exact(Zh8 hk' _ _ _ _ _).2 (fun e=>hne b o n k e.symm)
  ·exact(Qo.congr rfl rfl).2 (h3 i x hx)
 have hle:R.le R':=⟨Nat.le_refl _,fun _ _=>rfl,fun _ _=>⟨Int.le_refl _,fun _=>rfl⟩,fun _ _=>.refl _,hok,fun b o n k j _=>hcell b _ (hne b o n k),fun b k es clk e=>(hh b (hne b 0 1 k)).trans e,rfl⟩
 have hph:∀ {i x b},(h.set id blk')[i]? =some x→ZG R' i x b→∃y,h[i]? =some y∧ZG R i y b:=fun {i x b} hx hp=>by
  rcases hset hx with⟨rfl,rfl⟩|⟨_,hx⟩
  ·exact⟨blk,hi,(Zet hk _ _ _).2 ((Zet hk' _ _ _).1 hp)⟩
  ·exact⟨x,hx,(ZG.congr rfl rfl).1 hp⟩
 refine⟨R',rfl,rfl,rfl,⟨by rw[List.length_set];exact H.len,fun _ _ _=>Iff.rfl,fun i x hx=>?_,fun i j bi bj b hij hi' hj' hp hp'=>?_,H.cl,fun b o n hb'=>H.fresh b o n (by have:w'.heap.size≤b:=hb';omega),fun i y b hi' hkk hp o n=>?_,H.n0m⟩,?_,hle⟩
 ·rcases hset hx with⟨rfl,rfl⟩|⟨hne',hx⟩
  ·exact hb R' hle rfl rfl
  ·refine(H.blk i x hx).mono hle rfl rfl rfl rfl (fun b hp=>hh b (fun e=>?_))
   exact H.dis i id x blk b hne' hx hi hp ((Zet hk _ _ _).2 e.symm)
 ·obtain⟨y,hy,hp⟩:=hph hi' hp
  obtain⟨z,hz,hp'⟩:=hph hj' hp'
  exact H.dis i j y z b hij hy hz hp hp'
 ·rcases hset hi' with⟨rfl,rfl⟩|⟨_,hx⟩
  ·exact absurd hkk (by revert hk';cases y<;>simp[αk,Zb5])
  ·exact H.tokG i y b hx hkk ((ZG.congr rfl rfl).1 hp) o n
 ·refine⟨rfl,hos,htp,hou,by show _≤w'.heap.size;omega,Nat.le_refl _,fun _ _=>rfl,hok,fun b o n k j _=>hcell b _ (hne b o n k),fun b _ hn=>hh b (fun e=>hn id blk hi ((Zet hk _ _ _).2 e.symm)),fun i x b hx hp=>?_⟩
  obtain⟨y,hy,hp⟩:=hph hx hp
  exact .inr ⟨i,y,hy,hp,.inl rfl⟩
theorem HR.allocCells (H:HR G R h) (cs:List AV) (us:Array Value) (ty:TypeId) (hr:XZ R cs us):
  ∃R',R'.w={R.w with heap:=R.w.heap.push (.cells us ty)}∧R'.m=R.m+1∧R'.α R.m=⟨R.w.heap.size,0⟩∧HR G R' (h++[.cells cs])∧Xf R h R' (h++[.cells cs])∧R.le R':=
 H.alloc (.cells cs) (.cells us ty) (fun R'=>⟨rfl,fun b hp=>hp.symm,fun b o n=>Iff.rfl⟩) (fun R' hle hα hh=>by
  refine⟨us,ty,by rw[hα];exact hh,by rw[hα,hr.1];simp,fun j c hj=>?_⟩
  rw[hα,Nat.zero_add]
  exact(hr.2 j c hj).mono hle)
def Zoj:AV→Bool
 |.gd _ _|.ob _ _|.undef|.agg _|.tup _=>false
 |_=>true
theorem Zoi {a:AV} {u:Value} (hl:Zoj a=true) (h:VR R a u):u.oneCell'=true:=by
 cases h with
 |pure _ _ hp=>cases hp<;>rfl
 |own _ _ _ _ _ _ hp _ _=>cases hp<;>rfl
 |nn _ _ _ _ hp _=>cases hp<;>rfl
 |undef _=>cases hl
 |agg _ _ _ _=>cases hl
 |tup _ _ _ _=>cases hl
 |gd _ _ _ _=>cases hl
 |ob _ _ _ _ _=>cases hl
 |_=>rfl
theorem Yr (cur:Array Value) (vs:List Value) (k j:Nat) (hk:k+vs.length≤cur.size):
  (cur.toList.take k++vs++cur.toList.drop (k+vs.length)).toArray.getD j undef=if k≤j∧j<k+vs.length then vs.getD (j-k) undef else cur.getD j undef:=by
 rw[Array.getD_eq_getD_getElem?,Array.getD_eq_getD_getElem?]
 simp only[List.getElem?_toArray,List.getD_eq_getElem?_getD]
 have hl:(cur.toList.take k).length=k:=by simp;omega
 by_cases h1:j<k
 ·rw[if_neg (by omega),List.append_assoc,List.getElem?_append_left (by omega),List.getElem?_take,if_pos h1,Array.getElem?_toList]
 ·by_cases h2:j<k+vs.length
  ·rw[if_pos ⟨by omega,h2⟩,List.append_assoc,List.getElem?_append_right (by omega),hl,List.getElem?_append_left (by omega)]
  ·rw[if_neg (by omega),List.getElem?_append_right (by simp;omega)]
   simp only[List.length_append,hl,List.getElem?_drop,Array.getElem?_toList]
   rw[show k+vs.length+(j-(k+vs.length))=j from by omega]
theorem Zbh:∀(l z:List AV) (off j:Nat),off+l.length≤z.length→(putC z off l)[j]? =if off≤j∧j<off+l.length then l[j-off]? else z[j]?
 |[],z,off,j,_=>by simp[putC];omega
 |a::l,z,off,j,hl=>by
  simp only[putC]
  rw[Zbh l (z.set off a) (off+1) j (by simp at hl⊢;omega)]
  simp only[List.length_cons]at hl⊢
  by_cases h1:off+1≤j∧j<off+1+l.length
  ·rw[if_pos h1,if_pos (by omega),show j-off=(j-(off+1))+1 from by omega,List.getElem?_cons_succ]
  ·rw[if_neg h1,List.getElem?_set]
   by_cases h2:off=j
   ·subst h2
    rw[if_pos rfl,if_pos (by omega),if_pos (by omega)]
    simp
   ·rw[if_neg h2,if_neg (by omega)]
theorem HR.store (H:HR G R h) {id off:Nat} {cs:List AV} (hi:h[id]? =some (.cells cs)) (l:List AV) (vs:List Value) (hlen:l.length=vs.length) (hfit:off+l.length≤cs.length)
  (hlf:∀a∈l,Zoj a=true) (hv:∀j c,l[j]? =some c→VR R c (vs.getD j undef)):
  ∃R',(storeCells ⟨(R.α id).b,(R.α id).o+off,none⟩ vs).run P R.w= .ok () R'.w∧R'.m=R.m∧R'.α=R.α∧HR G R' (h.set id (.cells (putC cs off l)))∧Xf R h R' (h.set id (.cells (putC cs off l)))∧R.le R':=by
 obtain⟨arr,ty,h1,h2,h3⟩:=H.blk id _ hi
 have hone:∀v∈vs,v.oneCell'=true:=fun v hvm=>by
  obtain⟨j,hj,rfl⟩:=List.getElem_of_mem hvm
  have hjl:j<l.length:=by omega
  have:=hv j l[j] (List.getElem?_eq_getElem hjl)
  rw[List.getD_eq_getElem?_getD,List.getElem?_eq_getElem hj]at this
  exact Zoi (hlf _ (List.getElem_mem hjl)) this
 have hst:=run_storeCells_at P (R.α id).b ((R.α id).o+off) ty vs 0 arr R.w h1 (by omega) hone
 obtain⟨R',hw,hm,hα,H',hx,hle⟩:=H.upd hi rfl (blk':=.cells (putC cs off l)) rfl
  (R.w.setRow (R.α id).b (arr.toList.take ((R.α id).o+off+0)++vs++arr.toList.drop ((R.α id).o+off+0+vs.length)).toArray) rfl rfl rfl (by simp[World.setRow]) (fun b hb=>setRow_other R.w (R.α id).b b _ hb) (fun R' hle hα hw=>by
   refine⟨(arr.toList.take ((R.α id).o+off+0)++vs++arr.toList.drop ((R.α id).o+off+0+vs.length)).toArray,ty,?_,?_,fun j c hj=>?_⟩
   ·rw[hw,hα];exact setRow_heap R.w _ arr _ ty _ h1
   ·rw[Ym,hα]
    simp
    omega
   ·rw[hα,Yr arr vs ((R.α id).o+off+0) _ (by omega)]
    rw[Zbh l cs off j hfit]at hj
    by_cases hc:off≤j∧j<off+l.length
    ·rw[if_pos hc]at hj
     rw[if_pos (by omega),show(R.α id).o+j-((R.α id).o+off+0)=j-off from by omega]
     exact(hv _ c hj).mono hle
    ·rw[if_neg hc]at hj
     rw[if_neg (by omega)]
     exact(h3 j c hj).mono hle)
 exact⟨R',by rw[hst,hw],hm,hα,H',hx,hle⟩
end
end Go.Proofs.YtjgpiclllehgmaaGreat.Vm
namespace Go.Proofs.YtjgpiclllehgmaaGreat.Vm
open Go
section
variable {P:Program} {R:RC} {G:Nat→Nat→Nat→Prop} {h:List Zi}
theorem HR.make (H:HR G R h) (o:Obj):∃R',R'.w={R.w with heap:=R.w.heap.push o}∧R'.m=R.m∧R'.α=R.α∧R'.hv=R.hv∧R'.hw=R.hw∧HR G R' h∧Xf R h R' h∧R.le R'∧∀o' n,R'.ok R.w.heap.size o' n:=by
 let R':=Zlz R.cx G R.n0 {R.w with heap:=R.w.heap.push o} R.m R.α R.hw R.hv h
 have hold:∀b,b<R.w.heap.size→R'.w.heap[b]? =R.w.heap[b]? :=fun b hb=>by
  show(R.w.heap.push o)[b]? =_
  rw[Array.getElem?_push,if_neg (by omega)]
 have hcell:∀b i,b<R.w.heap.size→R'.w.cell? ⟨b,i,none⟩=R.w.cell? ⟨b,i,none⟩:=fun b i hb=>by
  simp only[World.cell?,hold b hb]
 have hsz:R'.w.heap.size=R.w.heap.size+1:=by show(R.w.heap.push _).size=_;simp
 have hok:∀b o n,R.ok b o n→R'.ok b o n:=fun b o n k=>by
  obtain⟨h1,h2,h3⟩:=(H.okd _ _ _).1 k
  exact⟨by show b<R'.w.heap.size;omega,h2,fun id x hx=>(Qo.congr rfl rfl).2 (h3 id x hx)⟩
 have hle:R.le R':=⟨Nat.le_refl _,fun _ _=>rfl,fun _ _=>⟨Int.le_refl _,fun _=>rfl⟩,fun _ _=>.refl _,hok,fun b o n k j hj=>hcell b _ ((H.okd _ _ _).1 k).1,fun b k es clk e=>(hold b ((H.okd _ _ _).1 k).1).trans e,rfl⟩
 refine⟨R',rfl,rfl,rfl,rfl,rfl,⟨H.len,fun _ _ _=>Iff.rfl,fun id x hx=>(H.blk id x hx).mono hle rfl rfl rfl rfl (fun b hp=>hold b (H.phys_lt hx hp)),fun i j bi bj b hij hi hj hp hp'=>H.dis i j bi bj b hij hi hj ((ZG.congr rfl rfl).1 hp) ((ZG.congr rfl rfl).1 hp'),H.cl,
  fun b o n hb=>H.fresh b o n (by omega),fun id x b hi hk hp o n=>H.tokG id x b hi hk ((ZG.congr rfl rfl).1 hp) o n,H.n0m⟩,
  ⟨rfl,rfl,rfl,rfl,by omega,Nat.le_refl _,fun _ _=>rfl,hok,fun b o n k j hj=>hcell b _ ((H.okd _ _ _).1 k).1,fun b hb _=>hold b hb,fun id x b hx hp=>.inr ⟨id,x,hx,(ZG.congr rfl rfl).1 hp,.inl rfl⟩⟩,hle,fun o' n=>?_⟩
 refine⟨by show R.w.heap.size<R'.w.heap.size;omega,H.fresh _ _ _ (Nat.le_refl _),fun id x hx=>?_⟩
 have hn:∀ {b},ZG R' id x b→b<R.w.heap.size:=fun hp=>H.phys_lt hx ((ZG.congr rfl rfl).1 hp)
 cases x with
 |tok s hw=>exact fun a len cap hv hl hb=>absurd (hn (show ZG R' id (.tok s hw) R.w.heap.size from⟨a,len,cap,hv,hl,hb⟩)) (Nat.lt_irrefl _)
 |_=>exact fun hp=>absurd (hn hp) (Nat.lt_irrefl _)
theorem HR.room (H:HR G R h) (id m':Nat) (blk':Zi) (hw':Int) (hv':Value) (w':World) (h':List Zi)
  (hlen:h'.length=m') (hm:R.m≤m') (hset:∀i x,h'[i]? =some x→(i=id∧x=blk')∨(i≠id∧h[i]? =some x))
  (hold':id<R.m→∃blk0,h[id]? =some blk0∧Zb5 blk0=true∧R.hw id≤hw'∧(R.hw id=hw'→hv'=R.hv id)∧Zgj (R.hv id) hv')
  (PO:Nat→Prop) (hPO:∀b,PO b↔(id<R.m∧∃blk0,h[id]? =some blk0∧Zb5 blk0=true∧ZG R id blk0 b))
  (hos:w'.os=R.w.os) (htp:w'.tape=R.w.tape) (hou:w'.output=R.w.output) (hsz:R.w.heap.size≤w'.heap.size)
  (hh:∀b,b<R.w.heap.size→¬PO b→w'.heap[b]? =R.w.heap[b]?)
  (hcells:∀b o n,R.ok b o n→∀j,j<n→w'.cell? ⟨b,o+j,none⟩=R.w.cell? ⟨b,o+j,none⟩)
  (hbr:∀R':RC,R.le R'→R'.w=w'→R'.hw id=hw'→R'.hv id=hv'→
   (R'.n0=R.n0∧∀b o n,b<w'.heap.size→G b o n→(R.w.heap.size≤b∨PO b)→Qo R' id blk' b o n→R'.ok b o n)→BR R' id blk')
  (hph:∀R':RC,R'.hv id=hv'→R'.w=w'→∀b,ZG R' id blk' b→R.w.heap.size≤b∨PO b)
  (hav:∀R':RC,R'.hv id=hv'→∀b o n,R.ok b o n→Qo R' id blk' b o n)
  (hnα:αk blk'=false):
  ∃R',R'.w=w'∧R'.m=m'∧R'.hv id=hv'∧R'.hw id=hw'∧HR G R' h'∧Xf R h R' h'∧R.le R'∧
   ∀b o n,b<w'.heap.size→G b o n→(R.w.heap.size≤b∨PO b)→Qo R' id blk' b o n→R'.ok b o n:=by
 let R':=Zlz R.cx G R.n0 w' m' R.α (fun i=>if i=id then hw' else R.hw i) (fun i=>if i=id then hv' else R.hv i) h'
 have hvn:∀i,i≠id→R'.hv i=R.hv i:=fun i hi=>if_neg hi
 have hwn:∀i,i≠id→R'.hw i=R.hw i:=fun i hi=>if_neg hi
 have hvi:R'.hv id=hv':=if_pos rfl
 have hwi:R'.hw id=hw':=if_pos rfl
 have hidx:∀ {i x},h[i]? =some x→i<R.m:=fun hi=>H.len▸(List.getElem?_eq_some_iff.1 hi).1
 have hok:∀b o n,R.ok b o n→R'.ok b o n:=fun b o n k=>by
  obtain⟨h1,h2,h3⟩:=(H.okd _ _ _).1 k
  refine⟨by show b<w'.heap.size;omega,h2,fun i x hx=>?_⟩
  rcases hset i x hx with⟨rfl,rfl⟩|⟨hne,hx⟩
  ·exact(Qo.congr (R:=R') rfl rfl).1 (hav R' hvi b o n k)
  ·exact(Qo.congr (R:=R) (R':=R') rfl (hvn i hne)).2 (h3 i x hx)
 have hle:R.le R':=⟨hm,fun _ _=>rfl,fun i hi=>by
  by_cases e:i=id
  ·subst e
   obtain⟨_,_,_,h1,h2,_⟩:=hold' hi
   rw[hwi,hvi]
   exact⟨h1,h2⟩
  ·rw[hwn i e,hvn i e]
   exact⟨Int.le_refl _,fun _=>rfl⟩,fun i hi=>by
  by_cases e:i=id
  ·subst e
   obtain⟨_,_,_,_,_,h1⟩:=hold' hi
   rw[hvi]
   exact h1
  ·rw[hvn i e]
   exact .refl _,hok,hcells,(fun b k es clk e=>by
  rw[←e]
  refine hh b ((H.okd _ _ _).1 k).1 fun hp=>?_
  obtain⟨_,blk0,h1,h2,h3⟩:=(hPO b).1 hp
  obtain⟨arr,ty,h4⟩:=H.tok_cells h1 h2 h3
  rw[h4]at e
  cases e),rfl⟩
 have hph':∀ {i x b},h'[i]? =some x→ZG R' i x b→(i=id∧x=blk'∧(R.w.heap.size≤b∨PO b))∨(i≠id∧h[i]? =some x∧ZG R i x b):=fun {i x b} hx hp=>by
  rcases hset i x hx with⟨rfl,rfl⟩|⟨hne,hx⟩
  ·exact .inl ⟨rfl,rfl,hph R' hvi rfl b hp⟩
  ·exact .inr ⟨hne,hx,(ZG.congr (R:=R) (R':=R') rfl (hvn i hne)).1 hp⟩
 have disO:∀ {i x b},i≠id→h[i]? =some x→ZG R i x b→(R.w.heap.size≤b∨PO b)→False:=fun {i x b} hne hx hp ho=>by
  rcases ho with ho|ho
  ·have:=H.phys_lt hx hp
   omega
  ·obtain⟨_,blk0,h1,_,h2⟩:=(hPO b).1 ho
   exact H.dis i id x _ b hne hx h1 hp h2
 have hlast:∀b o n,b<w'.heap.size→G b o n→(R.w.heap.size≤b∨PO b)→Qo R' id blk' b o n→R'.ok b o n:=fun b o n hb hg hpo ha=>by
  refine⟨hb,hg,fun i x hx=>?_⟩
  rcases hset i x hx with⟨rfl,rfl⟩|⟨hne,hx⟩
  ·exact(Qo.congr (R:=R') rfl rfl).1 ha
  ·have hno:∀ {b'},ZG R i x b'→b'≠b:=fun hp e=>disO hne hx (e▸hp) hpo
   cases x with
   |tok s1 hw1=>
    intro a len cap hv hl hb'
    replace hv:R'.hv i=_:=hv
    rw[hvn i hne]at hv
    exact absurd hb' (hno ⟨a,len,cap,hv,hl,rfl⟩)
   |_=>exact fun hp=>hno ((ZG.congr (R:=R) (R':=R') rfl (hvn i hne)).1 hp) rfl
 refine⟨R',rfl,rfl,hvi,hwi,⟨hlen,fun _ _ _=>Iff.rfl,fun i x hx=>?_,fun i j bi bj b hij hi hj hp hp'=>?_,H.cl,fun b o n hb=>H.fresh b o n (Nat.le_trans hsz hb),fun i x b hi hkk hp o n=>?_,Nat.le_trans H.n0m hm⟩,?_,hle,hlast⟩
 ·rcases hset i x hx with⟨rfl,rfl⟩|⟨hne,hx⟩
  ·exact hbr R' hle rfl hwi hvi ⟨rfl,hlast⟩
  ·refine(H.blk i x hx).mono hle rfl rfl (hwn i hne) (hvn i hne) (fun b hp=>hh b (H.phys_lt hx hp) (fun ho=>disO hne hx hp (.inr ho)))
 ·rcases hph' hi hp with⟨rfl,_,ho⟩|⟨hne,hx,hpx⟩<;>rcases hph' hj hp' with⟨rfl,_,ho'⟩|⟨hne',hx',hpx'⟩
  ·exact hij rfl
  ·exact disO hne' hx' hpx' ho
  ·exact disO hne hx hpx ho'
  ·exact H.dis i j bi bj b hij hx hx' hpx hpx'
 ·rcases hph' hi hp with⟨rfl,_,ho|ho⟩|⟨hne,hx,hpx⟩
  ·exact H.fresh b o n ho
  ·obtain⟨_,blk0,h1,h2,h3⟩:=(hPO b).1 ho
   exact H.tokG i blk0 b h1 h2 h3 o n
  ·exact H.tokG i x b hx hkk hpx o n
 ·refine⟨rfl,hos,htp,hou,hsz,hm,fun _ _=>rfl,hok,hcells,fun b hb hn=>hh b hb (fun ho=>?_),fun i x b hx hp=>?_⟩
  ·obtain⟨_,blk0,h1,_,h2⟩:=(hPO b).1 ho
   exact hn id _ h1 h2
  ·rcases hph' hx hp with⟨rfl,_,ho|ho⟩|⟨hne,hx,hpx⟩
   ·exact .inl ho
   ·obtain⟨_,blk0,h1,_,h2⟩:=(hPO b).1 ho
    exact .inr ⟨_,_,h1,h2,.inl rfl⟩
   ·exact .inr ⟨_,x,hx,hpx,.inl rfl⟩
theorem HR.token (H:HR G R h) (id m' s:Nat) (hw':Unit→Int) (hv':Value) (w':World) (h':List Zi)
  (hlen:h'.length=m') (hm:R.m≤m') (hset:∀i x,h'[i]? =some x→(i=id∧x= .tok s hw')∨(i≠id∧h[i]? =some x)) (hid:h'[id]? =some (.tok s hw'))
  (hold':id<R.m→∃s0 hw0,h[id]? =some (.tok s0 hw0)∧R.hw id≤hw' ()∧(R.hw id=hw' ()→hv'=R.hv id))
  (PO:Nat→Prop) (hPO:∀b,PO b↔(id<R.m∧∃s0 hw0,h[id]? =some (.tok s0 hw0)∧ZG R id (.tok s0 hw0) b))
  (hos:w'.os=R.w.os) (htp:w'.tape=R.w.tape) (hou:w'.output=R.w.output) (hsz:R.w.heap.size≤w'.heap.size)
  (hh:∀b,b<R.w.heap.size→¬PO b→w'.heap[b]? =R.w.heap[b]?)
  (hcells:∀b o n,R.ok b o n→∀j,j<n→w'.cell? ⟨b,o+j,none⟩=R.w.cell? ⟨b,o+j,none⟩)
  (hbr:(hw' ()=0∧∃a:Option Addr,hv'= .slice a 0 0)∨∃(b o len cap:Nat),hw' ()=(len:Int)∧len≤cap∧hv'= .slice (some ⟨b,o,none⟩) len cap∧
    (len<cap→∃(arr:Array Value) (ty:TypeId),w'.heap[b]? =some (.cells arr ty (0,0))∧o+cap*s≤arr.size))
  (hph:∀a n c,hv'= .slice (some a) n c→n<c→R.w.heap.size≤a.block∨PO a.block)
  (hav:∀b o n,R.ok b o n→∀a len cap,hv'= .slice (some a) len cap→len<cap→a.block=b→o+n≤a.off+len*s):
  ∃R',R'.w=w'∧R'.m=m'∧R'.hv id=hv'∧R'.hw id=hw' ()∧HR G R' h'∧Xf R h R' h'∧R.le R'∧
   ∀b o n,b<w'.heap.size→G b o n→(R.w.heap.size≤b∨PO b)→(∀a len cap,hv'= .slice (some a) len cap→len<cap→a.block=b→o+n≤a.off+len*s)→R'.ok b o n:=by
 have hPO':∀b,PO b↔(id<R.m∧∃blk0,h[id]? =some blk0∧Zb5 blk0=true∧ZG R id blk0 b):=fun b=>by
  rw[hPO]
  constructor
  ·rintro⟨h1,s0,hw0,h2,h3⟩
   exact⟨h1,_,h2,rfl,h3⟩
  ·rintro⟨h1,blk0,h2,h3,h4⟩
   obtain⟨s0,hw0,h5,_⟩:=hold' h1
   rw[h5]at h2
   cases h2
   exact⟨h1,s0,hw0,h5,h4⟩
 obtain⟨R',a1,a2,a3,a4,a5,a6,a7,a8⟩:=H.room id m' (.tok s hw') (hw' ()) hv' w' h' hlen hm hset (fun hi=>let ⟨s0,hw0,h1,h2,h3⟩:=hold' hi;⟨_,h1,rfl,h2,h3,.of (H.blk id _ h1).tokNo⟩) PO hPO' hos htp hou hsz hh hcells
  (fun R' _ hw hwi hvi _=>⟨hwi,by rw[hvi,hw];exact hbr⟩) (fun R' hv hw b ⟨a,n,c,h1,h2,h3⟩=>h3▸hph a n c (hv.symm.trans h1) h2) (fun R' hv b o n hk a len cap h1=>hav b o n hk a len cap (hv.symm.trans h1)) rfl
 exact⟨R',a1,a2,a3,a4,a5,a6,a7,fun b o n h1 h2 h3 h4=>a8 b o n h1 h2 h3 fun a len cap hv=>h4 a len cap (a3.symm.trans hv)⟩
end
end Go.Proofs.YtjgpiclllehgmaaGreat.Vm
namespace Go.Proofs.YtjgpiclllehgmaaGreat.Vm
open Go
def purify:AV→AV
 |.isl s n f (.own _)=>.isl s n f .none
 |.isl s n f .nn=>.isl s n f .none
 |c=>c
def Y7:AV→Bool
 |.bool _|.int _ _|.str _|.nilptr|.nilmap|.nilfn|.iptr _ _|.imap _ _ _|.cch _=>true
 |.isl _ _ _ (.own _)=>false
 |.isl _ _ _ .nn=>false
 |.isl _ _ _ _=>true
 |_=>false
def QM (n:Unit→Int) (f g:(Unit→Int)→List AV):(Unit→Int)→List AV:=fun e=>if e ()<n ()then f e else g (fun _=>e ()-n ())
def Zcj (P:Program) (e:TypeId) (s:Nat):Bool:=match P.info? e with
 |some i=>(match i.zero with
  |some z=>ZC z.cells.size s&&ZC i.size s&&Z4 i.bytes 1000000
  |none=>false)
 |none=>false
def Zc0 (gr:Bool) (P:Program) (t t':TypeId) (dst src:AV) (h:List Zi):Option (AV×List Zi×Cd):=
 match P.underlying t,P.underlying t' with
 |some (.slice e),some (.slice _)=>(match dst,src with
  |.isl s₁ n f tk,.isl sz m g _=>if Zcj P e sz then(match tk with
   |.nil=>some (.isl sz (fun _=>n ()+m ()) (QM n f g) (.own h.length),h++[.tok sz fun _=>n ()+m ()],[dd fun _=>n ()+m ()≤1000000])
   |.exact=>if ZC s₁ sz then(if gr then some (.gsl h.length (fun _=>n ()+m ()),h++[.gar sz (fun _=>n ()+m ()) (QM n f g)],[dd fun _=>n ()=0,dd fun _=>n ()+m ()≤1000000])else some (.isl sz (fun _=>n ()+m ()) (QM n f g) (.own h.length),h++[.tok sz fun _=>n ()+m ()],[dd fun _=>n ()+m ()≤1000000]))else none
   |.own id=>if ZC s₁ sz then(match h[id]? with
    |some (.tok s hw)=>if ZC s sz then some (.isl sz (fun _=>n ()+m ()) (QM n f g) (.own id),h.set id (.tok sz fun _=>n ()+m ()),[dd fun _=>n ()=hw (),dd fun _=>n ()+m ()≤1000000])else none
    |_=>none)else none
   |.none=>none
   |.nn=>none)else none
  |.gsl id n,.isl sz m g _=>if Zcj P e sz then(match h[id]? with
   |some (.gar s n0 f)=>if ZC s sz then some (.gsl id (fun _=>n0 ()+m ()),h.set id (.gar sz (fun _=>n0 ()+m ()) (QM n0 f g)),[dd fun _=>n ()=n0 (),dd fun _=>n0 ()+m ()≤1000000])else none
   |_=>none)else none
  |_,_=>none)
 |_,_=>none
section
variable {P:Program} {R:RC} {G:Nat→Nat→Nat→Prop} {h:List Zi}
theorem VR.purify {c:AV} {u:Value} (hv:VR R c u) (hp:Y7 (purify c)=true):PR R.w R.ok (purify c) u:=by
 cases hv with
 |pure _ _ h=>
  have:Vm.purify c=c:=by
   cases h with
   |isl0 _ _ _ tk _ ht=>cases tk<;>first|rfl|cases ht
   |islE _ _ _ tk _ _ ht=>rcases ht with rfl|rfl<;>rfl
   |isl _ _ _ tk _ _ _ _ _ _ _ ht=>rcases ht with rfl|rfl<;>rfl
   |_=>rfl
  rw[this]
  exact h
 |own s n f id v h1 h2 h3 h4=>exact h2
 |nn s n f v h2 _=>exact h2
 |_=>cases hp
theorem Zax (w:World) (a:Addr) (s x y:Nat):(Builtin.firstCells s 0 (.slice (some a) x y)).run P w= .ok #[] w:=by
 have:=run_loadCells (P:=P) w a 0 (fun _=>undef) (fun k hk=>by omega)
 simpa [Builtin.firstCells]using this
theorem Xj {s:Nat} {m:Unit→Int} {g:(Unit→Int)→List AV} {x:Value} (hx:PR R.w R.ok (.isl s m g .none) x):
  ∃(xa:Option Addr) (n xc:Nat) (us:Nat→Nat→Value) (new:List Value),x= .slice xa n xc∧m ()=(n:Int)∧n≤xc∧(xa=none→xc=0)∧new.length=n*s∧
   (∀w:World,w.heap=R.w.heap→(Builtin.firstCells s n x).run P w= .ok new.toArray w)∧
   (∀i j,i<n→j<s→new[i*s+j]? =some (us i j))∧
   (∀i:Nat,i<n→(g (fun _=>(i:Int))).length=s)∧
   (∀i j c,i<n→(g (fun _=>(i:Int)))[j]? =some c→PR R.w R.ok c (us i j))∧
   (∀a,xa=some a→0<n→∃b o,a=⟨b,o,none⟩∧R.ok b o (n*s)∧∀i j,i<n→j<s→R.w.cell? ⟨b,o+i*s+j,none⟩=some (us i j)):=by
 cases hx with
 |isl0 _ _ _ _ hz _=>
  exact⟨none,0,0,fun _ _=>undef,[],rfl,by omega,Nat.le_refl _,fun _=>rfl,by simp,fun w _=>rfl,fun i j hi=>by omega,fun i hi=>by omega,fun i j c hi=>by omega,fun a h=>by cases h⟩
 |islE _ _ _ _ a hz _=>
  exact⟨some a,0,0,fun _ _=>undef,[],rfl,by omega,Nat.le_refl _,(fun h=>by cases h),by simp,(fun w _=>Zax w a s 0 0),fun i j hi=>by omega,fun i hi=>by omega,fun i j c hi=>by omega,fun a _ h=>by omega⟩
 |isl _ _ _ _ b o len cap us hn hc ht he hl h1 h2 h3=>
  have hcell:∀i j,i<len→j<s→R.w.cell? ⟨b,o+i*s+j,none⟩=some (us i j):=fun i j hi hj=>
   h1 i j _ hi (List.getElem?_eq_getElem (by rw[hl i hi];exact hj))
  have flat:∀k,k<len*s→0<s∧k/s<len∧k%s<s∧k/s*s+k%s=k:=fun k hk=>by
   have hs:0<s:=Nat.pos_of_ne_zero (fun e=>by subst e;simp at hk)
   exact⟨hs,(Nat.div_lt_iff_lt_mul hs).2 hk,Nat.mod_lt _ hs,Nat.div_add_mod' k s⟩
  refine⟨some ⟨b,o,none⟩,len,cap,us,(List.range (len*s)).map fun k=>us (k/s) (k%s),rfl,hn,hc,(fun h=>by cases h),by simp,fun w hw=>?_,fun i j hi hj=>?_,hl,h2,fun a h _=>?_⟩
  ·have:=run_loadCells (P:=P) w ⟨b,o,none⟩ (len*s) (fun k=>us (k/s) (k%s)) (fun k hk=>by
    obtain⟨hs,h4,h5,h6⟩:=flat k hk
    rw[QS]
    have:=hcell (k/s) (k%s) h4 h5
    rw[show o+k/s*s+k%s=o+k from by omega]at this
    rw[←this]
    simp only[World.cell?,hw])
   simpa [Builtin.firstCells]using this
  ·have hlt:i*s+j<len*s:=by
    have:(i+1)*s≤len*s:=Nat.mul_le_mul_right s hi
    rw[Nat.succ_mul]at this
    omega
   have hs:0<s:=by omega
   rw[List.getElem?_map,List.getElem?_range hlt,Option.map_some]
   have e1:(i*s+j)/s=i:=by rw[Nat.mul_comm,Nat.mul_add_div hs,Nat.div_eq_of_lt hj,Nat.add_zero]
   have e2:(i*s+j)%s=j:=by rw[Nat.mul_comm,Nat.mul_add_mod,Nat.mod_eq_of_lt hj]
   rw[e1,e2]
  ·simp only[Option.some.injEq]at h
   subst h
   exact⟨b,o,rfl,h3,hcell⟩
def Src (P:Program) (R:RC) (s:Nat) (m:Unit→Int) (g:(Unit→Int)→List AV) (x:Value):Prop:=
 ∃(xa:Option Addr) (n xc:Nat) (us:Nat→Nat→Value) (new:List Value),x= .slice xa n xc∧m ()=(n:Int)∧n≤xc∧(xa=none→xc=0)∧new.length=n*s∧
   (∀w:World,w.heap=R.w.heap→(Builtin.firstCells s n x).run P w= .ok new.toArray w)∧
   (∀i j,i<n→j<s→new[i*s+j]? =some (us i j))∧
   (∀i:Nat,i<n→(g (fun _=>(i:Int))).length=s)∧
   (∀i j c,i<n→(g (fun _=>(i:Int)))[j]? =some c→PR R.w R.ok c (us i j))
theorem Src.of {s:Nat} {m:Unit→Int} {g:(Unit→Int)→List AV} {x:Value} (hx:PR R.w R.ok (.isl s m g .none) x):Src P R s m g x:=by
 obtain⟨xa,nn,xc,us2,new,h1,h2,h3,h4,h5,h6,h7,h8,h9,_⟩:=Xj (P:=P) hx
 exact⟨xa,nn,xc,us2,new,h1,h2,h3,h4,h5,h6,h7,h8,h9⟩
theorem Src.arr {s:Nat} {m:Unit→Int} {g:(Unit→Int)→List AV} {x:Value} (hx:Zvk R s m g x):Src P R s m g x:=by
 rcases hx with⟨h0,a,rfl⟩|⟨b,o,len,cap,arr,ty,h1,h2,rfl,h4,h5,h6⟩
 ·refine⟨a,0,0,fun _ _=>undef,[],rfl,h0,Nat.le_refl _,fun _=>rfl,by simp,fun w _=>?_,fun i j hi=>by omega,fun i hi=>by omega,fun i j c hi=>by omega⟩
  cases a with
  |none=>rfl
  |some a=>exact Zax w a s 0 0
 ·have hmul:len*s≤cap*s:=Nat.mul_le_mul_right _ h2
  refine⟨some ⟨b,o,none⟩,len,cap,fun i j=>arr.getD (o+(i*s+j)) undef,(List.range (len*s)).map fun k=>arr.getD (o+k) undef,rfl,h1,h2,(fun h=>by cases h),by simp,fun w hw=>?_,fun i j hi hj=>?_,fun i hi=>(h6 i hi).1,fun i j c hi hj=>by
   show PR R.w R.ok c (arr.getD (o+(i*s+j)) undef)
   rw[←Nat.add_assoc]
   exact(h6 i hi).2 j c hj⟩
  ·have:=run_loadCells (P:=P) w ⟨b,o,none⟩ (len*s) (fun k=>arr.getD (o+k) undef) (fun k hk=>by
    rw[QS]
    have:w.heap[b]? =some (.cells arr ty (0,0)):=by rw[hw];exact h4
    exact Qd this (by omega))
   simpa [Builtin.firstCells]using this
  ·have hlt:i*s+j<len*s:=by
    have:(i+1)*s≤len*s:=Nat.mul_le_mul_right s hi
    rw[Nat.succ_mul]at this
    omega
   rw[List.getElem?_map,List.getElem?_range hlt,Option.map_some]
theorem JH {e:TypeId} {s:Nat} (h:Zcj P e s=true):∃i z,P.info? e=some i∧i.zero=some z∧z.cells.size=s∧i.size=s∧i.bytes≤1000000:=by
 unfold Zcj at h
 split at h
 ·rename_i i hi
  split at h
  ·rename_i z hz
   simp only[Bool.and_eq_true]at h
   exact⟨i,z,hi,hz,Zz h.1.1,Zz h.1.2,Xc h.2⟩
  ·cases h
 ·cases h
theorem ZgF (need:Nat):∀(k c:Nat),c≤2*need+1000→Builtin.growBy need k c≤2*need+1000
 |0,c,h=>h
 |k+1,c,h=>by
  simp only[Builtin.growBy]
  split
  ·exact h
  ·exact ZgF need k _ (by omega)
theorem Zqg (need old:Nat) (h:old<need):Builtin.nextslicecap need old≤2*need+1000:=by
 unfold Builtin.nextslicecap
 split
 ·omega
 ·split
  ·omega
  ·exact ZgF need 4 old (by omega)
theorem Qm {at_:Array TypeId} {t t' e e' ty:TypeId} {j:TypeInfo} (h0:at_[0]? =some t) (h1:at_[1]? =some t') (hu:P.underlying t=some (.slice e)) (hu':P.underlying t'=some (.slice e'))
  (hj:P.info? e=some j) (base xa:Option Addr) (sLen sCap xc n:Nat) (new:Array Value) (w w':World) (hx:(Builtin.firstCells j.size n (.slice xa n xc)).run P w= .ok new w) (hle:sLen+n≤sCap)
  (hst:∀a,base=some a→(storeCells (a.add (sLen*j.size)) new.toList).run P w= .ok () w') (hno:base=none→w'=w):
  (Builtin.append_ at_ ty #[.slice base sLen sCap,.slice xa n xc]).run P w= .ok (.slice base (sLen+n) sCap) w':=by
 unfold Builtin.append_
 simp only[h0,h1,Sem.run_bind,Zv hu,Zv hu',Z6 hj,Result.andThen_ok,Sem.run_pure,Builtin.lenOf,List.getElem?_toArray,List.getElem?_cons_zero,List.getElem?_cons_succ,
  Bool.false_eq_true,if_false,Bool.not_false,if_true,if_pos hle,hx]
 cases base with
 |none=>rw[hno rfl];rfl
 |some a=>simp only[Sem.run_bind,hst a rfl,Result.andThen_ok,Sem.run_pure]
theorem Za0 {at_:Array TypeId} {t t' e e' ty:TypeId} {j:TypeInfo} {z:Value} (h0:at_[0]? =some t) (h1:at_[1]? =some t') (hu:P.underlying t=some (.slice e)) (hu':P.underlying t'=some (.slice e'))
  (hj:P.info? e=some j) (hz:j.zero=some z) (hb:j.bytes≤1000000) (base xa:Option Addr) (sLen sCap xc n:Nat) (old new:Array Value) (w:World)
  (hx:∀w':World,w'.heap=w.heap→(Builtin.firstCells j.size n (.slice xa n xc)).run P w'= .ok new w') (ho:∀w':World,w'.heap=w.heap→(Builtin.firstCells j.size sLen (.slice base sLen sCap)).run P w'= .ok old w')
  (hgt:¬sLen+n≤sCap) (hle:sLen+n≤1000000):
  ∃(cap d:Nat) (rest:Array Value),sLen+n≤cap∧rest.size=(cap-(sLen+n))*z.cells.size∧
   (Builtin.append_ at_ ty #[.slice base sLen sCap,.slice xa n xc]).run P w= .ok (.slice (some ⟨w.heap.size,0,none⟩) (sLen+n) cap) {w with drawn:=d,heap:=w.heap.push (.cells (old++new++rest) e)}:=by
 have hn:=Zqg (sLen+n) sCap (by omega)
 have hbig:¬Builtin.nextslicecap (sLen+n) sCap*j.bytes>2^ 48:=by
  have:Builtin.nextslicecap (sLen+n) sCap*j.bytes≤2001000*1000000:=Nat.mul_le_mul (by omega) hb
  omega
 have hmax:¬(((sLen+n:Nat):Int)>IntKind.i64.max∧(False∨j.bytes=0)):=by
  have:IntKind.i64.max=9223372036854775807:=by decide
  rw[this]
  omega
 refine⟨(Question.appendCap (sLen+n) sCap e).cut (w.tape w.drawn (.appendCap (sLen+n) sCap e)),w.drawn+1,Builtin.zeroCells z.cells ((Question.appendCap (sLen+n) sCap e).cut (w.tape w.drawn (.appendCap (sLen+n) sCap e))-(sLen+n)),?_,by simp[Builtin.zeroCells],?_⟩
 ·simp only[Question.cut]
  omega
 ·unfold Builtin.append_
  simp only[h0,h1,Sem.run_bind,Zv hu,Zv hu',Z6 hj,Q4 hj,Result.andThen_ok,Sem.run_pure,Builtin.lenOf,List.getElem?_toArray,List.getElem?_cons_zero,List.getElem?_cons_succ,
   Bool.false_eq_true,if_false,Bool.not_false,if_true,if_neg hgt,if_neg hmax,if_neg hbig,run_choose,Question.forced,run_askRoom,zeroValue,hz,newRow,run_newObj]
  rw[ho {w with drawn:=w.drawn+1} rfl]
  simp only[Result.andThen_ok]
  rw[hx {w with drawn:=w.drawn+1} rfl]
  rfl
theorem XB {n:Unit→Int} {f g:(Unit→Int)→List AV} {len i:Nat} (hn:n ()=(len:Int)) (hi:i<len):QM n f g (fun _=>(i:Int))=f (fun _=>(i:Int)):=
 if_pos (show(i:Int)<n () by omega)
theorem X7 {n:Unit→Int} {f g:(Unit→Int)→List AV} {len i:Nat} (hn:n ()=(len:Int)) (hi:len≤i):QM n f g (fun _=>(i:Int))=g (fun _=>((i-len:Nat):Int)):=by
 refine(if_neg (show¬(i:Int)<n () by omega)).trans ?_
 congr 1
 funext _
 show(i:Int)-n ()=_
 omega
def Zjo (R:RC) (G:Nat→Nat→Nat→Prop) (h:List Zi) (s:Nat) (n m:Unit→Int) (f g:(Unit→Int)→List AV) (id:Nat) (h':List Zi) (r:Result Value):Prop:=
 ∃u R',r= .ok u R'.w∧HR G R' h'∧Xf R h R' h'∧R.le R'∧VR R' (.isl s (fun _=>n ()+m ()) (QM n f g) (.own id)) u
theorem Zeg {s s₁:Nat} {n m:Unit→Int} {f g:(Unit→Int)→List AV} {id m':Nat} {h':List Zi} {v:Value} (H:HR G R h) (hv:PR R.w R.ok (.isl s₁ n f .none) v) (hs:s₁=s∨n ()=0) (hm:m ()=0)
  (hlen:h'.length=m') (hmm:R.m≤m') (hset:∀i x,h'[i]? =some x→(i=id∧x= .tok s fun _=>n ()+m ())∨(i≠id∧h[i]? =some x)) (hid:h'[id]? =some (.tok s fun _=>n ()+m ()))
  (hold:id<R.m→∃s0 hw0,h[id]? =some (.tok s0 hw0)∧R.hw id≤n ()+m ()∧(R.hw id=n ()+m ()→v=R.hv id))
  (hnew:¬id<R.m→(∃a:Option Addr,v= .slice a 0 0)∨∃a len,v= .slice (some a) len len)
  (hbr:id<R.m→(n ()+m ()=0∧∃a:Option Addr,v= .slice a 0 0)∨∃(b o len cap:Nat),n ()+m ()=(len:Int)∧len≤cap∧v= .slice (some ⟨b,o,none⟩) len cap∧
    (len<cap→∃(arr:Array Value) (ty:TypeId),R.w.heap[b]? =some (.cells arr ty (0,0))∧o+cap*s≤arr.size)) (hsame:id<R.m→v=R.hv id)
  (hst:∀s0 hw0,h[id]? =some (.tok s0 hw0)→s0=s):
  ∃R',R'.w=R.w∧HR G R' h'∧Xf R h R' h'∧R.le R'∧VR R' (.isl s (fun _=>n ()+m ()) (QM n f g) (.own id)) v:=by
 obtain⟨R',hw,hm1,hhv,hhw,H',hx,hle,_⟩:=H.token id m' s (fun _=>n ()+m ()) v R.w h' hlen hmm hset hid hold (fun b=>id<R.m∧∃s0 hw0,h[id]? =some (.tok s0 hw0)∧ZG R id (.tok s0 hw0) b) (fun b=>Iff.rfl) rfl rfl rfl (Nat.le_refl _)
  (fun _ _ _=>rfl) (fun _ _ _ _ _ _=>rfl) (by
   by_cases hi:id<R.m
   ·exact hbr hi
   ·rcases hnew hi with⟨a0,h⟩|⟨a,len,h⟩
    ·refine .inl ⟨?_,a0,h⟩
     cases hv with
     |isl0 _ _ _ _ hz _=>show n ()+m ()=0;omega
     |islE _ _ _ _ _ hz _=>show n ()+m ()=0;omega
     |isl _ _ _ _ _ _ len cap us hn=>cases h;show n ()+m ()=0;omega
    ·cases hv with
     |isl0 _ _ _ _ hz _=>cases h
     |islE _ _ _ _ a1 hz _=>exact .inl ⟨by show n ()+m ()=0;omega,_,rfl⟩
     |isl _ _ _ _ b o len' cap us hn _ _ _ _ _ _ _=>
      cases h
      exact .inr ⟨b,o,len,len,by show n ()+m ()=_;omega,Nat.le_refl _,rfl,fun h=>absurd h (Nat.lt_irrefl _)⟩)
  (fun a k c he hlt=>by
   by_cases hi:id<R.m
   ·obtain⟨s0,hw0,h1,_⟩:=hold hi
    exact .inr ⟨hi,s0,hw0,h1,a,k,c,(hsame hi)▸he,hlt,rfl⟩
   ·rcases hnew hi with⟨a0,h⟩|⟨a',len,h⟩
    ·rw[h]at he;cases he;omega
    ·rw[h]at he
     cases he
     omega)
  (fun b o k hk a len cap he hlt hb=>by
   by_cases hi:id<R.m
   ·obtain⟨s0,hw0,h1,_⟩:=hold hi
    have:=((H.okd _ _ _).1 hk).2.2 id _ h1 a len cap ((hsame hi)▸he) hlt hb
    rw[hst s0 hw0 h1]at this
    exact this
   ·rcases hnew hi with⟨a0,h⟩|⟨a',len',h⟩
    ·rw[h]at he;cases he;omega
    ·rw[h]at he
     cases he
     omega)
 have hidm:id<R'.m:=by
  rw[hm1,←hlen]
  exact(List.getElem?_eq_some_iff.1 hid).1
 refine⟨R',hw,H',hx,hle,.own _ _ _ _ _ hidm ?_ (by rw[hhw];exact Int.le_refl _) (fun _=>hhv.symm)⟩
 have hv':=hv.mono hle.ok hle.keep hle.keepM
 cases hv' with
 |isl0 _ _ _ _ hz _=>exact .isl0 _ _ _ _ (by show n ()+m ()=0;omega) rfl
 |islE _ _ _ _ a hz _=>exact .islE _ _ _ _ a (by show n ()+m ()=0;omega) (.inl rfl)
 |isl _ _ _ _ b o len cap us hn hc ht he hl h1 h2 h3=>
  rcases hs with rfl|h0
  ·refine .isl _ _ _ _ b o len cap us (by show n ()+m ()=_;omega) hc (.inl rfl) (fun h=>by cases h) (fun i hi=>?_) (fun i j c hi hj=>?_) (fun i j c hi hj=>?_) h3
   ·rw[XB hn hi];exact hl i hi
   ·rw[XB hn hi]at hj;exact h1 i j c hi hj
   ·rw[XB hn hi]at hj;exact h2 i j c hi hj
  ·have:len=0:=by omega
   subst this
   rw[Nat.zero_mul]at h3
   exact .isl _ _ _ _ b o 0 cap us (by show n ()+m ()=_;omega) hc (.inl rfl) (fun h=>by cases h) (fun i hi=>by omega) (fun i j c hi=>by omega) (fun i j c hi=>by omega) (by rw[Nat.zero_mul];exact h3)
theorem ZfS {s s₁:Nat} {n m:Unit→Int} {f g:(Unit→Int)→List AV} {id m':Nat} {h':List Zi} {v x:Value} {P:Program} {at_:Array TypeId} {t t' e e' ty:TypeId} {j:TypeInfo} {z:Value}
  (H:HR G R h) (hv:PR R.w R.ok (.isl s₁ n f .none) v) (hs:s₁=s∨n ()=0) (hxp:PR R.w R.ok (.isl s m g .none) x)
  (h0:at_[0]? =some t) (h1:at_[1]? =some t') (hu:P.underlying t=some (.slice e)) (hu':P.underlying t'=some (.slice e')) (hj:P.info? e=some j) (hz:j.zero=some z) (hzs:z.cells.size=s) (hjs:j.size=s) (hb:j.bytes≤1000000)
  (hle:n ()+m ()≤1000000) (hfull:∀a len cap,v= .slice a len cap→¬((len:Int)+m ()≤cap))
  (hlen:h'.length=m') (hmm:R.m≤m') (hset:∀i x,h'[i]? =some x→(i=id∧x= .tok s fun _=>n ()+m ())∨(i≠id∧h[i]? =some x)) (hid:h'[id]? =some (.tok s fun _=>n ()+m ()))
  (hold:id<R.m→∃s0 hw0,h[id]? =some (.tok s0 hw0)∧R.hw id<n ()+m ()):
  Zjo R G h s n m f g id h' ((Builtin.append_ at_ ty #[v,x]).run P R.w):=by
 obtain⟨f0,hv0,hf0⟩:∃f0,PR R.w R.ok (.isl s n f0 .none) v∧∀i:Nat,(i:Int)<n ()→f0 (fun _=>(i:Int))=f (fun _=>(i:Int)):=by
  rcases hs with rfl|h0
  ·exact⟨f,hv,fun _ _=>rfl⟩
  ·refine⟨fun _=>[],?_,fun i hi=>by omega⟩
   cases hv with
   |isl0 _ _ _ _ hz _=>exact .isl0 _ _ _ _ hz rfl
   |islE _ _ _ _ a hz _=>exact .islE _ _ _ _ a hz (.inl rfl)
   |isl _ _ _ _ b o len cap us hn hc ht he hl h1 h2 h3=>
    have:len=0:=by omega
    subst this
    rw[Nat.zero_mul]at h3
    exact .isl _ _ _ _ b o 0 cap us hn hc (.inl rfl) (fun h=>by cases h) (fun i hi=>by omega) (fun i j c hi=>by omega) (fun i j c hi=>by omega) (by rw[Nat.zero_mul];exact h3)
 obtain⟨va,ln,vc,us1,old,rfl,hn,hlc,hvn,hol,hofc,hou,hofl,hopr,hoa⟩:=Xj (P:=P) hv0
 obtain⟨xa,nn,xc,us2,new,rfl,hm,hnc,hxn,hnl,hnfc,hnu,hnfl,hnpr,hna⟩:=Xj (P:=P) hxp
 have hneed:¬ln+nn≤vc:=fun hh=>hfull _ _ _ rfl (by omega)
 subst hjs
 obtain⟨cap,d,rest,hcap,hrs,hrun⟩:=Za0 (P:=P) (ty:=ty) h0 h1 hu hu' hj hz hb va xa ln vc xc nn old.toArray new.toArray R.w (fun w' hw=>hnfc w' hw) (fun w' hw=>hofc w' hw) hneed (by omega)
 have hsz:(old.toArray++new.toArray++rest).size=cap*j.size:=by
  rw[Array.size_append,Array.size_append,hrs,hzs]
  simp only[List.size_toArray,hol,hnl]
  rw[←Nat.add_mul,←Nat.add_mul]
  congr 1
  omega
 have hold':∀b,b<R.w.heap.size→(R.w.heap.push (.cells (old.toArray++new.toArray++rest) e))[b]? =R.w.heap[b]? :=fun b hb=>by rw[Array.getElem?_push,if_neg (by omega)]
 have hnew':(R.w.heap.push (.cells (old.toArray++new.toArray++rest) e))[R.w.heap.size]? =some (.cells (old.toArray++new.toArray++rest) e (0,0)):=by simp
 obtain⟨R',hw,hm1,hhv,hhw,H',hx,hle',hokn⟩:=H.token id m' j.size (fun _=>n ()+m ()) (.slice (some ⟨R.w.heap.size,0,none⟩) (ln+nn) cap)
  {R.w with drawn:=d,heap:=R.w.heap.push (.cells (old.toArray++new.toArray++rest) e)} h' hlen hmm hset hid
  (fun hi=>by obtain⟨s0,hw0,h1,h2⟩:=hold hi;exact⟨s0,hw0,h1,by show R.hw id≤n ()+m ();omega,fun e=>by have e:R.hw id=n ()+m ():=e;omega⟩)
  (fun b=>id<R.m∧∃s0 hw0,h[id]? =some (.tok s0 hw0)∧ZG R id (.tok s0 hw0) b) (fun b=>Iff.rfl) rfl rfl rfl (by show _≤(R.w.heap.push _).size;simp)
  (fun b hb _=>hold' b hb) (fun b o k hk i _=>by
   have:=((H.okd _ _ _).1 hk).1
   simp only[World.cell?]
   rw[hold' b this])
  (.inr ⟨R.w.heap.size,0,ln+nn,cap,by show n ()+m ()=_;omega,hcap,rfl,fun _=>⟨_,e,hnew',by rw[hsz];omega⟩⟩)
  (fun a k c he hlt=>by cases he;exact .inl (Nat.le_refl _))
  (fun b o k hk a len c he hlt hbb=>by
   cases he
   have:=((H.okd _ _ _).1 hk).1
   exact absurd this (by rw[←hbb];exact Nat.lt_irrefl _))
 have hidm:id<R'.m:=by
  rw[hm1,←hlen]
  exact(List.getElem?_eq_some_iff.1 hid).1
 refine⟨_,R',by rw[hrun,hw],H',hx,hle',.own _ _ _ _ _ hidm ?_ (by rw[hhw];exact Int.le_refl _) (fun _=>hhv.symm)⟩
 have hcell:∀k,k<cap*j.size→R'.w.cell? ⟨R.w.heap.size,k,none⟩=(old++new++rest.toList)[k]? :=fun k hk=>by
  rw[hw]
  simp only[World.cell?,hnew',Option.isSome_none,Bool.false_eq_true,if_false]
  rw[←Array.getElem?_toList]
  simp
 have hmul:(ln+nn)*j.size≤cap*j.size:=Nat.mul_le_mul_right _ hcap
 refine .isl _ _ _ _ R.w.heap.size 0 (ln+nn) cap (fun i k=>if i<ln then us1 i k else us2 (i-ln) k) (by show n ()+m ()=_;omega) hcap (.inl rfl) (fun h=>by cases h) (fun i hi=>?_) (fun i k c hi hk=>?_) (fun i k c hi hk=>?_) ?_
 ·by_cases hi':i<ln
  ·rw[XB hn hi',←hf0 i (by omega)];exact hofl i hi'
  ·rw[X7 hn (by omega)];exact hnfl _ (by omega)
 ·have hlt:i*j.size+k<(ln+nn)*j.size:=by
   have hkj:k<j.size:=by
    by_cases hi':i<ln
    ·rw[XB hn hi',←hf0 i (by omega)]at hk
     rw[←hofl i hi'];exact(List.getElem?_eq_some_iff.1 hk).1
    ·rw[X7 hn (by omega)]at hk
     rw[←hnfl (i-ln) (by omega)];exact(List.getElem?_eq_some_iff.1 hk).1
   have:(i+1)*j.size≤(ln+nn)*j.size:=Nat.mul_le_mul_right _ hi
   rw[Nat.succ_mul]at this
   omega
  rw[Nat.zero_add,hcell _ (by omega)]
  by_cases hi':i<ln
  ·rw[XB hn hi',←hf0 i (by omega)]at hk
   have hkj:k<j.size:=by rw[←hofl i hi'];exact(List.getElem?_eq_some_iff.1 hk).1
   have:=hou i k hi' hkj
   rw[if_pos hi',List.append_assoc,List.getElem?_append_left (by exact(List.getElem?_eq_some_iff.1 this).1)]
   exact this
  ·rw[X7 hn (by omega)]at hk
   have hkj:k<j.size:=by rw[←hnfl (i-ln) (by omega)];exact(List.getElem?_eq_some_iff.1 hk).1
   have:=hnu (i-ln) k (by omega) hkj
   have hge:ln*j.size≤i*j.size:=Nat.mul_le_mul_right _ (by omega)
   rw[if_neg hi',List.append_assoc,List.getElem?_append_right (by rw[hol];omega),hol,show i*j.size+k-ln*j.size=(i-ln)*j.size+k from by rw[Nat.sub_mul];omega,
    List.getElem?_append_left (by exact(List.getElem?_eq_some_iff.1 this).1)]
   exact this
 ·by_cases hi':i<ln
  ·rw[XB hn hi',←hf0 i (by omega)]at hk
   rw[if_pos hi']
   exact(hopr i k c hi' hk).mono hle'.ok hle'.keep hle'.keepM
  ·rw[X7 hn (by omega)]at hk
   rw[if_neg hi']
   exact(hnpr (i-ln) k c (by omega) hk).mono hle'.ok hle'.keep hle'.keepM
 ·refine hokn _ _ _ (by show _<(R.w.heap.push _).size;simp) (H.fresh _ _ _ (Nat.le_refl _)) (.inl (Nat.le_refl _)) (fun a len c he hlt hbb=>?_)
  cases he
  exact Nat.le_refl _
theorem PR.one {w:World} {ok:Nat→Nat→Nat→Prop} {a:AV} {u:Value} (h:PR w ok a u):u.oneCell'=true:=by
 cases h<;>rfl
theorem Zl8 {s:Nat} {n m:Unit→Int} {f g:(Unit→Int)→List AV} {id:Nat} {v x:Value} {P:Program} {at_:Array TypeId} {t t' e e' ty:TypeId} {j:TypeInfo} {hw0:Unit→Int}
  (H:HR G R h) (hv:PR R.w R.ok (.isl s n f .none) v) (hxp:PR R.w R.ok (.isl s m g .none) x)
  (h0:at_[0]? =some t) (h1:at_[1]? =some t') (hu:P.underlying t=some (.slice e)) (hu':P.underlying t'=some (.slice e')) (hj:P.info? e=some j) (hjs:j.size=s)
  (hi:h[id]? =some (.tok s hw0)) (hhv:R.hv id=v) (hhw:R.hw id=n ()) (hpos:0<m ()) (hroom:∀a len cap,v= .slice a len cap→(len:Int)+m ()≤cap):
  Zjo R G h s n m f g id (h.set id (.tok s fun _=>n ()+m ())) ((Builtin.append_ at_ ty #[v,x]).run P R.w):=by
 have hidm:id<R.m:=H.len▸(List.getElem?_eq_some_iff.1 hi).1
 obtain⟨xa,nn,xc,us2,new,rfl,hm,hnc,hxn,hnl,hnfc,hnu,hnfl,hnpr,hna⟩:=Xj (P:=P) hxp
 cases hv with
 |isl0 _ _ _ _ hz _=>have:=hroom _ _ _ rfl;omega
 |islE _ _ _ _ _ hz _=>have:=hroom _ _ _ rfl;omega
 |isl _ _ _ _ b o len cap us hn hc ht he hl hu1 hu2 hok=>
 have hrm:len+nn≤cap:=by have:=hroom _ _ _ rfl;omega
 have hlt:len<cap:=by omega
 obtain⟨_,hbt⟩:=H.blk id _ hi
 obtain⟨arr,ty0,harr,hsz⟩:∃(arr:Array Value) (ty:TypeId),R.w.heap[b]? =some (.cells arr ty (0,0))∧o+cap*s≤arr.size:=by
  rcases hbt with⟨_,a3,h⟩|⟨b',o',len',cap',_,_,h,h4⟩
  ·rw[hhv]at h;cases h;omega
  ·rw[hhv]at h;cases h;exact h4 hlt
 have hphys:ZG R id (.tok s hw0) b:=⟨_,_,_,hhv,hlt,rfl⟩
 subst hjs
 have hmul:(len+nn)*j.size≤cap*j.size:=Nat.mul_le_mul_right _ hrm
 have hmul':(len+nn)*j.size=len*j.size+nn*j.size:=Nat.add_mul ..
 have flat:∀k,k<nn*j.size→k/j.size<nn∧k%j.size<j.size∧k/j.size*j.size+k%j.size=k:=fun k hk=>by
  have hs:0<j.size:=Nat.pos_of_ne_zero (fun e=>by rw[e]at hk;simp at hk)
  exact⟨(Nat.div_lt_iff_lt_mul hs).2 hk,Nat.mod_lt _ hs,Nat.div_add_mod' k j.size⟩
 have hone:∀v∈new,v.oneCell'=true:=fun v hvm=>by
  obtain⟨k,hk,rfl⟩:=List.getElem_of_mem hvm
  obtain⟨f1,f2,f3⟩:=flat k (hnl▸hk)
  have e1:=hnu _ _ f1 f2
  rw[f3,List.getElem?_eq_getElem hk,Option.some.injEq]at e1
  rw[e1]
  exact(hnpr _ _ _ f1 (List.getElem?_eq_getElem (by rw[hnfl _ f1];exact f2))).one
 let arr':=(arr.toList.take (o+len*j.size+0)++new++arr.toList.drop (o+len*j.size+0+new.length)).toArray
 have hst:=run_storeCells_at P b (o+len*j.size) ty0 new 0 arr R.w harr (by rw[hnl];omega) hone
 have hset:∀i x,(h.set id (.tok j.size fun _=>n ()+m ()))[i]? =some x→(i=id∧x= .tok j.size fun _=>n ()+m ())∨(i≠id∧h[i]? =some x):=fun i x hx=>by
  rw[List.getElem?_set]at hx
  split at hx
  ·rename_i e
   subst e
   split at hx
   ·simp only[Option.some.injEq]at hx;exact .inl ⟨rfl,hx.symm⟩
   ·cases hx
  ·rename_i e
   exact .inr ⟨fun h=>e h.symm,hx⟩
 have hother:∀b',b'≠b→(R.w.setRow b arr').heap[b']? =R.w.heap[b']? :=fun b' hb=>setRow_other R.w b b' _ hb
 have hthis:(R.w.setRow b arr').heap[b]? =some (.cells arr' ty0 (0,0)):=setRow_heap R.w b arr _ ty0 _ harr
 have hsz':arr'.size=arr.size:=by
  simp only[arr',List.size_toArray,List.length_append,List.length_take,List.length_drop,Array.length_toList,hnl]
  omega
 have hget:∀k,arr'.getD k undef=if o+len*j.size≤k∧k<o+len*j.size+new.length then new.getD (k-(o+len*j.size)) undef else arr.getD k undef:=fun k=>by
  have:=Yr arr new (o+len*j.size+0) k (by rw[hnl];omega)
  exact this
 have hcell:∀k,k<arr.size→(R.w.setRow b arr').cell? ⟨b,k,none⟩=some (arr'.getD k undef):=fun k hk=>Qd hthis (by rw[hsz'];exact hk)
 have hkeep:∀b' o' k,R.ok b' o' k→∀i,i<k→(R.w.setRow b arr').cell? ⟨b',o'+i,none⟩=R.w.cell? ⟨b',o'+i,none⟩:=fun b' o' k hk i hik=>by
  by_cases e:b'=b
  ·subst e
   have hav:=((H.okd _ _ _).1 hk).2.2 id _ hi _ _ _ hhv hlt rfl
   have hav:o'+k≤o+len*j.size:=hav
   rw[hcell _ (by omega),hget,if_neg (by omega)]
   exact(Qd harr (by omega)).symm
  ·simp only[World.cell?,hother b' e]
 obtain⟨R',hw,hm1,hhv',hhw',H',hx,hle',hokn⟩:=H.token id R.m j.size (fun _=>n ()+m ()) (.slice (some ⟨b,o,none⟩) (len+nn) cap) (R.w.setRow b arr') (h.set id (.tok j.size fun _=>n ()+m ()))
  (by rw[List.length_set];exact H.len) (Nat.le_refl _) hset (by rw[List.getElem?_set];simp[(List.getElem?_eq_some_iff.1 hi).1])
  (fun _=>⟨_,_,hi,by rw[hhw];show n ()≤n ()+m ();omega,fun e=>by rw[hhw]at e;have e:n ()=n ()+m ():=e;omega⟩)
  (fun b=>id<R.m∧∃s0 hw0,h[id]? =some (.tok s0 hw0)∧ZG R id (.tok s0 hw0) b) (fun b=>Iff.rfl) rfl rfl rfl (by simp[World.setRow])
  (fun b' _ hn'=>hother b' (fun e=>hn' (e▸⟨hidm,_,_,hi,hphys⟩))) hkeep
  (.inr ⟨b,o,len+nn,cap,by show n ()+m ()=_;omega,hrm,rfl,fun _=>⟨arr',ty0,hthis,by rw[hsz'];exact hsz⟩⟩)
  (fun a k c he hlt'=>by cases he;exact .inr ⟨hidm,_,_,hi,hphys⟩)
  (fun b' o' k hk a len' c he hlt' hbb=>by
   cases he
   subst hbb
   have hav:=((H.okd _ _ _).1 hk).2.2 id _ hi _ _ _ hhv hlt rfl
   have hav:o'+k≤o+len*j.size:=hav
   show o'+k≤o+(len+nn)*j.size
   omega)
 refine⟨_,R',?_,H',hx,hle',.own _ _ _ _ _ (by rw[hm1];exact hidm) ?_ (by rw[hhw'];exact Int.le_refl _) (fun _=>hhv'.symm)⟩
 ·rw[hw]
  exact Qm h0 h1 hu hu' hj _ xa len cap xc nn new.toArray R.w _ (hnfc _ rfl) hrm (fun a ha=>by
   cases ha
   rw[QS]
   exact hst) (fun h=>by cases h)
 ·refine .isl _ _ _ _ b o (len+nn) cap (fun i k=>if i<len then us i k else us2 (i-len) k) (by show n ()+m ()=_;omega) hrm (.inl rfl) (fun h=>by cases h) (fun i hi'=>?_) (fun i k c hi' hk=>?_) (fun i k c hi' hk=>?_) ?_
  ·by_cases hil:i<len
   ·rw[XB hn hil];exact hl i hil
   ·rw[X7 hn (by omega)];exact hnfl _ (by omega)
  ·rw[hw]
   by_cases hil:i<len
   ·rw[XB hn hil]at hk
    have hkj:k<j.size:=by rw[←hl i hil];exact(List.getElem?_eq_some_iff.1 hk).1
    have hle:i*j.size+j.size≤len*j.size:=by
     have:(i+1)*j.size≤len*j.size:=Nat.mul_le_mul_right _ hil
     rwa [Nat.succ_mul]at this
    rw[if_pos hil,Nat.add_assoc,hkeep b o _ hok (i*j.size+k) (by omega),←Nat.add_assoc]
    exact hu1 i k c hil hk
   ·rw[X7 hn (by omega)]at hk
    have hkj:k<j.size:=by rw[←hnfl (i-len) (by omega)];exact(List.getElem?_eq_some_iff.1 hk).1
    have hle:i*j.size+j.size≤(len+nn)*j.size:=by
     have:(i+1)*j.size≤(len+nn)*j.size:=Nat.mul_le_mul_right _ hi'
     rwa [Nat.succ_mul]at this
    have hge:len*j.size≤i*j.size:=Nat.mul_le_mul_right _ (by omega)
    have e1:=hnu (i-len) k (by omega) hkj
    have e2:i*j.size-len*j.size=(i-len)*j.size:=by rw[Nat.sub_mul]
    rw[if_neg hil,hcell _ (by omega),hget,if_pos (by rw[hnl];omega),show o+i*j.size+k-(o+len*j.size)=(i-len)*j.size+k from by omega,List.getD_eq_getElem?_getD,e1]
    rfl
  ·by_cases hil:i<len
   ·rw[XB hn hil]at hk
    rw[if_pos hil]
    exact(hu2 i k c hil hk).mono hle'.ok hle'.keep hle'.keepM
   ·rw[X7 hn (by omega)]at hk
    rw[if_neg hil]
    exact(hnpr (i-len) k c (by omega) hk).mono hle'.ok hle'.keep hle'.keepM
  ·refine hokn _ _ _ (by show b<(R.w.heap.modify _ _).size;rw[Array.size_modify];exact(Array.getElem?_eq_some_iff.1 harr).1) (H.tokG id _ b hi rfl hphys _ _) (.inr ⟨hidm,_,_,hi,hphys⟩) (fun a len' c he hlt' hbb=>?_)
   cases he
   exact Nat.le_refl _
end
end Go.Proofs.YtjgpiclllehgmaaGreat.Vm
namespace Go.Proofs.YtjgpiclllehgmaaGreat.Vm
open Go
section
variable {P:Program} {R:RC} {G:Nat→Nat→Nat→Prop} {h:List Zi}
theorem Zp3 {id:Nat} {blk:Zi} {i:Nat} {x:Zi} (hx:(h.set id blk)[i]? =some x):(i=id∧x=blk)∨(i≠id∧h[i]? =some x):=by
 rw[List.getElem?_set]at hx
 split at hx
 ·rename_i e
  subst e
  split at hx
  ·simp only[Option.some.injEq]at hx;exact .inl ⟨rfl,hx.symm⟩
  ·cases hx
 ·rename_i e
  exact .inr ⟨fun h=>e h.symm,hx⟩
theorem HR.gar (H:HR G R h) {id s:Nat} {n0:Unit→Int} {f:(Unit→Int)→List AV} (hi:h[id]? =some (.gar s n0 f)) (n':Unit→Int) (f':(Unit→Int)→List AV) (hv':Value) (w':World)
  (hle:n0 ()≤n' ()) (heq:n0 ()=n' ()→hv'=R.hv id)
  (hos:w'.os=R.w.os) (htp:w'.tape=R.w.tape) (hou:w'.output=R.w.output) (hsz:R.w.heap.size≤w'.heap.size)
  (hh:∀b,b<R.w.heap.size→¬ZG R id (.gar s n0 f) b→w'.heap[b]? =R.w.heap[b]?)
  (hbr:∀R':RC,R.le R'→R'.w=w'→(n' ()=0∧∃a:Option Addr,hv'= .slice a 0 0)∨
   ∃(b o len cap:Nat) (arr:Array Value) (ty:TypeId),n' ()=(len:Int)∧len≤cap∧hv'= .slice (some ⟨b,o,none⟩) len cap∧w'.heap[b]? =some (.cells arr ty (0,0))∧o+cap*s≤arr.size∧
    ∀i:Nat,i<len→(f' (fun _=>(i:Int))).length=s∧∀j c,(f' (fun _=>(i:Int)))[j]? =some c→PR R'.w R'.ok c (arr.getD (o+i*s+j) undef))
  (hph:∀a n c,hv'= .slice (some a) n c→0<c→R.w.heap.size≤a.block∨ZG R id (.gar s n0 f) a.block):
  ∃R',R'.w=w'∧R'.hv id=hv'∧R'.hw id=n' ()∧R'.m=R.m∧HR G R' (h.set id (.gar s n' f'))∧Xf R h R' (h.set id (.gar s n' f'))∧R.le R':=by
 have hidm:id<R.m:=H.len▸(List.getElem?_eq_some_iff.1 hi).1
 obtain⟨hhw,_⟩:=H.blk id _ hi
 have hPO:∀b,ZG R id (.gar s n0 f) b↔(id<R.m∧∃blk0,h[id]? =some blk0∧Zb5 blk0=true∧ZG R id blk0 b):=fun b=>
  ⟨fun hp=>⟨hidm,_,hi,rfl,hp⟩,fun⟨_,blk0,h1,_,h2⟩=>by rw[hi]at h1;cases h1;exact h2⟩
 have hnp:∀b o n,R.ok b o n→¬ZG R id (.gar s n0 f) b:=fun b o n hk=>((H.okd _ _ _).1 hk).2.2 id _ hi
 obtain⟨R',a1,a2,a3,a4,a5,a6,a7,_⟩:=H.room id R.m (.gar s n' f') (n' ()) hv' w' (h.set id (.gar s n' f')) (by rw[List.length_set];exact H.len) (Nat.le_refl _) (fun i x=>Zp3)
  (fun _=>⟨_,hi,rfl,by rw[hhw];exact hle,fun e=>heq (hhw.symm.trans e),.of (H.blk id _ hi).garNo⟩) (fun b=>ZG R id (.gar s n0 f) b) hPO hos htp hou hsz hh
  (fun b o n hk j _=>by
   simp only[World.cell?]
   rw[hh b ((H.okd _ _ _).1 hk).1 (hnp b o n hk)])
  (fun R' hle' hw' hwi hvi _=>by
   refine⟨hwi,?_⟩
   rcases hbr R' hle' hw' with⟨h1,a,h2⟩|⟨b,o,len,cap,arr,ty,h1,h2,h3,h4,h5,h6⟩
   ·exact .inl ⟨h1,a,hvi.trans h2⟩
   ·exact .inr ⟨b,o,len,cap,arr,ty,h1,h2,hvi.trans h3,by rw[hw'];exact h4,h5,h6⟩)
  (fun R' hv _ b ⟨a,n,c,h1,hc,h2⟩=>h2▸hph a n c (hv.symm.trans h1) hc)
  (fun R' hv b o n hk ⟨a,l,c,h1,hc,h2⟩=>by
   rcases hph a l c (hv.symm.trans h1) hc with h3|h3
   ·have:=((H.okd _ _ _).1 hk).1
    omega
   ·exact hnp b o n hk (h2▸h3)) rfl
 exact⟨R',a1,a3,a4,a2,a5,a6,a7⟩
theorem ZgH {s:Nat} {n0 m:Unit→Int} {f g:(Unit→Int)→List AV} {id:Nat} {x:Value} {at_:Array TypeId} {t t' e e' ty:TypeId} {j:TypeInfo} {z:Value}
  (H:HR G R h) (hi:h[id]? =some (.gar s n0 f)) (hxp:Src P R s m g x)
  (h0:at_[0]? =some t) (h1:at_[1]? =some t') (hu:P.underlying t=some (.slice e)) (hu':P.underlying t'=some (.slice e')) (hj:P.info? e=some j) (hz:j.zero=some z) (hzs:z.cells.size=s) (hjs:j.size=s) (hb:j.bytes≤1000000)
  (hle:n0 ()+m ()≤1000000):
  ∃u R',(Builtin.append_ at_ ty #[R.hv id,x]).run P R.w= .ok u R'.w∧HR G R' (h.set id (.gar s (fun _=>n0 ()+m ()) (QM n0 f g)))∧Xf R h R' (h.set id (.gar s (fun _=>n0 ()+m ()) (QM n0 f g)))∧R.le R'∧VR R' (.gsl id fun _=>n0 ()+m ()) u:=by
 have hidm:id<R.m:=H.len▸(List.getElem?_eq_some_iff.1 hi).1
 obtain⟨xa,nn,xc,us2,new,rfl,hm,hnc,hxn,hnl,hnfc,hnu,hnfl,hnpr⟩:=hxp
 subst hjs
 obtain⟨hhw,hbt⟩:=H.blk id _ hi
 have flat:∀k,k<nn*j.size→k/j.size<nn∧k%j.size<j.size∧k/j.size*j.size+k%j.size=k:=fun k hk=>by
  have hs:0<j.size:=Nat.pos_of_ne_zero (fun e=>by rw[e]at hk;simp at hk)
  exact⟨(Nat.div_lt_iff_lt_mul hs).2 hk,Nat.mod_lt _ hs,Nat.div_add_mod' k j.size⟩
 have rowB:∀ {i k c len:Nat},k<c→i<len→i*c+k<len*c:=fun {i k c len} hk hi=>by
  have:(i+1)*c≤len*c:=Nat.mul_le_mul_right _ hi
  rw[Nat.succ_mul]at this
  omega
 have grow:∀(base:Option Addr) (ln vc:Nat) (old:List Value),R.hv id= .slice base ln vc→n0 ()=(ln:Int)→(base=none→vc=0)→ln≤vc→old.length=ln*j.size→(∀w':World,w'.heap=R.w.heap→(Builtin.firstCells j.size ln (.slice base ln vc)).run P w'= .ok old.toArray w')→
   (∀i:Nat,i<ln→(f (fun _=>(i:Int))).length=j.size∧∀k c,(f (fun _=>(i:Int)))[k]? =some c→PR R.w R.ok c (old.getD (i*j.size+k) undef))→¬ln+nn≤vc→
   ∃u R',(Builtin.append_ at_ ty #[R.hv id,.slice xa nn xc]).run P R.w= .ok u R'.w∧HR G R' (h.set id (.gar j.size (fun _=>n0 ()+m ()) (QM n0 f g)))∧Xf R h R' (h.set id (.gar j.size (fun _=>n0 ()+m ()) (QM n0 f g)))∧R.le R'∧VR R' (.gsl id fun _=>n0 ()+m ()) u:=by
  intro base ln vc old hv hn hbn hlc hol hofc hof hneed
  obtain⟨cap,d,rest,hcap,hrs,hrun⟩:=Za0 (P:=P) (ty:=ty) h0 h1 hu hu' hj hz hb base xa ln vc xc nn old.toArray new.toArray R.w (fun w' hw=>hnfc w' hw) hofc hneed (by omega)
  have hsz:(old.toArray++new.toArray++rest).size=cap*j.size:=by
   rw[Array.size_append,Array.size_append,hrs,hzs]
   simp only[List.size_toArray,hol,hnl]
   rw[←Nat.add_mul,←Nat.add_mul]
   congr 1
   omega
  have hold':∀b,b<R.w.heap.size→(R.w.heap.push (.cells (old.toArray++new.toArray++rest) e))[b]? =R.w.heap[b]? :=fun b hb=>by rw[Array.getElem?_push,if_neg (by omega)]
  have hnew':(R.w.heap.push (.cells (old.toArray++new.toArray++rest) e))[R.w.heap.size]? =some (.cells (old.toArray++new.toArray++rest) e (0,0)):=by simp
  have hget:∀k,(old.toArray++new.toArray++rest).getD k undef=if k<old.length then old.getD k undef else if k<old.length+new.length then new.getD (k-old.length) undef else rest.getD (k-old.length-new.length) undef:=fun k=>by
   simp only[Array.getD_eq_getD_getElem?,List.getD_eq_getElem?_getD]
   by_cases h1:k<old.length
   ·rw[if_pos h1,Array.append_assoc,Array.getElem?_append_left (by simpa using h1)]
    simp
   ·rw[if_neg h1]
    by_cases h2:k<old.length+new.length
    ·rw[if_pos h2,Array.getElem?_append_left (by simpa using h2),Array.getElem?_append_right (by simpa using Nat.le_of_not_lt h1)]
     simp
    ·rw[if_neg h2,Array.getElem?_append_right (by simpa using Nat.le_of_not_lt h2)]
     simp[Nat.sub_sub]
  have hcc:∀R':RC,R.le R'→∀i:Nat,i<ln+nn→(QM n0 f g (fun _=>(i:Int))).length=j.size∧∀k c,(QM n0 f g (fun _=>(i:Int)))[k]? =some c→PR R'.w R'.ok c ((old.toArray++new.toArray++rest).getD (0+i*j.size+k) undef):=fun R' hle' i hi'=>by
   by_cases hil:i<ln
   ·rw[XB hn hil]
    refine⟨(hof i hil).1,fun k c hk=>?_⟩
    have hkj:k<j.size:=by rw[←(hof i hil).1];exact(List.getElem?_eq_some_iff.1 hk).1
    have:=rowB hkj hil
    rw[Nat.zero_add,hget,if_pos (by omega)]
    exact((hof i hil).2 k c hk).mono hle'.ok hle'.keep hle'.keepM
   ·rw[X7 hn (by omega)]
    refine⟨hnfl _ (by omega),fun k c hk=>?_⟩
    have hkj:k<j.size:=by rw[←hnfl (i-ln) (by omega)];exact(List.getElem?_eq_some_iff.1 hk).1
    have e1:=rowB (i:=i) (len:=ln+nn) hkj hi'
    have e2:=rowB (i:=i-ln) (len:=nn) hkj (by omega)
    have e3:ln*j.size≤i*j.size:=Nat.mul_le_mul_right _ (by omega)
    have e4:(i-ln)*j.size=i*j.size-ln*j.size:=Nat.sub_mul ..
    rw[Nat.zero_add,hget,if_neg (by omega),if_pos (by omega),hol,show i*j.size+k-ln*j.size=(i-ln)*j.size+k from by omega,List.getD_eq_getElem?_getD,hnu (i-ln) k (by omega) hkj]
    exact(hnpr (i-ln) k c (by omega) hk).mono hle'.ok hle'.keep hle'.keepM
  obtain⟨R',hw,hvi,hwi,hmm,H',hx,hle'⟩:=H.gar hi (fun _=>n0 ()+m ()) (QM n0 f g) (.slice (some ⟨R.w.heap.size,0,none⟩) (ln+nn) cap) {R.w with drawn:=d,heap:=R.w.heap.push (.cells (old.toArray++new.toArray++rest) e)}
   (by show n0 ()≤n0 ()+m ();omega) (fun e=>by have e:n0 ()=n0 ()+m ():=e;omega) rfl rfl rfl (by show _≤(R.w.heap.push _).size;simp) (fun b hb _=>hold' b hb)
   (fun R' hle' hw'=>.inr ⟨R.w.heap.size,0,ln+nn,cap,_,e,by show n0 ()+m ()=_;omega,hcap,rfl,hnew',by rw[hsz];omega,fun i hi'=>hcc R' hle' i hi'⟩)
   (fun a k c he _=>by cases he;exact .inl (Nat.le_refl _))
  exact⟨_,R',by rw[hv,hrun,hw],H',hx,hle',.gsl _ _ _ _ _ (by rw[hmm];exact hidm) (by rw[hwi];exact Int.le_refl _) (fun _=>hvi.symm) ⟨by show n0 ()+m ()=_;omega,.inr ⟨_,_,rfl⟩⟩⟩
 have zero:∀a0:Option Addr,n0 ()=0→R.hv id= .slice a0 0 0→∃u R',(Builtin.append_ at_ ty #[R.hv id,.slice xa nn xc]).run P R.w= .ok u R'.w∧HR G R' (h.set id (.gar j.size (fun _=>n0 ()+m ()) (QM n0 f g)))∧Xf R h R' (h.set id (.gar j.size (fun _=>n0 ()+m ()) (QM n0 f g)))∧R.le R'∧VR R' (.gsl id fun _=>n0 ()+m ()) u:=by
  intro a0 hz0 hv0
  by_cases hnn:nn=0
  ·subst hnn
   obtain⟨R',hw,hvi,hwi,hmm,H',hx,hle'⟩:=H.gar hi (fun _=>n0 ()+m ()) (QM n0 f g) (.slice a0 0 0) R.w
    (by show n0 ()≤n0 ()+m ();omega) (fun _=>hv0.symm) rfl rfl rfl (Nat.le_refl _) (fun _ _ _=>rfl) (fun R' _ _=>.inl ⟨by show n0 ()+m ()=0;omega,a0,rfl⟩) (fun a k c he h0=>by cases he;omega)
   refine⟨.slice a0 0 0,R',?_,H',hx,hle',.gsl _ _ _ _ _ (by rw[hmm];exact hidm) (by rw[hwi];exact Int.le_refl _) (fun _=>hvi.symm) ⟨by show n0 ()+m ()=_;omega,.inl rfl⟩⟩
   rw[hv0,hw]
   have hnl0:new=[]:=List.eq_nil_of_length_eq_zero (by rw[hnl,Nat.zero_mul])
   exact Qm h0 h1 hu hu' hj a0 xa 0 0 xc 0 new.toArray R.w R.w (hnfc _ rfl) (Nat.le_refl _) (fun a ha=>by rw[hnl0];rfl) (fun _=>rfl)
  ·exact grow a0 0 0 [] hv0 (by omega) (fun _=>rfl) (Nat.le_refl _) (by simp) (fun w' _=>by
    cases a0 with
    |none=>rfl
    |some a0=>exact Zax w' a0 _ 0 0) (fun i hi=>by omega) (by omega)
 rcases hbt with⟨hz0,a0,hv0⟩|⟨b,o,len,cap,arr,ty0,hn,hlc,hv0,harr,hfit,hcon⟩
 ·exact zero a0 hz0 hv0
 rcases Nat.eq_zero_or_pos cap with hcap0|hcap0
 ·exact zero (some ⟨b,o,none⟩) (by omega) (by rw[hv0,hcap0,show len=0 by omega])
 ·have hphys:ZG R id (.gar j.size n0 f) b:=⟨_,_,_,hv0,hcap0,rfl⟩
  have hmulc:len*j.size≤cap*j.size:=Nat.mul_le_mul_right _ hlc
  by_cases hrm:len+nn≤cap
  ·have hmul:(len+nn)*j.size≤cap*j.size:=Nat.mul_le_mul_right _ hrm
   have hmul':(len+nn)*j.size=len*j.size+nn*j.size:=Nat.add_mul ..
   have hone:∀v∈new,v.oneCell'=true:=fun v hvm=>by
    obtain⟨k,hk,rfl⟩:=List.getElem_of_mem hvm
    obtain⟨f1,f2,f3⟩:=flat k (hnl▸hk)
    have e1:=hnu _ _ f1 f2
    rw[f3,List.getElem?_eq_getElem hk,Option.some.injEq]at e1
    rw[e1]
    exact(hnpr _ _ _ f1 (List.getElem?_eq_getElem (by rw[hnfl _ f1];exact f2))).one
   let arr':=(arr.toList.take (o+len*j.size+0)++new++arr.toList.drop (o+len*j.size+0+new.length)).toArray
   have hst:=run_storeCells_at P b (o+len*j.size) ty0 new 0 arr R.w harr (by rw[hnl];omega) hone
   have hother:∀b',b'≠b→(R.w.setRow b arr').heap[b']? =R.w.heap[b']? :=fun b' hb=>setRow_other R.w b b' _ hb
   have hthis:(R.w.setRow b arr').heap[b]? =some (.cells arr' ty0 (0,0)):=setRow_heap R.w b arr _ ty0 _ harr
   have hsz':arr'.size=arr.size:=by
    simp only[arr',List.size_toArray,List.length_append,List.length_take,List.length_drop,Array.length_toList,hnl]
    omega
   have hget:∀k,arr'.getD k undef=if o+len*j.size≤k∧k<o+len*j.size+new.length then new.getD (k-(o+len*j.size)) undef else arr.getD k undef:=fun k=>
    Yr arr new (o+len*j.size+0) k (by rw[hnl];omega)
   have hcc:∀R':RC,R.le R'→∀i:Nat,i<len+nn→(QM n0 f g (fun _=>(i:Int))).length=j.size∧∀k c,(QM n0 f g (fun _=>(i:Int)))[k]? =some c→PR R'.w R'.ok c (arr'.getD (o+i*j.size+k) undef):=fun R' hle' i hi'=>by
    by_cases hil:i<len
    ·rw[XB hn hil]
     refine⟨(hcon i hil).1,fun k c hk=>?_⟩
     have hkj:k<j.size:=by rw[←(hcon i hil).1];exact(List.getElem?_eq_some_iff.1 hk).1
     have:=rowB hkj hil
     rw[hget,if_neg (by omega)]
     exact((hcon i hil).2 k c hk).mono hle'.ok hle'.keep hle'.keepM
    ·rw[X7 hn (by omega)]
     refine⟨hnfl _ (by omega),fun k c hk=>?_⟩
     have hkj:k<j.size:=by rw[←hnfl (i-len) (by omega)];exact(List.getElem?_eq_some_iff.1 hk).1
     have e1:=rowB (i:=i) (len:=len+nn) hkj hi'
     have e2:=rowB (i:=i-len) (len:=nn) hkj (by omega)
     have e3:len*j.size≤i*j.size:=Nat.mul_le_mul_right _ (by omega)
     have e4:(i-len)*j.size=i*j.size-len*j.size:=Nat.sub_mul ..
     rw[hget,if_pos (by rw[hnl];omega),show o+i*j.size+k-(o+len*j.size)=(i-len)*j.size+k from by omega,List.getD_eq_getElem?_getD,hnu (i-len) k (by omega) hkj]
     exact(hnpr (i-len) k c (by omega) hk).mono hle'.ok hle'.keep hle'.keepM
   obtain⟨R',hw,hvi,hwi,hmm,H',hx,hle'⟩:=H.gar hi (fun _=>n0 ()+m ()) (QM n0 f g) (.slice (some ⟨b,o,none⟩) (len+nn) cap) (R.w.setRow b arr')
    (by show n0 ()≤n0 ()+m ();omega) (fun e=>by have e:n0 ()=n0 ()+m ():=e;rw[hv0,show nn=0 from by omega,Nat.add_zero]) rfl rfl rfl (by simp[World.setRow]) (fun b' _ hn'=>hother b' (fun e=>hn' (e▸hphys)))
    (fun R' hle' hw'=>.inr ⟨b,o,len+nn,cap,arr',ty0,by show n0 ()+m ()=_;omega,hrm,rfl,hthis,by rw[hsz'];exact hfit,fun i hi'=>hcc R' hle' i hi'⟩)
    (fun a k c he _=>by cases he;exact .inr hphys)
   refine⟨_,R',?_,H',hx,hle',.gsl _ _ _ _ _ (by rw[hmm];exact hidm) (by rw[hwi];exact Int.le_refl _) (fun _=>hvi.symm) ⟨by show n0 ()+m ()=_;omega,.inr ⟨_,_,rfl⟩⟩⟩
   rw[hv0,hw]
   exact Qm h0 h1 hu hu' hj _ xa len cap xc nn new.toArray R.w _ (hnfc _ rfl) hrm (fun a ha=>by
    cases ha
    rw[QS]
    exact hst) (fun h=>by cases h)
  ·have hin:∀k,k<len*j.size→o+k<arr.size:=fun k hk=>by omega
   refine grow (some ⟨b,o,none⟩) len cap ((List.range (len*j.size)).map fun k=>arr.getD (o+k) undef) hv0 hn (fun h=>by cases h) hlc (by simp) (fun w' hw=>?_) (fun i hi'=>⟨(hcon i hi').1,fun k c hk=>?_⟩) hrm
   ·have:=run_loadCells (P:=P) w' ⟨b,o,none⟩ (len*j.size) (fun k=>arr.getD (o+k) undef) (fun k hk=>by
     rw[QS]
     have:w'.heap[b]? =some (.cells arr ty0 (0,0)):=by rw[hw];exact harr
     exact Qd this (hin k hk))
    simpa [Builtin.firstCells]using this
   ·have hkj:k<j.size:=by rw[←(hcon i hi').1];exact(List.getElem?_eq_some_iff.1 hk).1
    have:=rowB hkj hi'
    rw[List.getD_eq_getElem?_getD,List.getElem?_map,List.getElem?_range (by omega)]
    show PR R.w R.ok c (arr.getD (o+(i*j.size+k)) undef)
    rw[←Nat.add_assoc]
    exact(hcon i hi').2 k c hk
end
end Go.Proofs.YtjgpiclllehgmaaGreat.Vm
namespace Go.Proofs.YtjgpiclllehgmaaGreat.Vm
open Go
def ZjF (lt:Unit→Bool):AV→AV→Option AV
 |.int k a,.int k' c=>if Jx k k' then some (.int k fun _=>bif lt ()then a ()else c ())else none
 |.bool a,.bool c=>some (.bool fun _=>bif lt ()then a ()else c ())
 |.isl s n f .none,.isl s' m g .none=>if ZC s s' then some (.isl s (fun _=>bif lt ()then n ()else m ()) (fun e=>bif lt ()then f e else g e) .none)else none
 |.isl _ _ _ .nil,.isl s' m g .none=>some (.isl s' (fun _=>bif lt ()then 0 else m ()) g .none)
 |_,_=>none
def QX (lt:Unit→Bool):List AV→List AV→Option (List AV)
 |[],[]=>some []
 |a::r,b::s=>(match ZjF lt a b,QX lt r s with
  |some x,some l=>some (x::l)
  |_,_=>none)
 |_,_=>none
instance decRow (m:Int) (f:Nat→Bool):Decidable (∀i:Nat,(i:Int)<m→f i=true):=decidable_of_iff ((List.range m.toNat).all f=true) (by
 rw[List.all_eq_true]
 exact⟨fun h i hi=>h i (List.mem_range.2 (by omega)),fun h i hi=>h i (by have:=List.mem_range.1 hi;omega)⟩)
def Zn1 (e v:Unit→Int):Nat→List (Unit→Int)→List AV
 |_,[]=>[]
 |i,a::r=>.int .i64 (fun _=>bif decide (e ()=(i:Int))then v ()else a ())::Zn1 e v (i+1) r
def Zn2 (e:Unit→Int) (v:Unit→Bool):Nat→List (Unit→Bool)→List AV
 |_,[]=>[]
 |i,a::r=>.bool (fun _=>bif decide (e ()=(i:Int))then v ()else a ())::Zn2 e v (i+1) r
def Zsm (cs:List AV) (e:Unit→Int) (x:AV):Option (List AV):=match x with
 |.int .i64 v=>(match ZgD cs with
  |some l=>some (Zn1 e v 0 l)
  |none=>none)
 |.bool v=>(match ZdF cs with
  |some l=>some (Zn2 e v 0 l)
  |none=>none)
 |_=>none
theorem Zio (e v:Unit→Int) (q:Nat) (he:e ()=(q:Int)):∀(l:List (Unit→Int)) (k:Nat),Zn1 e v k l=if k≤q then((l.map (AV.int .i64)).set (q-k) (.int .i64 v))else l.map (AV.int .i64)
 |[],k=>by split<;>simp[Zn1]
 |a::r,k=>by
  have ih:=Zio e v q he r (k+1)
  simp only[Zn1,ih,he]
  by_cases hk:k≤q
  ·by_cases hq:q=k
   ·subst hq
    rw[if_pos (Nat.le_refl _),if_neg (by omega),Nat.sub_self]
    simp
   ·rw[if_pos hk,if_pos (by omega),show q-k=(q-(k+1))+1 by omega]
    have:¬((q:Int)=(k:Int)):=by omega
    simp[this]
  ·rw[if_neg hk,if_neg (by omega)]
   have:¬((q:Int)=(k:Int)):=by omega
   simp[this]
theorem Zip (e:Unit→Int) (v:Unit→Bool) (q:Nat) (he:e ()=(q:Int)):∀(l:List (Unit→Bool)) (k:Nat),Zn2 e v k l=if k≤q then((l.map AV.bool).set (q-k) (.bool v))else l.map AV.bool
 |[],k=>by split<;>simp[Zn2]
 |a::r,k=>by
  have ih:=Zip e v q he r (k+1)
  simp only[Zn2,ih,he]
  by_cases hk:k≤q
  ·by_cases hq:q=k
   ·subst hq
    rw[if_pos (Nat.le_refl _),if_neg (by omega),Nat.sub_self]
    simp
   ·rw[if_pos hk,if_pos (by omega),show q-k=(q-(k+1))+1 by omega]
    have:¬((q:Int)=(k:Int)):=by omega
    simp[this]
  ·rw[if_neg hk,if_neg (by omega)]
   have:¬((q:Int)=(k:Int)):=by omega
   simp[this]
theorem Zqb {cs cs':List AV} {e:Unit→Int} {x:AV} (h:Zsm cs e x=some cs') {q:Nat} (he:e ()=(q:Int)):cs'=cs.set q x∧Zoj x=true∧x.cellsOf=[x]:=by
 unfold Zsm at h
 split at h
 ·split at h
  ·rename_i v _ l hl
   cases h
   obtain⟨h1,h2⟩:=Zdo hl
   have:cs=l.map (AV.int .i64):=List.ext_getElem? fun i=>by
    rw[List.getElem?_map]
    by_cases hi:i<l.length
    ·rw[h2 i hi,List.getElem?_eq_getElem hi];rfl
    ·rw[List.getElem?_eq_none (by omega),List.getElem?_eq_none (by omega)];rfl
   rw[Zio e v q he,if_pos (Nat.zero_le _),this]
   exact⟨rfl,rfl,rfl⟩
  ·cases h
 ·split at h
  ·rename_i v _ l hl
   cases h
   obtain⟨h1,h2⟩:=Zcw hl
   have:cs=l.map AV.bool:=List.ext_getElem? fun i=>by
    rw[List.getElem?_map]
    by_cases hi:i<l.length
    ·rw[h2 i hi,List.getElem?_eq_getElem hi];rfl
    ·rw[List.getElem?_eq_none (by omega),List.getElem?_eq_none (by omega)];rfl
   rw[Zip e v q he,if_pos (Nat.zero_le _),this]
   exact⟨rfl,rfl,rfl⟩
  ·cases h
 ·cases h
def Zb0 (T:TI) (id s:Nat) (e:Unit→Int) (off:Nat) (x:AV) (h:List Zi):Option (AV×List Zi×Cd):=match h[id]? with
 |some (.arr s' m f)=>if ZC s s'&&plain x&&ZC x.cellsOf.length T.size&&ZC (f e).length s&&Z4 (off+T.size) s&&(x.cellsOf.map purify).all Y7 then
   some (.undef,h.set id (.arr s m fun e'=>(QX (fun _=>decide (e' ()=e ())) (putC (f e) off (x.cellsOf.map purify)) (f e')).getD []),
    [dd fun _=>0≤e ()∧e ()<m (),dd fun _=>∀i:Nat,(i:Int)<m ()→(QX (fun _=>decide ((i:Int)=e ())) (putC (f e) off (x.cellsOf.map purify)) (f fun _=>(i:Int))).isSome=true])else none
 |some (.cells cs)=>if ZC s 1&&ZC off 0&&ZC T.size 1 then(match Zsm cs e x with
  |some cs'=>some (.undef,h.set id (.cells cs'),bnd e cs.length)
  |none=>none)else none
 |_=>none
def ZbW (T:TI) (id s:Nat) (n e:Unit→Int) (off:Nat) (x:AV) (h:List Zi):Option (AV×List Zi×Cd):=match h[id]? with
 |some (.gar s' m f)=>if ZC s s'&&plain x&&ZC x.cellsOf.length T.size&&Z4 (off+T.size) s&&(x.cellsOf.map purify).all Y7 then
   some (.undef,h.set id (.gar s m fun e'=>putC (f e') off ((QX (fun _=>decide (e' ()=e ())) (x.cellsOf.map purify) (((f e').drop off).take T.size)).getD [])),
    [dd fun _=>n ()=m ()∧0≤e ()∧e ()<m (),dd fun _=>∀i:Nat,(i:Int)<m ()→(QX (fun _=>decide ((i:Int)=e ())) (x.cellsOf.map purify) (((f fun _=>(i:Int)).drop off).take T.size)).isSome=true])else none
 |_=>none
def YL (T:TI) (z:Option Value) (n c:AV) (h:List Zi):Option (AV×List Zi×Cd):=match T.k,n,c,z with
 |.slice _ s b,.int _ x,.int _ y,some z=>if ZC z.cells.size s&&Z4 b 1000000&&((Xr z).cellsOf.map purify).all Y7 then
   some (.msl h.length s (fun _=>0) x x,h++[.arr s x fun _=>(Xr z).cellsOf.map purify],[dd fun _=>0≤x ()∧x ()=y ()∧x ()≤1000000])else none
 |_,_,_,_=>none
def ZfJ (z:Option Value) (s0:Nat) (x:AV) (h:List Zi):Option (AV×List Zi×Cd):=match x,z with
 |.msl id s o n _,some z=>if ZC s s0 then(match h[id]? with
  |some (.arr s' m f)=>if ZC s s'&&ZC z.cells.size s&&((Xr z).cellsOf.map purify).all Y7 then
    some (.undef,h.set id (.arr s m fun e=>(QX (fun _=>decide (o ()≤e ()∧e ()<o ()+n ())) ((Xr z).cellsOf.map purify) (f e)).getD []),
    [dd fun _=>0≤o ()∧o ()+n ()≤m (),dd fun _=>∀i:Nat,(i:Int)<m ()→(QX (fun _=>decide (o ()≤(i:Int)∧(i:Int)<o ()+n ())) ((Xr z).cellsOf.map purify) (f fun _=>(i:Int))).isSome=true])else none
  |_=>none)else none
 |_,_=>none
section
variable {P:Program} {R:RC} {G:Nat→Nat→Nat→Prop} {h:List Zi}
structure Mx (lt:Unit→Bool) (a c x:AV):Prop where
 t:lt ()=true→∀ {w:World} {ok:Nat→Nat→Nat→Prop} {u:Value},PR w ok a u→PR w ok x u
 f:lt ()=false→∀ {w:World} {ok:Nat→Nat→Nat→Prop} {u:Value},PR w ok c u→PR w ok x u
 vt:lt ()=true→∀ {R:RC} {u:Value},VR R a u→VR R x u
 vf:lt ()=false→∀ {R:RC} {u:Value},VR R c u→VR R x u
theorem Zqh {lt:Unit→Bool} {a c x:AV} (h:ZjF lt a c=some x):Mx lt a c x:=by
 unfold ZjF at h
 split at h
 ·rename_i k p k' q
  split at h
  ·rename_i hk
   have hk:=Zdn hk
   subst hk
   cases h
   refine⟨fun hl=>?_,fun hl=>?_,fun hl=>?_,fun hl=>?_⟩
   ·have:(fun _:Unit=>bif lt ()then p ()else q ())=p:=funext fun _=>by rw[hl];rfl
    rw[this];intros;assumption
   ·have:(fun _:Unit=>bif lt ()then p ()else q ())=q:=funext fun _=>by rw[hl];rfl
    rw[this];intros;assumption
   ·have:(fun _:Unit=>bif lt ()then p ()else q ())=p:=funext fun _=>by rw[hl];rfl
    rw[this];intros;assumption
   ·have:(fun _:Unit=>bif lt ()then p ()else q ())=q:=funext fun _=>by rw[hl];rfl
    rw[this];intros;assumption
  ·cases h
 ·rename_i p q
  cases h
  refine⟨fun hl=>?_,fun hl=>?_,fun hl=>?_,fun hl=>?_⟩
  ·have:(fun _:Unit=>bif lt ()then p ()else q ())=p:=funext fun _=>by rw[hl];rfl
   rw[this];intros;assumption
  ·have:(fun _:Unit=>bif lt ()then p ()else q ())=q:=funext fun _=>by rw[hl];rfl
   rw[this];intros;assumption
  ·have:(fun _:Unit=>bif lt ()then p ()else q ())=p:=funext fun _=>by rw[hl];rfl
   rw[this];intros;assumption
  ·have:(fun _:Unit=>bif lt ()then p ()else q ())=q:=funext fun _=>by rw[hl];rfl
   rw[this];intros;assumption
 ·rename_i s n f s' m g
  split at h
  ·rename_i hk
   have hk:=Zz hk
   subst hk
   cases h
   refine⟨fun hl=>?_,fun hl=>?_,fun hl=>?_,fun hl=>?_⟩
   ·have e1:(fun _:Unit=>bif lt ()then n ()else m ())=n:=funext fun _=>by rw[hl];rfl
    have e2:(fun e:Unit→Int=>bif lt ()then f e else g e)=f:=funext fun _=>by rw[hl];rfl
    rw[e1,e2];intros;assumption
   ·have e1:(fun _:Unit=>bif lt ()then n ()else m ())=m:=funext fun _=>by rw[hl];rfl
    have e2:(fun e:Unit→Int=>bif lt ()then f e else g e)=g:=funext fun _=>by rw[hl];rfl
    rw[e1,e2];intros;assumption
   ·have e1:(fun _:Unit=>bif lt ()then n ()else m ())=n:=funext fun _=>by rw[hl];rfl
    have e2:(fun e:Unit→Int=>bif lt ()then f e else g e)=f:=funext fun _=>by rw[hl];rfl
    rw[e1,e2];intros;assumption
   ·have e1:(fun _:Unit=>bif lt ()then n ()else m ())=m:=funext fun _=>by rw[hl];rfl
    have e2:(fun e:Unit→Int=>bif lt ()then f e else g e)=g:=funext fun _=>by rw[hl];rfl
    rw[e1,e2];intros;assumption
  ·cases h
 ·rename_i s0 n f s' m g
  cases h
  have key:lt ()=true→∀ {w:World} {ok:Nat→Nat→Nat→Prop} {u:Value},PR w ok (.isl s0 n f .nil) u→PR w ok (.isl s' (fun _=>bif lt ()then 0 else m ()) g .none) u:=fun hl w ok u hp=>by
   have h0:(fun _:Unit=>bif lt ()then(0:Int)else m ()) ()=0:=by
    show(bif lt ()then(0:Int)else m ())=0
    rw[hl];rfl
   cases hp with
   |isl0 _ _ _ _ hz h1=>exact .isl0 _ _ _ _ h0 rfl
   |islE _ _ _ _ a hz h1=>exact .islE _ _ _ _ a h0 (.inl rfl)
   |isl _ _ _ _ b o len cap us hn hc h1=>rcases h1 with h|h<;>cases h
  have e1:lt ()=false→(fun _:Unit=>bif lt ()then(0:Int)else m ())=m:=fun hl=>funext fun _=>by rw[hl];rfl
  refine⟨fun hl=>key hl,fun hl=>?_,fun hl R u hv=>?_,fun hl=>?_⟩
  ·rw[e1 hl];intros;assumption
  ·cases hv with
   |pure _ _ hp=>exact .pure _ _ (key hl hp)
  ·rw[e1 hl];intros;assumption
 ·cases h
theorem Yi {lt:Unit→Bool}:∀ {new old l:List AV},QX lt new old=some l→new.length=l.length∧old.length=l.length∧
  ∀(j:Nat) (x:AV),l[j]? =some x→∃a c,new[j]? =some a∧old[j]? =some c∧Mx lt a c x
 |[],[],l,h=>by
  simp only[QX,Option.some.injEq]at h
  subst h
  exact⟨rfl,rfl,fun j x hj=>by simp at hj⟩
 |[],_::_,l,h=>by simp[QX]at h
 |_::_,[],l,h=>by simp[QX]at h
 |a::r,b::s,l,h=>by
  simp only[QX]at h
  split at h
  case h_2=>cases h
  rename_i x l' hx hl
  simp only[Option.some.injEq]at h
  subst h
  obtain⟨h1,h2,h3⟩:=Yi hl
  refine⟨by simp[h1],by simp[h2],fun j y hj=>?_⟩
  cases j with
  |zero=>
   simp only[List.getElem?_cons_zero,Option.some.injEq]at hj
   subst hj
   exact⟨a,b,rfl,rfl,Zqh hx⟩
  |succ j=>exact h3 j y (by simpa using hj)
theorem HR.arrPut (H:HR G R h) {id s:Nat} {m:Unit→Int} {f:(Unit→Int)→List AV} (hi:h[id]? =some (.arr s m f)) (off0:Nat) (vs:List Value) (f':(Unit→Int)→List AV)
  (hfit:(off0+vs.length:Nat)≤(m ()).toNat*s) (hone:∀v∈vs,v.oneCell'=true) (hlen:∀i:Nat,(i:Int)<m ()→(f' (fun _=>(i:Int))).length=s)
  (hf:∀i:Nat,(i:Int)<m ()→∀j c,(f' (fun _=>(i:Int)))[j]? =some c→if off0≤i*s+j∧i*s+j<off0+vs.length then PR R.w R.ok c (vs.getD (i*s+j-off0) undef)else∃c0,(f (fun _=>(i:Int)))[j]? =some c0∧∀v,PR R.w R.ok c0 v→PR R.w R.ok c v):
  ∃R',(storeCells ⟨(R.α id).b,(R.α id).o+off0,none⟩ vs).run P R.w= .ok () R'.w∧HR G R' (h.set id (.arr s m f'))∧Xf R h R' (h.set id (.arr s m f'))∧R.le R':=by
 obtain⟨arr,ty,len,h1,hn,h2,h3⟩:=H.blk id _ hi
 have hml:(m ()).toNat=len:=by omega
 rw[hml]at hfit
 have hst:=run_storeCells_at P (R.α id).b ((R.α id).o+off0) ty vs 0 arr R.w h1 (by omega) hone
 let arr':=(arr.toList.take ((R.α id).o+off0+0)++vs++arr.toList.drop ((R.α id).o+off0+0+vs.length)).toArray
 obtain⟨R',hw,hm,hα,H',hx,hle⟩:=H.upd hi rfl (blk':=.arr s m f') rfl (R.w.setRow (R.α id).b arr') rfl rfl rfl (by simp[World.setRow]) (fun b hb=>setRow_other R.w (R.α id).b b _ hb) (fun R' hle hα hw=>by
  refine⟨arr',ty,len,by rw[hw,hα];exact setRow_heap R.w _ arr _ ty _ h1,hn,?_,fun i hil=>⟨hlen i (by omega),fun j c hj=>?_⟩⟩
  ·rw[hα]
   simp only[arr',List.size_toArray,List.length_append,List.length_take,List.length_drop,Array.length_toList]
   omega
  ·have hjs:j<s:=by rw[←hlen i (by omega)];exact(List.getElem?_eq_some_iff.1 hj).1
   have hlt:i*s+s≤len*s:=by
    have:(i+1)*s≤len*s:=Nat.mul_le_mul_right s hil
    rwa [Nat.succ_mul]at this
   rw[hα,Yr arr vs ((R.α id).o+off0+0) _ (by omega)]
   have:=hf i (by omega) j c hj
   by_cases hc:off0≤i*s+j∧i*s+j<off0+vs.length
   ·rw[if_pos hc]at this
    rw[if_pos (by omega),show(R.α id).o+i*s+j-((R.α id).o+off0+0)=i*s+j-off0 from by omega]
    exact this.mono hle.ok hle.keep hle.keepM
   ·rw[if_neg hc]at this
    rw[if_neg (by omega)]
    obtain⟨c0,t1,t2⟩:=this
    exact(t2 _ ((h3 i hil).2 j c0 t1)).mono hle.ok hle.keep hle.keepM)
 exact⟨R',by rw[hst,hw],H',hx,hle⟩
theorem ZfL {x:AV} {u:Value} (hx:VR R x u) (hpl:plain x=true) (hp:(x.cellsOf.map purify).all Y7=true):
  x.cellsOf.length=u.cells.toList.length∧∀j c,(x.cellsOf.map purify)[j]? =some c→PR R.w R.ok c (u.cells.toList.getD j undef):=by
 have hr:=YQ hx (fun g y e=>by rw[e]at hpl;cases hpl) (fun e=>by rw[e]at hpl;cases hpl)
 refine⟨by rw[hr.1];simp,fun j c hj=>?_⟩
 rw[List.getElem?_map,Option.map_eq_some_iff]at hj
 obtain⟨y,hy,rfl⟩:=hj
 have hv:=hr.2 j y hy
 rw[List.all_eq_true]at hp
 have:=hv.purify (hp _ (List.mem_map.2 ⟨y,List.mem_of_getElem? hy,rfl⟩))
 simpa using this
theorem Ziq {l:List AV} {vs:List Value} (hl:l.length=vs.length) (h:∀j c,l[j]? =some c→PR R.w R.ok c (vs.getD j undef)):∀v∈vs,v.oneCell'=true:=fun v hv=>by
 obtain⟨j,hj,rfl⟩:=List.getElem_of_mem hv
 have:=h j l[j] (List.getElem?_eq_getElem (by omega))
 rw[List.getD_eq_getElem?_getD,List.getElem?_eq_getElem hj]at this
 exact this.one
theorem Zi7 {t:TypeId} {T:TI} (hT:Zx P t=some T) (H:HR G R h) {id s off:Nat} {e:Unit→Int} {a x:Value} {ax v:AV} {h':List Zi} {c:Cd} (ha:VR R (.aptr id s e off) a) (hx:VR R ax x)
  (hv:Zb0 T id s e off ax h=some (v,h',c)) (hc:ZN c):v= .undef∧∃R',(Instr.storeAt t a x).run P R.w= .ok () R'.w∧HR G R' h'∧Xf R h R' h'∧R.le R':=by
 unfold Zb0 at hv
 split at hv
 case h_3=>cases hv
 case h_2=>
  rename_i cs hi
  split at hv
  case isFalse=>cases hv
  rename_i hcd
  simp only[Bool.and_eq_true]at hcd
  obtain⟨⟨e1,e2⟩,e3⟩:=hcd
  have e1:=Zz e1
  have e2:=Zz e2
  have e3:=Zz e3
  subst e1 e2
  split at hv
  case h_2=>cases hv
  rename_i cs' hput
  cases hv
  obtain⟨r1,r2⟩:=(Cn.out (hc _ (List.mem_singleton.2 rfl)))
  cases ha with
  |pure _ _ hp=>cases hp
  |aptr _ _ _ _ i hid he=>
   have hi':i<cs.length:=by omega
   obtain⟨rfl,hlf,hcl⟩:=Zqb hput he
   have hr:=YQ hx (fun g y e=>by rw[e]at hlf;cases hlf) (fun e=>by rw[e]at hlf;cases hlf)
   rw[hcl]at hr
   obtain⟨ti,d,hti,_,hsz,_,_,_⟩:=Xv hT
   obtain⟨R',hst,hm,hα,H',hx',hle⟩:=H.store (P:=P) (off:=i) hi [ax] x.cells.toList (by rw[hr.1];simp) (by simp;omega) (fun a ha=>by simp at ha;subst ha;exact hlf) (fun j c hj=>by simpa using hr.2 j c hj)
   refine⟨rfl,R',?_,H',hx',hle⟩
   simp only[Instr.storeAt,Instr.sureAddr,Sem.run_bind,Sem.run_pure,Result.andThen_ok,storeVar,Z6 hti]
   rw[if_neg (by have:=hr.1;simp only[List.length_singleton]at this;omega)]
   rw[Nat.mul_one,Nat.add_zero]
   exact hst
 rename_i s' m f hi
 split at hv
 case isFalse=>cases hv
 rename_i hcd
 simp only[Bool.and_eq_true]at hcd
 obtain⟨⟨⟨⟨⟨e1,e2⟩,e3⟩,e4⟩,e5⟩,e6⟩:=hcd
 have e1:=Zz e1
 subst e1
 have e3:=Zz e3
 have e4:=Zz e4
 have e5:=Xc e5
 simp only[Option.some.injEq,Prod.mk.injEq]at hv
 obtain⟨rfl,rfl,rfl⟩:=hv
 obtain⟨hc1,hc2⟩:=(Cn.out (hc _ (List.mem_cons_self ..)))
 have hmix:=(Cn.out (hc _ (List.mem_cons_of_mem _ (List.mem_singleton.2 rfl))))
 obtain⟨hl,hp⟩:=ZfL hx e2 e6
 obtain⟨i0,d,hti,_,hsz,_,_,_⟩:=Xv hT
 cases ha with
 |pure _ _ hp=>cases hp
 |aptr _ _ _ _ i hid he=>
 obtain⟨arr,ty,len,h1,hn,h2,h3⟩:=H.blk id _ hi
 have hil:i<len:=by omega
 have hfe:f e=f (fun _=>(i:Int)):=congrArg f (funext fun _=>he)
 have hlt:i*s+s≤len*s:=by
  have:(i+1)*s≤len*s:=Nat.mul_le_mul_right s hil
  rwa [Nat.succ_mul]at this
 have hpl:(ax.cellsOf.map purify).length=x.cells.toList.length:=by rw[List.length_map];exact hl
 refine⟨rfl,?_⟩
 have hrow:∀k:Nat,(k:Int)<m ()→∃row,QX (fun _=>decide ((k:Int)=e ())) (putC (f e) off (ax.cellsOf.map purify)) (f fun _=>(k:Int))=some row:=fun k hk=>Option.isSome_iff_exists.1 (hmix k hk)
 obtain⟨R',hst,H',hxx,hle⟩:=H.arrPut (P:=P) hi (i*s+off) x.cells.toList (fun e'=>(QX (fun _=>decide (e' ()=e ())) (putC (f e) off (ax.cellsOf.map purify)) (f e')).getD [])
  (by rw[show(m ()).toNat=len from by omega];omega) (Ziq hpl hp) (fun k hk=>by
   obtain⟨row,hr⟩:=hrow k hk
   simp only[hr,Option.getD_some]
   obtain⟨g1,_,_⟩:=Yi hr
   rw[←g1,Ym]
   exact e4) (fun k hk j c hj=>by
   obtain⟨row,hr⟩:=hrow k hk
   simp only[hr,Option.getD_some]at hj
   obtain⟨g1,g2,g3⟩:=Yi hr
   obtain⟨a1,c1,n1,n2,mx⟩:=g3 j c hj
   have hjs:j<s:=by rw[←e4,←Ym (ax.cellsOf.map purify) (f e) off];exact(List.getElem?_eq_some_iff.1 n1).1
   by_cases hki:k=i
   ·subst hki
    have hd:decide ((k:Int)=e ())=true:=decide_eq_true he.symm
    rw[Zbh _ _ _ _ (by rw[List.length_map,e3,e4];exact e5)]at n1
    by_cases hin:off≤j∧j<off+(ax.cellsOf.map purify).length
    ·rw[if_pos hin]at n1
     rw[if_pos (by omega),show k*s+j-(k*s+off)=j-off from by omega]
     exact mx.t hd (hp _ _ n1)
    ·rw[if_neg hin]at n1
     rw[if_neg (by omega)]
     exact⟨a1,by rw[←hfe];exact n1,fun v h=>mx.t hd h⟩
   ·have hd:decide ((k:Int)=e ())=false:=decide_eq_false (by omega)
    rw[if_neg (by
     rcases Nat.lt_or_gt_of_ne hki with hlt'|hgt
     ·have:(k+1)*s≤i*s:=Nat.mul_le_mul_right s hlt'
      rw[Nat.succ_mul]at this
      omega
     ·have:(i+1)*s≤k*s:=Nat.mul_le_mul_right s hgt
      rw[Nat.succ_mul]at this
      omega)]
    exact⟨c1,n2,fun v h=>mx.f hd h⟩)
 refine⟨R',?_,H',hxx,hle⟩
 simp only[Instr.storeAt,Instr.sureAddr,Sem.run_bind,Sem.run_pure,Result.andThen_ok,storeVar,Z6 hti]
 rw[if_neg (by rw[←hsz,←e3,hl];simp),Nat.add_assoc]
 exact hst
theorem HR.garPut (H:HR G R h) {id s:Nat} {m:Unit→Int} {f:(Unit→Int)→List AV} (hi:h[id]? =some (.gar s m f)) {b o len cap:Nat} {arr:Array Value} {ty:TypeId} (hpos:0<len) (hn:m ()=(len:Int)) (hlc:len≤cap) (hv0:R.hv id= .slice (some ⟨b,o,none⟩) len cap) (h1:R.w.heap[b]? =some (.cells arr ty (0,0))) (h2:o+cap*s≤arr.size)
  (h3:∀i:Nat,i<len→(f (fun _=>(i:Int))).length=s∧∀j c,(f (fun _=>(i:Int)))[j]? =some c→PR R.w R.ok c (arr.getD (o+i*s+j) undef)) (off0:Nat) (vs:List Value) (f':(Unit→Int)→List AV)
  (hfit:off0+vs.length≤len*s) (hone:∀v∈vs,v.oneCell'=true) (hlen:∀i:Nat,(i:Int)<m ()→(f' (fun _=>(i:Int))).length=s)
  (hf:∀i:Nat,(i:Int)<m ()→∀j c,(f' (fun _=>(i:Int)))[j]? =some c→if off0≤i*s+j∧i*s+j<off0+vs.length then PR R.w R.ok c (vs.getD (i*s+j-off0) undef)else∃c0,(f (fun _=>(i:Int)))[j]? =some c0∧∀v,PR R.w R.ok c0 v→PR R.w R.ok c v):
  ∃R',(storeCells ⟨b,o+off0,none⟩ vs).run P R.w= .ok () R'.w∧HR G R' (h.set id (.gar s m f'))∧Xf R h R' (h.set id (.gar s m f'))∧R.le R':=by
 have hlc':len*s≤cap*s:=Nat.mul_le_mul_right s hlc
 have hst:=run_storeCells_at P b (o+off0) ty vs 0 arr R.w h1 (by omega) hone
 have hphys:ZG R id (.gar s m f) b:=⟨_,_,_,hv0,by omega,rfl⟩
 let arr':=(arr.toList.take (o+off0+0)++vs++arr.toList.drop (o+off0+0+vs.length)).toArray
 obtain⟨R',hw,hvi,hwi,hmm,H',hx,hle⟩:=H.gar hi m f' (R.hv id) (R.w.setRow b arr') (Int.le_refl _) (fun _=>rfl) rfl rfl rfl (by simp[World.setRow]) (fun b' _ hn'=>setRow_other R.w b b' _ (fun e=>hn' (e▸hphys))) (fun R' hle hw=>by
  refine .inr ⟨b,o,len,cap,arr',ty,hn,hlc,hv0,setRow_heap R.w _ arr _ ty _ h1,?_,fun i hil=>⟨hlen i (by omega),fun j c hj=>?_⟩⟩
  ·simp only[arr',List.size_toArray,List.length_append,List.length_take,List.length_drop,Array.length_toList]
   omega
  ·have hjs:j<s:=by rw[←hlen i (by omega)];exact(List.getElem?_eq_some_iff.1 hj).1
   have hlt:i*s+s≤len*s:=by
    have:(i+1)*s≤len*s:=Nat.mul_le_mul_right s hil
    rwa [Nat.succ_mul]at this
   rw[Yr arr vs (o+off0+0) _ (by omega)]
   have:=hf i (by omega) j c hj
   by_cases hc:off0≤i*s+j∧i*s+j<off0+vs.length
   ·rw[if_pos hc]at this
    rw[if_pos (by omega),show o+i*s+j-(o+off0+0)=i*s+j-off0 from by omega]
    exact this.mono hle.ok hle.keep hle.keepM
   ·rw[if_neg hc]at this
    rw[if_neg (by omega)]
    obtain⟨c0,t1,t2⟩:=this
    exact(t2 _ ((h3 i hil).2 j c0 t1)).mono hle.ok hle.keep hle.keepM)
  (fun a n c e h0=>.inr ⟨a,n,c,e,h0,rfl⟩)
 exact⟨R',by rw[hst,hw],H',hx,hle⟩
theorem ZiN {t:TypeId} {T:TI} (hT:Zx P t=some T) (H:HR G R h) {id s off:Nat} {n e:Unit→Int} {a x:Value} {ax v:AV} {h':List Zi} {c:Cd} (ha:VR R (.gptr id s n e off) a) (hx:VR R ax x)
  (hv:ZbW T id s n e off ax h=some (v,h',c)) (hc:ZN c):v= .undef∧∃R',(Instr.storeAt t a x).run P R.w= .ok () R'.w∧HR G R' h'∧Xf R h R' h'∧R.le R':=by
 unfold ZbW at hv
 split at hv
 case h_2=>cases hv
 rename_i s' m f hi
 split at hv
 case isFalse=>cases hv
 rename_i hcd
 simp only[Bool.and_eq_true]at hcd
 obtain⟨⟨⟨⟨e1,e2⟩,e3⟩,e5⟩,e6⟩:=hcd
 have e1:=Zz e1
 subst e1
 have e3:=Zz e3
 have e5:=Xc e5
 simp only[Option.some.injEq,Prod.mk.injEq]at hv
 obtain⟨rfl,rfl,rfl⟩:=hv
 obtain⟨hnm,hc1,hc2⟩:=(Cn.out (hc _ (List.mem_cons_self ..)))
 have hmix:=(Cn.out (hc _ (List.mem_cons_of_mem _ (List.mem_singleton.2 rfl))))
 obtain⟨hl,hp⟩:=ZfL hx e2 e6
 obtain⟨i0,d,hti,_,hsz,_,_,_⟩:=Xv hT
 cases ha with
 |pure _ _ hp=>cases hp
 |gptr _ _ _ _ _ a hid hnl he=>
 obtain⟨hhw,hbt⟩:=H.blk id _ hi
 obtain⟨b,o,i,len,cap,g0,hei,rfl⟩:=he (by rw[hnm,hhw])
 rcases hbt with⟨hz0,_⟩|⟨b',o',len',cap',arr,ty,hn,hlc,g3,h1,h2,h3⟩
 ·omega
 rw[g0]at g3
 cases g3
 have hil:i<len:=by omega
 have hlt:i*s+s≤len*s:=by
  have:(i+1)*s≤len*s:=Nat.mul_le_mul_right s hil
  rwa [Nat.succ_mul]at this
 have hcl:(ax.cellsOf.map purify).length=T.size:=by rw[List.length_map];exact e3
 have hpl:x.cells.toList.length=T.size:=by rw[←hl];exact e3
 refine⟨rfl,?_⟩
 have hrow:∀k:Nat,(k:Int)<m ()→∃row,QX (fun _=>decide ((k:Int)=e ())) (ax.cellsOf.map purify) (((f fun _=>(k:Int)).drop off).take T.size)=some row:=fun k hk=>Option.isSome_iff_exists.1 (hmix k hk)
 obtain⟨R',hst,H',hxx,hle⟩:=H.garPut (P:=P) hi (by omega) hn hlc g0 h1 h2 h3 (i*s+off) x.cells.toList (fun e'=>putC (f e') off ((QX (fun _=>decide (e' ()=e ())) (ax.cellsOf.map purify) (((f e').drop off).take T.size)).getD []))
  (by omega) (Ziq (by rw[hcl,hpl]) hp) (fun k hk=>by
   rw[Ym]
   exact(h3 k (by omega)).1) (fun k hk j c hj=>by
   obtain⟨row,hr⟩:=hrow k hk
   have hfl:=(h3 k (by omega)).1
   obtain⟨g1,g2,g3⟩:=Yi hr
   simp only[hr,Option.getD_some]at hj
   have hrl:row.length=T.size:=by rw[←g1];exact hcl
   rw[Zbh _ _ _ _ (by rw[hrl,hfl];exact e5),hrl]at hj
   by_cases hin:off≤j∧j<off+T.size
   ·rw[if_pos hin]at hj
    obtain⟨a1,c1,n1,n2,mx⟩:=g3 _ c hj
    by_cases hki:k=i
    ·subst hki
     have hd:decide ((k:Int)=e ())=true:=decide_eq_true hei.symm
     rw[if_pos (by rw[hpl];omega),show k*s+j-(k*s+off)=j-off from by omega]
     exact mx.t hd (hp _ _ n1)
    ·have hd:decide ((k:Int)=e ())=false:=decide_eq_false (by omega)
     rw[if_neg (by
      rw[hpl]
      rcases Nat.lt_or_gt_of_ne hki with hlt'|hgt
      ·have:(k+1)*s≤i*s:=Nat.mul_le_mul_right s hlt'
       rw[Nat.succ_mul]at this
       omega
      ·have:(i+1)*s≤k*s:=Nat.mul_le_mul_right s hgt
       rw[Nat.succ_mul]at this
       omega)]
     rw[List.getElem?_take,if_pos (by omega),List.getElem?_drop,show off+(j-off)=j from by omega]at n2
     exact⟨c1,n2,fun v h=>mx.f hd h⟩
   ·rw[if_neg hin]at hj
    have hjs:j<s:=by rw[←hfl];exact(List.getElem?_eq_some_iff.1 hj).1
    rw[if_neg (by
     rw[hpl]
     by_cases hki:k=i
     ·subst hki;omega
     rcases Nat.lt_or_gt_of_ne hki with hlt'|hgt
     ·have:(k+1)*s≤i*s:=Nat.mul_le_mul_right s hlt'
      rw[Nat.succ_mul]at this
      omega
     ·have:(i+1)*s≤k*s:=Nat.mul_le_mul_right s hgt
      rw[Nat.succ_mul]at this
      omega)]
    exact⟨c,hj,fun v h=>h⟩)
 refine⟨R',?_,H',hxx,hle⟩
 simp only[Instr.storeAt,Instr.sureAddr,Sem.run_bind,Sem.run_pure,Result.andThen_ok,storeVar,Z6 hti]
 rw[if_neg (by rw[←hsz,←e3,hl];simp),Nat.add_assoc]
 exact hst
theorem ZhA {t:TypeId} {T:TI} (hT:Zx P t=some T) {z:Option Value} (hz:∀e s b,T.k= .slice e s b→z=(Zx P e).bind (·.zero)) (H:HR G R h) {n c v:AV} {un uc:Value} {h':List Zi} {cd:Cd} (hn:VR R n un) (hcp:VR R c uc)
  (hv:YL T z n c h=some (v,h',cd)) (hc:ZN cd):∃u R',(Instr.makeSlice t un uc).run P R.w= .ok u R'.w∧HR G R' h'∧Xf R h R' h'∧R.le R'∧VR R' v u:=by
 unfold YL at hv
 split at hv
 case h_2=>cases hv
 rename_i el s b k x k' y z hk
 split at hv
 case isFalse=>cases hv
 rename_i hcd
 simp only[Bool.and_eq_true]at hcd
 obtain⟨⟨e1,e2⟩,e3⟩:=hcd
 have e1:=Zz e1
 have e2:=Xc e2
 simp only[Option.some.injEq,Prod.mk.injEq]at hv
 obtain⟨rfl,rfl,rfl⟩:=hv
 obtain⟨hc1,hc2,hc3⟩:=(Cn.out (hc _ (List.mem_singleton.2 rfl)))
 obtain rfl:=hn.int_inv
 obtain rfl:=hcp.int_inv
 obtain⟨j,hu,hj,hs,hb⟩:=YZ hT hk
 have hzz:=hz _ _ _ hk
 obtain⟨TE,hTE,hzE⟩:=Option.bind_eq_some_iff.1 hzz.symm
 obtain⟨i0,d0,hj',_,_,_,hz0,_⟩:=Xv hTE
 have:i0=j:=by rw[hj]at hj';simpa using hj'.symm
 subst this
 have hz1:i0.zero=some z:=hz0▸hzE
 obtain⟨l,hl⟩:=Int.eq_ofNat_of_zero_le hc1
 have hly:y ()=(l:Int):=by omega
 have w1:IntKind.i64.wrap (l:Int)=(l:Int):=Za8 _ (by omega)
 let arr:Array Value:=(Array.range (l*s)).map ((if l*s=0 then(#[]:Array Value)else z.cells)[· %(if l*s=0 then(#[]:Array Value)else z.cells).size]!)
 have hsz:arr.size=l*s:=by simp[arr]
 have hzc:=Y1 (R:=R) z
 have hget:∀i j,i<l→j<s→arr.getD (i*s+j) undef=z.cells.getD j undef:=fun i j hi hj=>by
  have hlt:i*s+j<l*s:=by
   have:(i+1)*s≤l*s:=Nat.mul_le_mul_right s hi
   rw[Nat.succ_mul]at this
   omega
  have hne:¬l*s=0:=by omega
  simp only[arr,if_neg hne,Array.getD_eq_getD_getElem?,Array.getElem?_map]
  rw[show(Array.range (l*s))[i*s+j]? =some (i*s+j)from by simp[hlt],Option.map_some,e1]
  have e2:(i*s+j)%s=j:=by rw[Nat.mul_comm,Nat.mul_add_mod,Nat.mod_eq_of_lt hj]
  rw[e2]
  simp[e1,hj]
 obtain⟨R',hw,hm,hα,H',hx,hle⟩:=H.alloc (.arr s x fun _=>(Xr z).cellsOf.map purify) (.cells arr el) (fun R'=>⟨rfl,fun b hp=>hp.symm,fun b o n=>Iff.rfl⟩) (fun R' hle hα hh=>by
  refine⟨arr,el,l,by rw[hα];exact hh,hl,by rw[hα,hsz];simp,fun i hi=>?_⟩
  have hlen:((Xr z).cellsOf.map purify).length=s:=by rw[List.length_map,hzc.1,e1]
  refine⟨hlen,fun j c hj=>?_⟩
  have hjs:j<s:=by rw[←hlen];exact(List.getElem?_eq_some_iff.1 hj).1
  rw[hα,Nat.zero_add,hget i j hi hjs]
  rw[List.getElem?_map,Option.map_eq_some_iff]at hj
  obtain⟨c0,hc0,rfl⟩:=hj
  rw[List.all_eq_true]at e3
  exact((hzc.2 j c0 hc0).purify (e3 _ (List.mem_map.2 ⟨c0,List.mem_of_getElem? hc0,rfl⟩))).mono hle.ok hle.keep hle.keepM)
 refine⟨.slice (some ⟨R.w.heap.size,0,none⟩) l l,R',?_,H',hx,hle,?_⟩
 ·rw[hw]
  have t1:¬((i0.bytes:Int)*(l:Int)>2^ 48):=by
   have:(i0.bytes:Int)*(l:Int)≤1000000*1000000:=Int.mul_le_mul (by omega) (by omega) (by omega) (by omega)
   omega
  have ha:∀(k:IntKind) (n:Int) (w:World),(asInt (.int k n)).run P w= .ok n w:=fun k n w=>by simp[asInt,asIntOf]
  unfold Instr.makeSlice
  simp only[Sem.run_bind,Zv hu,Result.andThen_ok,ha,Q4 hj,hl,hly,w1,Int.toNat_natCast,run_askRoom,Z6 hj,hs,t1,decide_false,Bool.or_false,Bool.false_or,
   show¬((l:Int)<0)from by omega,show¬((l:Int)>(l:Int))from by omega,Bool.false_eq_true,if_false,zeroValue]
  by_cases hne:l*s=0
  ·simp[hne,newRow,arr]
  ·simp[hne,newRow,arr,Q4 hj,hz1]
 ·have:=VR.msl (R:=R') h.length s (fun _=>0) x x 0 l l (by rw[hm,H.len];omega) rfl hl hl (Nat.le_refl _)
  rw[H.len,hα]at this
  rw[H.len]
  simpa using this
theorem ZoL {t el ty:TypeId} {at_:Array TypeId} {j:TypeInfo} (h0:at_[0]? =some t) (hu:P.underlying t=some (.slice el)) (hj:P.info? el=some j) {z:Option Value} (hz:z=j.zero) (H:HR G R h) {x v:AV} {u:Value} {h':List Zi} {c:Cd} (hx:VR R x u)
  (hv:ZfJ z j.size x h=some (v,h',c)) (hc:ZN c):v= .undef∧∃u' R',(Builtin.clear_ at_ ty #[u]).run P R.w= .ok u' R'.w∧HR G R' h'∧Xf R h R' h'∧R.le R':=by
 unfold ZfJ at hv
 split at hv
 case h_2=>cases hv
 rename_i id s o n cc z
 split at hv
 case isFalse=>cases hv
 rename_i hs0
 have hs0:=Zz hs0
 split at hv
 case h_2=>cases hv
 rename_i s' m f hi
 split at hv
 case isFalse=>cases hv
 rename_i hcd
 simp only[Bool.and_eq_true]at hcd
 obtain⟨⟨e1,e2⟩,e3⟩:=hcd
 have e1:=Zz e1
 subst e1
 have e2:=Zz e2
 simp only[Option.some.injEq,Prod.mk.injEq]at hv
 obtain⟨rfl,rfl,rfl⟩:=hv
 obtain⟨hc1,hc2⟩:=(Cn.out (hc _ (List.mem_cons_self ..)))
 have hmix:=(Cn.out (hc _ (List.mem_cons_of_mem _ (List.mem_singleton.2 rfl))))
 refine⟨rfl,?_⟩
 cases hx with
 |pure _ _ hp=>cases hp
 |msl _ _ _ _ _ i len cap hid hlo hn hcp hle=>
 obtain⟨arr,ty0,ln,h1,hm,h2,h3⟩:=H.blk id _ hi
 have hzc:=Y1 (R:=R) z
 have hlen:((Xr z).cellsOf.map purify).length=s:=by rw[List.length_map,hzc.1,e2]
 let vs:=(Builtin.zeroCells z.cells len).toList
 have hvl:vs.length=len*s:=by simp[vs,Builtin.zeroCells,e2]
 have hpz:∀j c,((Xr z).cellsOf.map purify)[j]? =some c→PR R.w R.ok c (z.cells.getD j undef):=fun j c hj=>by
  rw[List.getElem?_map,Option.map_eq_some_iff]at hj
  obtain⟨c0,hc0,rfl⟩:=hj
  rw[List.all_eq_true]at e3
  exact(hzc.2 j c0 hc0).purify (e3 _ (List.mem_map.2 ⟨c0,List.mem_of_getElem? hc0,rfl⟩))
 have hvg:∀k j,k<len→j<s→vs.getD (k*s+j) undef=z.cells.getD j undef:=fun k j hk hj=>by
  have hlt:k*s+j<len*s:=by
   have:(k+1)*s≤len*s:=Nat.mul_le_mul_right s hk
   rw[Nat.succ_mul]at this
   omega
  have em:(k*s+j)%s=j:=by rw[Nat.mul_comm,Nat.mul_add_mod,Nat.mod_eq_of_lt hj]
  simp only[vs,Builtin.zeroCells,e2,List.getD_eq_getElem?_getD,Array.getElem?_toList,Array.getElem?_map]
  rw[show(Array.range (len*s))[k*s+j]? =some (k*s+j)from by simp[hlt],Option.map_some,em]
  simp[Array.getD_eq_getD_getElem?,e2,hj]
 have hmul:i*s+len*s≤ln*s:=by
  rw[←Nat.add_mul]
  exact Nat.mul_le_mul_right s (by omega)
 have hrow:∀k:Nat,(k:Int)<m ()→∃row,QX (fun _=>decide (o ()≤(k:Int)∧(k:Int)<o ()+n ())) ((Xr z).cellsOf.map purify) (f fun _=>(k:Int))=some row:=fun k hk=>Option.isSome_iff_exists.1 (hmix k hk)
 obtain⟨R',hst,H',hxx,hle'⟩:=H.arrPut (P:=P) hi (i*s) vs (fun e=>(QX (fun _=>decide (o ()≤e ()∧e ()<o ()+n ())) ((Xr z).cellsOf.map purify) (f e)).getD [])
  (by rw[show(m ()).toNat=ln from by omega,hvl];exact hmul)
  (fun v hv=>by
   obtain⟨k,hk,rfl⟩:=List.getElem_of_mem hv
   have hs:0<s:=Nat.pos_of_ne_zero (fun e=>by rw[hvl,e]at hk;simp at hk)
   have hk':k/s<len:=(Nat.div_lt_iff_lt_mul hs).2 (hvl▸hk)
   have:=hvg (k/s) (k%s) hk' (Nat.mod_lt _ hs)
   rw[Nat.div_add_mod',List.getD_eq_getElem?_getD,List.getElem?_eq_getElem hk]at this
   rw[Option.getD_some]at this
   rw[this]
   exact(hpz (k%s) _ (List.getElem?_eq_getElem (by rw[hlen];exact Nat.mod_lt _ hs))).one)
  (fun k hk=>by
   obtain⟨row,hr⟩:=hrow k hk
   simp only[hr,Option.getD_some]
   obtain⟨g1,_,_⟩:=Yi hr
   rw[←g1]
   exact hlen)
  (fun k hk j c hj=>by
   obtain⟨row,hr⟩:=hrow k hk
   simp only[hr,Option.getD_some]at hj
   obtain⟨g1,g2,g3⟩:=Yi hr
   obtain⟨a1,c1,n1,n2,mx⟩:=g3 j c hj
   have hjs:j<s:=by rw[←hlen];exact(List.getElem?_eq_some_iff.1 n1).1
   by_cases hin:o ()≤(k:Int)∧(k:Int)<o ()+n ()
   ·have hki:i≤k:=by omega
    have e4:(k-i)*s=k*s-i*s:=Nat.sub_mul ..
    have e5:i*s≤k*s:=Nat.mul_le_mul_right _ hki
    have e6:(k-i)*s+s≤len*s:=by
     have:(k-i+1)*s≤len*s:=Nat.mul_le_mul_right s (by omega)
     rwa [Nat.succ_mul]at this
    rw[if_pos (by omega),show k*s+j-i*s=(k-i)*s+j from by omega,hvg (k-i) j (by omega) hjs]
    exact mx.t (decide_eq_true hin) (hpz j _ n1)
   ·rw[if_neg (by
     rcases Int.lt_or_le (k:Int) (o ())with hlt'|hge
     ·have:(k+1)*s≤i*s:=Nat.mul_le_mul_right s (by omega)
      rw[Nat.succ_mul]at this
      omega
     ·have:(i+len)*s≤k*s:=Nat.mul_le_mul_right s (by omega)
      rw[Nat.add_mul]at this
      omega)]
    exact⟨c1,n2,fun v h=>mx.f (decide_eq_false hin) h⟩)
 have hz1:j.zero=some z:=hz.symm
 refine⟨.tuple #[],R',?_,H',hxx,hle'⟩
 unfold Builtin.clear_
 simp only[h0,Sem.run_bind,Zv hu,Result.andThen_ok,List.getElem?_toArray,List.getElem?_cons_zero]
 cases len with
 |zero=>
  have hvs:vs=[]:=List.eq_nil_of_length_eq_zero (by rw[hvl];simp)
  rw[hvs]at hst
  simp only[storeCells,Sem.run_pure,Result.ok.injEq]at hst
  simp[Sem.run_pure,hst.2]
 |succ len=>
  simp only[zeroValue,Q4 hj,Result.andThen_ok,hz1,Sem.run_bind,Sem.run_pure]
  have:(storeCells ⟨(R.α id).b,(R.α id).o+i*s,none⟩ (Builtin.zeroCells z.cells (len+1)).toList).run P R.w= .ok () R'.w:=hst
  simp only[this,Result.andThen_ok]
end
end Go.Proofs.YtjgpiclllehgmaaGreat.Vm
namespace Go.Proofs.YtjgpiclllehgmaaGreat.Vm
open Go
instance decRow2 (n:Int) (m:Nat→Int) (f:Nat→Nat→Bool):Decidable (∀i:Nat,(i:Int)<n→∀j:Nat,(j:Int)<m i→f i j=true):=
 decidable_of_iff ((List.range n.toNat).all fun i=>(List.range (m i).toNat).all fun j=>f i j) (by
  simp only[List.all_eq_true,List.mem_range]
  exact⟨fun h i hi j hj=>h i (by omega) j (by omega),fun h i hi j hj=>h i (by omega) j (by omega)⟩)
section
variable {P:Program} {R:RC} {G:Nat→Nat→Nat→Prop} {h:List Zi}
end
end Go.Proofs.YtjgpiclllehgmaaGreat.Vm
namespace Go.Proofs.YtjgpiclllehgmaaGreat.Vm
open Go
section
variable {P:Program} {R:RC} {G:Nat→Nat→Nat→Prop} {h:List Zi}
end
end Go.Proofs.YtjgpiclllehgmaaGreat.Vm
namespace Go.Proofs.YtjgpiclllehgmaaGreat.Vm
open Go
def Zah (T:TI) (z:Option Value) (n c:AV) (h:List Zi):Option (AV×List Zi×Cd):=match T.k,n,c,z with
 |.slice _ s b,.int _ x,.int _ y,some z=>if ZC z.cells.size s&&Z4 b 1000000&&((Xr z).cellsOf.map purify).all Y7 then
   some (.gsl h.length x,h++[.gar s x fun _=>(Xr z).cellsOf.map purify],[dd fun _=>0≤x ()∧x ()=y ()∧x ()≤1000000])else none
 |_,_,_,_=>none
section
variable {P:Program} {R:RC} {G:Nat→Nat→Nat→Prop} {h:List Zi}
theorem HR.garFresh (H:HR G R h) (s:Nat) (x:Unit→Int) (f:(Unit→Int)→List AV) (l:Nat) (hl:x ()=(l:Int)) (arr:Array Value) (el:TypeId) (hsz:arr.size=l*s)
  (hrows:∀R':RC,R.le R'→∀i:Nat,i<l→(f (fun _=>(i:Int))).length=s∧∀j c,(f (fun _=>(i:Int)))[j]? =some c→PR R'.w R'.ok c (arr.getD (i*s+j) undef)):
  ∃R',R'.w={R.w with heap:=R.w.heap.push (.cells arr el)}∧HR G R' (h++[.gar s x f])∧Xf R h R' (h++[.gar s x f])∧R.le R'∧R'.m=R.m+1∧R'.hw R.m=x ()∧R'.hv R.m= .slice (some ⟨R.w.heap.size,0,none⟩) l l:=by
 have hset:∀i y,(h++[Zi.gar s x f])[i]? =some y→(i=R.m∧y= .gar s x f)∨(i≠R.m∧h[i]? =some y):=fun i y hy=>by
  rcases QD hy with hy|⟨rfl,rfl⟩
  ·exact .inr ⟨fun e=>by have:=(List.getElem?_eq_some_iff.1 hy).1;rw[H.len]at this;omega,hy⟩
  ·exact .inl ⟨H.len,rfl⟩
 obtain⟨R',a1,a2,a3,a4,a5,a6,a7,_⟩:=H.room R.m (R.m+1) (.gar s x f) (x ()) (.slice (some ⟨R.w.heap.size,0,none⟩) l l) {R.w with heap:=R.w.heap.push (.cells arr el)} (h++[.gar s x f]) (by rw[List.length_append,H.len];rfl) (Nat.le_succ _) hset (fun hi=>absurd hi (Nat.lt_irrefl _)) (fun _=>False)
  (fun b=>⟨fun h=>h.elim,fun h=>absurd h.1 (Nat.lt_irrefl _)⟩) rfl rfl rfl (by simp) (fun b hb _=>by show(R.w.heap.push _)[b]? =_;rw[Array.getElem?_push,if_neg (by omega)])
  (fun b o n hk j _=>by
   have hb:=((H.okd _ _ _).1 hk).1
   simp only[World.cell?]
   rw[Array.getElem?_push,if_neg (by omega)])
  (fun R' hle hw hwi hvi _=>⟨hwi,.inr ⟨R.w.heap.size,0,l,l,arr,el,hl,Nat.le_refl _,hvi,by rw[hw];simp,by omega,fun i hi=>⟨(hrows R' hle i hi).1,fun j c hj=>by rw[Nat.zero_add];exact(hrows R' hle i hi).2 j c hj⟩⟩⟩)
  (fun R' hv _ b ⟨a,n,c,h1,_,h2⟩=>.inl (by rw[hv]at h1;cases h1;rw[←h2];exact Nat.le_refl _))
  (fun R' hv b o n hk ⟨a,n',c,h1,_,h2⟩=>by
   have hb:=((H.okd _ _ _).1 hk).1
   rw[hv]at h1
   cases h1
   simp only at h2
   omega) rfl
 exact⟨R',a1,a5,a6,a7,a2,a4,a3⟩
theorem ZjT {t:TypeId} {T:TI} (hT:Zx P t=some T) {z:Option Value} (hz:∀e s b,T.k= .slice e s b→z=(Zx P e).bind (·.zero)) (H:HR G R h) {n c v:AV} {un uc:Value} {h':List Zi} {cd:Cd} (hn:VR R n un) (hcp:VR R c uc)
  (hv:Zah T z n c h=some (v,h',cd)) (hc:ZN cd):∃u R',(Instr.makeSlice t un uc).run P R.w= .ok u R'.w∧HR G R' h'∧Xf R h R' h'∧R.le R'∧VR R' v u:=by
 unfold Zah at hv
 split at hv
 case h_2=>cases hv
 rename_i el s b k x k' y z hk
 split at hv
 case isFalse=>cases hv
 rename_i hcd
 simp only[Bool.and_eq_true]at hcd
 obtain⟨⟨e1,e2⟩,e3⟩:=hcd
 have e1:=Zz e1
 have e2:=Xc e2
 simp only[Option.some.injEq,Prod.mk.injEq]at hv
 obtain⟨rfl,rfl,rfl⟩:=hv
 obtain⟨hc1,hc2,hc3⟩:=(Cn.out (hc _ (List.mem_singleton.2 rfl)))
 obtain rfl:=hn.int_inv
 obtain rfl:=hcp.int_inv
 obtain⟨j,hu,hj,hs,hb⟩:=YZ hT hk
 have hzz:=hz _ _ _ hk
 obtain⟨TE,hTE,hzE⟩:=Option.bind_eq_some_iff.1 hzz.symm
 obtain⟨i0,d0,hj',_,_,_,hz0,_⟩:=Xv hTE
 have:i0=j:=by rw[hj]at hj';simpa using hj'.symm
 subst this
 have hz1:i0.zero=some z:=hz0▸hzE
 obtain⟨l,hl⟩:=Int.eq_ofNat_of_zero_le hc1
 have hly:y ()=(l:Int):=by omega
 have w1:IntKind.i64.wrap (l:Int)=(l:Int):=Za8 _ (by omega)
 let arr:Array Value:=(Array.range (l*s)).map ((if l*s=0 then(#[]:Array Value)else z.cells)[· %(if l*s=0 then(#[]:Array Value)else z.cells).size]!)
 have hsz:arr.size=l*s:=by simp[arr]
 have hzc:=Y1 (R:=R) z
 have hget:∀i j,i<l→j<s→arr.getD (i*s+j) undef=z.cells.getD j undef:=fun i j hi hj=>by
  have hlt:i*s+j<l*s:=by
   have:(i+1)*s≤l*s:=Nat.mul_le_mul_right s hi
   rw[Nat.succ_mul]at this
   omega
  have hne:¬l*s=0:=by omega
  simp only[arr,if_neg hne,Array.getD_eq_getD_getElem?,Array.getElem?_map]
  rw[show(Array.range (l*s))[i*s+j]? =some (i*s+j)from by simp[hlt],Option.map_some,e1]
  have e2:(i*s+j)%s=j:=by rw[Nat.mul_comm,Nat.mul_add_mod,Nat.mod_eq_of_lt hj]
  rw[e2]
  simp[e1,hj]
 obtain⟨R',hw,H',hx,hle,hm,hhw,hhv⟩:=H.garFresh s x (fun _=>(Xr z).cellsOf.map purify) l hl arr el hsz (fun R' hle i hi=>by
  have hlen:((Xr z).cellsOf.map purify).length=s:=by rw[List.length_map,hzc.1,e1]
  refine⟨hlen,fun j c hj=>?_⟩
  have hjs:j<s:=by rw[←hlen];exact(List.getElem?_eq_some_iff.1 hj).1
  rw[hget i j hi hjs]
  rw[List.getElem?_map,Option.map_eq_some_iff]at hj
  obtain⟨c0,hc0,rfl⟩:=hj
  rw[List.all_eq_true]at e3
  exact((hzc.2 j c0 hc0).purify (e3 _ (List.mem_map.2 ⟨c0,List.mem_of_getElem? hc0,rfl⟩))).mono hle.ok hle.keep hle.keepM)
 refine⟨.slice (some ⟨R.w.heap.size,0,none⟩) l l,R',?_,H',hx,hle,?_⟩
 ·rw[hw]
  have t1:¬((i0.bytes:Int)*(l:Int)>2^ 48):=by
   have:(i0.bytes:Int)*(l:Int)≤1000000*1000000:=Int.mul_le_mul (by omega) (by omega) (by omega) (by omega)
   omega
  have ha:∀(k:IntKind) (n:Int) (w:World),(asInt (.int k n)).run P w= .ok n w:=fun k n w=>by simp[asInt,asIntOf]
  unfold Instr.makeSlice
  simp only[Sem.run_bind,Zv hu,Result.andThen_ok,ha,Q4 hj,hl,hly,w1,Int.toNat_natCast,run_askRoom,Z6 hj,hs,t1,decide_false,Bool.or_false,Bool.false_or,
   show¬((l:Int)<0)from by omega,show¬((l:Int)>(l:Int))from by omega,Bool.false_eq_true,if_false,zeroValue]
  by_cases hne:l*s=0
  ·simp[hne,newRow,arr]
  ·simp[hne,newRow,arr,Q4 hj,hz1]
 ·rw[H.len]
  exact .gsl R.m x _ l l (by rw[hm];omega) (by rw[hhw];exact Int.le_refl _) (fun _=>hhv.symm) ⟨hl,.inr ⟨_,_,rfl⟩⟩
end
end Go.Proofs.YtjgpiclllehgmaaGreat.Vm
namespace Go.Proofs.YtjgpiclllehgmaaGreat.Vm
open Go
def ZcL (s:Nat) (m:Unit→Int) (f:(Unit→Int)→List AV):Nat→Nat→List AV→Option (List AV)
 |_,0,_=>some []
 |i,k+1,old=>(match QX (fun _=>decide ((i:Int)<m ())) (f fun _=>(i:Int)) (old.take s),ZcL s m f (i+1) k (old.drop s)with
  |some a,some b=>some (a++b)
  |_,_=>none)
def Zk4 (s0:Nat) (dst src:AV) (h:List Zi):Option (AV×List Zi×Cd):=match dst,src with
 |.msl id s lo n _,.isl s' m f _=>if ZC s s0&&ZC s s' then(match YW h id with
  |some cs=>if Z4 ((lo ()).toNat*s+(n ()).toNat*s) cs.length then(match ZcL s m f 0 (n ()).toNat ((cs.drop ((lo ()).toNat*s)).take ((n ()).toNat*s))with
   |some l=>some (.int .i64 fun _=>min (n ()) (m ()),h.set id (.cells (putC cs ((lo ()).toNat*s) l)),[])
   |none=>none)else none
  |none=>none)else none
 |_,_=>none
section
variable {P:Program} {R:RC} {G:Nat→Nat→Nat→Prop} {h:List Zi}
theorem Zd2 {s:Nat} {m:Unit→Int} {f:(Unit→Int)→List AV}:∀ {k i:Nat} {old l:List AV},ZcL s m f i k old=some l→old.length=k*s→l.length=k*s∧
  ∀(r j:Nat) (x:AV),r<k→j<s→l[r*s+j]? =some x→∃a c,(f fun _=>((i+r:Nat):Int))[j]? =some a∧old[r*s+j]? =some c∧Mx (fun _=>decide (((i+r:Nat):Int)<m ())) a c x
 |0,_,_,l,h,_=>by
  simp only[ZcL,Option.some.injEq]at h
  subst h
  exact⟨by simp,fun r j x hr=>by omega⟩
 |k+1,i,old,l,h,ho=>by
  simp only[ZcL]at h
  split at h
  case h_2=>cases h
  rename_i a b ha hb
  simp only[Option.some.injEq]at h
  subst h
  rw[Nat.succ_mul]at ho
  obtain⟨h1,h2,h3⟩:=Yi ha
  obtain⟨h4,h5⟩:=Zd2 hb (by rw[List.length_drop];omega)
  have hal:a.length=s:=by rw[←h2,List.length_take];omega
  refine⟨by rw[List.length_append,hal,h4,Nat.succ_mul];omega,fun r j x hr hj hx=>?_⟩
  cases r with
  |zero=>
   rw[Nat.zero_mul,Nat.zero_add]at hx⊢
   rw[List.getElem?_append_left (by omega)]at hx
   obtain⟨p,q,e1,e2,e3⟩:=h3 j x hx
   rw[List.getElem?_take,if_pos hj]at e2
   exact⟨p,q,e1,e2,e3⟩
  |succ r=>
   rw[Nat.succ_mul]at hx⊢
   rw[List.getElem?_append_right (by omega),hal,show r*s+s+j-s=r*s+j from by omega]at hx
   obtain⟨p,q,e1,e2,e3⟩:=h5 r j x (by omega) hj hx
   rw[List.getElem?_drop]at e2
   rw[show i+1+r=i+(r+1)from by omega]at e1 e3
   exact⟨p,q,e1,by rw[show r*s+s+j=s+(r*s+j)from by omega];exact e2,e3⟩
theorem ZqC {t el ty:TypeId} {at_:Array TypeId} {j:TypeInfo} (h0:at_[0]? =some t) (hu:P.underlying t=some (.slice el)) (hj:P.info? el=some j) (H:HR G R h) {dst src v:AV} {ud us0:Value} {h':List Zi} {c:Cd} (hd:VR R dst ud) (hs:VR R src us0)
  (hv:Zk4 j.size dst src h=some (v,h',c)):∃u' R',(Builtin.copy_ at_ ty #[ud,us0]).run P R.w= .ok u' R'.w∧HR G R' h'∧Xf R h R' h'∧R.le R'∧VR R' v u':=by
 unfold Zk4 at hv
 split at hv
 case h_2=>cases hv
 rename_i id s lo n cc s' m f tk
 split at hv
 case isFalse=>cases hv
 rename_i hcd
 simp only[Bool.and_eq_true]at hcd
 have e1:=Zz hcd.1
 have e2:=Zz hcd.2
 subst e2
 split at hv
 case h_2=>cases hv
 rename_i cs hcs
 split at hv
 case isFalse=>cases hv
 rename_i hle
 have hle:=Xc hle
 split at hv
 case h_2=>cases hv
 rename_i l hl
 simp only[Option.some.injEq,Prod.mk.injEq]at hv
 obtain⟨rfl,rfl,rfl⟩:=hv
 cases hd with
 |pure _ _ hp=>cases hp
 |msl _ _ _ _ _ i len cap hid hlo hn hcp hlc=>
 have hlo':(lo ()).toNat=i:=by omega
 have hn':(n ()).toNat=len:=by omega
 rw[hlo',hn']at hle
 rw[hlo',hn']at hl
 rw[hlo']
 obtain⟨hll,hlg⟩:=Zd2 hl (by rw[List.length_take,List.length_drop];omega)
 obtain⟨arr,ty0,h1,h2,h3⟩:=H.blk id _ (YR hcs)
 have hp:=hs.isl_inv
 obtain⟨nn,us,xa,xc,rfl,hm,hload,hpr⟩:∃(nn:Nat) (us:Nat→Nat→Value) (xa:Option Addr) (xc:Nat),us0= .slice xa nn xc∧m ()=(nn:Int)∧
   (∀k,k≤nn→(Builtin.firstCells s k (.slice xa nn xc)).run P R.w= .ok ((List.range (k*s)).map fun q=>us (q/s) (q%s)).toArray R.w)∧
   (∀i j c,i<nn→(f (fun _=>(i:Int)))[j]? =some c→PR R.w R.ok c (us i j)):=by
  cases hp with
  |isl0 _ _ _ _ hz _=>
   exact⟨0,fun _ _=>undef,none,0,rfl,by omega,fun k hk=>by
    have:k=0:=by omega
    subst this
    simp[Builtin.firstCells],fun i j c hi=>by omega⟩
  |islE _ _ _ _ a hz _=>
   exact⟨0,fun _ _=>undef,some a,0,rfl,by omega,fun k hk=>by
    have:k=0:=by omega
    subst this
    rw[Nat.zero_mul]
    exact Zax R.w a s 0 0,fun i j c hi=>by omega⟩
  |isl _ _ _ _ b o ln cap us hn hc ht he hl h1 h2 h3=>
   refine⟨ln,us,some ⟨b,o,none⟩,cap,rfl,hn,fun k hk=>?_,h2⟩
   have:=run_loadCells (P:=P) R.w ⟨b,o,none⟩ (k*s) (fun q=>us (q/s) (q%s)) (fun q hq=>by
    have hs:0<s:=Nat.pos_of_ne_zero (fun e=>by subst e;simp at hq)
    have h4:q/s<k:=(Nat.div_lt_iff_lt_mul hs).2 hq
    have h5:=Nat.mod_lt q hs
    have h6:=Nat.div_add_mod' q s
    rw[QS]
    have:=h1 (q/s) (q%s) _ (by omega) (List.getElem?_eq_getElem (by rw[hl _ (by omega)];exact h5))
    rw[show o+q/s*s+q%s=o+q from by omega]at this
    exact this)
   simpa [Builtin.firstCells]using this
 let k:=Nat.min nn len
 have hk1:k≤nn:=Nat.min_le_left _ _
 have hk2:k≤len:=Nat.min_le_right _ _
 let vs:=(List.range (k*s)).map fun q=>us (q/s) (q%s)
 have hvl:vs.length=k*s:=by simp[vs]
 have hks:k*s≤len*s:=Nat.mul_le_mul_right s hk2
 have hrow:∀r jj,r<len→jj<s→∃a c x,(f fun _=>(r:Int))[jj]? =some a∧((cs.drop (i*s)).take (len*s))[r*s+jj]? =some c∧l[r*s+jj]? =some x∧Mx (fun _=>decide ((r:Int)<m ())) a c x:=fun r jj hr hjj=>by
  have hlt:r*s+jj<len*s:=by
   have:(r+1)*s≤len*s:=Nat.mul_le_mul_right s hr
   rw[Nat.succ_mul]at this
   omega
  obtain⟨a,c,g1,g2,g3⟩:=hlg r jj _ hr hjj (List.getElem?_eq_getElem (by omega))
  rw[Nat.zero_add]at g1 g3
  exact⟨a,c,_,g1,g2,List.getElem?_eq_getElem (by omega),g3⟩
 have hone:∀v∈vs,v.oneCell'=true:=fun v hv=>by
  obtain⟨q,hq,rfl⟩:=List.mem_map.1 hv
  rw[List.mem_range]at hq
  have hs:0<s:=Nat.pos_of_ne_zero (fun e=>by rw[e]at hq;simp at hq)
  have h4:q/s<k:=(Nat.div_lt_iff_lt_mul hs).2 hq
  obtain⟨a,c,_,g1,_,_⟩:=hrow (q/s) (q%s) (by omega) (Nat.mod_lt q hs)
  exact(hpr _ _ _ (by omega) g1).one
 have hst:=run_storeCells_at P (R.α id).b ((R.α id).o+i*s) ty0 vs 0 arr R.w h1 (by omega) hone
 let arr':=(arr.toList.take ((R.α id).o+i*s+0)++vs++arr.toList.drop ((R.α id).o+i*s+0+vs.length)).toArray
 obtain⟨R',hw,hm',hα,H',hx,hle'⟩:=H.upd (YR hcs) rfl (blk':=.cells (putC cs (i*s) l)) rfl (R.w.setRow (R.α id).b arr') rfl rfl rfl (by simp[World.setRow]) (fun b hb=>setRow_other R.w (R.α id).b b _ hb) (fun R' hle' hα hw=>by
  refine⟨arr',ty0,by rw[hw,hα];exact setRow_heap R.w _ arr _ ty0 _ h1,?_,fun q c hq=>?_⟩
  ·rw[Ym,hα]
   simp only[arr',List.size_toArray,List.length_append,List.length_take,List.length_drop,Array.length_toList]
   omega
  ·rw[hα,Yr arr vs ((R.α id).o+i*s+0) _ (by omega)]
   rw[Zbh l cs (i*s) q (by omega)]at hq
   by_cases hin:i*s≤q∧q<i*s+l.length
   ·rw[if_pos hin]at hq
    have hs:0<s:=Nat.pos_of_ne_zero (fun e=>by rw[e,Nat.mul_zero]at hll;omega)
    have hqs:q-i*s<len*s:=by omega
    have h4:(q-i*s)/s<len:=(Nat.div_lt_iff_lt_mul hs).2 hqs
    have h5:=Nat.mod_lt (q-i*s) hs
    have h6:=Nat.div_add_mod' (q-i*s) s
    obtain⟨a,c0,x0,g1,g2,g3,mx⟩:=hrow _ _ h4 h5
    rw[h6]at g2 g3
    rw[hq]at g3
    simp only[Option.some.injEq]at g3
    subst g3
    by_cases hr:(q-i*s)/s<nn
    ·have hqk:q-i*s<k*s:=by
      rw[←Nat.div_lt_iff_lt_mul hs]
      show _<Nat.min nn len
      exact Nat.lt_min.2 ⟨hr,h4⟩
     rw[if_pos (by omega),show(R.α id).o+q-((R.α id).o+i*s+0)=q-i*s from by omega]
     have hvq:vs.getD (q-i*s) undef=us ((q-i*s)/s) ((q-i*s)%s):=by
      simp only[vs,List.getD_eq_getElem?_getD,List.getElem?_map]
      rw[List.getElem?_range hqk]
      rfl
     rw[hvq]
     exact(mx.vt (decide_eq_true (show((((q-i*s)/s:Nat):Int)<m ()) by omega)) (VR.pure _ _ (hpr _ _ _ hr g1):VR R _ _)).mono hle'
    ·have hqk:¬q-i*s<k*s:=by
      rw[←Nat.div_lt_iff_lt_mul hs]
      show¬_<Nat.min nn len
      intro h
      exact hr (Nat.lt_of_lt_of_le h (Nat.min_le_left _ _))
     rw[if_neg (by omega)]
     have g2':cs[q]? =some c0:=by
      rw[List.getElem?_take,if_pos hqs,List.getElem?_drop,show i*s+(q-i*s)=q from by omega]at g2
      exact g2
     exact(mx.vf (decide_eq_false (show¬((((q-i*s)/s:Nat):Int)<m ()) by omega)) (h3 q _ g2')).mono hle'
   ·rw[if_neg hin]at hq
    rw[if_neg (by omega)]
    exact(h3 q c hq).mono hle')
 refine⟨.int .i64 (k:Int),R',?_,H',hx,hle',VR.mkInt (by show min (n ()) (m ())=((Nat.min nn len:Nat):Int);rw[hn,hm,show Nat.min nn len=min nn len from rfl];omega)⟩
 unfold Builtin.copy_
 have hst':(storeCells ⟨(R.α id).b,(R.α id).o+i*s,none⟩ vs).run P R.w= .ok () R'.w:=by rw[hst,hw]
 have hfc:=hload k hk1
 simp only[h0,Sem.run_bind,Zv hu,Result.andThen_ok,List.getElem?_toArray,List.getElem?_cons_zero,List.getElem?_cons_succ,Builtin.lenOf,Sem.run_pure,Z6 hj,←e1]
 rw[show Nat.min nn len=k from rfl,hfc]
 simp only[Result.andThen_ok]
 rw[hst']
 rfl
end
end Go.Proofs.YtjgpiclllehgmaaGreat.Vm
namespace Go.Proofs.YtjgpiclllehgmaaGreat.Vm
open Go
def ZbU (E:Operand→AV) (s:Nat):Nat→List (Nat×Operand)→Option (List (List AV))
 |_,[]=>some []
 |k,(i,x)::r=>if ZC i k&&plain (E x)&&ZC (E x).cellsOf.length s&&((E x).cellsOf.map purify).all Y7 then(ZbU E s (k+1) r).map (((E x).cellsOf.map purify)::·)else none
def ZrT:AV→Bool
 |.gsl _ _=>true
 |c=>Y7 c
def ZhD (E:Operand→AV) (s:Nat):List (Nat×Operand)→Option AV
 |[(i,x)]=>if ZC i 0&&plain (E x)&&ZC (E x).cellsOf.length s&&((E x).cellsOf.map purify).all ZrT then some (.lit s ((E x).cellsOf.map purify))else none
 |_=>none
def Zcq (s:Nat) (rows:List (List AV)):AV:=.isl s (fun _=>(rows.length:Int)) (fun e=>rows.getD (e ()).toNat (rows.headD [])) .exact
def XS (P:Program) (E:Operand→AV) (t:TypeId) (n:Nat) (ps:List (Nat×Operand)):Option AV:=
 match Zx P t with
 |some T=>(match T.k with
  |.slice e s _=>if Zcj P e s&&ZC ps.length n&&Z4 (n*s) 16777216 then(match ZbU E s 0 ps with
   |some rows=>some (Zcq s rows)
   |none=>ZhD E s ps)else none
  |_=>none)
 |none=>none
def ZiH (A:TyF) (kt:TypeId):Option Nat:=zN ((A.ti kt).bind (·.zero))
def Zag (A:TyF) (t:TypeId):Option Zi:=match A.un t with
 |some (.map kt et)=>(match(A.ti et).bind (·.zero)with
  |some (.bool _)=>some (.mapB fun _ _=>false)
  |some (.map none)=>(match A.un et with
   |some (.map kt2 et2)=>(match ZiH A kt,ZiH A kt2,zN ((A.ti et2).bind (·.zero))with
    |some ka,some kb,some n=>some (.gob (.mapM ka kb n fun _=>[]))
    |_,_,_=>none)
   |_=>none)
  |z=>(match ZiH A kt,zN z with
   |some ka,some n=>some (.gob (.mapL ka n fun _=>[]))
   |_,_=>none))
 |_=>none
def Y0 {α:Type} (L:List (List Int×α)) (k:List Int) (d:α):List (List Int×α):=if L.any (fun p=>p.1==k)then L.map (fun p=>if p.1==k then(k,d)else p)else L++[(k,d)]
def Zr7 (n:Nat):AV→Option (Unit→List Int)
 |.int .i64 a=>if ZC n 0 then some fun _=>[a ()]else none
 |.agg cs=>if ZC n cs.length&&ltN 0 cs.length then Zdq cs else none
 |_=>none
def Xx (A:TyF) (t:TypeId) (m k x:AV) (h:List Zi):Option (AV×List Zi×Cd):=match A.un t,m with
 |some (.map kt et),.map id=>(match h[id]? with
  |some (.mapB f)=>(match k,x,A.un kt with
   |.int .i64 n,.bool b,some (.int .i64)=>some (.undef,h.set id (.mapB fun e u=>if e ()=n ()then b u else f e u),[])
   |_,_,_=>none)
  |some (.gob (.mapL ka n L))=>(match Zgb A kt ka k,Zr7 n x with
   |some g,some d=>some (.undef,h.set id (.gob (.mapL ka n fun _=>Y0 (L ()) (g ()) (d ()))),[])
   |_,_=>none)
  |some (.gob (.mapM ka kb n L))=>(match Zgb A kt ka k,x with
   |some g,.imap kb' n' L2=>if ZC kb kb'&&ZC n n' then some (.undef,h.set id (.gob (.mapM ka kb n fun _=>Y0 (L ()) (g ()) (L2 ()))),[])else none
   |_,_=>none)
  |_=>none)
 |_,_=>none
def evE (gr:Bool) (P:Program) (E:Operand→AV) (h:List Zi):Op→Option (AV×List Zi×Cd)
 |.alloc t=>(match Zx P t with
  |some T=>(match T.zero with
   |some z=>some (.ptr h.length 0,h++[.cells (Xr z).cellsOf],[])
   |none=>none)
  |none=>none)
 |.box _ x=>if plain (E x)then some (.ptr h.length 0,h++[.cells (E x).cellsOf],[])else none
 |.store t a x=>(match E a,Zx P t with
  |.ptr id off,some T=>(match YW h id with
   |some cs=>if plain (E x)&&ZC (E x).cellsOf.length T.size&&Z4 (off+T.size) cs.length&&(E x).cellsOf.all Zoj then some (.undef,h.set id (.cells (putC cs off (E x).cellsOf)),[])else none
   |none=>none)
  |.aptr id s e off,some T=>Zb0 T id s e off (E x) h
  |.gptr id s n e off,some T=>ZbW T id s n e off (E x) h
  |_,_=>none)
 |.makeSlice t n c=>(match Zx P t with
  |some T=>(if gr then Zah else YL) T (match T.k with
   |.slice e _ _=>(Zx P e).bind (·.zero)
   |_=>none) (E n) (E c) h
  |none=>none)
 |.buildSlice t n ps=>(XS P E t n ps.toList).map fun v=>(v,h,[])
 |.makeMap t none=>(match Zag (tyP P) t with
  |some b=>some (.map h.length,h++[b],[])
  |none=>none)
 |.mapUpdate t m k x=>Xx (tyP P) t (E m) (E k) (E x) h
 |.range t x=>(match E x,P.underlying t with
  |.imap ka n L,some (.map _ _)=>some (.mit h.length,h++[.gob (.mapIt ka n L (fun _=>[]) fun _=>([],[]))],[])
  |_,_=>none)
 |.call {callee:=.builtin .append,args,argTypes}=>(match args.toList,argTypes.toList with
  |[x,y],[t,t']=>Zc0 gr P t t' (E x) (E y) h
  |_,_=>none)
 |.call {callee:=.builtin .copy,args,argTypes}=>(match args.toList,argTypes.toList with
  |[x,y],t::_=>(match P.underlying t with
   |some (.slice e)=>(match Zx P e with
    |some J=>Zk4 J.size (E x) (E y) h
    |none=>none)
   |_=>none)
  |_,_=>none)
 |.call {callee:=.builtin .clear,args,argTypes}=>(match args.toList,argTypes.toList with
  |[x],t::_=>(match P.underlying t with
   |some (.slice e)=>(match Zx P e with
    |some J=>ZfJ J.zero J.size (E x) h
    |none=>none)
   |_=>none)
  |_,_=>none)
 |_=>none
section
variable {P:Program} {R:RC} {G:Nat→Nat→Nat→Prop} {h:List Zi}
def JE (R:RC) (G:Nat→Nat→Nat→Prop) (h:List Zi) (v:AV) (h':List Zi) (r:Result Next):Prop:=
 ∃nv u R',r= .ok nv R'.w∧(nv= .value u∨(nv= .skip∧u=undef))∧HR G R' h'∧Xf R h R' h'∧R.le R'∧VR R' v u
theorem JE.ofValue {v:AV} {h':List Zi} {s:Sem Value} (hs:∃u R',s.run P R.w= .ok u R'.w∧HR G R' h'∧Xf R h R' h'∧R.le R'∧VR R' v u):
  JE R G h v h' ((do let x←s;pure (Next.value x):Sem Next).run P R.w):=by
 obtain⟨u,R',h1,h2,h3,h4,h5⟩:=hs
 exact⟨.value u,u,R',by rw[Sem.run_bind,h1];rfl,.inl rfl,h2,h3,h4,h5⟩
theorem JE.ofUnit {h':List Zi} {s:Sem Unit} (hs:∃R',s.run P R.w= .ok () R'.w∧HR G R' h'∧Xf R h R' h'∧R.le R'):
  JE R G h .undef h' ((do s;pure Next.skip:Sem Next).run P R.w):=by
 obtain⟨R',h1,h2,h3,h4⟩:=hs
 exact⟨.skip,undef,R',by rw[Sem.run_bind,h1];rfl,.inr ⟨rfl,rfl⟩,h2,h3,h4,.undef _⟩
theorem HR.garNew (H:HR G R h) (s:Nat) (n:Unit→Int) (f:(Unit→Int)→List AV) (a0:Option Addr) (hn:n ()=0):
  ∃R',R'.w=R.w∧HR G R' (h++[.gar s n f])∧Xf R h R' (h++[.gar s n f])∧R.le R'∧R'.hv h.length= .slice a0 0 0:=by
 have hset:∀i x,(h++[Zi.gar s n f])[i]? =some x→(i=R.m∧x= .gar s n f)∨(i≠R.m∧h[i]? =some x):=fun i x hx=>by
  rcases QD hx with hx|⟨rfl,rfl⟩
  ·exact .inr ⟨fun e=>by have:=(List.getElem?_eq_some_iff.1 hx).1;rw[H.len]at this;omega,hx⟩
  ·exact .inl ⟨H.len,rfl⟩
 have hnop:∀R':RC,R'.hv R.m= .slice a0 0 0→∀b,¬ZG R' R.m (.gar s n f) b:=fun R' hv b hp=>by
  obtain⟨a,k,c,h1,h2,_⟩:=hp
  rw[hv]at h1
  cases h1
  omega
 obtain⟨R',a1,a2,a3,a4,a5,a6,a7,_⟩:=H.room R.m (R.m+1) (.gar s n f) 0 (.slice a0 0 0) R.w (h++[.gar s n f]) (by rw[List.length_append,H.len];rfl) (Nat.le_succ _) hset (fun hi=>absurd hi (Nat.lt_irrefl _)) (fun _=>False)
  (fun b=>⟨fun h=>h.elim,fun h=>absurd h.1 (Nat.lt_irrefl _)⟩) rfl rfl rfl (Nat.le_refl _) (fun _ _ _=>rfl) (fun _ _ _ _ _ _=>rfl)
  (fun R' _ _ hwi hvi _=>⟨by rw[hwi,hn],.inl ⟨hn,a0,hvi⟩⟩)
  (fun R' hv _ b hp=>absurd hp (hnop R' hv b))
  (fun R' hv b o n _=>hnop R' hv b) rfl
 exact⟨R',a1,a5,a6,a7,by rw[H.len];exact a3⟩
theorem Zkt {gr:Bool} (H:HR G R h) {t t' ty:TypeId} {at_:Array TypeId} {dst src v:AV} {h':List Zi} {c:Cd} {u x:Value} (hd:VR R dst u) (hs:VR R src x) (h0:at_[0]? =some t) (h1:at_[1]? =some t')
  (hv:Zc0 gr P t t' dst src h=some (v,h',c)) (hc:ZN c):∃r R',(Builtin.append_ at_ ty #[u,x]).run P R.w= .ok r R'.w∧HR G R' h'∧Xf R h R' h'∧R.le R'∧VR R' v r:=by
 unfold Zc0 at hv
 split at hv
 case h_2=>cases hv
 rename_i e e' hu hu'
 split at hv
 case h_3=>cases hv
 case h_2=>
  rename_i id n sz m g tk'
  split at hv
  case isFalse=>cases hv
  rename_i hzo
  obtain⟨j,z,hj,hz,hzs,hjs,hjb⟩:=JH hzo
  split at hv
  case h_2=>cases hv
  rename_i s n0 f hi
  split at hv
  case isFalse=>cases hv
  rename_i hss
  have hss:=Zz hss
  subst hss
  simp only[Option.some.injEq,Prod.mk.injEq]at hv
  obtain⟨rfl,rfl,rfl⟩:=hv
  have hc1:=(Cn.out (hc _ (List.mem_cons_self ..)))
  have hc2:=(Cn.out (hc _ (List.mem_cons_of_mem _ (List.mem_singleton.2 rfl))))
  cases hd with
  |pure _ _ hp=>cases hp
  |gsl _ _ a l c' hid hn he _=>
  rw[he (by rw[hc1];exact(H.blk id _ hi).1.symm)]
  exact ZgH H hi (.of hs.isl_inv) h0 h1 hu hu' hj hz hzs hjs hjb hc2
 rename_i s₁ n f tk sz m g tk'
 split at hv
 case isFalse=>cases hv
 rename_i hzo
 obtain⟨j,z,hj,hz,hzs,hjs,hjb⟩:=JH hzo
 have hxp:=hs.isl_inv
 have hvp:=hd.isl_inv
 have hnn:0≤n ():=by cases hvp<;>omega
 have hmn:0≤m ():=by cases hxp<;>omega
 have fresh:(s₁=sz∨n ()=0)→n ()+m ()≤1000000→(∀a len cap,u= .slice a len cap→cap=len)→
   ∃r R',(Builtin.append_ at_ ty #[u,x]).run P R.w= .ok r R'.w∧HR G R' (h++[.tok sz fun _=>n ()+m ()])∧Xf R h R' (h++[.tok sz fun _=>n ()+m ()])∧R.le R'∧VR R' (.isl sz (fun _=>n ()+m ()) (QM n f g) (.own h.length)) r:=by
  intro hss hle hex
  have hset:∀i y,(h++[.tok sz fun _=>n ()+m ()])[i]? =some y→(i=h.length∧y= .tok sz fun _=>n ()+m ())∨(i≠h.length∧h[i]? =some y):=fun i y hy=>by
   rcases QD hy with hy|⟨rfl,rfl⟩
   ·exact .inr ⟨fun e=>by have:=(List.getElem?_eq_some_iff.1 hy).1;omega,hy⟩
   ·exact .inl ⟨rfl,rfl⟩
  have hid:(h++[.tok sz fun _=>n ()+m ()])[h.length]? =some (.tok sz fun _=>n ()+m ()):=by simp
  have hno:¬h.length<R.m:=by rw[H.len];omega
  by_cases hm0:m ()=0
  ·obtain⟨R',hw,H',hx,hle',hvr⟩:=Zeg H hvp hss hm0 (m':=R.m+1) (by rw[List.length_append,H.len];rfl) (Nat.le_succ _) hset hid (fun h=>absurd h hno) (fun _=>by
     cases hvp with
     |isl0 _ _ _ _ _ _=>exact .inl ⟨_,rfl⟩
     |islE _ _ _ _ _ _ _=>exact .inl ⟨_,rfl⟩
     |isl _ _ _ _ b o len cap us _ _ _ _ _ _ _ _=>have:=hex _ _ _ rfl;subst this;exact .inr ⟨_,_,rfl⟩)
    (fun h=>absurd h hno) (fun h=>absurd h hno) (fun s0 hw0 h=>by rw[List.getElem?_eq_none (Nat.le_refl _)]at h;cases h)
   obtain⟨xa,nn,xc,us2,new,rfl,hm,_,_,hnl,hnfc,_⟩:=Xj (P:=P) hxp
   have hn0:nn=0:=by omega
   subst hn0
   have hnew:new=[]:=List.eq_nil_of_length_eq_zero (by simpa using hnl)
   subst hnew
   subst hjs
   refine⟨u,R',?_,H',hx,hle',hvr⟩
   rw[hw]
   cases hvp with
   |isl0 _ _ _ _ _ _=>exact Qm h0 h1 hu hu' hj none xa 0 0 xc 0 #[] R.w R.w (hnfc _ rfl) (by omega) (fun a h=>by cases h) (fun _=>rfl)
   |islE _ _ _ _ a _ _=>exact Qm h0 h1 hu hu' hj (some a) xa 0 0 xc 0 #[] R.w R.w (hnfc _ rfl) (by omega) (fun a _=>rfl) (fun h=>by cases h)
   |isl _ _ _ _ b o len cap us _ hcap _ _ _ _ _ _=>exact Qm h0 h1 hu hu' hj _ xa len cap xc 0 #[] R.w R.w (hnfc _ rfl) (by omega) (fun a _=>rfl) (fun h=>by cases h)
  ·exact ZfS H hvp hss hxp h0 h1 hu hu' hj hz hzs hjs hjb hle (fun a len cap hh=>by have:=hex _ _ _ hh;omega) (m':=R.m+1) (by rw[List.length_append,H.len];rfl) (Nat.le_succ _) hset hid (fun h=>absurd h hno)
 split at hv
 ·simp only[Option.some.injEq,Prod.mk.injEq]at hv
  obtain⟨rfl,rfl,rfl⟩:=hv
  have hnil:u= .slice none 0 0∧n ()=0:=by
   cases hd with
   |pure _ _ hp=>
    cases hp with
    |isl0 _ _ _ _ hz _=>exact⟨rfl,hz⟩
    |islE _ _ _ _ _ _ ht=>rcases ht with h|h<;>cases h
    |isl _ _ _ _ _ _ _ _ _ _ _ ht _ _ _ _ _=>rcases ht with h|h<;>cases h
  exact fresh (.inr hnil.2) ((Cn.out (hc _ (List.mem_singleton.2 rfl)))) (fun a len cap hh=>by rw[hnil.1]at hh;cases hh;rfl)
 ·split at hv
  case isFalse=>cases hv
  rename_i hs1
  split at hv
  ·simp only[Option.some.injEq,Prod.mk.injEq]at hv
   obtain⟨rfl,rfl,rfl⟩:=hv
   have hn0:n ()=0:=(Cn.out (hc _ (List.mem_cons_self ..)))
   have hle:n ()+m ()≤1000000:=(Cn.out (hc _ (List.mem_cons_of_mem _ (List.mem_singleton.2 rfl))))
   obtain⟨a0,rfl⟩:∃a0:Option Addr,u= .slice a0 0 0:=by
    cases hd with
    |pure _ _ hp=>
     cases hp with
     |isl0 _ _ _ _ hz _=>exact⟨none,rfl⟩
     |islE _ _ _ _ a _ _=>exact⟨some a,rfl⟩
     |isl _ _ _ _ b o len cap us hln _ ht he _ _ _ _=>
      have h1:=he rfl
      have h2:len=0:=by omega
      exact⟨some ⟨b,o,none⟩,by rw[h1,h2]⟩
   obtain⟨R₁,w1,H1,x1,l1,v1⟩:=H.garNew sz n f a0 hn0
   obtain⟨r,R',q1,q2,q3,q4,q5⟩:=ZgH (P:=P) (at_:=at_) (ty:=ty) (n0:=n) (f:=f) H1 (id:=h.length) (by simp) (.of (hxp.mono l1.ok l1.keep l1.keepM)) h0 h1 hu hu' hj hz hzs hjs hjb hle
   have e:(h++[Zi.gar sz n f]).set h.length (.gar sz (fun _=>n ()+m ()) (QM n f g))=h++[.gar sz (fun _=>n ()+m ()) (QM n f g)]:=by simp
   rw[e]at q2 q3
   rw[v1,w1]at q1
   exact⟨r,R',q1,q2,x1.trans q3,l1.trans q4,q5⟩
  simp only[Option.some.injEq,Prod.mk.injEq]at hv
  obtain⟨rfl,rfl,rfl⟩:=hv
  refine fresh (.inl (Zz hs1)) ((Cn.out (hc _ (List.mem_singleton.2 rfl)))) (fun a len cap hh=>?_)
  cases hd with
  |pure _ _ hp=>
   cases hp with
   |isl0 _ _ _ _ hz _=>cases hh;rfl
   |islE _ _ _ _ _ _ _=>cases hh;rfl
   |isl _ _ _ _ _ _ _ _ _ _ _ ht he _ _ _ _=>cases hh;exact he rfl
 ·rename_i id
  split at hv
  case isFalse=>cases hv
  rename_i hs1
  have hs1:=Zz hs1
  subst hs1
  split at hv
  case h_2=>cases hv
  rename_i s hw0 hi
  split at hv
  case isFalse=>cases hv
  rename_i hs2
  have hs2:=Zz hs2
  subst hs2
  simp only[Option.some.injEq,Prod.mk.injEq]at hv
  obtain⟨rfl,rfl,rfl⟩:=hv
  have hc1:n ()=hw0 ():=(Cn.out (hc _ (List.mem_cons_self ..)))
  have hc2:n ()+m ()≤1000000:=(Cn.out (hc _ (List.mem_cons_of_mem _ (List.mem_cons_self ..))))
  have hidm:id<R.m:=H.len▸(List.getElem?_eq_some_iff.1 hi).1
  obtain⟨hbw,hbt⟩:=H.blk id _ hi
  have hhv:R.hv id=u:=by
   cases hd with
   |pure _ _ hp=>
    cases hp with
    |isl0 _ _ _ _ _ ht=>cases ht
    |islE _ _ _ _ _ _ ht=>rcases ht with h|h<;>cases h
    |isl _ _ _ _ _ _ _ _ _ _ _ ht _ _ _ _ _=>rcases ht with h|h<;>cases h
   |own _ _ _ _ _ _ _ _ he=>exact(he (by rw[hbw];exact hc1)).symm
  have hset:∀i y,(h.set id (.tok s fun _=>n ()+m ()))[i]? =some y→(i=id∧y= .tok s fun _=>n ()+m ())∨(i≠id∧h[i]? =some y):=fun i y hx=>by
   rw[List.getElem?_set]at hx
   split at hx
   ·rename_i e
    subst e
    split at hx
    ·simp only[Option.some.injEq]at hx;exact .inl ⟨rfl,hx.symm⟩
    ·cases hx
   ·rename_i e
    exact .inr ⟨fun h=>e h.symm,hx⟩
  have hid:(h.set id (.tok s fun _=>n ()+m ()))[id]? =some (.tok s fun _=>n ()+m ()):=by rw[List.getElem?_set];simp[(List.getElem?_eq_some_iff.1 hi).1]
  have hlen:(h.set id (.tok s fun _=>n ()+m ())).length=R.m:=by rw[List.length_set];exact H.len
  by_cases hm0:m ()=0
  ·obtain⟨R',hw,H',hx,hle',hvr⟩:=Zeg H hvp (.inl rfl) hm0 hlen (Nat.le_refl _) hset hid (fun _=>⟨s,hw0,hi,by rw[hbw];omega,fun _=>hhv.symm⟩) (fun h=>absurd hidm h)
    (fun _=>by
     rw[hhv]at hbt
     rcases hbt with⟨a1,a2⟩|⟨b,o,len,cap,a1,a2,a3,a4⟩
     ·exact .inl ⟨by omega,a2⟩
     ·exact .inr ⟨b,o,len,cap,by omega,a2,a3,a4⟩) (fun _=>hhv.symm) (fun s0 hw1 h=>by rw[hi]at h;cases h;rfl)
   obtain⟨xa,nn,xc,us2,new,rfl,hm,_,_,hnl,hnfc,_⟩:=Xj (P:=P) hxp
   have hn0:nn=0:=by omega
   subst hn0
   have hnew:new=[]:=List.eq_nil_of_length_eq_zero (by simpa using hnl)
   subst hnew
   subst hjs
   refine⟨u,R',?_,H',hx,hle',hvr⟩
   rw[hw]
   cases hvp with
   |isl0 _ _ _ _ _ _=>exact Qm h0 h1 hu hu' hj none xa 0 0 xc 0 #[] R.w R.w (hnfc _ rfl) (by omega) (fun a h=>by cases h) (fun _=>rfl)
   |islE _ _ _ _ a _ _=>exact Qm h0 h1 hu hu' hj (some a) xa 0 0 xc 0 #[] R.w R.w (hnfc _ rfl) (by omega) (fun a _=>rfl) (fun h=>by cases h)
   |isl _ _ _ _ b o len cap us _ hcap _ _ _ _ _ _=>exact Qm h0 h1 hu hu' hj _ xa len cap xc 0 #[] R.w R.w (hnfc _ rfl) (by omega) (fun a _=>rfl) (fun h=>by cases h)
  ·by_cases hroom:∀a len cap,u= .slice a len cap→(len:Int)+m ()≤cap
   ·exact Zl8 H hvp hxp h0 h1 hu hu' hj hjs hi hhv (by rw[hbw];exact hc1.symm) (by omega) hroom
   ·refine ZfS H hvp (.inl rfl) hxp h0 h1 hu hu' hj hz hzs hjs hjb hc2 (fun a len cap hh hl=>hroom (fun a' len' cap' hh'=>?_)) hlen (Nat.le_refl _) hset hid (fun _=>⟨s,hw0,hi,by rw[hbw];omega⟩)
    rw[hh]at hh'
    cases hh'
    exact hl
 ·cases hv
 ·cases hv
theorem Zou (p0:Nat):∀(vs:List Value) (q:Nat) (us:Array Value),((vs.zipIdx q).foldl (fun cs (p:Value×Nat)=>cs.setIfInBounds (p0+p.2) p.1) us).size=us.size∧
  ∀t,((vs.zipIdx q).foldl (fun cs (p:Value×Nat)=>cs.setIfInBounds (p0+p.2) p.1) us)[t]? =if p0+q≤t∧t<p0+q+vs.length∧t<us.size then vs[t-(p0+q)]? else us[t]? :=by
 intro vs
 induction vs with
 |nil=>intro q us;exact⟨rfl,fun t=>by simp;omega⟩
 |cons v vs ih=>
  intro q us
  simp only[List.zipIdx_cons,List.foldl_cons]
  obtain⟨i1,i2⟩:=ih (q+1) (us.setIfInBounds (p0+q) v)
  refine⟨by rw[i1];simp,fun t=>?_⟩
  rw[i2]
  simp only[Array.size_setIfInBounds,List.length_cons]
  by_cases c1:p0+(q+1)≤t∧t<p0+(q+1)+vs.length∧t<us.size
  ·rw[if_pos c1,if_pos (by omega),show t-(p0+q)=(t-(p0+(q+1)))+1 from by omega,List.getElem?_cons_succ]
  ·rw[if_neg c1,Array.getElem?_setIfInBounds]
   by_cases c2:p0+q=t
   ·subst c2
    by_cases c3:p0+q<us.size
    ·rw[if_pos rfl,if_pos c3,if_pos (by omega)]
     simp
    ·rw[if_pos rfl,if_neg c3,if_neg (by omega),Array.getElem?_eq_none (by omega)]
   ·rw[if_neg c2,if_neg (by omega)]
theorem Zov {s:Nat} {v:Value} {cells:Array Value} (hv:v.cells.size=s) (hc:cells.size=s):∃arr,Instr.fill (fun i=>some (i*s,s)) cells [(0,v)]=some arr∧arr.size=s∧∀k,k<s→arr[k]? =v.cells[k]? :=by
 obtain⟨f1,f2⟩:=Zou (0*s) v.cells.toList 0 cells
 refine⟨(v.cells.toList.zipIdx 0).foldl (fun cs (p:Value×Nat)=>cs.setIfInBounds (0*s+p.2) p.1) cells,?_,f1.trans hc,fun k hk=>?_⟩
 ·simp only[Instr.fill]
  rw[if_neg (by rw[hv];simp;omega)]
  rw[←Array.foldl_toList]
  have e:v.cells.zipIdx.toList=v.cells.toList.zipIdx:=by simp
  rw[e]
 ·rw[f2,if_pos (by simp[hv];omega)]
  simp
theorem Zof {c:AV} {u:Value} (hv:VR R c u) (hl:ZrT (purify c)=true):VR R (purify c) u:=by
 by_cases hp:Y7 (purify c)=true
 ·exact .pure _ _ (hv.purify hp)
 ·have hc:purify c=c:=by
   cases c with
   |isl s n f tk=>cases tk<;>first|rfl|exact absurd rfl hp
   |_=>rfl
  rw[hc]
  exact hv
theorem Zdy {E:Operand→AV} {ρ:Operand→Value} {s:Nat}:∀(ps:List (Nat×Operand)) (k:Nat) (rows:List (List AV)) (cells:Array Value),ZbU E s k ps=some rows→(k+ps.length)*s=cells.size→(∀p∈ps,VR R (E p.2) (ρ p.2))→
  ∃arr,Instr.fill (fun i=>some (i*s,s)) cells (ps.map fun p=>(p.1,ρ p.2))=some arr∧arr.size=cells.size∧rows.length=ps.length∧(∀i,i<k*s→arr[i]? =cells[i]?)∧
   ∀i r,rows[i]? =some r→r.length=s∧∀j c,r[j]? =some c→PR R.w R.ok c (arr.getD ((k+i)*s+j) undef)
 |[],k,rows,cells,hl,hsz,_=>by
  simp only[ZbU,Option.some.injEq]at hl
  subst hl
  exact⟨cells,rfl,rfl,rfl,fun _ _=>rfl,fun i r h=>by simp at h⟩
 |(i,x)::ps,k,rows,cells,hl,hsz,hE=>by
  simp only[ZbU]at hl
  split at hl
  case isFalse=>cases hl
  rename_i hcd
  simp only[Bool.and_eq_true]at hcd
  obtain⟨⟨⟨hik,hpl⟩,hln⟩,hpo⟩:=hcd
  have hik:=Zz hik
  have hln:=Zz hln
  subst hik
  simp only[Option.map_eq_some_iff]at hl
  obtain⟨rows',hr,rfl⟩:=hl
  have hrel:=YQ (hE (i,x) (List.mem_cons_self ..)) (fun g y e=>by rw[e]at hpl;cases hpl) (fun e=>by rw[e]at hpl;cases hpl)
  have hvs:(ρ x).cells.size=s:=by rw[←hrel.1,hln]
  have hsz':(i+1+ps.length)*s=cells.size:=by rw[←hsz,List.length_cons];congr 1;omega
  have hfold:∀(vs:List Value) (q:Nat) (us:Array Value),((vs.zipIdx q).foldl (fun cs (p:Value×Nat)=>cs.setIfInBounds (i*s+p.2) p.1) us).size=us.size∧
    ∀t,((vs.zipIdx q).foldl (fun cs (p:Value×Nat)=>cs.setIfInBounds (i*s+p.2) p.1) us)[t]? =if i*s+q≤t∧t<i*s+q+vs.length∧t<us.size then vs[t-(i*s+q)]? else us[t]? :=by
   intro vs
   induction vs with
   |nil=>intro q us;exact⟨rfl,fun t=>by simp;omega⟩
   |cons v vs ih=>
    intro q us
    simp only[List.zipIdx_cons,List.foldl_cons]
    obtain⟨i1,i2⟩:=ih (q+1) (us.setIfInBounds (i*s+q) v)
    refine⟨by rw[i1];simp,fun t=>?_⟩
    rw[i2]
    simp only[Array.size_setIfInBounds,List.length_cons]
    by_cases c1:i*s+(q+1)≤t∧t<i*s+(q+1)+vs.length∧t<us.size
    ·rw[if_pos c1,if_pos (by omega),show t-(i*s+q)=(t-(i*s+(q+1)))+1 from by omega,List.getElem?_cons_succ]
    ·rw[if_neg c1,Array.getElem?_setIfInBounds]
     by_cases c2:i*s+q=t
     ·subst c2
      by_cases c3:i*s+q<us.size
      ·rw[if_pos rfl,if_pos c3,if_pos (by omega)]
       simp
      ·rw[if_pos rfl,if_neg c3,if_neg (by omega),Array.getElem?_eq_none (by omega)]
     ·rw[if_neg c2,if_neg (by omega)]
  obtain⟨f1,f2⟩:=hfold (ρ x).cells.toList 0 cells
  have hle:i*s+s≤cells.size:=by
   have:(i+1)*s≤(i+1+ps.length)*s:=Nat.mul_le_mul_right _ (by omega)
   rw[Nat.succ_mul]at this
   omega
  obtain⟨arr,a1,a2,a3,a4,a5⟩:=Zdy ps (i+1) rows' _ hr (by rw[f1];exact hsz') (fun p hp=>hE p (List.mem_cons_of_mem _ hp))
  refine⟨arr,?_,by rw[a2,f1],by simp[a3],fun t ht=>?_,fun q r hq=>?_⟩
  ·simp only[List.map_cons,Instr.fill]
   rw[if_neg (by rw[hvs];simp;omega)]
   rw[←Array.foldl_toList]
   have e:(ρ x).cells.zipIdx.toList=(ρ x).cells.toList.zipIdx:=by simp
   rw[e]
   exact a1
  ·rw[a4 t (by rw[Nat.succ_mul];omega),f2,if_neg (by omega)]
  ·cases q with
   |zero=>
    simp only[List.getElem?_cons_zero,Option.some.injEq]at hq
    subst hq
    refine⟨by simp[hln],fun j c hj=>?_⟩
    rw[List.getElem?_map,Option.map_eq_some_iff]at hj
    obtain⟨c0,hc0,rfl⟩:=hj
    have hjs:j<s:=by rw[←hln];exact(List.getElem?_eq_some_iff.1 hc0).1
    have hv:=hrel.2 j c0 hc0
    have hpc:Y7 (purify c0)=true:=by
     rw[List.all_eq_true]at hpo
     exact hpo _ (List.mem_map.2 ⟨c0,List.mem_of_getElem? hc0,rfl⟩)
    have:=hv.purify hpc
    have e:arr.getD ((i+0)*s+j) undef=(ρ x).cells.getD j undef:=by
     rw[Array.getD_eq_getD_getElem?,Array.getD_eq_getD_getElem?,Nat.add_zero,a4 _ (by rw[Nat.succ_mul];omega),f2,if_pos (by simp[hvs];omega)]
     simp
    rw[e]
    exact this
   |succ q=>
    rw[List.getElem?_cons_succ]at hq
    obtain⟨b1,b2⟩:=a5 q r hq
    exact⟨b1,fun j c hj=>by rw[show i+(q+1)=i+1+q from by omega];exact b2 j c hj⟩
theorem ZfO (H:HR G R h) {E:Operand→AV} {ρ:Operand→Value} {t:TypeId} {n:Nat} {ps:Array (Nat×Operand)} {v:AV} (hE:∀p∈ps.toList,VR R (E p.2) (ρ p.2)) (hv:XS P E t n ps.toList=some v):
  ∃u R',(Instr.buildSlice t n (ps.map fun(i,x)=>(i,ρ x))).run P R.w= .ok u R'.w∧HR G R' h∧Xf R h R' h∧R.le R'∧VR R' v u:=by
 unfold XS at hv
 split at hv
 case h_2=>cases hv
 rename_i T hT
 split at hv
 case h_2=>cases hv
 rename_i e s eb hk
 split at hv
 case isFalse=>cases hv
 rename_i hcd
 simp only[Bool.and_eq_true]at hcd
 obtain⟨⟨hzo,hln⟩,hbig⟩:=hcd
 have hln:=Zz hln
 have hbig:=Xc hbig
 obtain⟨j,hu,hj,hs,_⟩:=YZ hT hk
 obtain⟨j',z,hj',hz,hzs,hjs,_⟩:=JH hzo
 rw[hj]at hj'
 cases hj'
 split at hv
 case h_2=>
  unfold ZhD at hv
  split at hv
  case h_2=>cases hv
  rename_i i x hps
  split at hv
  case isFalse=>cases hv
  rename_i hcd
  simp only[Bool.and_eq_true]at hcd
  obtain⟨⟨⟨hi0,hpl⟩,hcl⟩,hlk⟩:=hcd
  have hi0:=Zz hi0
  have hcl:=Zz hcl
  simp only[Option.some.injEq]at hv
  subst hv hi0
  have hn1:n=1:=by rw[←hln,hps];rfl
  subst hn1
  have hrel:=YQ (hE (0,x) (by rw[hps];exact List.mem_singleton.2 rfl)) (fun g y e=>by rw[e]at hpl;cases hpl) (fun e=>by rw[e]at hpl;cases hpl)
  have hvs:(ρ x).cells.size=s:=by rw[←hrel.1,hcl]
  obtain⟨arr,a1,a2,a3⟩:=Zov (s:=s) (cells:=(Array.range (1*s)).map fun k=>(if 1*s=0 then #[]else z.cells)[k%(if 1*s=0 then #[]else z.cells).size]!) hvs (by simp)
  obtain⟨R',hw,hm,hα,hhv,hhw,H',hx,hle,hokn⟩:=H.make (.cells arr e)
  refine⟨.slice (some ⟨R.w.heap.size,0,none⟩) 1 1,R',?_,H',hx,hle,?_⟩
  ·have hpm:(ps.map fun(i,x)=>(i,ρ x)).toList=[(0,ρ x)]:=by simp[hps]
   unfold Instr.buildSlice
   simp only[Sem.run_bind,Zv hu,Result.andThen_ok,Z6 hj,hs,hpm]
   rw[if_neg (by omega)]
   rw[hw]
   by_cases hns:1*s=0
   ·simp only[if_pos hns]at a1⊢
    simp only[Sem.run_bind,Sem.run_pure,Result.andThen_ok]
    rw[a1]
    rfl
   ·simp only[if_neg hns]at a1⊢
    simp only[Sem.run_bind,Sem.run_pure,Result.andThen_ok,zeroValue,Q4 hj,hz]
    rw[a1]
    rfl
  ·have hnew:R'.w.heap[R.w.heap.size]? =some (.cells arr e (0,0)):=by rw[hw];simp
   have hlc:((E x).cellsOf.map purify).length=s:=by rw[List.length_map];exact hcl
   refine .lit s _ R.w.heap.size 0 (fun k=>arr.getD k undef) hlc (fun k c hk=>?_) (fun k c hk=>?_) (hokn _ _)
   ·have hks:k<s:=by rw[←hlc];exact(List.getElem?_eq_some_iff.1 hk).1
    rw[Nat.zero_add]
    exact Qd hnew (by omega)
   ·have hks:k<s:=by rw[←hlc];exact(List.getElem?_eq_some_iff.1 hk).1
    rw[List.getElem?_map,Option.map_eq_some_iff]at hk
    obtain⟨c0,hc0,rfl⟩:=hk
    have e1:arr.getD k undef=(ρ x).cells.getD k undef:=by
     rw[Array.getD_eq_getD_getElem?,Array.getD_eq_getD_getElem?,a3 k hks]
    rw[e1]
    exact(Zof (hrel.2 k c0 hc0) (List.all_eq_true.1 hlk _ (List.mem_map.2 ⟨c0,List.mem_of_getElem? hc0,rfl⟩))).mono hle
 rename_i rows hr
 simp only[Option.some.injEq]at hv
 subst hv
 obtain⟨arr,a1,a2,a3,a4,a5⟩:=Zdy (R:=R) (ρ:=ρ) ps.toList 0 rows ((Array.range (n*s)).map fun k=>(if n*s=0 then #[]else z.cells)[k%(if n*s=0 then #[]else z.cells).size]!) hr (by simp[hln]) hE
 obtain⟨R',hw,hm,hα,hhv,hhw,H',hx,hle,hokn⟩:=H.make (.cells arr e)
 refine⟨.slice (some ⟨R.w.heap.size,0,none⟩) n n,R',?_,H',hx,hle,.pure _ _ ?_⟩
 ·have hpm:(ps.map fun(i,x)=>(i,ρ x)).toList=ps.toList.map fun p=>(p.1,ρ p.2):=by simp
  unfold Instr.buildSlice
  simp only[Sem.run_bind,Zv hu,Result.andThen_ok,Z6 hj,hs,hpm]
  rw[if_neg (by omega)]
  rw[hw]
  by_cases hns:n*s=0
  ·simp only[if_pos hns]at a1⊢
   simp only[Sem.run_bind,Sem.run_pure,Result.andThen_ok]
   rw[a1]
   rfl
  ·simp only[if_neg hns]at a1⊢
   simp only[Sem.run_bind,Sem.run_pure,Result.andThen_ok,zeroValue,Q4 hj,hz]
   rw[a1]
   rfl
 ·have hrl:rows.length=n:=by rw[a3,Array.length_toList];rw[Array.length_toList]at hln;exact hln
  have hnew:R'.w.heap[R.w.heap.size]? =some (.cells arr e (0,0)):=by rw[hw];simp
  have hsz:arr.size=n*s:=by rw[a2];simp
  refine .isl _ _ _ _ R.w.heap.size 0 n n (fun i k=>arr.getD (i*s+k) undef) (by show(rows.length:Int)=n;rw[hrl]) (Nat.le_refl _) (.inr rfl) (fun _=>rfl) (fun i hi=>?_) (fun i k c hi hk=>?_) (fun i k c hi hk=>?_) (hokn _ _)
  ·have:rows[i]? =some rows[i]:=List.getElem?_eq_getElem (by omega)
   show(rows.getD (i:Int).toNat (rows.headD [])).length=s
   rw[Int.toNat_natCast,List.getD_eq_getElem?_getD,this]
   exact(a5 i _ this).1
  ·have hri:rows[i]? =some rows[i]:=List.getElem?_eq_getElem (by omega)
   replace hk:(rows.getD (i:Int).toNat (rows.headD []))[k]? =some c:=hk
   rw[Int.toNat_natCast,List.getD_eq_getElem?_getD,hri]at hk
   have hks:k<s:=by rw[←(a5 i _ hri).1];exact(List.getElem?_eq_some_iff.1 hk).1
   have hlt:i*s+s≤n*s:=by
    have:(i+1)*s≤n*s:=Nat.mul_le_mul_right _ hi
    rwa [Nat.succ_mul]at this
   rw[Nat.zero_add]
   exact Qd hnew (by omega)
  ·have hri:rows[i]? =some rows[i]:=List.getElem?_eq_getElem (by omega)
   replace hk:(rows.getD (i:Int).toNat (rows.headD []))[k]? =some c:=hk
   rw[Int.toNat_natCast,List.getD_eq_getElem?_getD,hri]at hk
   have:=(a5 i _ hri).2 k c hk
   rw[Nat.zero_add]at this
   exact this.mono hle.ok hle.keep hle.keepM
end
end Go.Proofs.YtjgpiclllehgmaaGreat.Vm
namespace Go.Proofs.YtjgpiclllehgmaaGreat.Vm
open Go
section
variable {P:Program} {R:RC} {G:Nat→Nat→Nat→Prop} {h:List Zi}
theorem Zf3 (d n:Nat) (x:List Int):Instr.sameBits (d+2) (Q2 n x) (Q2 n x)=true:=by
 cases n with
 |zero=>simp[Q2,Instr.sameBits]
 |succ n=>
  have key:∀(m:Nat) (x:List Int),((Qp m x).zip (Qp m x)).all (fun p=>Instr.sameBits (d+1) p.1 p.2)=true:=by
   intro m
   induction m with
   |zero=>intro x;rfl
   |succ m ih=>intro x;simp only[Qp,List.zip_cons_cons,List.all_cons,ih];simp[Instr.sameBits]
  simp only[Q2,Instr.sameBits,beq_self_eq_true,Bool.true_and]
  exact key (n+1) x
theorem J8 {α β:Type} {f:β→β} {k:β→List Int} {x:List Int} {d:β}:∀(l:List (α×β)) (i:Nat) (p:α×β),l[i]? =some p→k p.2=x→(l.map fun q=>k q.2).Nodup→(∀q,k q=x→f q=d)→(∀q,k q≠x→f q=q)→∀a:α,(l.set i (a,d)).map (·.2)=(l.map (·.2)).map f
 |[],i,p,h,_,_,_,_,a=>by simp at h
 |q::l,0,p,h,hp,hn,h1,h2,a=>by
  simp only[List.getElem?_cons_zero,Option.some.injEq]at h
  subst h
  rw[List.map_cons,List.nodup_cons]at hn
  simp only[List.set_cons_zero,List.map_cons,h1 _ hp,List.cons.injEq,true_and]
  rw[List.map_map]
  refine List.map_congr_left fun r hr=>?_
  exact(h2 r.2 fun e=>hn.1 (List.mem_map.2 ⟨r,hr,e.trans hp.symm⟩)).symm
 |q::l,i+1,p,h,hp,hn,h1,h2,a=>by
  rw[List.map_cons,List.nodup_cons]at hn
  have h:l[i]? =some p:=by simpa using h
  have hne:k q.2≠x:=fun e=>hn.1 (List.mem_map.2 ⟨p,List.mem_of_getElem? h,hp.trans e.symm⟩)
  simp only[List.set_cons_succ,List.map_cons,h2 _ hne,List.cons.injEq,true_and]
  exact J8 l i p h hp hn.2 h1 h2 a
theorem ZeW {α:Type} {V:α→Value→Prop} {t kt et:TypeId} {ka:Nat} (hu:P.underlying t=some (.map kt et)) (hkt:keyT P kt ka=true) {x:List Int} (hx:x.length=ZiG ka) (R:RC) {w:World} {b:Nat} {es:Array MapEntry} {clk:Nat} {L:List (List Int×α)} (hb:w.heap[b]? =some (.map es clk))
  (hm:ZdK ka V es clk L) {v:Value} {d:α} (hd:V d v):∃es' clk',(Instr.mapUpdate t (.map (some b)) (Q2 ka x) v).run P w=(setObj b (.map es' clk')).run P w∧ZdK ka V es' clk' (Y0 L x d):=by
 obtain⟨l,hm⟩:=hm
 have hck:=fun em=>Zcd (P:=P) em hkt hx w
 have hgo:(getObj b).run P w= .ok (.map es clk) w:=by simp[getObj,Sem.run,hb]
 have hks:=hm.keys
 unfold Instr.mapUpdate
 rcases ZcG hkt hx R w hm with⟨h1,h2⟩|⟨i,p,h1,h2,h3⟩
 ·refine⟨es.push {key:=Q2 ka x,val:=v,born:=clk},clk+1,?_,l++[({key:=Q2 ka x,val:=v,born:=clk},(x,d))],?_,?_,?_,?_,?_⟩
  ·simp only[Sem.run_bind,Zv hu,Result.andThen_ok,hgo,hck,h1]
  ·simp[hm.es]
  ·have hno:L.any (fun p=>p.1==x)=false:=by
    rw[List.any_eq_false]
    intro p hp
    have:p∈l.map (·.2):=hm.L.mem_iff.2 hp
    obtain⟨q,hq,rfl⟩:=List.mem_map.1 this
    simpa using h2 q hq
   unfold Y0
   rw[hno]
   simp only[Bool.false_eq_true,if_false,List.map_append,List.map_cons,List.map_nil]
   exact hm.L.append_right _
  ·rw[List.map_append,List.nodup_append]
   refine⟨hm.nd,by simp,fun a ha b hb=>?_⟩
   simp at hb
   subst hb
   obtain⟨q,hq,rfl⟩:=List.mem_map.1 ha
   exact h2 q hq
  ·rw[List.map_append,List.nodup_append]
   refine⟨hm.bn,by simp,fun a ha b hb=>?_⟩
   simp at hb
   subst hb
   obtain⟨q,hq,rfl⟩:=List.mem_map.1 ha
   have:=(hm.e q hq).2.2.2
   omega
  ·intro p hp
   rcases List.mem_append.1 hp with hp|hp
   ·obtain⟨a1,a2,a3,a4⟩:=hm.e p hp
    exact⟨a1,a2,a3,by omega⟩
   ·simp at hp
    subst hp
    exact⟨rfl,hd,hx,Nat.lt_succ_self _⟩
 ·have hpm:=List.mem_of_getElem? h1
  obtain⟨k1,k2,k3,k4⟩:=hm.e p hpm
  have hlt:i<l.length:=(List.getElem?_eq_some_iff.1 h1).1
  have hei:es[i]? =some p.1:=by
   rw[←Array.getElem?_toList,←hm.es,List.getElem?_map,h1]
   rfl
  have hstay:(Instr.keyThatStays (((es[i]?).map (·.key)).getD (Q2 ka x)) (Q2 ka x)).run P w= .ok (Q2 ka x) w:=by
   rw[hei]
   simp only[Option.map_some,Option.getD_some,k1,h2]
   have:=Zf3 9998 ka x
   simp only[Instr.keyThatStays,this,if_true,Sem.run_pure]
  refine⟨es.modify i fun e=>{e with key:=Q2 ka x,val:=v},clk,?_,l.set i ({p.1 with key:=Q2 ka x,val:=v},(x,d)),?_,?_,?_,?_,?_⟩
  ·simp only[Sem.run_bind,Zv hu,Result.andThen_ok,hgo,hck,h3,hstay]
  ·rw[List.map_set,hm.es]
   apply List.ext_getElem?
   intro j
   simp only[List.getElem?_set,Array.getElem?_toList,Array.getElem?_modify]
   by_cases hj:i=j
   ·subst hj
    have:i<es.toList.length:=by rw[←hm.es];simpa using hlt
    rw[if_pos rfl,if_pos this,if_pos rfl,hei]
    rfl
   ·rw[if_neg hj,if_neg hj]
  ·have hyes:L.any (fun p=>p.1==x)=true:=by
    rw[List.any_eq_true]
    exact⟨p.2,hm.L.mem_iff.1 (List.mem_map.2 ⟨p,hpm,rfl⟩),by simpa using h2⟩
   unfold Y0
   rw[hyes,if_pos rfl]
   rw[J8 (k:=(·.1)) (x:=x) (f:=fun p=>if p.1==x then(x,d)else p) l i p h1 h2 hm.nd (fun q hq=>by rw[if_pos (by simpa using hq)]) (fun q hq=>by rw[if_neg (by simpa using hq)])]
   exact hm.L.map _
  ·have:(l.set i ({p.1 with key:=Q2 ka x,val:=v},(x,d))).map (·.2.1)=l.map (·.2.1):=by
    rw[List.map_set]
    refine List.ext_getElem? fun j=>?_
    rw[List.getElem?_set]
    by_cases hj:i=j
    ·subst hj
     rw[if_pos rfl,if_pos (by simpa using hlt),List.getElem?_map,h1]
     simp[h2]
    ·rw[if_neg hj]
   rw[this]
   exact hm.nd
  ·have:(l.set i ({p.1 with key:=Q2 ka x,val:=v},(x,d))).map (·.1.born)=l.map (·.1.born):=by
    rw[List.map_set]
    refine List.ext_getElem? fun j=>?_
    rw[List.getElem?_set]
    by_cases hj:i=j
    ·subst hj
     rw[if_pos rfl,if_pos (by simpa using hlt),List.getElem?_map,h1]
     rfl
    ·rw[if_neg hj]
   rw[this]
   exact hm.bn
  ·intro q hq
   rcases List.mem_or_eq_of_mem_set hq with hq|rfl
   ·exact hm.e q hq
   ·exact⟨rfl,hd,hx,k4⟩
theorem Zpf {n:Nat} {x:AV} {d:Unit→List Int} {u:Value} (h:Zr7 n x=some d) (hx:VR R x u):u=Q2 n (d ()):=by
 unfold Zr7 at h
 split at h
 ·split at h
  ·rename_i hn
   cases h
   have e:=Zz hn
   subst e
   rw[hx.int_inv]
   rfl
  ·cases h
 ·rename_i cs
  split at h
  ·rename_i hc
   simp only[Bool.and_eq_true]at hc
   have e:=Zz hc.1
   have hlt:=JV hc.2
   obtain⟨us,rfl,hl,hr⟩:=hx.agg_inv
   obtain⟨h1,h2⟩:=Zdp (R:=R) h
   have h3:=h2 us.toList (by simpa using hl) fun j c hj=>by simpa using hr j c hj
   subst e
   obtain⟨m,hm⟩:∃m,cs.length=m+1:=⟨cs.length-1,by omega⟩
   rw[hm]at h3⊢
   show Value.agg us= .agg (Qp (m+1) (d ())).toArray
   rw[←h3]
  ·cases h
 ·cases h
theorem Zhz (H:HR G R h) {t kt et:TypeId} {id:Nat} {n:Unit→Int} {bv:Unit→Bool} {f:(Unit→Int)→Unit→Bool} {m k x:Value} (hm:VR R (.map id) m) (hk:VR R (.int .i64 n) k) (hx:VR R (.bool bv) x)
  (hu:P.underlying t=some (.map kt et)) (hi:h[id]? =some (.mapB f)) (hkt:P.underlying kt=some (.int .i64)):
  ∃R',(Instr.mapUpdate t m k x).run P R.w= .ok () R'.w∧HR G R' (h.set id (.mapB fun e u=>if e ()=n ()then bv u else f e u))∧Xf R h R' (h.set id (.mapB fun e u=>if e ()=n ()then bv u else f e u))∧R.le R':=by
 obtain⟨es,cl,h1,h2,h3⟩:=H.blk id _ hi
 rw[hm.map_inv,hk.int_inv,hx.bool_inv]
 have hck:=ZcH (P:=P) hkt false (n ()) R.w
 have hgo:=ZeX (P:=P) h1
 have upd:∀(es':Array MapEntry) (cl':Nat),Zuc es'.toList (fun e u=>if e ()=n ()then bv u else f e u)→
   ∃R',(setObj (R.α id).b (.map es' cl')).run P R.w= .ok () R'.w∧HR G R' (h.set id (.mapB fun e u=>if e ()=n ()then bv u else f e u))∧Xf R h R' (h.set id (.mapB fun e u=>if e ()=n ()then bv u else f e u))∧R.le R':=by
  intro es' cl' hM
  obtain⟨R',hw,_,hα,H',hx',hle⟩:=H.upd hi rfl (blk':=.mapB fun e u=>if e ()=n ()then bv u else f e u) rfl {R.w with heap:=R.w.heap.setIfInBounds (R.α id).b (.map es' cl')} rfl rfl rfl (by simp)
   (fun b hb=>by simp[Array.getElem?_setIfInBounds_ne (Ne.symm hb)]) (fun R' hle hα hw=>⟨es',cl',by rw[hw,hα];simp[(Array.getElem?_eq_some_iff.1 h1).1],hM⟩)
  exact⟨R',by rw[hw];simp[setObj,Sem.run,h1],H',hx',hle⟩
 have hval:∀x:Int,(fun(e:Unit→Int) u=>if e ()=n ()then bv u else f e u) (fun _=>x) ()=if x=n ()then bv ()else f (fun _=>x) ():=fun x=>rfl
 unfold Instr.mapUpdate
 rcases Zbx (n ()) es.toList 0 h2 with⟨a1,a2⟩|⟨i,e,a1,a2,a3,a4⟩
 ·obtain⟨R',hr,rest⟩:=upd (es.push {key:=.int .i64 (n ()),val:=.bool (bv ()),born:=cl}) (cl+1) ⟨fun e he=>by
    rw[Array.toList_push,List.mem_append]at he
    rcases he with he|he
    ·exact h2 e he
    ·simp only[List.mem_singleton]at he
     subst he
     exact⟨_,_,rfl,rfl⟩,fun x=>by
    rw[hval,Array.toList_push]
    by_cases hxn:x=n ()
    ·subst hxn
     refine .inr ⟨es.toList.length,{key:=.int .i64 (n ()),val:=.bool (bv ()),born:=cl},by simp,rfl,by simp,fun j e' hj hje=>?_⟩
     rw[List.getElem?_append_left hj]at hje
     exact a2 e' (List.mem_of_getElem? hje)
    ·rw[if_neg hxn]
     rcases h3 x with⟨b1,b2⟩|⟨i,e,b1,b2,b3,b4⟩
     ·refine .inl ⟨fun e he=>?_,b2⟩
      rw[List.mem_append]at he
      rcases he with he|he
      ·exact b1 e he
      ·simp only[List.mem_singleton]at he
       subst he
       intro hh
       injection hh with _ hh
       exact hxn hh.symm
     ·have hl:=(List.getElem?_eq_some_iff.1 b1).1
      exact .inr ⟨i,e,by rw[List.getElem?_append_left hl];exact b1,b2,b3,fun j e' hj hje=>b4 j e' hj (by rwa [List.getElem?_append_left (by omega)]at hje)⟩⟩
  refine⟨R',?_,rest⟩
  simp only[Sem.run_bind,Zv hu,Result.andThen_ok,hgo,hck,Instr.findKey,Zv hkt,a1,Sem.run_pure]
  exact hr
 ·have hlt:i<es.size:=by have:=(List.getElem?_eq_some_iff.1 a1).1;simpa using this
  have hei:es[i]? =some e:=by rw[←Array.getElem?_toList];exact a1
  have hstay:(Instr.keyThatStays e.key (.int .i64 (n ()))).run P R.w= .ok (.int .i64 (n ())) R.w:=by
   rw[a2]
   have:∀d,Instr.sameBits d (.int .i64 (n ())) (.int .i64 (n ()))=true:=fun d=>by cases d<;>simp[Instr.sameBits]
   simp only[Instr.keyThatStays,this,if_true,Sem.run_pure]
  have hmod:∀j,(es.modify i fun e=>{e with key:=.int .i64 (n ()),val:=.bool (bv ())}).toList[j]? =if j=i then some {e with key:=.int .i64 (n ()),val:=.bool (bv ())}else es.toList[j]? :=fun j=>by
   rw[Array.getElem?_toList,Array.getElem?_modify]
   by_cases hj:i=j
   ·subst hj
    simp[hei]
   ·rw[if_neg hj,if_neg (fun h=>hj h.symm),Array.getElem?_toList]
  obtain⟨R',hr,rest⟩:=upd (es.modify i fun e=>{e with key:=.int .i64 (n ()),val:=.bool (bv ())}) cl ⟨fun e' he=>by
    obtain⟨j,hj⟩:=List.mem_iff_getElem?.1 he
    rw[hmod]at hj
    split at hj
    ·simp only[Option.some.injEq]at hj
     subst hj
     exact⟨_,_,rfl,rfl⟩
    ·exact h2 e' (List.mem_of_getElem? hj),fun x=>by
    rw[hval]
    by_cases hxn:x=n ()
    ·subst hxn
     refine .inr ⟨i,{e with key:=.int .i64 (n ()),val:=.bool (bv ())},by rw[hmod,if_pos rfl],rfl,by simp,fun j e' hj hje=>?_⟩
     rw[hmod,if_neg (by omega)]at hje
     exact a3 j e' hj hje
    ·rw[if_neg hxn]
     have hne':∀(j:Nat) (e':MapEntry),(es.modify i fun e=>{e with key:=.int .i64 (n ()),val:=.bool (bv ())}).toList[j]? =some e'→e'.key= .int .i64 x→es.toList[j]? =some e':=fun j e' hj hk=>by
      rw[hmod]at hj
      split at hj
      ·simp only[Option.some.injEq]at hj
       subst hj
       injection hk with _ hk
       exact absurd hk.symm hxn
      ·exact hj
     rcases h3 x with⟨b1,b2⟩|⟨i',e',b1,b2,b3,b4⟩
     ·refine .inl ⟨fun e' he hk=>?_,b2⟩
      obtain⟨j,hj⟩:=List.mem_iff_getElem?.1 he
      exact b1 e' (List.mem_of_getElem? (hne' j e' hj hk)) hk
     ·have hii:i'≠i:=fun hh=>by
       subst hh
       rw[a1]at b1
       cases b1
       rw[a2]at b2
       injection b2 with _ b2
       exact hxn b2.symm
      exact .inr ⟨i',e',by rw[hmod,if_neg hii];exact b1,b2,b3,fun j e1 hj hje hk=>b4 j e1 hj (hne' j e1 hje hk) hk⟩⟩
  refine⟨R',?_,rest⟩
  simp only[Sem.run_bind,Zv hu,Result.andThen_ok,hgo,hck,Instr.findKey,Zv hkt,a4,Sem.run_pure,Nat.zero_add,hei,Option.map_some,Option.getD_some,hstay]
  exact hr
theorem Zf9 (H:HR G R h) {t:TypeId} {a b q v:AV} {m k x:Value} {h':List Zi} {c:Cd} (hm:VR R a m) (hk:VR R b k) (hx:VR R q x) (hv:Xx (tyP P) t a b q h=some (v,h',c)):
  v= .undef∧∃R',(Instr.mapUpdate t m k x).run P R.w= .ok () R'.w∧HR G R' h'∧Xf R h R' h'∧R.le R':=by
 unfold Xx at hv
 split at hv
 case h_2=>cases hv
 rename_i kt et id hu
 have put:∀(g:Gob) (es':Array MapEntry) (clk':Nat),(∃o,R.w.heap[(R.α id).b]? =some o∧Zqs o=true)→(∃blk,h[id]? =some blk∧αk blk=true)→(Instr.mapUpdate t m k x).run P R.w=(setObj (R.α id).b (.map es' clk')).run P R.w→(∀R':RC,R.le R'→Zh3 R' (R.α id).b (.map es' clk') g)→
   ∃R',(Instr.mapUpdate t m k x).run P R.w= .ok () R'.w∧HR G R' (h.set id (.gob g))∧Xf R h R' (h.set id (.gob g))∧R.le R':=by
  rintro g es' clk' ⟨o,ho,hko⟩ ⟨blk,hi,hk⟩ hrun hg
  obtain⟨R',hw,_,hα,H',hx',hle⟩:=H.upd hi hk (blk':=.gob g) rfl {R.w with heap:=R.w.heap.setIfInBounds (R.α id).b (.map es' clk')} rfl rfl rfl (by simp)
   (fun b hb=>by simp[Array.getElem?_setIfInBounds_ne (Ne.symm hb)]) (fun R' hle hα hw=>⟨.map es' clk',by rw[hw,hα];simp[(Array.getElem?_eq_some_iff.1 ho).1],rfl,by rw[hα];exact hg R' hle⟩)
  refine⟨R',?_,H',hx',hle⟩
  rw[hrun,hw]
  cases o<;>first|(simp[Zqs]at hko;done)|simp[setObj,Sem.run,ho]
 split at hv
 ·rename_i f hi
  split at hv
  case h_2=>cases hv
  rename_i n bv hkt
  cases hv
  exact⟨rfl,Zhz H hm hk hx hu hi hkt⟩
 ·rename_i ka n L hi
  split at hv
  case h_2=>cases hv
  rename_i g d hg hd
  cases hv
  obtain⟨o,ho,hko,es,clk,rfl,hgm⟩:=H.blk id _ hi
  obtain⟨rfl,h1,h2⟩:=ZcS hg hk
  rw[hm.map_inv]at put⊢
  obtain⟨es',clk',r1,r2⟩:=ZeW (P:=P) hu h2 h1 R ho hgm (Zpf hd hx)
  exact⟨rfl,put (.mapL ka n fun _=>Y0 (L ()) (g ()) (d ())) es' clk' ⟨_,ho,hko⟩ ⟨_,hi,rfl⟩ r1 fun R' hle=>⟨es',clk',rfl,r2⟩⟩
 ·rename_i ka kb n L hi
  split at hv
  case h_2=>cases hv
  rename_i g kb' n' L2 hg
  split at hv
  case isFalse=>cases hv
  rename_i hcd
  simp only[Bool.and_eq_true]at hcd
  obtain rfl:=Zz hcd.1
  obtain rfl:=Zz hcd.2
  cases hv
  obtain⟨o,ho,hko,es,clk,rfl,hgm⟩:=H.blk id _ hi
  obtain⟨rfl,h1,h2⟩:=ZcS hg hk
  rw[hm.map_inv]at put⊢
  have hx2:PR R.w R.ok (.imap kb n fun _=>L2 ()) x:=by
   cases hx with
   |pure _ _ hp=>exact hp
  obtain⟨es',clk',r1,r2⟩:=ZeW (P:=P) hu h2 h1 R ho hgm (v:=x) (d:=L2 ()) hx2
  exact⟨rfl,put (.mapM ka kb n fun _=>Y0 (L ()) (g ()) (L2 ())) es' clk' ⟨_,ho,hko⟩ ⟨_,hi,rfl⟩ r1 fun R' hle=>by
   obtain⟨l,hl⟩:=r2
   exact⟨es',clk',rfl,l,hl.es,hl.L,hl.nd,hl.bn,fun p hp=>⟨(hl.e p hp).1,(hl.e p hp).2.1.mono hle.ok hle.keep hle.keepM,(hl.e p hp).2.2⟩⟩⟩
 ·cases hv
theorem Zoz {gr:Bool} (H:HR G R h) {o:Oper} {E:Operand→AV} {ρ:Operand→Value} (hE:∀x∈o.op.operands,VR R (E x) (ρ x)) {v:AV} {h':List Zi} {c:Cd} (hv:evE gr P E h o.op=some (v,h',c)) (hc:ZN c):
  JE R G h v h' ((execOp ρ o).run P R.w):=by
 obtain⟨dst,op,ty,pos,after,guard⟩:=o
 dsimp only at hE hv
 cases op with
 |alloc t=>
  simp only[evE]at hv
  split at hv
  case h_2=>cases hv
  rename_i T hT
  split at hv
  case h_2=>cases hv
  rename_i z hz
  simp only[Option.some.injEq,Prod.mk.injEq]at hv
  obtain⟨rfl,rfl,rfl⟩:=hv
  obtain⟨i,d,hi,_,_,_,hzz,_⟩:=Xv hT
  obtain⟨R',hw,hm,hα,H',hx,hle⟩:=H.allocCells (Xr z).cellsOf z.cells t (Y1 z)
  refine JE.ofValue ⟨.pointer (some ⟨R.w.heap.size,0,none⟩),R',?_,H',hx,hle,?_⟩
  ·rw[hw]
   simp[Instr.alloc,zeroValue,Q4 hi,←hzz,hz,newVar,newRow]
  ·have:=VR.ptr (R:=R') h.length 0 (by rw[hm,H.len];omega)
   rw[H.len,hα]at this
   rw[H.len]
   exact this
 |box t x=>
  simp only[evE]at hv
  split at hv
  case isFalse=>cases hv
  rename_i hpl
  simp only[Option.some.injEq,Prod.mk.injEq]at hv
  obtain⟨rfl,rfl,rfl⟩:=hv
  have hr:=YQ (hE x (by simp[Op.operands])) (fun g y e=>by rw[e]at hpl;cases hpl) (fun e=>by rw[e]at hpl;cases hpl)
  obtain⟨R',hw,hm,hα,H',hx,hle⟩:=H.allocCells (E x).cellsOf (ρ x).cells t hr
  refine JE.ofValue ⟨.pointer (some ⟨R.w.heap.size,0,none⟩),R',?_,H',hx,hle,?_⟩
  ·rw[hw]
   simp[Instr.box,newVar,newRow]
  ·have:=VR.ptr (R:=R') h.length 0 (by rw[hm,H.len];omega)
   rw[H.len,hα]at this
   rw[H.len]
   exact this
 |store t a x=>
  have ha:=hE a (by simp[Op.operands])
  have hxx:=hE x (by simp[Op.operands])
  simp only[evE]at hv
  split at hv
  case h_4=>cases hv
  case h_2=>
   rename_i id s e off T hEa hT
   rw[hEa]at ha
   obtain⟨rfl,h1⟩:=Zi7 hT H ha hxx hv hc
   exact JE.ofUnit h1
  case h_3=>
   rename_i id s n e off T hEa hT
   rw[hEa]at ha
   obtain⟨rfl,h1⟩:=ZiN hT H ha hxx hv hc
   exact JE.ofUnit h1
  rename_i id off T hEa hT
  split at hv
  case h_2=>cases hv
  rename_i cs hcs
  split at hv
  case isFalse=>cases hv
  rename_i hcd
  simp only[Bool.and_eq_true]at hcd
  obtain⟨⟨⟨hpl,hn1⟩,hn2⟩,hlf⟩:=hcd
  have hn1:=Zz hn1
  have hn2:=Xc hn2
  simp only[Option.some.injEq,Prod.mk.injEq]at hv
  obtain⟨rfl,rfl,rfl⟩:=hv
  rw[hEa]at ha
  have hpa:ρ a= .pointer (some ⟨(R.α id).b,(R.α id).o+off,none⟩):=by
   generalize ρ a=u at ha
   cases ha with
   |pure _ _ hp=>cases hp
   |ptr _ _ _=>rfl
  have hr:=YQ hxx (fun g y e=>by rw[e]at hpl;cases hpl) (fun e=>by rw[e]at hpl;cases hpl)
  obtain⟨i,d,hi,_,hsz,_,_,_⟩:=Xv hT
  obtain⟨R',hst,hm,hα,H',hx,hle⟩:=H.store (P:=P) (YR hcs) (E x).cellsOf (ρ x).cells.toList (by rw[hr.1];simp) (by rw[hn1];exact hn2) (fun a ha=>by rw[List.all_eq_true]at hlf;exact hlf a ha) (fun j c hj=>by simpa using hr.2 j c hj)
  refine JE.ofUnit ⟨R',?_,H',hx,hle⟩
  rw[hpa]
  simp only[Instr.storeAt,Instr.sureAddr,Sem.run_bind,Sem.run_pure,Result.andThen_ok,storeVar,Z6 hi]
  rw[if_neg (by rw[←hr.1,hn1,hsz];simp)]
  exact hst
 |makeSlice t n c=>
  have hn:=hE n (by simp[Op.operands])
  have hcp:=hE c (by simp[Op.operands])
  simp only[evE]at hv
  split at hv
  case h_2=>cases hv
  rename_i T hT
  cases gr with
  |true=>exact JE.ofValue (ZjT hT (fun e s b hk=>by rw[hk]) H hn hcp hv hc)
  |false=>exact JE.ofValue (ZhA hT (fun e s b hk=>by rw[hk]) H hn hcp hv hc)
 |buildSlice t n ps=>
  simp only[evE,Option.map_eq_some_iff,Prod.mk.injEq]at hv
  obtain⟨v',hv',rfl,rfl,rfl⟩:=hv
  obtain⟨u,R',h1,h2⟩:=ZfO H (ρ:=ρ) (fun p hp=>hE p.2 (by simp only[Op.operands];rw[←Array.mem_toList_iff];exact List.mem_map.2 ⟨p,hp,rfl⟩)) hv'
  exact JE.ofValue ⟨u,R',h1,h2⟩
 |makeMap t r=>
  cases r with
  |some r=>simp[evE]at hv
  |none=>
   simp only[evE]at hv
   split at hv
   case h_2=>cases hv
   rename_i b hb
   simp only[Option.some.injEq,Prod.mk.injEq]at hv
   obtain⟨rfl,rfl,rfl⟩:=hv
   have hbk:b= .mapB (fun _ _=>false)∨(∃ka n,b= .gob (.mapL ka n fun _=>[]))∨∃ka kb n,b= .gob (.mapM ka kb n fun _=>[]):=by
    unfold Zag at hb
    split at hb
    case h_2=>cases hb
    split at hb
    ·cases hb;exact .inl rfl
    ·split at hb
     ·split at hb
      ·cases hb;exact .inr (.inr ⟨_,_,_,rfl⟩)
      ·cases hb
     ·cases hb
    ·split at hb
     ·cases hb;exact .inr (.inl ⟨_,_,rfl⟩)
     ·cases hb
   have hph:∀R':RC,ZG R' R.m b (R'.α R.m).b∧(∀x,ZG R' R.m b x→x=(R'.α R.m).b)∧∀x o n,Qo R' R.m b x o n↔¬ZG R' R.m b x:=fun R'=>by
    rcases hbk with rfl|⟨ka,n,rfl⟩|⟨ka,kb,n,rfl⟩<;>exact⟨rfl,fun b hp=>hp.symm,fun b o n=>Iff.rfl⟩
   obtain⟨R',hw,hm,hα,H',hx,hle⟩:=H.alloc b (.map #[] 0) hph (fun R' hle hα hh=>by
    rcases hbk with rfl|⟨ka,n,rfl⟩|⟨ka,kb,n,rfl⟩
    ·exact⟨#[],0,by rw[hα];exact hh,fun e he=>by simp at he,fun x=>.inl ⟨fun e he=>by simp at he,rfl⟩⟩
    ·exact⟨_,by rw[hα];exact hh,rfl, #[],0,rfl,.nil⟩
    ·exact⟨_,by rw[hα];exact hh,rfl, #[],0,rfl,.nil⟩)
   refine JE.ofValue ⟨.map (some R.w.heap.size),R',?_,H',hx,hle,?_⟩
   ·rw[hw]
    simp[Instr.makeMap]
   ·have:=VR.map (R:=R') h.length (by rw[hm,H.len];omega)
    rw[H.len,hα]at this
    rw[H.len]
    exact this
 |mapUpdate t m k x=>
  simp only[evE]at hv
  obtain⟨rfl,hd⟩:=Zf9 H (hE m (by simp[Op.operands])) (hE k (by simp[Op.operands])) (hE x (by simp[Op.operands])) hv
  exact JE.ofUnit hd
 |range t x=>
  simp only[evE]at hv
  split at hv
  case h_2=>cases hv
  rename_i ka n L kt et hx0 hu
  simp only[Option.some.injEq,Prod.mk.injEq]at hv
  obtain⟨rfl,rfl,rfl⟩:=hv
  have hx:=hE x (by simp[Op.operands])
  rw[hx0]at hx
  have key:∀o:Obj,(∀R':RC,R.le R'→Zh3 R' R.w.heap.size o (.mapIt ka n L (fun _=>[]) fun _=>([],[])))→Zqs o=true→(∀it,it=o→(Instr.range t (ρ x)).run P R.w= .ok (.pointer (some ⟨R.w.heap.size,0,none⟩)) {R.w with heap:=R.w.heap.push it})→JE R G h (.mit h.length) (h++[.gob (.mapIt ka n L (fun _=>[]) fun _=>([],[]))]) ((do let z←Instr.range t (ρ x);pure (Next.value z):Sem Next).run P R.w):=by
   intro o ho hk hrun
   obtain⟨R',hw,hm,hα,H',hx',hle⟩:=H.alloc (.gob (.mapIt ka n L (fun _=>[]) fun _=>([],[]))) o (fun R'=>⟨rfl,fun b hp=>hp.symm,fun b o n=>Iff.rfl⟩) (fun R' hle hα hh=>⟨o,by rw[hα];exact hh,hk,by rw[hα];exact ho R' hle⟩)
   refine JE.ofValue ⟨.pointer (some ⟨R.w.heap.size,0,none⟩),R',?_,H',hx',hle,?_⟩
   ·rw[hw]
    exact hrun o rfl
   ·have:=VR.mit (R:=R') h.length (by rw[hm,H.len];omega) (by rw[H.len,hα])
    rw[H.len,hα]at this
    rw[H.len]
    exact this
  show JE R G h _ _ ((do let z←Instr.range t (ρ x);pure (Next.value z):Sem Next).run P R.w)
  generalize ρ x=u at hx key⊢
  cases hx with
  |pure _ _ hp=>
   cases hp with
   |imap _ _ _ b es clk h1 h2 h3=>
    obtain⟨l,hl⟩:=h2
    refine key (.mapIter (some b) clk #[] clk) (fun R' hle=>.inr ⟨b,es,clk, #[],l,rfl,hle.keepM b h3 es clk h1,hle.ok _ _ _ h3,hl,fun p hp=>by simp,fun hne=>absurd rfl hne⟩) rfl fun it hit=>?_
    have hgo:(getObj b).run P R.w= .ok (.map es clk) R.w:=by simp[getObj,Sem.run,h1]
    subst hit
    simp[Instr.range,Zv hu,hgo]
   |imap0 _ _ _ h0=>
    refine key (.mapIter none 0 #[] 0) (fun R' hle=>.inl ⟨h0,rfl, #[],rfl⟩) rfl fun it hit=>?_
    subst hit
    simp[Instr.range,Zv hu]
 |lookup t m k ok=>simp[evE]at hv
 |call cl=>
  obtain⟨callee,args,argTypes⟩:=cl
  cases callee with
  |builtin b=>
   cases b with
   |append=>
    simp only[evE]at hv
    split at hv
    case h_2=>cases hv
    rename_i x y t t' ha ht
    have hargs:args= #[x,y]:=by
     obtain⟨l⟩:=args
     simp only at ha
     rw[ha]
    subst hargs
    have h0:argTypes[0]? =some t:=by rw[←Array.getElem?_toList,ht];rfl
    have h1:argTypes[1]? =some t':=by rw[←Array.getElem?_toList,ht];rfl
    have e:(#[x,y]:Array Operand).map ρ= #[ρ x,ρ y]:=by simp
    refine JE.ofValue (s:=Builtin.append_ argTypes ty ((#[x,y]:Array Operand).map ρ)) ?_
    rw[e]
    exact Zkt H (ty:=ty) (hE x (by simp[Op.operands,Call.operands])) (hE y (by simp[Op.operands,Call.operands])) h0 h1 hv hc
   |copy=>
    simp only[evE]at hv
    split at hv
    case h_2=>cases hv
    rename_i x y t r ha ht
    have hargs:args= #[x,y]:=by
     obtain⟨l⟩:=args
     simp only at ha
     rw[ha]
    subst hargs
    have h0:argTypes[0]? =some t:=by rw[←Array.getElem?_toList,ht];rfl
    split at hv
    case h_2=>cases hv
    rename_i el hu
    split at hv
    case h_2=>cases hv
    rename_i J hJ
    obtain⟨j,d,hj,_,hs,_,_,_⟩:=Xv hJ
    rw[hs]at hv
    have e:(#[x,y]:Array Operand).map ρ= #[ρ x,ρ y]:=by simp
    refine JE.ofValue (s:=Builtin.copy_ argTypes ty ((#[x,y]:Array Operand).map ρ)) ?_
    rw[e]
    exact ZqC h0 hu hj H (hE x (by simp[Op.operands,Call.operands])) (hE y (by simp[Op.operands,Call.operands])) hv
   |clear=>
    simp only[evE]at hv
    split at hv
    case h_2=>cases hv
    rename_i x t r ha ht
    have hargs:args= #[x]:=by
     obtain⟨l⟩:=args
     simp only at ha
     rw[ha]
    subst hargs
    have h0:argTypes[0]? =some t:=by rw[←Array.getElem?_toList,ht];rfl
    split at hv
    case h_2=>cases hv
    rename_i el hu
    split at hv
    case h_2=>cases hv
    rename_i J hJ
    obtain⟨j,d,hj,_,hs,_,hz,_⟩:=Xv hJ
    rw[hs,hz]at hv
    have e:(#[x]:Array Operand).map ρ= #[ρ x]:=by simp
    refine JE.ofValue (s:=Builtin.clear_ argTypes ty ((#[x]:Array Operand).map ρ)) ?_
    rw[e]
    obtain⟨rfl,u',R',h1,h2,h3,h4⟩:=ZoL h0 hu hj rfl H (ty:=ty) (hE x (by simp[Op.operands,Call.operands])) hv hc
    exact⟨u',R',h1,h2,h3,h4,.undef _⟩
   |_=>simp[evE]at hv
  |_=>simp[evE]at hv
 |_=>simp[evE]at hv
end
end Go.Proofs.YtjgpiclllehgmaaGreat.Vm
