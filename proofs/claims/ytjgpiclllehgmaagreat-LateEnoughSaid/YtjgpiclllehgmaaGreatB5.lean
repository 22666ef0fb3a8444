/- The abstract machine: a region in which one literal becomes an array that may be written; flat answers that tell nothing. -/
import Derived.Test.YtjgpiclllehgmaaGreatB0
import Derived.Test.YtjgpiclllehgmaaGreatB3
import Derived.Test.YtjgpiclllehgmaaGreatB1
import Derived.Test.YtjgpiclllehgmaaGreatB4
import Derived.Test.YtjgpiclllehgmaaGreatB2
set_option linter.all false
namespace Go.Proofs.YtjgpiclllehgmaaGreat.Vm
open Go Go.Proofs Go.Proofs.YtjgpiclllehgmaaGreat.Conc1
section
variable {P:Program} {G:Nat→Nat→Nat→Prop} {R:RC} {h:List Zh}
theorem ZqG (H:HR G R h) {E:Operand→AV} {ρ:Operand→Value} {t:TypeId} {n:Nat} {ps:Array (Nat×Operand)} {s:Nat} {m:Unit→Int} {f:(Unit→Int)→List AV} {tk:Tk} (hE:∀p∈ps.toList,VR R (E p.2) (ρ p.2)) (hv:XK P E t n ps.toList=some (.isl s m f tk)):
  ∃u R',(Instr.buildSlice t n (ps.map fun(i,x)=>(i,ρ x))).run P R.w= .ok u R'.w∧HR G R' (h++[.gar s m f])∧Xe R h R' (h++[.gar s m f])∧R.le R'∧VR R' (.gsl h.length m) u:=by
 unfold XK at hv
 split at hv
 case h_2=>cases hv
 rename_i T hT
 split at hv
 case h_2=>cases hv
 rename_i e s' eb hk
 split at hv
 case isFalse=>cases hv
 rename_i hcd
 simp only[Bool.and_eq_true]at hcd
 obtain⟨⟨hzo,hln⟩,hbig⟩:=hcd
 have hln:=ZB hln
 have hbig:=Xa hbig
 obtain⟨j,hu,hj,hs,_⟩:=Y0 hT hk
 obtain⟨j',z,hj',hz,hzs,hjs,_⟩:=JM hzo
 rw[hj]at hj'
 cases hj'
 split at hv
 case h_2=>
  unfold ZhA at hv
  split at hv
  case h_2=>cases hv
  split at hv
  case isFalse=>cases hv
  cases hv
 rename_i rows hr
 unfold Zfp at hv
 simp only[Option.some.injEq,AV.isl.injEq]at hv
 obtain⟨rfl,rfl,rfl,_⟩:=hv
 obtain⟨arr,a1,a2,a3,a4,a5⟩:=Zdx (R:=R) (ρ:=ρ) ps.toList 0 rows ((Array.range (n*s')).map fun k=>(if n*s'=0 then #[]else z.cells)[k%(if n*s'=0 then #[]else z.cells).size]!) hr (by simp[hln]) hE
 have hrl:rows.length=n:=by rw[a3,Array.length_toList];rw[Array.length_toList]at hln;exact hln
 have hsz:arr.size=n*s':=by rw[a2];simp
 obtain⟨R',hw,H',hx,hle,hm,hhw,hhv⟩:=H.garFresh s' (fun _=>(rows.length:Int)) (fun e=>rows.getD (e ()).toNat (rows.headD [])) n (by show(rows.length:Int)=n;rw[hrl]) arr e hsz (fun R' hle i hi=>by
  have hri:rows[i]? =some rows[i]:=List.getElem?_eq_getElem (by omega)
  have er:rows.getD (i:Int).toNat (rows.headD [])=rows[i]:=by rw[Int.toNat_natCast,List.getD_eq_getElem?_getD,hri];rfl
  show(rows.getD (i:Int).toNat (rows.headD [])).length=s'∧∀j c,(rows.getD (i:Int).toNat (rows.headD []))[j]? =some c→_
  rw[er]
  refine⟨(a5 i _ hri).1,fun j c hj=>?_⟩
  have:=(a5 i _ hri).2 j c hj
  rw[Nat.zero_add]at this
  exact this.mono hle.ok hle.keep hle.keepM)
 refine⟨.slice (some ⟨R.w.heap.size,0,none⟩) n n,R',?_,H',hx,hle,?_⟩
 ·have hpm:(ps.map fun(i,x)=>(i,ρ x)).toList=ps.toList.map fun p=>(p.1,ρ p.2):=by simp
  unfold Instr.buildSlice
  simp only[Sem.run_bind,Zy hu,Result.andThen_ok,Z6 hj,hs,hpm]
  rw[if_neg (by omega)]
  rw[hw]
  by_cases hns:n*s'=0
  ·simp only[if_pos hns]at a1⊢
   simp only[Sem.run_bind,Sem.run_pure,Result.andThen_ok]
   rw[a1]
   rfl
  ·simp only[if_neg hns]at a1⊢
   simp only[Sem.run_bind,Sem.run_pure,Result.andThen_ok,zeroValue,Q2 hj,hz]
   rw[a1]
   rfl
 ·rw[H.len]
  exact .gsl _ _ _ _ _ (by omega) (by rw[hhw];exact Int.le_refl _) (fun _=>hhv.symm) ⟨by show(rows.length:Int)=n;rw[hrl],.inr ⟨_,_,rfl⟩⟩
end
def Zoz (T:Tb) (o:Oper) (E:Operand→AV) (h:List Zh):Option (AV×List Zh×Cd):=match o.op,o.guard with
 |.buildSlice t n ps,none=>(match XS T (fun x=>strip (E x)) t n ps.toList with
  |some (.isl s m f _)=>some (.gsl h.length m,h++[.gar s m f],gdC E o.op.operands.toList)
  |_=>none)
 |_,_=>none
def Zeg (T:Tb) (p:Unit→Program) (d:Nat) (ops:Array Oper):List Oper→List AV→List Zh→Cd→(List AV→List Zh→Cd→Prop)→Prop
 |[],s,h,c,K=>K s h c
 |o::r,s,h,c,K=>(match o.dst with
  |some e=>if ZE e d then(match Zoz T o (ev s) h with
   |some (v,h',c')=>Zeg T p d ops r (putO s o.dst v) h' (c++c') K
   |none=>False)else Wop T p ops o (ev s) h c fun v h c=>Zeg T p d ops r (putO s o.dst v) h c K
  |none=>Wop T p ops o (ev s) h c fun v h c=>Zeg T p d ops r (putO s o.dst v) h c K)
section
variable {T:Tb} {p:Unit→Program} {R₀:RC} {h₀:List Zh}
theorem Zoy (hT:T.Of (p ())) {ops:Array Oper} {i:Nat} {o:Oper} (ho:ops[i]? =some o) {E:Operand→AV} {h h':List Zh} {v:AV} {c:Cd} (hv:Zoz T o E h=some (v,h',c)) (hc:ZQ c):Zc3 (p ()) R₀ h₀ ops i o E h fun v' h''=>v'=v∧h''=h':=by
 unfold Zoz at hv
 split at hv
 case h_2=>cases hv
 rename_i t n ps hop hg
 split at hv
 case h_2=>cases hv
 rename_i s m f tk hb
 have hb':=Jd hT hb
 simp only[Option.some.injEq,Prod.mk.injEq]at hv
 obtain⟨rfl,rfl,rfl⟩:=hv
 intro R t' hi hE b ds k cs rest
 have hEs:∀x∈o.op.operands,VR R (strip (E x)) (Qw t' x):=fun x hx=>(hE x (List.mem_append_left _ (Array.mem_toList_iff.2 hx))).strip (ZeA hc x (Array.mem_toList_iff.2 hx))
 obtain⟨u,R',h1,h2,h3,h4,h5⟩:=ZqG (ρ:=Qw t') hi.hr (fun q hq=>hEs q.2 (by
  rw[hop]
  simp only[Op.operands]
  rw[←Array.mem_toList_iff]
  simp only[Array.toList_map]
  exact List.mem_map.2 ⟨q,hq,rfl⟩)) hb'
 refine⟨_,_,R',u,⟨rfl,rfl⟩,hi.step h2 h3 h4,h3,h4,h5,.one (J5 (nv:=.value u) ho (by simp[Region.wanted,hg]) (fun c e=>by rw[hop]at e;cases e) ?_ ?_ (.inl rfl))⟩
 ·unfold execOp
  simp only[hop]
  exact Zf (fun _=>Za0) fun _ _=>Zn
 ·unfold execOp
  simp only[hop]
  rw[Sem.run_bind,h1]
  rfl
theorem Zjf (hT:T.Of (p ())) {d:Nat} {ops:Array Oper} {K:List AV→List Zh→Cd→Prop} (hK:∀s h c,K s h c→ZQ c):∀(l:List Oper) (j:Nat) (s:List AV) (h:List Zh) (c:Cd),(∀m,m<l.length→ops[j+m]? =l[m]?)→Zeg T p d ops l s h c K→
  ZQ c∧ZaU (p ()) R₀ h₀ ops (List.range' j l.length) s h fun s h=>∃c,K s h c
 |[],j,s,h,c,_,hW=>⟨hK _ _ _ hW,fun R t hi hs b ds k cs=>⟨s,h,R,t,⟨_,hW⟩,hi,Xe.refl _ _,RC.le.refl _,hs,.one YH⟩⟩
 |o::r,j,s,h,c,hl,hW=>by
  have ho:ops[j]? =some o:=by simpa using hl 0 (by simp)
  have ih:=fun s h c=>Zjf hT (d:=d) hK r (j+1) s h c (fun m hm=>by have:=hl (m+1) (by simpa using hm);rw[show j+1+m=j+(m+1) by omega];simpa using this)
  have key:∀(Q:AV→List Zh→Prop),Zc3 (p ()) R₀ h₀ ops j o (Vm.ev s) h Q→(∀v h',Q v h'→∃c',Zeg T p d ops r (putO s o.dst v) h' c' K)→ZaU (p ()) R₀ h₀ ops (List.range' j (o::r).length) s h fun s h=>∃c,K s h c:=fun Q h2 hq R t hi hs b ds k cs=>by
   obtain⟨v,h',R',u,hQ,a1,a2,a3,a4,a5⟩:=h2 R t hi (hs.eok ops o) b ds k cs (List.range' (j+1) r.length)
   obtain⟨c',hk⟩:=hq v h' hQ
   obtain⟨s'',h'',R'',t'',b1,b2,b3,b4,b5,b6⟩:=(ih _ _ _ hk).2 R' _ a1 ((hs.mono a3).putO a4 o.dst) b ds k cs
   exact⟨s'',h'',R'',t'',b1,b2,a2.trans b3,a3.trans b4,b5,a5.trans (X0 a3 b6)⟩
  have other:(Wop T p ops o (Vm.ev s) h c fun v h c=>Zeg T p d ops r (putO s o.dst v) h c K)→ZQ c∧ZaU (p ()) R₀ h₀ ops (List.range' j (o::r).length) s h fun s h=>∃c,K s h c:=fun hW=>by
   obtain⟨h1,h2⟩:=ZhY hT (R₀:=R₀) (h₀:=h₀) ho (fun v h c hk=>(ih _ _ _ hk).1) hW
   exact⟨h1,key _ h2 fun v h' hq=>hq⟩
  unfold Zeg at hW
  split at hW
  ·split at hW
   ·split at hW
    case h_2=>exact hW.elim
    rename_i v h' c' hv
    have hcc:=(ih _ _ _ hW).1
    exact⟨(ZY hcc).1,key _ (Zoy hT ho hv (ZY hcc).2) fun v' h'' hq=>by
     obtain⟨rfl,rfl⟩:=hq
     exact⟨_,hW⟩⟩
   ·exact other hW
  ·exact other hW
theorem hpX {nb:Nat} {K:Ex→List AV→List Zh→Cd→Prop} {id:Nat} {ops:Array Oper} {k:List Item} {s:List AV} {h:List Zh} (hT:T.Of (p ())) (d:Nat) (hW:Zeg T p d ops ops.toList s h [] fun s h c=>Chk c (HP false nb p k K s h)):HP false nb p (.code (.region id ops false)::k) K s h:=
 ⟨fun hK R₀ h₀ hnb=>by
  obtain⟨_,h2⟩:=Zjf (R₀:=R₀) (h₀:=h₀) hT (fun s h c (hk:Chk c _)=>hk.c) ops.toList 0 s h [] (fun m hm=>by simp) hW
  have h3:ZaU (p ()) R₀ h₀ ops (List.range ops.size) s h fun s h=>∃c,Chk c (HP false nb p k K s h):=by
   rw[List.range_eq_range']
   simpa using h2
  exact CI.then (CI.region h3 fun s h hk=>⟨rfl,hk⟩) fun s h ⟨c,hk⟩=>hk.g.run hK R₀ h₀ hnb⟩
end
end Go.Proofs.YtjgpiclllehgmaaGreat.Vm
namespace Go.Proofs.YtjgpiclllehgmaaGreat.Vm
open Go Go.Proofs
theorem To.freeze {s:List AV} {h:List Zh} {id sz:Nat} {n:Unit→Int} {f:(Unit→Int)→List AV} (hid:h[id]? =some (.gar sz n f)):To s h s (h.set id (.fro sz n f)):=fun G R t H hs=>by
 have hlt:=(List.getElem?_eq_some_iff.1 hid).1
 let R':RC:={R with ok:=fun b o k=>b<R.w.heap.size∧G b o k∧ZfZ R (h.set id (.fro sz n f)) b o k}
 have hget:∀ {j x},(h.set id (.fro sz n f))[j]? =some x→(j=id∧x= .fro sz n f)∨(j≠id∧h[j]? =some x):=fun {j x} hx=>by
  rw[List.getElem?_set]at hx
  split at hx
  ·rename_i e
   simp only[Option.some.injEq]at hx
   exact .inl ⟨e.symm,hx.symm⟩
  ·rename_i e
   exact .inr ⟨fun e'=>e e'.symm,hx⟩
 have hok:∀b o k,R.ok b o k→R'.ok b o k:=fun b o k hk=>by
  obtain⟨h1,h2,h3⟩:=(H.okd _ _ _).1 hk
  refine⟨h1,h2,fun j x hx=>?_⟩
  rcases hget hx with⟨rfl,rfl⟩|⟨hne,hx⟩
  ·exact fun h=>h
  ·exact h3 j x hx
 have hle:R.le R':=⟨Nat.le_refl _,fun _ _=>rfl,fun _ _=>⟨Int.le_refl _,fun _=>rfl⟩,fun _ _=>.refl _,hok,fun _ _ _ _ _ _=>rfl,fun _ _ _ _ h=>h,rfl⟩
 have hph:∀ {j x b},(h.set id (.fro sz n f))[j]? =some x→ZK R' j x b→j≠id∧h[j]? =some x∧ZK R j x b:=fun {j x b} hx hp=>by
  rcases hget hx with⟨rfl,rfl⟩|⟨hne,hx⟩
  ·exact hp.elim
  ·exact⟨hne,hx,(ZK.congr (R:=R) rfl rfl).1 hp⟩
 refine⟨R',rfl,⟨?_,fun _ _ _=>Iff.rfl,fun j x hx=>?_,fun i j bi bj b hij hi hj hp hp'=>?_,H.cl,H.fresh,fun j x b hx hk hp o k=>?_,H.n0m⟩,⟨rfl,rfl,rfl,rfl,Nat.le_refl _,Nat.le_refl _,fun _ _=>rfl,hok,fun _ _ _ _ _ _=>rfl,fun _ _ _=>rfl,fun j x b hx hp=>?_⟩,hle,hs.mono hle⟩
 ·rw[List.length_set];exact H.len
 ·rcases hget hx with⟨rfl,rfl⟩|⟨hne,hx⟩
  ·obtain⟨e1,e2⟩:=H.blk _ _ hid
   refine⟨e1,?_⟩
   rcases e2 with⟨h0,a0,h1⟩|⟨b,o,len,cap,arr,ty,a1,a2,a3,a4,a5,a6⟩
   ·show PR R'.w R'.ok _ (R.hv _)
    rw[h1]
    cases a0 with
    |none=>exact .isl0 _ _ _ _ h0 rfl
    |some a0=>exact .islE _ _ _ _ a0 h0 (.inl rfl)
   ·show PR R'.w R'.ok _ (R.hv _)
    rw[a3]
    rcases Nat.eq_zero_or_pos cap with hc0|hc0
    ·rw[hc0,show len=0 by omega]
     exact .islE _ _ _ _ ⟨b,o,none⟩ (by omega) (.inl rfl)
    have hmul:len*sz≤cap*sz:=Nat.mul_le_mul_right _ a2
    have hb:ZK R j (.gar sz n f) b:=⟨_,_,_,a3,hc0,rfl⟩
    refine .isl _ _ _ _ b o len cap (fun i j=>arr.getD (o+i*sz+j) undef) a1 a2 (.inl rfl) (fun h=>by cases h) (fun i hi=>(a6 i hi).1) (fun i j c hi hj=>?_) (fun i j c hi hj=>?_) ?_
    ·have hjs:j<sz:=by rw[←(a6 i hi).1];exact(List.getElem?_eq_some_iff.1 hj).1
     have:(i+1)*sz≤len*sz:=Nat.mul_le_mul_right _ hi
     rw[Nat.succ_mul]at this
     exact Qc (w:=R.w) a4 (by omega)
    ·exact((a6 i hi).2 j c hj).mono hok (fun _ _ _ _ _ _=>rfl) fun _ _ _ _ h=>h
    ·refine⟨H.phys_lt hid hb,H.tokG _ _ _ hid rfl hb _ _,fun i x hx=>?_⟩
     rcases hget hx with⟨rfl,rfl⟩|⟨hne,hx⟩
     ·exact fun h=>h
     ·exact ZaS fun hp=>H.dis _ _ _ _ b (fun e=>hne e.symm) hid hx hb hp
  ·exact(H.blk j x hx).mono hle rfl rfl rfl rfl (fun _ _=>rfl)
 ·obtain⟨_,hx,hp⟩:=hph hi hp
  obtain⟨_,hx',hp'⟩:=hph hj hp'
  exact H.dis i j bi bj b hij hx hx' hp hp'
 ·obtain⟨_,hx,hp⟩:=hph hx hp
  exact H.tokG j x b hx hk hp o k
 ·obtain⟨_,hx,hp⟩:=hph hx hp
  exact .inr ⟨j,x,hx,hp,.inl rfl⟩
theorem To.froze {s:List AV} {h:List Zh} {id sz:Nat} {n:Unit→Int} {f:(Unit→Int)→List AV} (hid:h[id]? =some (.gar sz n f)):To s h (s.map (rsv (h.set id (.fro sz n f)))) (h.set id (.fro sz n f)):=fun G R t H hs=>by
 obtain⟨R',a1,a2,a3,a4,a5⟩:=To.freeze (s:=s) hid G R t H hs
 have:=SL.rsv a2 a5 {tb with rs:=true}
 exact⟨R',a1,a2,a3,a4,this⟩
open Go Go.Proofs Sp
def Y7 (r r':List AV):Prop:=r'.length=r.length∧∀(j:Nat) (c':AV),r'[j]? =some c'→∃c,r[j]? =some c∧∀w ok v,PR w ok c v→PR w ok c' v
theorem Y7.two {a b b':AV} (h:∀w ok v,PR w ok b v→PR w ok b' v):Y7 [a,b] [a,b']:=⟨rfl,fun j c hj=>by
 match j with
 |0=>simp only[List.getElem?_cons_zero,Option.some.injEq]at hj;subst hj;exact⟨_,rfl,fun _ _ _ h=>h⟩
 |1=>simp only[List.getElem?_cons_succ,List.getElem?_cons_zero,Option.some.injEq]at hj;subst hj;exact⟨_,rfl,h⟩
 |j+2=>simp at hj⟩
theorem PR.elems {w:World} {ok:Nat→Nat→Nat→Prop} {s:Nat} {m m':Unit→Int} {f f':(Unit→Int)→List AV} {v:Value} (hm:m ()=m' ()) (hf:∀i:Nat,(i:Int)<m ()→Y7 (f fun _=>(i:Int)) (f' fun _=>(i:Int))) (hv:PR w ok (.isl s m f .none) v):PR w ok (.isl s m' f' .none) v:=by
 cases hv with
 |isl0 _ _ _ _ hz h1=>exact .isl0 _ _ _ _ (by omega) rfl
 |islE _ _ _ _ a hz h1=>exact .islE _ _ _ _ a (by omega) (.inl rfl)
 |isl _ _ _ _ b o len cap us hn hc h1 he hl h2 h3 h4=>
  refine .isl _ _ _ _ b o len cap us (by omega) hc (.inl rfl) (fun e=>by cases e) (fun i hi=>?_) (fun i j c hi hj=>?_) (fun i j c hi hj=>?_) h4
  ·rw[(hf i (by omega)).1];exact hl i hi
  ·obtain⟨c0,g1,_⟩:=(hf i (by omega)).2 j c hj
   exact h2 i j c0 hi g1
  ·obtain⟨c0,g1,g2⟩:=(hf i (by omega)).2 j c hj
   exact g2 _ _ _ (h3 i j c0 hi g1)
theorem Y7.three {a b c c':AV} (h:∀w ok v,PR w ok c v→PR w ok c' v):Y7 [a,b,c] [a,b,c']:=⟨rfl,fun j d hj=>by
 match j with
 |0=>simp only[List.getElem?_cons_zero,Option.some.injEq]at hj;subst hj;exact⟨_,rfl,fun _ _ _ h=>h⟩
 |1=>simp only[List.getElem?_cons_succ,List.getElem?_cons_zero,Option.some.injEq]at hj;subst hj;exact⟨_,rfl,fun _ _ _ h=>h⟩
 |2=>simp only[List.getElem?_cons_succ,List.getElem?_cons_zero,Option.some.injEq]at hj;subst hj;exact⟨_,rfl,h⟩
 |j+3=>simp at hj⟩
theorem ZI.elems {n k s:Nat} {m m':Unit→Int} {f f':(Unit→Int)→List AV} {tk:Tk} (hm:m ()=m' ()) (hf:∀i:Nat,(i:Int)<m ()→Y7 (f fun _=>(i:Int)) (f' fun _=>(i:Int))):ZI n k (.isl s m f tk) (.isl s m' f' .none):=⟨fun R v _ hv=>.pure _ _ (hv.isl_inv.elems hm hf)⟩
theorem Zj1 {nt:(α:Type)→α→List α→Int→α} (hnt:∀(α:Type) (d:α) (l:List α) (i:Int),nt α d l i=l.getD i.toNat d) {α:Type} {n k sz:Nat} (enc:α→List AV) (d:α) (l:List α) (rows:List (List AV)) (hl:rows.length=l.length) (hr:∀i,i<l.length→Y7 (rows.getD i (rows.headD [])) (enc (l.getD i d))):
  ZI n k (.isl sz (fun _=>(rows.length:Int)) (fun e=>rows.getD (e ()).toNat (rows.headD [])) .exact) (.isl sz (fun _=>(l.length:Int)) (fun e=>enc (nt α d l (e ()))) .none):=
 .elems (by simp[hl]) fun i hi=>by
  have hi:i<l.length:=by have:(i:Int)<(rows.length:Int):=hi;omega
  simp only[hnt,Int.toNat_natCast]
  exact hr i hi
attribute [local irreducible] Dn
set_option maxRecDepth 100000
set_option maxHeartbeats 8000000
theorem ZP.garE {n k s:Nat} {m m':Unit→Int} {f f':(Unit→Int)→List AV} (hm:m ()=m' ()) (hf:∀i:Nat,(i:Int)<m ()→Y7 (f fun _=>(i:Int)) (f' fun _=>(i:Int))):ZP n k (.gar s m f) (.gar s m' f'):=
 ⟨fun R id hN ⟨h1,h2⟩=>⟨h1.trans hm,by
  rcases h2 with⟨h3,h4⟩|⟨b,o,len,cap,arr,ty,a1,a2,a3,a4,a5,a6⟩
  ·exact .inl ⟨by omega,h4⟩
  ·refine .inr ⟨b,o,len,cap,arr,ty,by omega,a2,a3,a4,a5,fun i hi=>?_⟩
   have hle:=hf i (by omega)
   refine⟨by rw[hle.1];exact(a6 i hi).1,fun j c hj=>?_⟩
   obtain⟨c0,g1,g2⟩:=hle.2 j c hj
   exact g2 _ _ _ ((a6 i hi).2 j c0 g1)⟩,fun _ _ _=>Iff.rfl,fun _ _ _ _ _=>Iff.rfl,rfl⟩
theorem To.rsvC {s:List AV} {h:List Zh} {id:Nat} {cs:List AV} (hid:h[id]? =some (.cells cs)):To s h s (h.set id (.cells (cs.map (rsv h)))):=fun G R t H hs=>by
 have hget:∀ {j x},(h.set id (.cells (cs.map (rsv h))))[j]? =some x→(j=id∧x= .cells (cs.map (rsv h)))∨(j≠id∧h[j]? =some x):=fun {j x} hx=>by
  rw[List.getElem?_set]at hx
  split at hx
  ·rename_i e
   split at hx
   ·simp only[Option.some.injEq]at hx
    exact .inl ⟨e.symm,hx.symm⟩
   ·cases hx
  ·rename_i e
   exact .inr ⟨fun e'=>e e'.symm,hx⟩
 have hset:∀ {j},j≠id→(h.set id (.cells (cs.map (rsv h))))[j]? =h[j]? :=fun {j} e=>by rw[List.getElem?_set_ne (Ne.symm e)]
 have hlt:=(List.getElem?_eq_some_iff.1 hid).1
 have hself:(h.set id (.cells (cs.map (rsv h))))[id]? =some (.cells (cs.map (rsv h))):=by rw[List.getElem?_set_self hlt]
 have hph:∀ {j x b},(h.set id (.cells (cs.map (rsv h))))[j]? =some x→ZK R j x b→∃y,h[j]? =some y∧ZK R j y b:=fun {j x b} hx hp=>by
  rcases hget hx with⟨rfl,rfl⟩|⟨hne,hx⟩
  ·exact⟨_,hid,hp⟩
  ·exact⟨x,hx,hp⟩
 have hav:∀b o n,ZfZ R h b o n↔ZfZ R (h.set id (.cells (cs.map (rsv h)))) b o n:=fun b o n=>by
  constructor
  ·intro ha j x hx
   rcases hget hx with⟨rfl,rfl⟩|⟨hne,hx⟩
   ·exact(ha j _ hid:¬ZK R j (.cells cs) b)
   ·exact ha j x hx
  ·intro ha j x hx
   by_cases e:j=id
   ·subst e
    rw[hid]at hx
    cases hx
    exact(ha j _ hself:¬ZK R j (.cells (cs.map (rsv h))) b)
   ·exact ha j x (by rw[hset e];exact hx)
 refine⟨R,rfl,⟨by rw[List.length_set];exact H.len,fun b o n=>by rw[←hav];exact H.okd b o n,fun j x hx=>?_,fun i j bi bj b hij hi hj hp hp'=>?_,H.cl,H.fresh,fun j x b hx hk hp o n=>?_,H.n0m⟩,⟨rfl,rfl,rfl,rfl,Nat.le_refl _,Nat.le_refl _,fun _ _=>rfl,fun _ _ _ k=>k,fun _ _ _ _ _ _=>rfl,fun _ _ _=>rfl,fun j x b hx hp=>?_⟩,RC.le.refl _,hs⟩
 ·rcases hget hx with⟨rfl,rfl⟩|⟨hne,hx⟩
  ·obtain⟨arr,ty,h1,h2,h3⟩:=H.blk _ _ hid
   refine⟨arr,ty,h1,by rw[List.length_map];exact h2,fun k c hk=>?_⟩
   rw[List.getElem?_map,Option.map_eq_some_iff]at hk
   obtain⟨c0,hc0,rfl⟩:=hk
   have:=(SL.rsv (t:= #[arr.getD ((R.α j).o+k) undef]) H ⟨rfl,fun i a hi=>by
    cases i with
    |zero=>
     have hi:c0=a:=by simpa using hi
     subst hi
     exact h3 k _ hc0
    |succ i=>simp at hi⟩ {tb with rs:=true} (s:=[c0])).2 0 (rsv h c0) rfl
   exact this
  ·exact H.blk j x hx
 ·obtain⟨y,hy,hp⟩:=hph hi hp
  obtain⟨y',hy',hp'⟩:=hph hj hp'
  exact H.dis i j y y' b hij hy hy' hp hp'
 ·rcases hget hx with⟨rfl,rfl⟩|⟨hne,hx⟩
  ·cases hk
  ·exact H.tokG j x b hx hk hp o n
 ·obtain⟨y,hy,hp⟩:=hph hx hp
  exact .inr ⟨j,y,hy,hp,.inl rfl⟩
theorem ZP.deadF {n k s:Nat} {m:Unit→Int} {f:(Unit→Int)→List AV}:ZP n k (.fro s m f) .dead:=⟨fun _ _ _ _=>trivial,fun _ _ _=>Iff.rfl,fun _ _ _ _ _=>Iff.rfl,rfl⟩
theorem PR.nilw' {w:World} {ok:Nat→Nat→Nat→Prop} {s s':Nat} {m m':Unit→Int} {f f':(Unit→Int)→List AV} {v:Value} (h:PR w ok (.isl s m f .nil) v) (hm:m' ()=0):PR w ok (.isl s' m' f' .none) v:=by
 cases h with
 |isl0 _ _ _ _ hz h1=>exact .isl0 _ _ _ _ hm rfl
 |islE _ _ _ _ a hz h1=>exact .islE _ _ _ _ a hm (.inl rfl)
 |isl _ _ _ _ b o len cap us hn hc h1=>rcases h1 with h|h<;>cases h
theorem Zqn {p A:Prop} {α β γ δ ε:Type} {k:List Item} {K:Ex→List AV→List Zh→Cd→Prop} (st:α×β×γ×δ×ε→List AV) (hp:α×β×γ×δ×ε→List Zh) (inv:α×β×γ×δ×ε→Prop) (hA:p→(∀i,inv i→HP false 1 (fun _=>Tryz.prog) k K (st i) (hp i))→A) (hB:¬p→(∀i,inv i→HP false 1 (fun _=>Tryz.prog) k K (st i) (hp i))→A)
  (hM:∀a b c d e,inv (a,b,c,d,e)→HP false 1 (fun _=>Tryz.prog) k K (st (a,b,c,d,e)) (hp (a,b,c,d,e))):A:=by
 by_cases h:p
 ·exact hA h fun⟨a,b,c,d,e⟩ hi=>hM a b c d e hi
 ·exact hB h fun⟨a,b,c,d,e⟩ hi=>hM a b c d e hi
theorem Zhy (kp rs:Bool) (cs:List Nat) {x:Code} {Q:Ex→List AV→List Zh→Prop} {s:List AV} {h:List Zh} {α β γ:Type} (L:List Nat) (ex:List Zh) (ch:α×β×γ→List (Nat×AV)) (hc:α×β×γ→List (Nat×Zh)) (inv:α×β×γ→Prop) (μ:α×β×γ→Nat) (i:α×β×γ)
  (hi:inv i) (hto:To (Vm.keep L s) h (Jt (Vm.keep L s) (ch i)) (Yw (h++ex) (hc i)))
  (step:∀a b c,inv (a,b,c)→Dn (tbX kp rs cs) (fun _=>Tryz.prog) (Zfs L (fun i=>Jt (Vm.keep L s) (ch i)) (fun i=>Yw (h++ex) (hc i)) inv μ (a,b,c) (h++ex).length Q) 100 .none [.code x] (Jt (Vm.keep L s) (ch (a,b,c))) (Yw (h++ex) (hc (a,b,c))) []):LP false (fun _=>Tryz.prog) x Q s h:=
 ZV kp rs cs L ex ch hc inv μ i hi hto fun⟨a,b,c⟩ h=>step a b c h
theorem Zud {nt:(α:Type)→α→List α→Int→α} (hnt:∀(α:Type) (d:α) (l:List α) (i:Int),nt α d l i=l.getD i.toNat d) (z:Zone) (old:List Train) (n:Int) (hf:YG (Zp z old)) (hn:(QK (Zp z old) ⟨n,0⟩).2=false):SC (fun _=>Tryz.prog) 75 [.agg [.gd (fun _=>decide ((1:Int)=1)) (.isl 2 (fun _=>1) (fun e=>encZone (nt Zone default [z] (e ()))) .none),.isl 3 (fun _=>(old.length:Int)) (fun e=>encTrain (nt Train default old (e ()))) .none,.isl 0 (fun _=>0) (fun _=>[]) .nil,.int .i64 fun _=>1,.int .i64 fun _=>0],.agg [.int .i64 fun _=>n,.int .i64 fun _=>0]] [] fun v h=>v= .tup [.undef,.bool fun _=>false]∧h=[]:=by
 have k:=Zue (Zp z old) ⟨n,0⟩ hf hn
 simp only[Zd,Zi,Zp,Za hnt]at k
 refine SC.to ?_ k
 (refine To.of [] ?_;cbv;(try simp only[nc]);(repeat' (first|exact trivial|exact ZI.refl _|exact ZP.refl _|refine⟨?_,?_⟩|refine ZP.cells ?_|refine ZI.agg ?_|refine ZI.tup ?_));(all_goals (first|exact Yt|skip)))
 all_goals exact .gd rfl (.none rfl fun _ _=>rfl)
theorem Zsy (kp rs:Bool) (cs:List Nat) {x:Code} {Q:Ex→List AV→List Zh→Prop} {s:List AV} {h:List Zh} {α β γ δ:Type} (L:List Nat) (ex:List Zh) (ch:α×β×γ×δ→List (Nat×AV)) (hc:α×β×γ×δ→List (Nat×Zh)) (inv:α×β×γ×δ→Prop) (μ:α×β×γ×δ→Nat) (i:α×β×γ×δ)
  (hi:inv i) (hto:To (Vm.keep L s) h (Jt (Vm.keep L s) (ch i)) (Yw (h++ex) (hc i)))
  (step:∀a b c d,inv (a,b,c,d)→Dn (tbX kp rs cs) (fun _=>Tryz.prog) (Zfs L (fun i=>Jt (Vm.keep L s) (ch i)) (fun i=>Yw (h++ex) (hc i)) inv μ (a,b,c,d) (h++ex).length Q) 100 .none [.code x] (Jt (Vm.keep L s) (ch (a,b,c,d))) (Yw (h++ex) (hc (a,b,c,d))) []):LP false (fun _=>Tryz.prog) x Q s h:=
 ZV kp rs cs L ex ch hc inv μ i hi hto fun⟨a,b,c,d⟩ h=>step a b c d h
structure ByL (b:List Int) (n:Int):Prop where
 rng:∀k,k<b.length→0≤b.getD k 0∧b.getD k 0≤240
 asc:∀k,k+1<b.length→b.getD k 0<b.getD (k+1) 0
 bd:0≤n∧n≤10+60*b.length
 last:∀k,k<b.length→b.getD k 0<n
theorem ByL.nil {n:Int} (h:0≤n∧n≤10):ByL [] n:=⟨fun k h=>by simp at h,fun k h=>by simp at h,by simp;omega,fun k h=>by simp at h⟩
theorem ByL.snoc {b:List Int} {n y:Int} (h:ByL b n) (hl:b.length≤2) (hy:1≤y∧y≤60):ByL (b++[n]) (n+y):=by
 have hbd:=h.bd
 have hg:∀k,k<b.length→(b++[n]).getD k 0=b.getD k 0:=fun k hk=>Zds hk
 have hz:(b++[n]).getD b.length 0=n:=Zdt
 have hlen:(b++[n]).length=b.length+1:=by rw[List.length_append,List.length_singleton]
 refine⟨fun k hk=>?_,fun k hk=>?_,by rw[hlen];omega,fun k hk=>?_⟩
 ·by_cases e:k<b.length
  ·rw[hg k e];exact h.rng k e
  ·rw[show k=b.length by omega,hz];omega
 ·rw[hg k (by omega)]
  by_cases e:k+1<b.length
  ·rw[hg _ e];exact h.asc k e
  ·rw[show k+1=b.length by omega,hz];exact h.last k (by omega)
 ·by_cases e:k<b.length
  ·rw[hg k e];have:=h.last k e;omega
  ·rw[show k=b.length by omega,hz];omega
theorem Zme {α:Type} {p:α→Bool} {d:α} {l:List α} {k:Nat} (h:k<l.length):(l.take (k+1)).any p=((l.take k).any p||p (l.getD k d)):=by
 rw[List.take_add_one,List.any_append,List.getElem?_eq_getElem h,List.getD_eq_getElem?_getD,List.getElem?_eq_getElem h]
 simp
theorem Zq0 (a b c d:Int):decide (a=b∧c=d)=(bif a==b then c==d else false):=by
 by_cases h:a=b
 ·subst h;simp;rfl
 ·simp[h]
theorem cL2 (l:List Nat) {f:FuncId} {xs ys:List AV} {h hc:List Zh} {Post Q:AV→List Zh→Prop} (H:SC (fun _=>Tryz.prog) f ys hc Q) (hq:∀ r h₂,Q r h₂→Post (ren (YK l h.length) 5 r) (back l h h₂)) (hn:l.Nodup:=by decide) (hl:∀ i∈l,i<h.length:=by simp) (hx:xs.map (Qr false l h 5)=ys:=by first|rfl|(simp only[Zc,Zd,Zg,Zb,Zi,Zp,Za hnt];rfl)) (hh:sel false l h=hc:=by first|rfl|(simp only[Zc,Zd,Zg,Zb,Zi,Zp,Za hnt];rfl)):SC (fun _=>Tryz.prog) f xs h Post:=ZO l H hn hl hx hh hq
theorem Zve (s runs waits delays:Int) (hr:1≤runs∧runs≤4) (hw:0≤waits∧waits≤4) (hd:0≤delays∧delays≤6):SC (fun _=>Tryz.prog) 19 [.ptr 0 0,.int .i64 fun _=>runs,.int .i64 fun _=>waits,.int .i64 fun _=>delays] [XB s] fun v h=>
  ∃(t:Ze) (s':Int),(Zo7 t∧(t.runs.length:Int)≤runs∧(t.waits.length:Int)≤waits∧(t.delays.length:Int)≤delays)∧v=Zg t∧h=[XB s']:=by
 obtain⟨nt,hnt⟩:=Zr
 obtain⟨N,hN⟩:∃N:Nat,(N:Int)=4*waits:=⟨(4*waits).toNat,by omega⟩
 refine SC.less (ZsI false false [] [1] false 1 Tryz.func19 (body:=Zj Tryz.f19) rfl (by decide+kernel) rfl ?_)
 refine wS ?_
 refine hpX (T:=tbH false false [] [] false 1) (hTH false false [] [] false 1) 33 ?_
 refine vS ?_
 refine cL2 [0] (c22 s (-1) 1 (by omega) (by omega)) fun r h₂ hp=>?_
 (try simp only[Zc,Zd,Zg,Zb,Zi,Zp,Za hnt]at hp)
 obtain⟨x,s1,hx,rfl,rfl⟩:=hp
 refine wS ?_
 refine Zbt [0,1,2,3,8,9] 4 rfl rfl (s₂:=mkS 312 [(0,.ptr 0 0),(1,.int .i64 fun _=>runs),(2,.int .i64 fun _=>waits),(3,.int .i64 fun _=>delays),(8,.ptr 1 0),(9,.ptr 3 0)]) (h₂:=[XB s1,.cells [.isl 0 (fun _=>0) (fun _=>[]) .nil,.isl 0 (fun _=>0) (fun _=>[]) .nil,.isl 0 (fun _=>0) (fun _=>[]) .nil,.int .i64 fun _=>0,.int .i64 fun _=>0,.isl 0 (fun _=>0) (fun _=>[]) .nil,.isl 0 (fun _=>0) (fun _=>[]) .nil,.isl 0 (fun _=>0) (fun _=>[]) .nil],.gar 2 (fun _=>1) (fun e=>encZone (nt Zone default [⟨30*x,[]⟩] (e ()))),.cells [.gsl 2 fun _=>1,.isl 0 (fun _=>0) (fun _=>[]) .nil,.isl 0 (fun _=>0) (fun _=>[]) .nil,.int .i64 fun _=>1,.int .i64 fun _=>0,.isl 0 (fun _=>0) (fun _=>[]) .nil,.isl 0 (fun _=>0) (fun _=>[]) .nil,.isl 0 (fun _=>0) (fun _=>[]) .nil]]) ?_ ?_
 ·refine toR ?_
  refine ZP.garE rfl fun i hi=>?_
  match i,hi with
  |0,_=>(show Y7 [_,_] (encZone (nt Zone default [⟨30*x,[]⟩] 0)));rw[hnt];exact Y7.two fun w ok v h=>h.nilw' rfl
 refine Zd7 false false [4] [19,21] false ?_
 refine wS ?_
 refine cL2 [0] (c37 s1 1 5 (by omega)) fun r h₂ hp=>?_
 (try simp only[Zc,Zd,Zg,Zb,Zi,Zp,Za hnt]at hp)
 obtain⟨bb,s2,rfl,rfl⟩:=hp
 refine wS ?_
 refine ZsG false false [] 50 [0,1,2,3,8,9] (fun _=>[]) (fun(⟨s,z⟩:Int×Zone)=>[(0,XB s),(2,.gar 2 (fun _=>1) (fun e=>encZone (nt Zone default [z] (e ())))),(3,.cells [.gsl 2 fun _=>1,.isl 0 (fun _=>0) (fun _=>[]) .nil,.isl 0 (fun _=>0) (fun _=>[]) .nil,.int .i64 fun _=>1,.int .i64 fun _=>0,.isl 0 (fun _=>0) (fun _=>[]) .nil,.isl 0 (fun _=>0) (fun _=>[]) .nil,.isl 0 (fun _=>0) (fun _=>[]) .nil])]) (fun⟨s,z⟩=>Zo4 1 z) (fun _ _ h=>h) (by decide) ?_ ?_
 ·refine wS ?_
  refine⟨fun hb=>?_,fun hb=>?_⟩
  ·refine wS ?_
   refine cL2 [0] (c29 s2 1 (by omega)) fun r h₂ hp=>?_
   (try simp only[Zc,Zd,Zg,Zb,Zi,Zp,Za hnt]at hp)
   obtain⟨z,s3,hz,rfl,rfl⟩:=hp
   refine wS ?_
   refine⟨(s3,z),hz,?_⟩
   refine toR ?_
   refine ZP.garE rfl fun i hi=>?_
   match i,hi with
   |0,_=>(simp only[hnt]);exact Y7.two fun w ok v h=>h.wk rfl (fun j hj=>rfl) (.inl rfl)
  ·refine wS ?_
   refine⟨(s2,⟨30*x,[]⟩),⟨by dsimp only;omega,.inr rfl,.nil,by simp,by simp⟩,?_⟩
   exact ZL
 rintro⟨s,z⟩ hz
 refine wS ?_
 refine cL2 [0] (c22 s 1 runs (by omega) (by omega)) fun r h₂ hp=>?_
 (try simp only[Zc,Zd,Zg,Zb,Zi,Zp,Za hnt]at hp)
 obtain⟨n,s4,hn,rfl,rfl⟩:=hp
 refine wS ?_
 obtain⟨n,rfl⟩:∃k:Nat,n=k:=⟨n.toNat,by omega⟩
 refine ZV false false [] [0,2,3,8,9,10] [.tok 3 fun _=>0] (fun(⟨i,s,old⟩:Nat×Int×List Train)=>[(10,.int .i64 fun _=>i)])
  (fun⟨i,s,old⟩=>[(0,XB s),(3,.cells [.gsl 2 fun _=>1,.isl 3 (fun _=>(old.length:Int)) (fun e=>encTrain (nt Train default old (e ()))) (.own 4),.isl 0 (fun _=>0) (fun _=>[]) .nil,.int .i64 fun _=>1,.int .i64 fun _=>0,.isl 0 (fun _=>0) (fun _=>[]) .nil,.isl 0 (fun _=>0) (fun _=>[]) .nil,.isl 0 (fun _=>0) (fun _=>[]) .nil]),(4,.tok 3 fun _=>(old.length:Int))])
  (fun⟨i,s,old⟩=>i≤n∧old.length+i=n∧DL n old) (fun i=>i.1+0) (n,s4,[]) ⟨Nat.le_refl _,by simp,⟨fun k hk=>by simp at hk⟩⟩ ?_ ?_
 ·(refine To.of [(3,false)] ?_;cbv;(try simp only[nc]);(repeat' (first|exact trivial|exact ZI.refl _|exact ZP.refl _|refine⟨?_,?_⟩|refine ZP.cells ?_|refine ZI.agg ?_|refine ZI.tup ?_));(all_goals (first|exact Yt|skip)))
 rintro⟨i,s,old⟩ ⟨hi,hlen,hdl⟩
 refine wS ?_
 refine⟨fun hb=>?_,fun hb=>?_⟩
 ·simp only[decide_eq_true_eq]at hb
  refine wS ?_
  refine cL2 [0] (c22 s 3 5 (by omega) (by omega)) fun r h₂ hp=>?_
  (try simp only[Zc,Zd,Zg,Zb,Zi,Zp,Za hnt]at hp)
  obtain⟨st,s5,hst,rfl,rfl⟩:=hp
  refine wS ?_
  obtain⟨st,rfl⟩:∃k:Nat,st=k:=⟨st.toNat,by omega⟩
  refine cL2 [0] (Zu5 s5 i st (by omega)) fun r h₂ hp=>?_
  (try simp only[Zc,Zd,Zg,Zb,Zi,Zp,Za hnt]at hp)
  obtain⟨t,s6,ht,rfl,rfl⟩:=hp
  refine wS ?_
  obtain⟨j,rfl⟩:∃j,i=j+1:=⟨i-1,by omega⟩
  refine⟨(j,s6,old++[t]),⟨by omega,by simp only[List.length_append,List.length_cons,List.length_nil];omega,hdl.snoc (st:=st) (by omega) (by rw[show(n:Int)-old.length=((j+1:Nat):Int) by omega];exact ht)⟩,by show j+0<j+1+0;omega,?_⟩
  (refine To.of [] ?_;cbv;(try simp only[nc]);(repeat' (first|exact trivial|exact ZI.refl _|exact ZP.refl _|refine⟨?_,?_⟩|refine ZP.cells ?_|refine ZI.agg ?_|refine ZI.tup ?_));(all_goals (first|exact Yt|skip)))
  all_goals trace_state
 ·simp only[decide_eq_false_iff_not]at hb
  have hlen:old.length=n:=by omega
  have hni:(n:Int)=old.length:=by omega
  have hl4:old.length≤4:=by omega
  have hlr:(old.length:Int)≤runs:=by omega
  have hzk:=Zmr hz (by decide)
  have hck:=ZhJ hzk hdl (by omega) (by omega)
  have hf:YG (Zp z old):=by
   have hc:=ZbZ hck
   exact⟨by have:=hc.zlen;omega,by have:=hc.olen;omega,by have:=hc.nlen;omega,fun z hz=>by have:=(ZbF (hc.zones z hz)).2.2.1;omega,⟨fun t ht=>by have:=(hc.old t ht).len;omega,fun t ht=>by have:=(hc.new t ht).len;omega⟩⟩
  apply Zqn (p:=∃j,j<old.length∧(QK (Zp z old) (Qq (Zp z old) j)).2=true) (fun(⟨s,z,old,rs,rows⟩:Int×Zone×List Train×List Sp.Qo×List (List Sp.Call))=>mkS 312 [(0,.ptr 0 0),(2,.int .i64 fun _=>waits),(3,.int .i64 fun _=>delays),(8,.ptr 1 0),(9,.ptr 3 0),(11,.isl 1 (fun _=>(rows.length:Int)) (fun e=>[.isl 3 (fun _=>((nt (List Sp.Call) [] rows (e ())).length:Int)) (fun e2=>XE (nt Sp.Call default (nt (List Sp.Call) [] rows (e ())) (e2 ()))) .none]) .none)])
   (fun⟨s,z,old,rs,rows⟩=>[XB s,.cells [.isl 0 (fun _=>0) (fun _=>[]) .nil,.isl 0 (fun _=>0) (fun _=>[]) .nil,.isl 0 (fun _=>0) (fun _=>[]) .nil,.int .i64 fun _=>0,.int .i64 fun _=>0,.isl 0 (fun _=>0) (fun _=>[]) .nil,.isl 0 (fun _=>0) (fun _=>[]) .nil,.isl 0 (fun _=>0) (fun _=>[]) .nil],.dead,.cells [.isl 2 (fun _=>1) (fun e=>encZone (nt Zone default [z] (e ()))) .none,.isl 3 (fun _=>(old.length:Int)) (fun e=>encTrain (nt Train default old (e ()))) .none,.isl 0 (fun _=>0) (fun _=>[]) .nil,.int .i64 fun _=>1,.int .i64 fun _=>0,.isl 2 (fun _=>(rs.length:Int)) (fun e=>Zi (nt Sp.Qo default rs (e ()))) .none,.isl 0 (fun _=>0) (fun _=>[]) .nil,.isl 0 (fun _=>0) (fun _=>[]) .nil]])
   (fun⟨s,z,old,rs,rows⟩=>RJ (Zp z old) rs rows∧(rs.length:Int)≤runs∧Zx z=0∧∃n,DL n old)
  ·intro hany M
   refine wS ?_
   refine ZV false false [] [0,2,3,8,9,11,12] [.tok 1 fun _=>0,.tok 2 fun _=>0] (fun(⟨i,runs,rows⟩:Nat×List Sp.Qo×List (List Sp.Call))=>[(11,.isl 1 (fun _=>(rows.length:Int)) (fun e=>Zb (nt (List Sp.Call) [] rows (e ()))) (.own 5)),(12,.int .i64 fun _=>i)])
    (fun⟨i,runs,rows⟩=>[(2,.dead),(3,.cells [.isl 2 (fun _=>1) (fun e=>encZone (nt Zone default [z] (e ()))) .none,.isl 3 (fun _=>(old.length:Int)) (fun e=>encTrain (nt Train default old (e ()))) .none,.isl 0 (fun _=>0) (fun _=>[]) .nil,.int .i64 fun _=>1,.int .i64 fun _=>0,.isl 2 (fun _=>(runs.length:Int)) (fun e=>Zi (nt Sp.Qo default runs (e ()))) (.own 6),.isl 0 (fun _=>0) (fun _=>[]) .nil,.isl 0 (fun _=>0) (fun _=>[]) .nil]),(5,.tok 1 fun _=>(rows.length:Int)),(6,.tok 2 fun _=>(runs.length:Int))])
    (fun⟨i,runs,rows⟩=>i≤old.length∧RL (Zp z old) i runs rows) (fun i=>old.length-i.1+0) (0,[],[]) ⟨Nat.zero_le _,.nil⟩ ?_ ?_
   ·refine(To.froze (id:=2) rfl).trans ((To.rsvC (id:=3) rfl).trans ?_)
    (refine To.of [(1,false),(2,false)] ?_;cbv;(try simp only[nc]);(repeat' (first|exact trivial|exact ZI.refl _|exact ZP.refl _|refine⟨?_,?_⟩|refine ZP.cells ?_|refine ZI.agg ?_|refine ZI.tup ?_));(all_goals (first|exact Yt|skip)))
    ·exact .deadF
    ·exact .none rfl fun _ _=>rfl
   rintro⟨i,runs,rows⟩ ⟨hi,hrl⟩
   refine wS ?_
   refine⟨fun hb=>?_,fun hb=>?_⟩
   ·simp only[decide_eq_true_eq]at hb
    have hD':Qq (Zp z old) i=⟨(nt Train default old i).number,0⟩:=by unfold Qq Zp;rw[hnt];rfl
    have hE:QK (Zp z old) (Qq (Zp z old) i)=QK ⟨[z],old,[],1,0⟩ ⟨(nt Train default old i).number,0⟩:=by rw[hD'];rfl
    have k:=ZsQ ⟨[z],old,[],1,0⟩ ⟨(nt Train default old i).number,0⟩ hf
    generalize QK ⟨[z],old,[],1,0⟩ ⟨(nt Train default old i).number,0⟩=E at hE k
    refine wS ?_
    refine ZbC (k) (by(try simp only[Zc,Zd,Zg,Zb,Zi,Zp,Za hnt]);exact ZL) (by first|rfl|(simp only[Zc,Zd,Zg,Zb,Zi,Zp,Za hnt];rfl)) fun r h₂ hp=>?_
    (try simp only[Zc,Zd,Zg,Zb,Zi,Zp,Za hnt]at hp)
    obtain⟨rfl,rfl⟩:=hp
    refine wS ?_
    refine⟨fun h9=>?_,fun h9=>?_⟩
    ·have hrlen:=hrl.len
     have hrle:=hrl.le
     refine wS ?_
     refine⟨(i+1,runs++[⟨(nt Train default old i).number,0⟩],rows++[E.1]),⟨by omega,by
      have:=hrl.snoc hdl (by show i<old.length;omega) (C:=E.1) (by rw[hE,←h9])
      rw[hD']at this
      exact this⟩,by show old.length-(i+1)+0<old.length-i+0;omega,?_⟩
     refine toR ?_
     exact .snoc hnt rfl (by simp) (by unfold Zb;rw[Za hnt];rfl)
    ·refine wS ?_
     refine⟨(i+1,runs,rows),⟨by omega,hrl.skip (by rw[hE,←h9])⟩,by show old.length-(i+1)+0<old.length-i+0;omega,?_⟩
     exact ZL
   ·simp only[decide_eq_false_iff_not]at hb
    have hpos:0<runs.length:=by
     obtain⟨j,hj1,hj2⟩:=hany
     exact hrl.some j (by omega) hj2
    refine wS ?_
    refine Br.isF (by simp only[beq_eq_false_iff_ne];omega) ?_
    refine wS ?_
    have hi':i=old.length:=by omega
    subst hi'
    have hrle:=hrl.le
    refine Zbt [0,2,3,8,9,11] 4 rfl rfl ?_ (M (s,z,old,runs,rows) ⟨hrl.ok hzk hdl hni hl4 hl4 hpos,by show(runs.length:Int)≤_;omega,hzk,_,hdl⟩)
    refine toR ?_
    exact .none rfl fun i hi=>by simp only[Zb,Za hnt]
  ·intro hno M
   refine wS ?_
   refine ZV false false [] [0,2,3,8,9,11,12] [] (fun(i:Nat)=>[(12,.int .i64 fun _=>i)]) (fun _=>[]) (fun i=>i≤old.length) (fun i=>old.length-i+0) 0 (Nat.zero_le _) ?_ ?_
   ·exact ZL
   intro i hi
   have hi:i≤old.length:=hi
   refine wS ?_
   refine⟨fun hb=>?_,fun hb=>?_⟩
   ·simp only[decide_eq_true_eq]at hb
    have hD':Qq (Zp z old) i=⟨(nt Train default old i).number,0⟩:=by unfold Qq Zp;rw[hnt];rfl
    have hE:(QK (Zp z old) ⟨(nt Train default old i).number,0⟩).2=false:=by
     rw[←hD',←Bool.not_eq_true]
     exact fun h=>hno ⟨i,by omega,h⟩
    refine wS ?_
    refine SC.lend0 (Zud hnt z old _ hf hE) rfl fun r h₂ hp=>?_
    obtain⟨rfl,rfl⟩:=hp
    refine⟨rfl,rfl,?_⟩
    refine wS ?_
    refine Br.isF rfl ?_
    refine wS ?_
    refine⟨i+1,by show i+1≤_;omega,by show old.length-(i+1)+0<old.length-i+0;omega,?_⟩
    exact ZL
   ·simp only[decide_eq_false_iff_not]at hb
    refine wS ?_
    refine Br.isT rfl ?_
    refine wS ?_
    have hck0:=ZhJ (z:=⟨0,[]⟩) rfl hdl hni hl4
    have hf0:YG (Zp ⟨0,[]⟩ old):=⟨by simp[Zp],hf.old,hf.new,fun z hz=>by simp[Zp]at hz;subst hz;simp,hf.stops⟩
    have hone:=RL.one hck0 hdl (by omega)
    have hD':Qq (Zp ⟨0,[]⟩ old) 0=⟨(nt Train default old 0).number,0⟩:=by unfold Qq Zp;rw[hnt];rfl
    have hrl:=RL.snoc (C:=(QK (Zp ⟨0,[]⟩ old) (Qq (Zp ⟨0,[]⟩ old) 0)).1) hdl RL.nil (by show 0<old.length;omega) hone
    have hrj:=hrl.ok (z:=⟨0,[]⟩) rfl hdl hni hl4 (by omega) (by simp)
    have k:=ZsQ (Zp ⟨0,[]⟩ old) (Qq (Zp ⟨0,[]⟩ old) 0) hf0
    rw[hD']at k hrj hone
    rw[show(QK (Zp ⟨0,[]⟩ old) ⟨(nt Train default old 0).number,0⟩).2=true by rw[hone]]at k
    generalize (QK (Zp ⟨0,[]⟩ old) ⟨(nt Train default old 0).number,0⟩).1=C at hrj k
    refine Zbt [0,2,3,8,9] 4 rfl rfl (s₂:=mkS 312 [(0,.ptr 0 0),(2,.int .i64 fun _=>waits),(3,.int .i64 fun _=>delays),(8,.ptr 1 0),(9,.ptr 3 0)]) (h₂:=[XB s,.cells [.isl 0 (fun _=>0) (fun _=>[]) .nil,.isl 0 (fun _=>0) (fun _=>[]) .nil,.isl 0 (fun _=>0) (fun _=>[]) .nil,.int .i64 fun _=>0,.int .i64 fun _=>0,.isl 0 (fun _=>0) (fun _=>[]) .nil,.isl 0 (fun _=>0) (fun _=>[]) .nil,.isl 0 (fun _=>0) (fun _=>[]) .nil],.dead,.cells [.isl 2 (fun _=>1) (fun e=>encZone (nt Zone default [⟨0,[]⟩] (e ()))) .none,.isl 3 (fun _=>(old.length:Int)) (fun e=>encTrain (nt Train default old (e ()))) .none,.isl 0 (fun _=>0) (fun _=>[]) .nil,.int .i64 fun _=>1,.int .i64 fun _=>0,.isl 2 (fun _=>1) (fun e=>Zi (nt Sp.Qo default [⟨(nt Train default old 0).number,0⟩] (e ()))) .none,.isl 0 (fun _=>0) (fun _=>[]) .nil,.isl 0 (fun _=>0) (fun _=>[]) .nil]]) ((To.froze (id:=2) rfl).trans ((To.rsvC (id:=3) rfl).trans ?_)) ?_
    ·(refine To.of [] ?_;cbv;(try simp only[nc]);(repeat' (first|exact trivial|exact ZI.refl _|exact ZP.refl _|refine⟨?_,?_⟩|refine ZP.cells ?_|refine ZI.agg ?_|refine ZI.tup ?_));(all_goals (first|exact Yt|skip)))
     ·exact .deadF
     ·refine .gd rfl (.elems rfl fun i hi=>?_)
      match i,hi with
      |0,_=>(simp only[hnt]);exact Y7.two fun w ok v h=>h.wk rfl (fun j hj=>by have hj:(j:Int)<0:=hj;omega) (.inl rfl)
     ·refine .none rfl fun i hi=>?_
      match i,hi with
      |0,_=>(simp only[hnt]);rfl
    refine Zd7 false false [] [21] false ?_
    simp only[Zd,Zi,Zp,Za hnt]at k
    refine wS ?_
    have e0:nt Sp.Qo default [⟨(nt Train default old 0).number,0⟩] 0=⟨(nt Train default old 0).number,0⟩:=by rw[hnt];rfl
    refine ZbC k (by((refine To.of [] ?_;cbv;(try simp only[nc]);(repeat' (first|exact trivial|exact ZI.refl _|exact ZP.refl _|refine⟨?_,?_⟩|refine ZP.cells ?_|refine ZI.agg ?_|refine ZI.tup ?_));(all_goals (first|exact Yt|skip)));all_goals exact .int (by simp only[e0]))) rfl fun r h₂ hp=>?_
    obtain⟨rfl,rfl⟩:=hp
    refine wS ?_
    refine Zbt [0,2,3,8,9,11] 4 rfl rfl ?_ (M (s,⟨0,[]⟩,old,[⟨(nt Train default old 0).number,0⟩],[C]) ⟨hrj,by show((1:Nat):Int)≤_;omega,rfl,_,hdl⟩)
    refine toR ?_
    refine .none rfl fun i hi=>?_
    match i,hi with
    |0,_=>(simp only[hnt]);rfl
  ·intro s z old rs rows hj
   have hrj:=hj.1
   have hrs:=hj.2.1
   have hbk:(∃z' old' n,Zp z old=Zp z' old'∧Zx z'=0∧DL n old')∧∀k,k<rs.length→∃j,j<old.length∧rs.getD k default=Qq (Zp z old) j:=⟨⟨z,old,hj.2.2.2.choose,rfl,hj.2.2.1,hj.2.2.2.choose_spec⟩,hrj.from_⟩
   have hrpos:=hrj.pos
   have hrlen:=hrj.len
   clear hj
   have hrow:∀f:Int,0≤f→f<rows.length→Zjk (nt (List Sp.Call) [] rows f):=fun f h1 h2=>by rw[hnt];exact hrj.row _ (Zqt (by omega))
   refine Zd7 false false [] [] false ?_
   refine wS ?_
   refine Zhy false false [] [0,2,3,8,9,11,18] [.tok 4 fun _=>0] (fun(⟨i,s,ws⟩:Nat×Int×List Sp.QN)=>[(18,.int .i64 fun _=>i)])
    (fun⟨i,s,ws⟩=>[(0,XB s),(3,.cells [.isl 2 (fun _=>1) (fun e=>encZone (nt Zone default [z] (e ()))) .none,.isl 3 (fun _=>(old.length:Int)) (fun e=>encTrain (nt Train default old (e ()))) .none,.isl 0 (fun _=>0) (fun _=>[]) .nil,.int .i64 fun _=>1,.int .i64 fun _=>0,.isl 2 (fun _=>(rs.length:Int)) (fun e=>Zi (nt Sp.Qo default rs (e ()))) .none,.isl 4 (fun _=>(ws.length:Int)) (fun e=>QU (nt Sp.QN default ws (e ()))) (.own 4),.isl 0 (fun _=>0) (fun _=>[]) .nil]),(4,.tok 4 fun _=>(ws.length:Int))])
    (fun⟨i,s,ws⟩=>i≤N∧LOk (Qu rows) ws∧(ws.length:Int)≤waits) (fun i=>i.1+0) (N,s,[]) ⟨Nat.le_refl _,.nil,by simp;omega⟩ ?_ ?_
   ·(refine To.of [(4,false)] ?_;cbv;(try simp only[nc]);(repeat' (first|exact trivial|exact ZI.refl _|exact ZP.refl _|refine⟨?_,?_⟩|refine ZP.cells ?_|refine ZI.agg ?_|refine ZI.tup ?_));(all_goals (first|exact Yt|skip)))
    exact .int hN.symm
   intro i s ws hq
   have hi:i≤N:=hq.1
   have hok:LOk (Qu rows) ws:=hq.2.1
   have hwl:(ws.length:Int)≤waits:=hq.2.2
   clear hq
   refine wS ?_
   refine⟨fun hb=>?_,fun hb=>?_⟩
   ·have hb1:0<i∧(ws.length:Int)<waits:=by
     by_cases h0:(0:Int)<i<;>simp[h0]at hb<;>omega
    refine wS ?_
    refine cL2 [0] (c17 s ((rows.length:Int)-1) (by omega)) fun r h₂ hp=>?_
    (try simp only[Zc,Zd,Zg,Zb,Zi,Zp,Za hnt]at hp)
    obtain⟨fe,s5,hfe,rfl,rfl⟩:=hp
    refine wS ?_
    refine cL2 [0] (c17 s5 ((rows.length:Int)-1) (by omega)) fun r h₂ hp=>?_
    (try simp only[Zc,Zd,Zg,Zb,Zi,Zp,Za hnt]at hp)
    obtain⟨tr,s6,htr,rfl,rfl⟩:=hp
    refine wS ?_
    have hfr:=hrow fe (by omega) (by omega)
    have htr2:=hrow tr (by omega) (by omega)
    have hfl:=hfr.len
    have htl:=htr2.len
    refine cL2 [0] (c17 s6 20 (by omega)) fun r h₂ hp=>?_
    (try simp only[Zc,Zd,Zg,Zb,Zi,Zp,Za hnt]at hp)
    obtain⟨m1,s7,hm1,rfl,rfl⟩:=hp
    refine wS ?_
    refine cL2 [0] (c17 s7 60 (by omega)) fun r h₂ hp=>?_
    (try simp only[Zc,Zd,Zg,Zb,Zi,Zp,Za hnt]at hp)
    obtain⟨m2,s8,hm2,rfl,rfl⟩:=hp
    refine wS ?_
    refine cL2 [0] (Zi3 s8 [0,m1,m2] (by simp)) fun r h₂ hp=>?_
    (try simp only[Zc,Zd,Zg,Zb,Zi,Zp,Za hnt]at hp)
    obtain⟨mi,s9,hmi,rfl,rfl⟩:=hp
    have hmi:0≤mi∧mi≤60:=by simp at hmi;omega
    refine wS ?_
    refine⟨?_,?_⟩
    all_goals
     (try refine wS ?_)
     refine cL2 [0] (c22 s9 1 (((nt (List Sp.Call) [] rows fe).length:Int)-1) (by omega) (by omega)) fun r h₂ hp=>?_
     (try simp only[Zc,Zd,Zg,Zb,Zi,Zp,Za hnt]at hp)
     obtain⟨x,s10,hx,rfl,rfl⟩:=hp
     refine wS ?_
     refine Zhy false false [] [0,2,3,8,9,11,18,19,20,21] [] (fun(⟨j,ws,u⟩:Nat×List Sp.QN×Unit)=>[(21,.int .i64 fun _=>j)])
      (fun⟨j,ws,u⟩=>[(3,.cells [.isl 2 (fun _=>1) (fun e=>encZone (nt Zone default [z] (e ()))) .none,.isl 3 (fun _=>(old.length:Int)) (fun e=>encTrain (nt Train default old (e ()))) .none,.isl 0 (fun _=>0) (fun _=>[]) .nil,.int .i64 fun _=>1,.int .i64 fun _=>0,.isl 2 (fun _=>(rs.length:Int)) (fun e=>Zi (nt Sp.Qo default rs (e ()))) .none,.isl 4 (fun _=>(ws.length:Int)) (fun e=>QU (nt Sp.QN default ws (e ()))) (.own 4),.isl 0 (fun _=>0) (fun _=>[]) .nil]),(4,.tok 4 fun _=>(ws.length:Int))])
      (fun⟨j,ws,u⟩=>LOk (Qu rows) ws∧(ws.length:Int)≤waits∧((ws.length:Int)<waits∨(ws.any fun q=>decide (q.feeder=fe∧q.train=tr∧q.station=(nt Sp.Call default (nt (List Sp.Call) [] rows fe) x).station))=true)) (fun q=>(nt (List Sp.Call) [] rows tr).length-q.1+0) (0,ws,()) ⟨hok,hwl,.inl hb1.2⟩ ?_ ?_
     ·exact ZL
     intro j ws2 u hq2
     have hok2:LOk (Qu rows) ws2:=hq2.1
     have hwl2:(ws2.length:Int)≤waits:=hq2.2.1
     have hor2:=hq2.2.2
     clear hq2
     refine wS ?_
     refine⟨fun hb2=>?_,fun hb2=>?_⟩
     ·have hj2:(j:Int)<((nt (List Sp.Call) [] rows tr).length:Int)-1∧fe≠tr:=by
       by_cases h0:(j:Int)<((nt (List Sp.Call) [] rows tr).length:Int)-1<;>simp[h0]at hb2<;>exact⟨h0,hb2⟩
      refine wS ?_
      generalize hc7:(bif (nt Sp.Call default (nt (List Sp.Call) [] rows tr) (j:Int)).station==(nt Sp.Call default (nt (List Sp.Call) [] rows fe) x).station then decide ((nt Sp.Call default (nt (List Sp.Call) [] rows fe) x).arrive≤(nt Sp.Call default (nt (List Sp.Call) [] rows tr) (j:Int)).depart)else false)=c7
      refine⟨fun h7=>?_,fun h7=>?_⟩
      ·subst h7
       have h8:(nt Sp.Call default (nt (List Sp.Call) [] rows tr) (j:Int)).station=(nt Sp.Call default (nt (List Sp.Call) [] rows fe) x).station∧(nt Sp.Call default (nt (List Sp.Call) [] rows fe) x).arrive≤(nt Sp.Call default (nt (List Sp.Call) [] rows tr) (j:Int)).depart:=by
        by_cases h0:(nt Sp.Call default (nt (List Sp.Call) [] rows tr) (j:Int)).station=(nt Sp.Call default (nt (List Sp.Call) [] rows fe) x).station
        ·simp only[h0,beq_self_eq_true,cond_true,decide_eq_true_eq]at hc7
         exact⟨h0,hc7⟩
        ·have h1:((nt Sp.Call default (nt (List Sp.Call) [] rows tr) (j:Int)).station==(nt Sp.Call default (nt (List Sp.Call) [] rows fe) x).station)=false:=by simpa using h0
         rw[h1]at hc7
         cases hc7
       clear hc7
       have k:=Zu4 ws2 ⟨fe,tr,(nt Sp.Call default (nt (List Sp.Call) [] rows fe) x).station,mi⟩ (by omega)
       dsimp only at k
       generalize hE:(ws2.any fun q=>decide (q.feeder=fe∧q.train=tr∧q.station=(nt Sp.Call default (nt (List Sp.Call) [] rows fe) x).station))=E at k
       simp only[Za hnt]at k
       refine wS ?_
       refine ZbC k (by((refine To.of [] ?_;cbv;(try simp only[nc]);(repeat' (first|exact trivial|exact ZI.refl _|exact ZP.refl _|refine⟨?_,?_⟩|refine ZP.cells ?_|refine ZI.agg ?_|refine ZI.tup ?_));(all_goals (first|exact Yt|skip)));all_goals exact .none rfl fun _ _=>rfl)) rfl fun r h₂ hp=>?_
       obtain⟨rfl,rfl⟩:=hp
       refine wS ?_
       refine⟨fun h9=>?_,fun h9=>?_⟩
       ·have h9:E=false:=by
         cases E
         ·rfl
         ·cases h9
        have hlt:(ws2.length:Int)<waits:=by
         rcases hor2 with h|h
         ·exact h
         ·rw[hE,h9]at h;cases h
        have hx1:1≤x.toNat∧x.toNat<(Sp.Zk rows fe).length:=by have h1:=hx;have h2:=hfl;simp only[hnt]at h1 h2;unfold Sp.Zk;omega
        have hx2:j+1<(Sp.Zk rows tr).length:=by have:=hj2.1;simp only[hnt]at this;unfold Sp.Zk;omega
        have hw9:Qu rows ⟨fe,tr,(nt Sp.Call default (nt (List Sp.Call) [] rows fe) x).station,mi⟩ ws2=0:=Zpm (w:=⟨fe,tr,(nt Sp.Call default (nt (List Sp.Call) [] rows fe) x).station,mi⟩) hrj.row (i:=x.toNat) (k:=j) ⟨hfe.1,by dsimp only;omega⟩ ⟨htr.1,by dsimp only;omega⟩ hj2.2 hx1 hx2 (by simp only[hnt];rfl) (by have:=h8.1;simp only[hnt,Int.toNat_natCast]at this⊢;exact this) (by have:=h8.2;simp only[hnt,Int.toNat_natCast]at this⊢;exact this) hmi (by dsimp only;rw[hE,h9])
        have hok3:=hok2.snoc hw9
        have hl9:((ws2++[(⟨fe,tr,(nt Sp.Call default (nt (List Sp.Call) [] rows fe) x).station,mi⟩:Sp.QN)]).length:Int)≤waits:=by rw[List.length_append,List.length_singleton];omega
        have ha9:((ws2++[(⟨fe,tr,(nt Sp.Call default (nt (List Sp.Call) [] rows fe) x).station,mi⟩:Sp.QN)]).any fun q=>decide (q.feeder=fe∧q.train=tr∧q.station=(nt Sp.Call default (nt (List Sp.Call) [] rows fe) x).station))=true:=by rw[List.any_append];simp
        refine wS ?_
        refine⟨(j+1,ws2++[⟨fe,tr,(nt Sp.Call default (nt (List Sp.Call) [] rows fe) x).station,mi⟩],()),⟨hok3,hl9,.inr ha9⟩,by show(nt (List Sp.Call) [] rows tr).length-(j+1)+0<(nt (List Sp.Call) [] rows tr).length-j+0;omega,?_⟩
        exact ZL
       ·refine wS ?_
        refine⟨(j+1,ws2,()),⟨hok2,hwl2,hor2⟩,by show(nt (List Sp.Call) [] rows tr).length-(j+1)+0<(nt (List Sp.Call) [] rows tr).length-j+0;omega,?_⟩
        exact ZL
      ·subst h7
       clear hc7
       refine wS ?_
       refine Br.isF rfl ?_
       refine wS ?_
       refine⟨(j+1,ws2,()),⟨hok2,hwl2,hor2⟩,by show(nt (List Sp.Call) [] rows tr).length-(j+1)+0<(nt (List Sp.Call) [] rows tr).length-j+0;omega,?_⟩
       exact ZL
     ·refine wS ?_
      obtain⟨k,rfl⟩:∃k,i=k+1:=⟨i-1,by omega⟩
      refine⟨(k,s10,ws2),⟨by omega,hok2,hwl2⟩,by show k+0<k+1+0;omega,?_⟩
      exact ZL
   ·refine wS ?_
    obtain⟨D,hD⟩:∃D:Nat,(D:Int)=delays:=⟨delays.toNat,by omega⟩
    refine Zhy false false [] [0,8,9,11,23] [.tok 3 fun _=>0] (fun(⟨i,s,ds⟩:Nat×Int×List Sp.Qf)=>[(23,.int .i64 fun _=>i)])
     (fun⟨i,s,ds⟩=>[(0,XB s),(3,.cells [.isl 2 (fun _=>1) (fun e=>encZone (nt Zone default [z] (e ()))) .none,.isl 3 (fun _=>(old.length:Int)) (fun e=>encTrain (nt Train default old (e ()))) .none,.isl 0 (fun _=>0) (fun _=>[]) .nil,.int .i64 fun _=>1,.int .i64 fun _=>0,.isl 2 (fun _=>(rs.length:Int)) (fun e=>Zi (nt Sp.Qo default rs (e ()))) .none,.isl 4 (fun _=>(ws.length:Int)) (fun e=>QU (nt Sp.QN default ws (e ()))) (.own 4),.isl 3 (fun _=>(ds.length:Int)) (fun e=>Zz (nt Sp.Qf default ds (e ()))) (.own 5)]),(5,.tok 3 fun _=>(ds.length:Int))])
     (fun⟨i,s,ds⟩=>i≤D∧LOk (QR rows) ds∧ds.length+i≤D) (fun i=>i.1+0) (D,s,[]) ⟨Nat.le_refl _,.nil,by simp⟩ ?_ ?_
    ·(refine To.of [(3,false)] ?_;cbv;(try simp only[nc]);(repeat' (first|exact trivial|exact ZI.refl _|exact ZP.refl _|refine⟨?_,?_⟩|refine ZP.cells ?_|refine ZI.agg ?_|refine ZI.tup ?_));(all_goals (first|exact Yt|skip)))
     exact .int hD.symm
    intro i s ds hq
    have hi2:i≤D:=hq.1
    have hdk:LOk (QR rows) ds:=hq.2.1
    have hdl2:ds.length+i≤D:=hq.2.2
    clear hq
    refine wS ?_
    refine⟨fun hb3=>?_,fun hb3=>?_⟩
    ·simp only[decide_eq_true_eq]at hb3
     refine wS ?_
     refine cL2 [0] (c17 s ((rows.length:Int)-1) (by omega)) fun r h₂ hp=>?_
     (try simp only[Zc,Zd,Zg,Zb,Zi,Zp,Za hnt]at hp)
     obtain⟨r,s5,hr5,rfl,rfl⟩:=hp
     have hrr:=hrow r (by omega) (by omega)
     have hrl:=hrr.len
     refine wS ?_
     refine cL2 [0] (c17 s5 (((nt (List Sp.Call) [] rows r).length:Int)-2) (by omega)) fun r h₂ hp=>?_
     (try simp only[Zc,Zd,Zg,Zb,Zi,Zp,Za hnt]at hp)
     obtain⟨lg,s6,hlg,rfl,rfl⟩:=hp
     refine wS ?_
     refine cL2 [0] (c17 s6 10 (by omega)) fun r h₂ hp=>?_
     (try simp only[Zc,Zd,Zg,Zb,Zi,Zp,Za hnt]at hp)
     obtain⟨n0,s7,hn0,rfl,rfl⟩:=hp
     refine wS ?_
     refine cL2 [0] (Zi3 s7 [0,0,n0] (by simp)) fun r h₂ hp=>?_
     (try simp only[Zc,Zd,Zg,Zb,Zi,Zp,Za hnt]at hp)
     obtain⟨nn,s8,hnn,rfl,rfl⟩:=hp
     have hnn:0≤nn∧nn≤10:=by simp at hnn;omega
     refine wS ?_
     refine cL2 [0] (c22 s8 1 3 (by omega) (by omega)) fun r h₂ hp=>?_
     (try simp only[Zc,Zd,Zg,Zb,Zi,Zp,Za hnt]at hp)
     obtain⟨kk,s9,hkk,rfl,rfl⟩:=hp
     refine wS ?_
     obtain⟨kk,rfl⟩:∃q:Nat,kk=q:=⟨kk.toNat,by omega⟩
     refine Zsy false false [] [0,8,9,11,23,24,25,26] [.tok 1 fun _=>0] (fun(⟨k,n,s,b⟩:Nat×Int×Int×List Int)=>[(25,.int .i64 fun _=>n),(26,.int .i64 fun _=>k)])
      (fun⟨k,n,s,b⟩=>[(0,XB s),(6,.cells [.int .i64 fun _=>r,.int .i64 fun _=>lg,.isl 1 (fun _=>(b.length:Int)) (fun e=>XJ (nt Int 0 b (e ()))) (.own 7)]),(7,.tok 1 fun _=>(b.length:Int))])
      (fun⟨k,n,s,b⟩=>b.length+k=kk∧ByL b n) (fun q=>q.1+0) (kk,nn,s9,[]) ⟨by simp,.nil hnn⟩ ?_ ?_
     ·(refine To.of [(1,false)] ?_;cbv;(try simp only[nc]);(repeat' (first|exact trivial|exact ZI.refl _|exact ZP.refl _|refine⟨?_,?_⟩|refine ZP.cells ?_|refine ZI.agg ?_|refine ZI.tup ?_));(all_goals (first|exact Yt|skip)))
     intro k n s b hq3
     have hbk:b.length+k=kk:=hq3.1
     have hbl:ByL b n:=hq3.2
     clear hq3
     refine wS ?_
     refine⟨fun hb4=>?_,fun hb4=>?_⟩
     ·simp only[decide_eq_true_eq]at hb4
      have hbd:=hbl.bd
      refine wS ?_
      refine cL2 [0] (c22 s 1 60 (by omega) (by omega)) fun r h₂ hp=>?_
      (try simp only[Zc,Zd,Zg,Zb,Zi,Zp,Za hnt]at hp)
      obtain⟨y,s10,hy,rfl,rfl⟩:=hp
      refine wS ?_
      refine cL2 [0] (Zi3 s10 [5,10,20,y] (by simp)) fun r h₂ hp=>?_
      (try simp only[Zc,Zd,Zg,Zb,Zi,Zp,Za hnt]at hp)
      obtain⟨y2,s11,hy2,rfl,rfl⟩:=hp
      have hy2:1≤y2∧y2≤60:=by simp at hy2;omega
      refine wS ?_
      obtain⟨k,rfl⟩:∃q,k=q+1:=⟨k-1,by omega⟩
      refine⟨(k,n+y2,s11,b++[n]),⟨by simp only[List.length_append,List.length_cons,List.length_nil];omega,hbl.snoc (by omega) hy2⟩,by show k+0<k+1+0;omega,?_⟩
      exact ZL
     ·simp only[decide_eq_false_iff_not]at hb4
      refine wS ?_
      have hbk:b.length=kk:=by omega
      refine Zhy false false [] [0,8,9,11,23,24,27,28] [] (fun(⟨k,M,u⟩:Nat×Bool×Unit)=>[(27,.bool fun _=>M),(28,.int .i64 fun _=>k)])
       (fun⟨k,M,u⟩=>[(6,.cells [.int .i64 fun _=>r,.int .i64 fun _=>lg,.isl 1 (fun _=>(b.length:Int)) (fun e=>XJ (nt Int 0 b (e ()))) .none])])
       (fun⟨k,M,u⟩=>k≤ds.length∧M=(ds.take k).any fun q=>decide (q.run=r∧q.leg=lg)) (fun q=>ds.length-q.1+0) (0,false,()) ⟨Nat.zero_le _,rfl⟩ ?_ ?_
      ·(refine To.of [] ?_;cbv;(try simp only[nc]);(repeat' (first|exact trivial|exact ZI.refl _|exact ZP.refl _|refine⟨?_,?_⟩|refine ZP.cells ?_|refine ZI.agg ?_|refine ZI.tup ?_));(all_goals (first|exact Yt|skip)))
       all_goals exact .none rfl fun _ _=>rfl
      intro k M u hq4
      have hkd:k≤ds.length:=hq4.1
      have hM:M=(ds.take k).any fun q=>decide (q.run=r∧q.leg=lg):=hq4.2
      clear hq4
      refine wS ?_
      refine⟨fun hb5=>?_,fun hb5=>?_⟩
      ·simp only[decide_eq_true_eq]at hb5
       have hst:=Zme (p:=fun q:Sp.Qf=>decide (q.run=r∧q.leg=lg)) (d:=default) (l:=ds) (k:=k) (by omega)
       have hsr:decide ((ds.getD k default).run=r∧(ds.getD k default).leg=lg)=(bif (ds.getD k default).run==r then(ds.getD k default).leg==lg else false):=Zq0 _ _ _ _
       have hn1:ds.getD k default=nt Sp.Qf default ds (k:Int):=by rw[hnt];rfl
       rw[hn1]at hsr hst
       rw[←hM]at hst
       cases M
       ·refine wS ?_
        refine⟨(k+1,(bif (nt Sp.Qf default ds (k:Int)).run==r then(nt Sp.Qf default ds (k:Int)).leg==lg else false),()),⟨by omega,by rw[hst];exact hsr.symm⟩,by show ds.length-(k+1)+0<ds.length-k+0;omega,?_⟩
        exact ZL
       ·refine wS ?_
        refine⟨(k+1,true,()),⟨by omega,by rw[hst];rfl⟩,by show ds.length-(k+1)+0<ds.length-k+0;omega,?_⟩
        exact ZL
      ·simp only[decide_eq_false_iff_not]at hb5
       have hM:M=ds.any fun q=>decide (q.run=r∧q.leg=lg):=by rw[hM,List.take_of_length_le (by omega)]
       refine wS ?_
       obtain⟨i,rfl⟩:∃q,i=q+1:=⟨i-1,by omega⟩
       refine⟨fun hb6=>?_,fun hb6=>?_⟩
       ·have hb6:M=false:=by
         cases M
         ·rfl
         ·cases hb6
        rw[hb6]at hM
        have hok9:QR rows ⟨r,lg,b⟩ ds=0:=ZoK (d:=⟨r,lg,b⟩) ⟨hr5.1,by dsimp only;omega⟩ ⟨hlg.1,by have h1:=hlg.2;have h2:=hrl;simp only[hnt]at h1 h2;unfold Sp.Zk;dsimp only;omega⟩ ⟨by dsimp only;omega,by dsimp only;omega⟩ hbl.rng hbl.asc hM.symm
        have hok10:=hdk.snoc hok9
        have hl10:(ds++[(⟨r,lg,b⟩:Sp.Qf)]).length+i≤D:=by rw[List.length_append,List.length_singleton];omega
        refine wS ?_
        refine⟨(i,s,ds++[⟨r,lg,b⟩]),⟨by omega,hok10,hl10⟩,by show i+0<i+1+0;omega,?_⟩
        refine toR ?_
        exact .snoc hnt rfl (by simp) (by unfold Zz;rw[Za hnt];rfl)
       ·refine wS ?_
        refine⟨(i,s,ds),⟨by omega,hdk,by show ds.length+i≤D;omega⟩,by show i+0<i+1+0;omega,?_⟩
        exact ZL
    ·refine wS ?_
     have hbg:Zm ⟨Zp z old,rs,ws,ds⟩=0:=Zi7 hrj.check (hrj.err ws ds) (by show ws.length≤4;omega) (by rw[hrj.calls];exact hok) (by show ds.length≤6;omega) (by rw[hrj.calls];exact hdk)
     refine⟨Zg ⟨Zp z old,rs,ws,ds⟩,[XB s],?_,⟨Zp z old,rs,ws,ds⟩,s,⟨⟨hbg,by rw[hrj.calls];exact hrj.row,hbk.1,hbk.2⟩,hrs,hwl,by show(ds.length:Int)≤delays;omega⟩,rfl,rfl⟩
     unfold Zg Zp
     simp only[Za hnt]
     (refine To.of [] ?_;cbv;(try simp only[nc]);(repeat' (first|exact trivial|exact ZI.refl _|exact ZP.refl _|refine⟨?_,?_⟩|refine ZP.cells ?_|refine ZI.agg ?_|refine ZI.tup ?_));(all_goals (first|exact Yt|skip)))
     all_goals exact .none rfl fun _ _=>rfl
set_option maxHeartbeats 4000000
theorem Zks (st a d:Int):SC (fun _=>Tryz.prog) 126 [.int .i64 fun _=>st,.int .i64 fun _=>a,.int .i64 fun _=>d] [] fun v h=>v= .agg (QD (ZcR st a d))∧h=[]:=by
 unfold QD ZcR
 refine SC.less (Qs Tryz.func126 (body:=Zj Tryz.f126) rfl (by decide+kernel) ?_)
 refine wS ?_
 refine⟨_,[],?_,rfl,rfl⟩
 exact ZL
theorem ZsR (a b:Int):SC (fun _=>Tryz.prog) 64 [.int .i64 fun _=>a,.int .i64 fun _=>b] [] fun v h=>v= .agg (Jg ⟨a,b⟩)∧h=[]:=by
 unfold Jg
 refine SC.less (Qs Tryz.func64 (body:=Zj Tryz.f64) rfl (by decide+kernel) ?_)
 refine wS ?_
 refine⟨_,[],?_,rfl,rfl⟩
 exact ZL
theorem Zuf:SC (fun _=>Tryz.prog) 70 [] [] fun v h=>v=XT ZiL∧h=[]:=by
 obtain⟨nt,hnt⟩:=Zr
 unfold XT
 simp only[Za hnt]
 refine SC.less (Qs Tryz.func70 (body:=Zj Tryz.f70) rfl (by decide+kernel) ?_)
 refine wS ?_
 refine⟨_,[],?_,rfl,rfl⟩
 exact ZL
theorem Zu6:SC (fun _=>Tryz.prog) 71 [] [] fun v h=>v=XT ZlS∧h=[]:=by
 obtain⟨nt,hnt⟩:=Zr
 have k:=Zuf
 have h2:ZlS.steps=ZiL.steps.take 2:=rfl
 have e:XT ZlS= .agg [.int .i64 fun _=>0,.int .i64 fun _=>0,.int .i64 fun _=>3,lst 3 XQ default (ZiL.steps.take 2)]:=rfl
 rw[e]
 unfold XT at k
 simp only[Za hnt]at k⊢
 have hlen:ZiL.steps.length=3:=rfl
 generalize ZiL.steps=S at*
 refine SC.less (Qs Tryz.func71 (body:=Zj Tryz.f71) rfl (by decide+kernel) ?_)
 refine wS ?_
 refine ZW (k) (by first|rfl|(simp only[Zc,Zd,Zg,Zb,Za hnt];rfl)) fun r h₂ hp=>?_
 (try simp only[Zc,Zd,Zg,Zb,Za hnt]at hp)
 obtain⟨rfl,rfl⟩:=hp
 refine wS ?_
 refine⟨_,[],?_,rfl,rfl⟩
 refine toR ?_
 refine .isl (by show(2:Int)=((S.take 2).length:Int);rw[List.length_take,hlen];rfl) fun i hi=>?_
 have hi:(i:Int)<2:=hi
 show XQ (nt Sp.Step default S (i:Int))=XQ (nt Sp.Step default (S.take 2) (i:Int))
 rw[hnt,hnt,Int.toNat_natCast,List.getD_eq_getElem?_getD,List.getD_eq_getElem?_getD,List.getElem?_take,if_pos (by omega)]
theorem ZsL (t:Ze) (hf:ZG t) (B0 B1 B2 B3 B4 B5 B6:Nat→Zh) (stop:Nat→Bool)
  (hs:∀i X,sel true [0,1,2,3,4,5,6] [B0 i,B1 i,B2 i,B3 i,B4 i,B5 i,B6 i,X]=[B0 i,B1 i,B2 i,B3 i,B4 i,B5 i,B6 i])
  (hs6:∀i (f0 f1 f2 f3 f4 f5:Unit→Int),sel true [0,1,2,3,4,5,6,7] [B0 i,B1 i,B2 i,B3 i,B4 i,B5 i,B6 i,.cells [.int .i64 f0,.int .i64 f1,.int .i64 f2,.int .i64 f3,.int .i64 f4,.int .i64 f5]]=[B0 i,B1 i,B2 i,B3 i,B4 i,B5 i,B6 i,.cells [.int .i64 f0,.int .i64 f1,.int .i64 f2,.int .i64 f3,.int .i64 f4,.int .i64 f5]])
  (hfr:∀i X,sel false [0,1,2,3,4,5,6] [B0 i,B1 i,B2 i,B3 i,B4 i,B5 i,B6 i,X]=[B0 i,B1 i,B2 i,B3 i,B4 i,B5 i,B6 i])
  (hbk:∀i j X,back [0,1,2,3,4,5,6] [B0 i,B1 i,B2 i,B3 i,B4 i,B5 i,B6 i,X] [B0 j,B1 j,B2 j,B3 j,B4 j,B5 j,B6 j]=[B0 j,B1 j,B2 j,B3 j,B4 j,B5 j,B6 j,X])
  (hy:∀i,i<Z7 t→(∀j,j<i→stop j=false)→YC (fun _=>Tryz.prog) 6 [.agg (XY (Zl t i))] [B0 i,B1 i,B2 i,B3 i,B4 i,B5 i,B6 i] fun v h=>v= .bool (fun _=> !stop i)∧h=[B0 (i+1),B1 (i+1),B2 (i+1),B3 (i+1),B4 (i+1),B5 (i+1),B6 (i+1)])
  (hB:zOk [B0 0,B1 0,B2 0,B3 0,B4 0,B5 0,B6 0]=true:=by rfl):
  SC (fun _=>Tryz.prog) 176 [.yld 6,XW t] [B0 0,B1 0,B2 0,B3 0,B4 0,B5 0,B6 0] fun v h=>∃m,EndAt stop (Z7 t) m∧h=[B0 m,B1 m,B2 m,B3 m,B4 m,B5 m,B6 m]:=by
 obtain⟨nt,hnt⟩:=Zr
 have hfit:=Yd hf
 have hnext:=fun n=> @ZcA t hf n
 have hmany:=Zix hf
 have hd6:=hf.dlen
 have hd0:=Zcz hf
 have hlen3:∀k,k<t.delays.length→lenAt t.delays k≤3:=fun k h=>by
  unfold lenAt
  rw[List.getD_eq_getElem?_getD,List.getElem?_eq_getElem h]
  exact(hf.d _ (List.getElem_mem h)).2.1
 have hnd:∀k:Nat,(nt Sp.Qf default t.delays (k:Int)).by_.length=lenAt t.delays k:=fun k=>by rw[hnt];rfl
 have hbd:∀n k,0≤(Zl t n).getD k 0∧(Zl t n).getD k 0≤3:=fun n k=>by
  by_cases h:k<t.delays.length
  ·have h1:=(hfit n).d k h
   have h2:=hlen3 k h
   unfold lenAt at h2
   omega
  ·have:=Zam (ds:=t.delays) t.delays.length n k (by omega)
   unfold Zl
   omega
 generalize Z7 t=N at*
 generalize Zl t=TA at*
 unfold XW ZU
 simp only[Za hnt,Zb,Zz]
 refine Qs Tryz.func176 (body:=Zj Tryz.f176) rfl (by decide+kernel) ?_ hB
 refine wS ?_
 refine ZV false false [] [0,1,3] [] (fun(i:Nat)=>[]) (fun i=>[(0,B0 i),(1,B1 i),(2,B2 i),(3,B3 i),(4,B4 i),(5,B5 i),(6,B6 i),(7,.cells (XY (TA i)))]) (fun i=>i<N∧∀j,j<i→stop j=false) (fun i=>N-i+0) 0 ⟨by omega,fun j h=>by omega⟩ ?_ ?_
 ·unfold XY
  rw[hd0]
  have hs':=hs6 0 (fun _=>0) (fun _=>0) (fun _=>0) (fun _=>0) (fun _=>0) (fun _=>0)
  cbv at hs'
  simp only[List.cons.injEq,and_true]at hs'
  obtain⟨e0,e1,e2,e3,e4,e5,e6⟩:=hs'
  (refine To.of [] ?_;cbv;(try simp only[nc]);(repeat' (first|exact trivial|exact ZI.refl _|exact ZP.refl _|refine⟨?_,?_⟩|refine ZP.cells ?_|refine ZI.agg ?_|refine ZI.tup ?_));(all_goals (first|exact Yt|skip)))
  all_goals first|(rw[e0];exact ZP.refl _)|(rw[e1];exact ZP.refl _)|(rw[e2];exact ZP.refl _)|(rw[e3];exact ZP.refl _)|(rw[e4];exact ZP.refl _)|(rw[e5];exact ZP.refl _)|(rw[e6];exact ZP.refl _)
 intro i hh
 unfold XY at*
 refine wS ?_
 have hi:=hh.1
 have hno:=hh.2
 have hni:=hnext i hi
 refine YC.frameB [0,1,2,3,4,5,6] (by decide) (by simp) rfl rfl (hfr i _) (hy i hi hno) (hbk i (i+1) _) ?_
 refine wS ?_
 refine⟨fun hst=>?_,fun hst=>?_⟩
 ·have hst:stop i=true:=by simpa using hst
  have hs':=fun X=>hs (i+1) X
  refine wS ?_
  refine⟨i+1,.inr ⟨i,rfl,hi,hst,hno⟩,?_⟩
  have hs':=hs' (.cells [.int .i64 fun _=>(TA i).getD 0 0,.int .i64 fun _=>(TA i).getD 1 0,.int .i64 fun _=>(TA i).getD 2 0,.int .i64 fun _=>(TA i).getD 3 0,.int .i64 fun _=>(TA i).getD 4 0,.int .i64 fun _=>(TA i).getD 5 0])
  cbv at hs'
  simp only[List.cons.injEq,and_true]at hs'⊢
  exact hs'
 have hst:stop i=false:=by simpa using hst
 refine wS ?_
 refine Zah fun Q hQ=>?_
 refine ZV false false [] [0,1,3,4] [] (fun p:Nat×List Int=>[(4,.int .i64 fun _=>(p.1:Int)-1)]) (fun p=>[(7,.cells [.int .i64 fun _=>p.2.getD 0 0,.int .i64 fun _=>p.2.getD 1 0,.int .i64 fun _=>p.2.getD 2 0,.int .i64 fun _=>p.2.getD 3 0,.int .i64 fun _=>p.2.getD 4 0,.int .i64 fun _=>p.2.getD 5 0])])
  (fun p=>p.1≤t.delays.length∧p.2.length=6∧(∀k,0≤p.2.getD k 0∧p.2.getD k 0≤3)∧Sp.stepT t.delays t.delays.length (TA i)=Sp.stepT t.delays p.1 p.2) (fun p=>p.1+0) (t.delays.length,TA i) ⟨Nat.le_refl _,(hfit i).len,hbd i,rfl⟩ ?_ ?_
 ·exact ZL
 intro p hp
 refine vS ?_
 have hm:=hp.1
 have hyl:=hp.2.1
 have hyb:=hp.2.2.1
 have hst2:=hp.2.2.2
 clear hp
 by_cases h0:p.1=0
 ·rw[h0,Sp.stepT]at hst2
  rw[hst2]at hni
  have hend:¬i+1<N:=fun h=>by rw[if_pos h]at hni;cases hni
  refine Chk.mk (Qb) ?_
  refine Br.isF (by show(bif decide (0≤(p.1:Int)-1)then _ else false)=false;rw[decide_eq_false (by omega)];rfl) ?_
  refine wS ?_
  refine hQ _ _ _ ?_
  refine wS ?_
  refine Br.isT (decide_eq_true (by show(p.1:Int)-1<0;omega)) ?_
  refine wS ?_
  have hs':=hs (i+1) (.cells [.int .i64 fun _=>p.2.getD 0 0,.int .i64 fun _=>p.2.getD 1 0,.int .i64 fun _=>p.2.getD 2 0,.int .i64 fun _=>p.2.getD 3 0,.int .i64 fun _=>p.2.getD 4 0,.int .i64 fun _=>p.2.getD 5 0])
  cbv at hs'
  simp only[List.cons.injEq,and_true]at hs'
  refine⟨i+1,.inl ⟨by omega,fun j hj=>?_⟩,?_⟩
  ·by_cases h:j=i
   ·rw[h];exact hst
   ·exact hno j (by omega)
  ·simp only[List.cons.injEq,and_true]
   exact hs'
 obtain⟨k,hk⟩:∃k,p.1=k+1:=⟨p.1-1,by omega⟩
 have e1:=Zet (x:=p.2) (e:=(p.1:Int)-1) (i:=k) (by omega) (by omega)
 have e2:(nt Sp.Qf default t.delays ((p.1:Int)-1)).by_.length=lenAt t.delays k:=by rw[show(p.1:Int)-1=(k:Int) by omega];exact hnd k
 have hl3:=hlen3 k (by omega)
 have hybk:=hyb k
 refine Chk.mk (Qb) ?_
 refine⟨fun h1=>?_,fun h1=>?_⟩
 ·have h1:p.2.getD k 0=(lenAt t.delays k:Int)-1:=by
   rw[decide_eq_true (by omega),e1,e2]at h1
   exact eq_of_beq h1
  rw[hk,Sp.stepT,if_pos h1]at hst2
  refine wS ?_
  refine⟨(k,p.2.set k 0),⟨by show k≤_;omega,by show(p.2.set k 0).length=6;rw[List.length_set];exact hyl,fun j=>?_,hst2⟩,by show k+0<p.1+0;omega,?_⟩
  ·show 0≤(p.2.set k 0).getD j 0∧(p.2.set k 0).getD j 0≤3
   rw[←Z0 (e:=(k:Int)) rfl (by omega)]
   have:=hyb j
   cases decide ((k:Int)=j)
   ·exact this
   ·exact⟨Int.le_refl _,by show(0:Int)≤3;decide⟩
  have g0:=Z0 (x:=p.2) (e:=(p.1:Int)-1) (k:=k) (j:=0) (v:=0) (by omega) (by omega)
  have g1:=Z0 (x:=p.2) (e:=(p.1:Int)-1) (k:=k) (j:=1) (v:=0) (by omega) (by omega)
  have g2:=Z0 (x:=p.2) (e:=(p.1:Int)-1) (k:=k) (j:=2) (v:=0) (by omega) (by omega)
  have g3:=Z0 (x:=p.2) (e:=(p.1:Int)-1) (k:=k) (j:=3) (v:=0) (by omega) (by omega)
  have g4:=Z0 (x:=p.2) (e:=(p.1:Int)-1) (k:=k) (j:=4) (v:=0) (by omega) (by omega)
  have g5:=Z0 (x:=p.2) (e:=(p.1:Int)-1) (k:=k) (j:=5) (v:=0) (by omega) (by omega)
  have hs':=hs6 (i+1) (fun _=>bif decide ((p.1:Int)-1=((0:Nat):Int))then 0 else p.2.getD 0 0) (fun _=>bif decide ((p.1:Int)-1=((1:Nat):Int))then 0 else p.2.getD 1 0) (fun _=>bif decide ((p.1:Int)-1=((2:Nat):Int))then 0 else p.2.getD 2 0) (fun _=>bif decide ((p.1:Int)-1=((3:Nat):Int))then 0 else p.2.getD 3 0) (fun _=>bif decide ((p.1:Int)-1=((4:Nat):Int))then 0 else p.2.getD 4 0) (fun _=>bif decide ((p.1:Int)-1=((5:Nat):Int))then 0 else p.2.getD 5 0)
  cbv at hs'
  simp only[List.cons.injEq,and_true]at hs'
  obtain⟨e3,e4,e5,e6,e7,e8,e9⟩:=hs'
  (refine To.of [] ?_;cbv;(try simp only[nc]);(repeat' (first|exact trivial|exact ZI.refl _|exact ZP.refl _|refine⟨?_,?_⟩|refine ZP.cells ?_|refine ZI.agg ?_|refine ZI.tup ?_));(all_goals (first|exact Yt|skip)))
  all_goals first|(rw[e3];exact ZP.refl _)|(rw[e4];exact ZP.refl _)|(rw[e5];exact ZP.refl _)|(rw[e6];exact ZP.refl _)|(rw[e7];exact ZP.refl _)|(rw[e8];exact ZP.refl _)|(rw[e9];exact ZP.refl _)
 ·have h1:p.2.getD k 0≠(lenAt t.delays k:Int)-1:=by
   rw[decide_eq_true (by omega),e1,e2]at h1
   exact ne_of_beq_false h1
  rw[hk,Sp.stepT,if_neg h1]at hst2
  rw[hst2]at hni
  have hlt:i+1<N:=by
   by_cases h:i+1<N
   ·exact h
   ·rw[if_neg h]at hni;cases hni
  rw[if_pos hlt]at hni
  have hni:=Option.some.inj hni
  refine wS ?_
  refine hQ _ _ _ ?_
  refine wS ?_
  refine Br.isF (decide_eq_false (by show¬(p.1:Int)-1<0;omega)) ?_
  refine vS ?_
  simp only[e1]
  refine Chk.mk (Qb) ?_
  have hs':=hs6 (i+1) (fun _=>bif decide ((p.1:Int)-1=((0:Nat):Int))then p.2.getD k 0+1 else p.2.getD 0 0) (fun _=>bif decide ((p.1:Int)-1=((1:Nat):Int))then p.2.getD k 0+1 else p.2.getD 1 0) (fun _=>bif decide ((p.1:Int)-1=((2:Nat):Int))then p.2.getD k 0+1 else p.2.getD 2 0) (fun _=>bif decide ((p.1:Int)-1=((3:Nat):Int))then p.2.getD k 0+1 else p.2.getD 3 0) (fun _=>bif decide ((p.1:Int)-1=((4:Nat):Int))then p.2.getD k 0+1 else p.2.getD 4 0) (fun _=>bif decide ((p.1:Int)-1=((5:Nat):Int))then p.2.getD k 0+1 else p.2.getD 5 0)
  cbv at hs'
  simp only[List.cons.injEq,and_true]at hs'
  obtain⟨e3,e4,e5,e6,e7,e8,e9⟩:=hs'
  refine⟨i+1,⟨hlt,fun j hj=>?_⟩,by show N-(i+1)+0<N-i+0;omega,?_⟩
  ·by_cases h:j=i
   ·rw[h];exact hst
   ·exact hno j (by omega)
  rw[←hni]
  have g0:=Z0 (x:=p.2) (e:=(p.1:Int)-1) (k:=k) (j:=0) (v:=p.2.getD k 0+1) (by omega) (by omega)
  have g1:=Z0 (x:=p.2) (e:=(p.1:Int)-1) (k:=k) (j:=1) (v:=p.2.getD k 0+1) (by omega) (by omega)
  have g2:=Z0 (x:=p.2) (e:=(p.1:Int)-1) (k:=k) (j:=2) (v:=p.2.getD k 0+1) (by omega) (by omega)
  have g3:=Z0 (x:=p.2) (e:=(p.1:Int)-1) (k:=k) (j:=3) (v:=p.2.getD k 0+1) (by omega) (by omega)
  have g4:=Z0 (x:=p.2) (e:=(p.1:Int)-1) (k:=k) (j:=4) (v:=p.2.getD k 0+1) (by omega) (by omega)
  have g5:=Z0 (x:=p.2) (e:=(p.1:Int)-1) (k:=k) (j:=5) (v:=p.2.getD k 0+1) (by omega) (by omega)
  (refine To.of [] ?_;cbv;(try simp only[nc]);(repeat' (first|exact trivial|exact ZI.refl _|exact ZP.refl _|refine⟨?_,?_⟩|refine ZP.cells ?_|refine ZI.agg ?_|refine ZI.tup ?_));(all_goals (first|exact Yt|skip)))
  all_goals first|(rw[e3];exact ZP.refl _)|(rw[e4];exact ZP.refl _)|(rw[e5];exact ZP.refl _)|(rw[e6];exact ZP.refl _)|(rw[e7];exact ZP.refl _)|(rw[e8];exact ZP.refl _)|(rw[e9];exact ZP.refl _)
theorem ZqR (t:Ze) (hf:ZG t) (B0 B1 B2 B3 B4 B5 B6:Nat→Zh) (stop:Nat→Bool)
  (h0:∀i,Qt 7 (B0 i)) (h1:∀i,Qt 7 (B1 i)) (h2:∀i,Qt 7 (B2 i)) (h3:∀i,Qt 7 (B3 i)) (h4:∀i,Qt 7 (B4 i)) (h5:∀i,Qt 7 (B5 i)) (h6:∀i,Qt 7 (B6 i))
  (hy:∀i,i<Z7 t→(∀j,j<i→stop j=false)→YC (fun _=>Tryz.prog) 6 [.agg (XY (Zl t i))] [B0 i,B1 i,B2 i,B3 i,B4 i,B5 i,B6 i] fun v h=>v= .bool (fun _=> !stop i)∧h=[B0 (i+1),B1 (i+1),B2 (i+1),B3 (i+1),B4 (i+1),B5 (i+1),B6 (i+1)]):
  SC (fun _=>Tryz.prog) 176 [.yld 6,XW t] [B0 0,B1 0,B2 0,B3 0,B4 0,B5 0,B6 0] fun v h=>∃m,EndAt stop (Z7 t) m∧h=[B0 m,B1 m,B2 m,B3 m,B4 m,B5 m,B6 m]:=by
 have p6:∀j,j<7→Qk j [0,1,2,3,4,5,6] 0=some j:=by decide
 have p7:∀j,j<7→Qk j [0,1,2,3,4,5,6,7] 0=some j:=by decide
 have f7:∀j,j<7→YK [0,1,2,3,4,5,6] 8 j=j:=by decide
 refine ZsL t hf B0 B1 B2 B3 B4 B5 B6 stop (fun i X=>?_) (fun i f0 f1 f2 f3 f4 f5=>?_) (fun i X=>?_) (fun i j X=>?_) hy (Zc7 fun b hb=>?_)
 ·show [ZN true _ _ (B0 i),ZN true _ _ (B1 i),ZN true _ _ (B2 i),ZN true _ _ (B3 i),ZN true _ _ (B4 i),ZN true _ _ (B5 i),ZN true _ _ (B6 i)]=_
  rw[(h0 i).s _ _ _ p6,(h1 i).s _ _ _ p6,(h2 i).s _ _ _ p6,(h3 i).s _ _ _ p6,(h4 i).s _ _ _ p6,(h5 i).s _ _ _ p6,(h6 i).s _ _ _ p6]
 ·show [ZN true _ _ (B0 i),ZN true _ _ (B1 i),ZN true _ _ (B2 i),ZN true _ _ (B3 i),ZN true _ _ (B4 i),ZN true _ _ (B5 i),ZN true _ _ (B6 i),_]=_
  rw[(h0 i).s _ _ _ p7,(h1 i).s _ _ _ p7,(h2 i).s _ _ _ p7,(h3 i).s _ _ _ p7,(h4 i).s _ _ _ p7,(h5 i).s _ _ _ p7,(h6 i).s _ _ _ p7]
  rfl
 ·show [ZN false _ _ (B0 i),ZN false _ _ (B1 i),ZN false _ _ (B2 i),ZN false _ _ (B3 i),ZN false _ _ (B4 i),ZN false _ _ (B5 i),ZN false _ _ (B6 i)]=_
  rw[(h0 i).s _ _ _ p6,(h1 i).s _ _ _ p6,(h2 i).s _ _ _ p6,(h3 i).s _ _ _ p6,(h4 i).s _ _ _ p6,(h5 i).s _ _ _ p6,(h6 i).s _ _ _ p6]
 ·show [Q6 (YK [0,1,2,3,4,5,6] 8) (B0 j),Q6 (YK [0,1,2,3,4,5,6] 8) (B1 j),Q6 (YK [0,1,2,3,4,5,6] 8) (B2 j),Q6 (YK [0,1,2,3,4,5,6] 8) (B3 j),Q6 (YK [0,1,2,3,4,5,6] 8) (B4 j),Q6 (YK [0,1,2,3,4,5,6] 8) (B5 j),Q6 (YK [0,1,2,3,4,5,6] 8) (B6 j),X]=_
  rw[(h0 j).r _ f7,(h1 j).r _ f7,(h2 j).r _ f7,(h3 j).r _ f7,(h4 j).r _ f7,(h5 j).r _ f7,(h6 j).r _ f7]
 ·simp only[List.mem_cons,List.not_mem_nil,or_false]at hb
  rcases hb with rfl|rfl|rfl|rfl|rfl|rfl|rfl
  ·exact(h0 0).z
  ·exact(h1 0).z
  ·exact(h2 0).z
  ·exact(h3 0).z
  ·exact(h4 0).z
  ·exact(h5 0).z
  ·exact(h6 0).z
theorem ZsM (t:Ze) (hf:ZG t) (B0 B1 B2 B3 B4:Nat→Zh) (stop:Nat→Bool)
  (h0:∀i,Qt 5 (B0 i)) (h1:∀i,Qt 5 (B1 i)) (h2:∀i,Qt 5 (B2 i)) (h3:∀i,Qt 5 (B3 i)) (h4:∀i,Qt 5 (B4 i))
  (hy:∀i,i<Z7 t→(∀j,j<i→stop j=false)→YC (fun _=>Tryz.prog) 4 [.agg (XY (Zl t i)),.imap 2 3 fun _=>Qg t (Zl t i)] [B0 i,B1 i,B2 i,B3 i,B4 i] fun v h=>v= .bool (fun _=> !stop i)∧h=[B0 (i+1),B1 (i+1),B2 (i+1),B3 (i+1),B4 (i+1)]):
  SC (fun _=>Tryz.prog) 135 [.yld 4,XW t] [B0 0,B1 0,B2 0,B3 0,B4 0] fun v h=>∃m,EndAt stop (Z7 t) m∧h=[B0 m,B1 m,B2 m,B3 m,B4 m]:=by
 obtain⟨nt,hnt⟩:=Zr
 have p4:∀j,j<5→Qk j [0,1,2,3,4] 0=some j:=by decide
 have p5:∀j,j<5→Qk j [0,1,2,3,4,5] 0=some j:=by decide
 have p6:∀j,j<5→Qk j [0,1,2,3,4,5,6] 0=some j:=by decide
 have f7:∀j,j<5→YK [0,1,2,3,4] 8 j=j:=by decide
 have hfr:∀i X4 X5 X6,sel false [0,1,2,3,4] [B0 i,B1 i,B2 i,B3 i,B4 i,X4,X5,X6]=[B0 i,B1 i,B2 i,B3 i,B4 i]:=fun i X4 X5 X6=>by
  show [ZN false _ _ (B0 i),ZN false _ _ (B1 i),ZN false _ _ (B2 i),ZN false _ _ (B3 i),ZN false _ _ (B4 i)]=_
  rw[(h0 i).s _ _ _ p4,(h1 i).s _ _ _ p4,(h2 i).s _ _ _ p4,(h3 i).s _ _ _ p4,(h4 i).s _ _ _ p4]
 have hbk:∀i j X4 X5 X6,back [0,1,2,3,4] [B0 i,B1 i,B2 i,B3 i,B4 i,X4,X5,X6] [B0 j,B1 j,B2 j,B3 j,B4 j]=[B0 j,B1 j,B2 j,B3 j,B4 j,X4,X5,X6]:=fun i j X4 X5 X6=>by
  show [Q6 (YK [0,1,2,3,4] 8) (B0 j),Q6 (YK [0,1,2,3,4] 8) (B1 j),Q6 (YK [0,1,2,3,4] 8) (B2 j),Q6 (YK [0,1,2,3,4] 8) (B3 j),Q6 (YK [0,1,2,3,4] 8) (B4 j),X4,X5,X6]=_
  rw[(h0 j).r _ f7,(h1 j).r _ f7,(h2 j).r _ f7,(h3 j).r _ f7,(h4 j).r _ f7]
 have e5:∀m L,sel true (List.range 6) [B0 m,B1 m,B2 m,B3 m,B4 m,.cells [.yld 4],L]=[B0 m,B1 m,B2 m,B3 m,B4 m,.cells [.yld 4]]:=fun m L=>by
  show [ZN true [0,1,2,3,4,5] _ (B0 m),ZN true [0,1,2,3,4,5] _ (B1 m),ZN true [0,1,2,3,4,5] _ (B2 m),ZN true [0,1,2,3,4,5] _ (B3 m),ZN true [0,1,2,3,4,5] _ (B4 m),_]=_
  rw[(h0 m).s _ _ _ p5,(h1 m).s _ _ _ p5,(h2 m).s _ _ _ p5,(h3 m).s _ _ _ p5,(h4 m).s _ _ _ p5]
  rfl
 have hz:zOk [B0 0,B1 0,B2 0,B3 0,B4 0]=true:=Zc7 fun b hb=>by
  simp only[List.mem_cons,List.not_mem_nil,or_false]at hb
  rcases hb with rfl|rfl|rfl|rfl|rfl
  ·exact(h0 0).z
  ·exact(h1 0).z
  ·exact(h2 0).z
  ·exact(h3 0).z
  ·exact(h4 0).z
 have hz6:∀i a s d,zOk [B0 i,B1 i,B2 i,B3 i,B4 i,.cells a,.loop s d]=true:=fun i a s d=>Zc7 fun b hb=>by
  simp only[List.mem_cons,List.not_mem_nil,or_false]at hb
  rcases hb with rfl|rfl|rfl|rfl|rfl|rfl|rfl
  ·exact(h0 i).z
  ·exact(h1 i).z
  ·exact(h2 i).z
  ·exact(h3 i).z
  ·exact(h4 i).z
  ·rfl
  ·rfl
 have k436:=Zt7 t
 have k476:=fun s ps a x g4 g5=>ZqR t hf B0 B1 B2 B3 B4 (fun _=>.cells [.yld 4]) (fun m=>.loop s ⟨ps,a,x,bif QA stop m then .done else .ready,bif QA stop m then some .ret else none⟩) stop (fun i=>(h0 i).mono (by decide)) (fun i=>(h1 i).mono (by decide)) (fun i=>(h2 i).mono (by decide)) (fun i=>(h3 i).mono (by decide)) (fun i=>(h4 i).mono (by decide)) g4 g5
 have k437:=fun i=>Zt6 t (Zl t i) hf (Yd hf i)
 generalize Zl t=TA at*
 generalize Qg t=HL at*
 generalize Z7 t=N at*
 unfold XW ZU XY at*
 simp only[Za hnt,Zb,Zz]at*
 refine Qs Tryz.func135 (body:=Zj Tryz.f135) rfl (by decide+kernel) ?_ hz
 refine wS ?_
 refine ZW (k436) (by first|rfl|(simp only[Zc,Zd,Zg,Zb,Za hnt];rfl)) fun r h₂ hp=>?_
 (try simp only[Zc,Zd,Zg,Zb,Za hnt]at hp)
 obtain⟨rfl,rfl⟩:=hp
 refine wS ?_
 refine Zn6 (fid:=176) (first:=[]) rfl XL ?_
 refine SC.mono (k476 _ _ _ _ ?_ ?_ ?_) ?_
 ·exact fun i=>⟨fun fz ι h hp=>by simp only[ZN,Qr,List.map,hp 4 (by decide)],fun φ hp=>by simp only[Q6,ren,List.map,hp 4 (by decide)],rfl⟩
 ·exact fun i=>⟨fun fz ι h hp=>by simp only[ZN,Qr,List.map,hp 4 (by decide),hp 5 (by decide)],fun φ hp=>by simp only[Q6,ren,List.map,hp 4 (by decide),hp 5 (by decide)],rfl⟩
 ·intro i hi hno
  have hst:QA stop i=false:=by
   cases i with
   |zero=>rfl
   |succ j=>exact hno j (by omega)
  simp only[hst,cond_false]
  refine YC.less (Zck false false [] rfl rfl ?_ (hz6 i _ _ _))
  refine wS ?_
  refine ZW (k437 i) (by first|rfl|(simp only[Zc,Zd,Zg,Zb,Za hnt];rfl)) fun r h₂ hp=>?_
  (try simp only[Zc,Zd,Zg,Zb,Za hnt]at hp)
  obtain⟨rfl,rfl⟩:=hp
  refine wS ?_
  refine YC.frameB [0,1,2,3,4] (by decide) (by simp) rfl rfl (hfr i _ _ _) (hy i hi hno) (hbk i (i+1) _ _ _) ?_
  refine wS ?_
  refine⟨fun hb=>?_,fun hb=>?_⟩
  ·have hb:stop i=true:=by simpa using hb
   have hb2:QA stop (i+1)=true:=hb
   refine wS ?_
   simp only[hb2,cond_true]
   refine⟨.bool fun _=> !stop i,_,?_,rfl,rfl⟩
   (refine To.of [] ?_;cbv;(try simp only[nc]);(repeat' (first|exact trivial|exact ZI.refl _|exact ZP.refl _|refine⟨?_,?_⟩|refine ZP.cells ?_|refine ZI.agg ?_|refine ZI.tup ?_));(all_goals (first|exact Yt|skip)))
   all_goals first|exact .bool (by rw[hb];rfl)|exact(h0 _).wk p6|exact(h1 _).wk p6|exact(h2 _).wk p6|exact(h3 _).wk p6|exact(h4 _).wk p6
  ·have hb:stop i=false:=by simpa using hb
   have hb2:QA stop (i+1)=false:=hb
   refine wS ?_
   simp only[hb2,cond_false]
   refine⟨.bool fun _=> !stop i,_,?_,rfl,rfl⟩
   (refine To.of [] ?_;cbv;(try simp only[nc]);(repeat' (first|exact trivial|exact ZI.refl _|exact ZP.refl _|refine⟨?_,?_⟩|refine ZP.cells ?_|refine ZI.agg ?_|refine ZI.tup ?_));(all_goals (first|exact Yt|skip)))
   all_goals first|exact .bool (by rw[hb];rfl)|exact(h0 _).wk p6|exact(h1 _).wk p6|exact(h2 _).wk p6|exact(h3 _).wk p6|exact(h4 _).wk p6
 ·intro v h hh
  obtain⟨m,hm,rfl⟩:=hh
  rcases hm with⟨hm,hno⟩|⟨j,hm,hj,hst,hno⟩
  ·have hst:QA stop m=false:=by
    cases m with
    |zero=>rfl
    |succ j=>exact hno j (by omega)
   simp only[hst,cond_false]
   refine Zgx rfl rfl rfl (e5 m _) ?_
   refine wS ?_
   refine⟨m,.inl ⟨hm,hno⟩,?_⟩
   show [ZN true [0,1,2,3,4] _ (B0 m),ZN true [0,1,2,3,4] _ (B1 m),ZN true [0,1,2,3,4] _ (B2 m),ZN true [0,1,2,3,4] _ (B3 m),ZN true [0,1,2,3,4] _ (B4 m)]=_
   rw[(h0 m).s _ _ _ p4,(h1 m).s _ _ _ p4,(h2 m).s _ _ _ p4,(h3 m).s _ _ _ p4,(h4 m).s _ _ _ p4]
  ·have hst2:QA stop m=true:=by rw[hm];exact hst
   simp only[hst2,cond_true]
   refine Zgw rfl rfl rfl (e5 m _) ?_
   refine wS ?_
   refine⟨m,.inr ⟨j,hm,hj,hst,hno⟩,?_⟩
   show [ZN true [0,1,2,3,4] _ (B0 m),ZN true [0,1,2,3,4] _ (B1 m),ZN true [0,1,2,3,4] _ (B2 m),ZN true [0,1,2,3,4] _ (B3 m),ZN true [0,1,2,3,4] _ (B4 m)]=_
   rw[(h0 m).s _ _ _ p4,(h1 m).s _ _ _ p4,(h2 m).s _ _ _ p4,(h3 m).s _ _ _ p4,(h4 m).s _ _ _ p4]
theorem Zuy (M:Nat→Bool) {i:Nat} (hi:i<4):Zih [fun _=>M 0,fun _=>M 1,fun _=>M 2,fun _=>M 3] (i:Int)=M i:=by
 match i,hi with
 |0,_=>rfl
 |1,_=>rfl
 |2,_=>rfl
 |3,_=>rfl
theorem Zva (t:Ze) (d:Int) (hf:Xj t):SC (fun _=>Tryz.prog) 41 [Zg t,.int .i64 fun _=>d] [] fun v h=>
  v= .tup [lst 1 XJ 0 (ZaV t d).1,.int .i64 fun _=>(ZaV t d).2]∧h=[]:=by
 obtain⟨nt,hnt⟩:=Zr
 have k:=ZoW t hf
 have hdl:=hf.delays
 have k1:=ZbD d 0 ((t.delays.length:Int)-1)
 by_cases he:Zm t=0
 ·have hw:=Q1 he
  have k382:=ZqU t
  have k4:=fun B0 B1 B2 B3 B4 stop=>ZsM t hw B0 B1 B2 B3 B4 stop
  have k5:=fun B0 B1 B2 B3 B4 B5 stop=>ZqS t hw B0 B1 B2 B3 B4 B5 stop
  obtain⟨F,hF0,hFS⟩:∃F:Nat→List (List Int×List (List Int×List Int)),F 0=[]∧∀i,F (i+1)=if(Zl t i).getD d.toNat 0=0 then Y1 (F i) (Sp.keyT (Zl t i)) (Qg t (Zl t i))else F i:=⟨J2 t d.toNat,rfl,fun _=>rfl⟩
  have hd6:=hw.dlen
  have hsix:=fun i (h:d.toNat<6)=> @Zss (Zl t i) d.toNat (XR _ _) h
  have hmn:=fun i h r=> @ZjJ t d.toNat i h r
  have hcvn:=fun L W r=> @ZqN L W r
  have hcvs:=fun L W S e he hn r=> @ZoM L W S e he hn r
  have hkeys:=fun x=> @ZiI t x
  have hkey2:=fun x p hp=> @ZiJ t hw x p hp
  have hhe:∀W p,Zj5 W p=(p.2.headD 0 !=((W.lookup p.1).getD []).headD 0||p.2.tail.tail.headD 0 !=((W.lookup p.1).getD []).tail.tail.headD 0):=fun _ _=>rfl
  have hcva:=fun i h0 S hS r=> @ZqO t d.toNat i h0 S hS r
  have hTl:∀i,(Zl t i).length=6:=fun i=>XR _ _
  obtain⟨MV,hMV0,hMVS⟩:∃M:Nat→Nat→Bool,(∀r,M 0 r=false)∧∀i r,M (i+1) r=(M i r||ZaD t d.toNat i r):=⟨Zew t d.toNat,fun _=>rfl,fun _ _=>rfl⟩
  have hML:Zfa t d.toNat=((List.range 4).filter fun r=>MV (Z7 t) r).map fun(r:Nat)=>(r:Int):=by
   have e:∀n r,MV n r=Zew t d.toNat n r:=fun n=>by
    induction n with
    |zero=>intro r;rw[hMV0];rfl
    |succ n ih=>intro r;rw[hMVS,ih];rfl
   unfold Zfa
   simp only[e]
  have hFl:∀i,d.toNat<t.delays.length→(F (Z7 t)).lookup (Sp.keyT ((Zl t i).set d.toNat 0))=some (Qg t ((Zl t i).set d.toNat 0)):=fun i hd=>by
   have e:∀n,F n=J2 t d.toNat n:=fun n=>by
    induction n with
    |zero=>exact hF0
    |succ n ih=>rw[hFS,J2,ih]
   rw[e]
   exact ZlU hw hd
  have hE:ZaV t d=if QB d 0 ((t.delays.length:Int)-1)then([],3)else(Zfa t d.toNat,0):=by
   unfold ZaV
   rw[if_neg (fun h=>h he)]
  unfold Qz at k
  rw[if_pos he,he]at k
  generalize ZaV t d=BE at*
  generalize hcv:cvE=CV at*
  generalize hhit:Zj5=HIT at*
  generalize ZaD t d.toNat=MI at*
  generalize Zl t=TA at*
  generalize Qg t=HL at*
  unfold XW ZU Zg XY Sp.keyT at*
  simp only[Za hnt,Zb,Zz]at*
  refine SC.less (Qs Tryz.func41 (body:=Zj Tryz.f41) rfl (by decide+kernel) ?_)
  refine wS ?_
  refine ZoY (k) ?_
  refine wS ?_
  refine Br.isF rfl ?_
  refine wS ?_
  refine ZoY (k1) ?_
  refine wS ?_
  refine⟨fun h=>?_,fun h=>?_⟩
  ·rw[if_pos h]at hE
   subst hE
   refine wS ?_
   refine⟨_,[],?_,rfl,rfl⟩
   exact ZL
  have hb:=Xg h
  rw[if_neg (by rw[h];exact Bool.false_ne_true)]at hE
  have hsel:=fun i=> @Zet (TA i) d d.toNat (by omega) (by omega)
  refine wS ?_
  refine ZoY (k382) ?_
  refine wS ?_
  refine Ze1 [3,6,8,37] [] [(2,.gob (.mapM 6 2 3 fun _=>F 0))] (fid:=135) (first:=[]) ?_ rfl ?_ ?_
  ·rw[hF0]
   exact ZL
  ·exact XL
  refine SC.mono (k4 (fun _=>_) (fun _=>_) (fun i=>.gob (.mapM 6 2 3 fun _=>F i)) (fun _=>_) (fun _=>_) (fun _=>false) ?_ ?_ ?_ ?_ ?_ ?_) ?_
  iterate 5 exact fun i=>Qt.of rfl
  ·intro i hi hno
   have hFi:=hFS i
   have hsi:=hsel i
   refine YC.less (Zck false false [] rfl rfl ?_)
   refine vS ?_
   simp only[hsi]
   refine Chk.mk (Qb) ?_
   refine⟨fun h2=>?_,fun h2=>?_⟩
   ·have h2:=eq_of_beq h2
    rw[if_pos h2]at hFi
    refine wS ?_
    refine⟨.bool fun _=>true,_,?_,rfl,rfl⟩
    rw[hFi]
    exact ZL
   ·have h2:=ne_of_beq_false h2
    rw[if_neg h2]at hFi
    refine wS ?_
    refine⟨.bool fun _=>true,_,?_,rfl,rfl⟩
    rw[hFi]
    exact ZL
  ·intro v h hh
   obtain⟨m,hm,rfl⟩:=hh
   have hmN:m=Z7 t:=by
    rcases hm with h|⟨_,_,_,h,_⟩
    ·exact h.1
    ·cases h
   have hFat:=fun i=>hFl i
   rw[←hmN]at hFat
   refine wS ?_
   refine ZoY (k382) ?_
   refine wS ?_
   refine Ze1 [3,8,11,48] [] [(4,.cells [.bool fun _=>MV 0 0,.bool fun _=>MV 0 1,.bool fun _=>MV 0 2,.bool fun _=>MV 0 3])] (fid:=135) (first:=[]) ?_ rfl ?_ ?_
   ·(refine To.of [] ?_;cbv;(try simp only[nc]);(repeat' (first|exact trivial|exact ZI.refl _|exact ZP.refl _|refine⟨?_,?_⟩|refine ZP.cells ?_|refine ZI.agg ?_|refine ZI.tup ?_));(all_goals (first|exact Yt|skip)))
    all_goals exact .bool (by rw[hMV0])
   ·exact XL
   refine SC.mono (k5 (fun _=>_) (fun _=>_) (fun _=>_) (fun _=>_) (fun i=>.cells [.bool fun _=>MV i 0,.bool fun _=>MV i 1,.bool fun _=>MV i 2,.bool fun _=>MV i 3]) (fun _=>_) (fun _=>false) ?_ ?_ ?_ ?_ ?_ ?_ ?_) ?_
   iterate 6 exact fun i=>Qt.of rfl
   ·intro i hi hno
    have hMi:=hMVS i
    have g0:=Z0 (x:=TA i) (e:=d) (k:=d.toNat) (j:=0) (v:=0) (by omega) (by rw[hTl];omega)
    have g1:=Z0 (x:=TA i) (e:=d) (k:=d.toNat) (j:=1) (v:=0) (by omega) (by rw[hTl];omega)
    have g2:=Z0 (x:=TA i) (e:=d) (k:=d.toNat) (j:=2) (v:=0) (by omega) (by rw[hTl];omega)
    have g3:=Z0 (x:=TA i) (e:=d) (k:=d.toNat) (j:=3) (v:=0) (by omega) (by rw[hTl];omega)
    have g4:=Z0 (x:=TA i) (e:=d) (k:=d.toNat) (j:=4) (v:=0) (by omega) (by rw[hTl];omega)
    have g5:=Z0 (x:=TA i) (e:=d) (k:=d.toNat) (j:=5) (v:=0) (by omega) (by rw[hTl];omega)
    refine YC.less (Zck false false [] rfl rfl ?_)
    refine vS ?_
    simp only[g0,g1,g2,g3,g4,g5]
    refine Chk.mk (Qb) ?_
    have hsi:=hsix i (by omega)
    refine⟨fun h2=>?_,fun h2=>?_⟩
    ·have h2:(TA i).getD d.toNat 0=0:=of_decide_eq_true (hsi.symm.trans h2)
     have hm0:=hmn i h2
     simp only[hm0,Bool.or_false]at hMi
     refine wS ?_
     refine⟨.bool fun _=>true,_,?_,rfl,rfl⟩
     (refine To.of [] ?_;cbv;(try simp only[nc]);(repeat' (first|exact trivial|exact ZI.refl _|exact ZP.refl _|refine⟨?_,?_⟩|refine ZP.cells ?_|refine ZI.agg ?_|refine ZI.tup ?_));(all_goals (first|exact Yt|skip)))
     all_goals exact .bool (by rw[hMi])
    have h2:(TA i).getD d.toNat 0≠0:=of_decide_eq_false (hsi.symm.trans h2)
    refine wS ?_
    refine Zr2 false false [] [3,8,11,14,49,50,58] [] (fun _:List (List Int)×List Int×List Int=>[]) (fun p=>[(4,.cells [.bool fun _=>MV i 0||CV (HL (TA i)) (HL ((TA i).set d.toNat 0)) p.1 0,.bool fun _=>MV i 1||CV (HL (TA i)) (HL ((TA i).set d.toNat 0)) p.1 1,.bool fun _=>MV i 2||CV (HL (TA i)) (HL ((TA i).set d.toNat 0)) p.1 2,.bool fun _=>MV i 3||CV (HL (TA i)) (HL ((TA i).set d.toNat 0)) p.1 3]),(8,.gob (.mapIt 2 3 (fun _=>HL (TA i)) (fun _=>p.1) fun _=>p.2))])
     (fun _=>True) (fun p=>((HL (TA i)).filter fun q=> !p.1.contains q.1).length+0) ([],[],[]) trivial ?_ ?_
    ·(refine To.of [] ?_;cbv;(try simp only[nc]);(repeat' (first|exact trivial|exact ZI.refl _|exact ZP.refl _|refine⟨?_,?_⟩|refine ZP.cells ?_|refine ZI.agg ?_|refine ZI.tup ?_));(all_goals (first|exact Yt|skip)))
     all_goals exact .bool (by rw[hcvn,Bool.or_false])
    intro p _
    refine wS ?_
    have hkx:=hkeys (TA i)
    have hFx:=hFat i (by omega)
    refine NC.next rfl (fun hall=>?_) fun e heL hns=>?_
    ·have hM:∀r,MV (i+1) r=(MV i r||CV (HL (TA i)) (HL ((TA i).set d.toNat 0)) p.1 r):=fun r=>by rw[hMi r,hcva i h2 p.1 hall r]
     refine wS ?_
     refine Br.isF rfl ?_
     refine wS ?_
     refine⟨.bool fun _=>true,_,?_,rfl,rfl⟩
     (refine To.of [] ?_;cbv;(try simp only[nc]);(repeat' (first|exact trivial|exact ZI.refl _|exact ZP.refl _|refine⟨?_,?_⟩|refine ZP.cells ?_|refine ZI.agg ?_|refine ZI.tup ?_));(all_goals (first|exact Yt|skip)))
     all_goals exact .bool (by rw[hM])
    have hke:=hkey2 (TA i) e heL
    have hst:=hcvs (HL (TA i)) (HL ((TA i).set d.toNat 0)) p.1 e heL hkx
    refine wS ?_
    refine Br.isT rfl ?_
    refine vS ?_
    simp only[g0,g1,g2,g3,g4,g5,hFx,Option.getD_some,hke.1]
    refine Chk.mk (by(try simp only[nc,QY,QX,Xd,QW,Cn.p,and_true,true_and,decide_eq_true_eq,imp_self,List.length_cons,List.length_nil]);(repeat' (first|apply And.intro|intro _))<;>first|omega|assumption|exact nb1 (by assumption)|exact nb2 (by assumption)|exact nb3 (by assumption)|exact nb4 (by assumption)|(simp;done)|rfl|exact Or.inl rfl|decide+kernel|(exfalso;rename_i hx;exact absurd hx (by simp))|skip) ?_
    have hcnd:(bif e.2.headD 0 !=((List.lookup e.1 (HL ((TA i).set d.toNat 0))).getD []).headD 0 then true else e.2.tail.tail.headD 0 !=((List.lookup e.1 (HL ((TA i).set d.toNat 0))).getD []).tail.tail.headD 0)=HIT (HL ((TA i).set d.toNat 0)) e:=by
     rw[hhe]
     cases (e.2.headD 0 !=((List.lookup e.1 (HL ((TA i).set d.toNat 0))).getD []).headD 0)<;>rfl
    refine⟨fun h3=>?_,fun h3=>?_⟩
    ·have hh:=hcnd.symm.trans h3
     have hst2:∀k:Nat,(bif decide (e.1.headD 0=(k:Int))then true else(MV i k||CV (HL (TA i)) (HL ((TA i).set d.toNat 0)) p.1 k))=(MV i k||CV (HL (TA i)) (HL ((TA i).set d.toNat 0)) (p.1++[e.1]) k):=fun k=>by
      rw[hst k,hh]
      by_cases h:e.1.headD 0=(k:Int)
      ·rw[decide_eq_true h,h]
       simp
      ·rw[decide_eq_false h,show(e.1.headD 0==(k:Int))=false by simpa using h]
       show(MV i k||CV (HL (TA i)) (HL ((TA i).set d.toNat 0)) p.1 k)=(MV i k||(CV (HL (TA i)) (HL ((TA i).set d.toNat 0)) p.1 k||false))
       rw[Bool.or_false]
     refine vS ?_
     refine Chk.mk (Qb) ?_
     refine⟨(p.1++[e.1],e),trivial,by show(List.filter _ _).length+0<(List.filter _ _).length+0;exact ZkP heL hns,?_⟩
     (refine To.of [] ?_;cbv;(try simp only[nc]);(repeat' (first|exact trivial|exact ZI.refl _|exact ZP.refl _|refine⟨?_,?_⟩|refine ZP.cells ?_|refine ZI.agg ?_|refine ZI.tup ?_));(all_goals (first|exact Yt|skip)))
     all_goals exact .bool (hst2 _)
    ·have hh:=hcnd.symm.trans h3
     have hst2:∀k:Nat,(MV i k||CV (HL (TA i)) (HL ((TA i).set d.toNat 0)) p.1 k)=(MV i k||CV (HL (TA i)) (HL ((TA i).set d.toNat 0)) (p.1++[e.1]) k):=fun k=>by
      rw[hst k,hh,Bool.and_false,Bool.or_false]
     refine wS ?_
     refine⟨(p.1++[e.1],e),trivial,by show(List.filter _ _).length+0<(List.filter _ _).length+0;exact ZkP heL hns,?_⟩
     (refine To.of [] ?_;cbv;(try simp only[nc]);(repeat' (first|exact trivial|exact ZI.refl _|exact ZP.refl _|refine⟨?_,?_⟩|refine ZP.cells ?_|refine ZI.agg ?_|refine ZI.tup ?_));(all_goals (first|exact Yt|skip)))
     all_goals exact .bool (hst2 _)
   ·intro v h hh
    obtain⟨m2,hm2,rfl⟩:=hh
    have hm2N:m2=Z7 t:=by
     rcases hm2 with h|⟨_,_,_,h,_⟩
     ·exact h.1
     ·cases h
    rw[←hm2N]at hML
    generalize Zfa t d.toNat=ML at*
    refine wS ?_
    refine ZV false false [] [18,84,85] [.tok 1 fun _=>0] (fun p:Nat×List Int=>[(85,.int .i64 fun _=>(p.1:Int)),(18,.isl 1 (fun _=>(p.2.length:Int)) (fun e=>XJ (nt Int 0 p.2 (e ()))) (.own 5))]) (fun p=>[(5,.tok 1 fun _=>(p.2.length:Int))])
     (fun p=>p.1≤4∧p.2.length≤p.1∧p.2=((List.range p.1).filter fun r=>MV m2 r).map fun(r:Nat)=>(r:Int)) (fun p=>4-p.1+0) (0,[]) ⟨Nat.zero_le _,Nat.le_refl _,rfl⟩ ?_ ?_
    ·(refine To.of [(1,false)] ?_;cbv;(try simp only[nc]);(repeat' (first|exact trivial|exact ZI.refl _|exact ZP.refl _|refine⟨?_,?_⟩|refine ZP.cells ?_|refine ZI.agg ?_|refine ZI.tup ?_));(all_goals (first|exact Yt|skip)))
    intro p hp
    refine wS ?_
    refine⟨fun h1=>?_,fun h1=>?_⟩
    ·simp only[decide_eq_true_eq]at h1
     have hlt:p.1<4:=by omega
     have hp2:=hp.2.2
     have hsucc:= @List.range_succ p.1
     have hlen:=hp.2.1
     have hsb:=Zuy (fun r=>MV m2 r) (i:=p.1) hlt
     refine vS ?_
     simp only[hsb]
     try refine Chk.mk (Qb) ?_
     refine⟨fun h3=>?_,fun h3=>?_⟩
     ·refine wS ?_
      refine⟨(p.1+1,p.2++[(p.1:Int)]),⟨by show p.1+1≤4;omega,by show(p.2++[(p.1:Int)]).length≤p.1+1;rw[List.length_append];show p.2.length+1≤_;omega,?_⟩,by show 4-(p.1+1)+0<4-p.1+0;omega,?_⟩
      ·show p.2++[(p.1:Int)]=_
       rw[hsucc,List.filter_append,List.map_append,←hp2]
       simp[h3]
      exact ZL
     ·refine wS ?_
      refine⟨(p.1+1,p.2),⟨by show p.1+1≤4;omega,by show p.2.length≤p.1+1;omega,?_⟩,by show 4-(p.1+1)+0<4-p.1+0;omega,?_⟩
      ·show p.2=_
       rw[hsucc,List.filter_append,List.map_append,←hp2]
       simp[h3]
      exact ZL
    ·simp only[decide_eq_false_iff_not]at h1
     have h4:p.1=4:=by have:=hp.1;omega
     have hr:p.2=ML:=by rw[hp.2.2,h4,hML]
     subst hE
     refine wS ?_
     rw[hr]
     refine⟨_,[],?_,rfl,rfl⟩
     exact ZL
 ·have hE:ZaV t d=([],Zm t):=by
   unfold ZaV
   rw[if_pos he]
  rw[hE]
  unfold Qz at k
  rw[if_neg he]at k
  generalize Zm t=e at*
  unfold Zg at*
  simp only[Za hnt,Zb,Zz]at*
  refine SC.less (Qs Tryz.func41 (body:=Zj Tryz.f41) rfl (by decide+kernel) ?_)
  refine wS ?_
  refine ZoY (k) ?_
  refine wS ?_
  refine⟨fun h=>?_,fun h=>?_⟩
  ·refine wS ?_
   refine⟨_,[],?_,rfl,rfl⟩
   exact ZL
  ·exact absurd (by simpa only[bne_eq_false_iff_eq]using h) he
end Go.Proofs.YtjgpiclllehgmaaGreat.Vm
namespace Go.Proofs.YtjgpiclllehgmaaGreat.Vm
open Go Go.Conc Go.Proofs Go.Proofs.YtjgpiclllehgmaaGreat.Conc1
def ZhM (ts:Array TypeId) (ty:TypeId) (cs:Array Bool) (ch:Nat):Deferred:={target:=.builtin .close ts ty cs,args:= #[.chan (some ch)]}
def Zab (n:Nat) (ds:List Deferred):Frame:={(default:Frame)with fn:=n,defers:=ds,mode:=.panicking [goexitEntry]}
section
variable {P:Program} {ch cell:Nat} {f:FuncId} {fn:Func} {t:Array Value} {todo:List Item}
theorem ZtB (hf:P.funcs[f]? =some fn) (hr:fn.results= #[]):QuitsD P 2 0 (G {mkF ⟨f,true,none,[]⟩ t [] todo with mode:=.returning} [Zab P.funcs.size []]):=by
 refine .inr ⟨rfl,G (Zab P.funcs.size []) [], #[],by simp,fun w=>?_,.inr ⟨rfl,{frame:=Zab P.funcs.size [],callers:=[],status:=.finished,dying:=none}, #[],by simp,fun w=>?_,⟨rfl,rfl⟩⟩⟩
 ·have h1:results fn t=pure (.tuple #[]):=by
   unfold results
   rw[hr]
   simp
  have h2:(results fn t).run P w= .ok (.tuple #[]) w:=by rw[h1];rfl
  have h3:(results fn t).events P w #[]= #[]:=by rw[h1];rfl
  simp[G,stepG,unwind,doReturn,mkF,FB.kind,hf,h2,h3,GStep.after,Zab,goexitEntry,seen_none]
 ·have h:(default:Frame).todo=[]:=rfl
  simp[G,stepG,unwind,Zab,goexitEntry,Frame.catches,h]
theorem ZoZ {ts:Array TypeId} {ty:TypeId} {cs:Array Bool} (hf:P.funcs[f]? =some fn) (hr:fn.results= #[]):
  Zh3 P (fun n=>n=cell∨n=ch) ch {mkF ⟨f,true,none,[]⟩ t [ZhM ts ty cs ch] todo with mode:=.returning} [Zab P.funcs.size []]:=by
 refine⟨rfl,G {mkF ⟨f,true,none,[]⟩ t [] todo with mode:=.returning} [Zab P.funcs.size []], #[⟨.obj ch,false,true⟩],2,fun w buf s r tm h=>?_,fun e he=>.inr (by simpa using he),ZtB hf hr⟩
 have e:Builtin.close_ ts ty #[.chan (some ch)]=(getObj ch>>=fun o=>match o with
   |.chan room buf closed sent received timer=>(do
    if closed then runtimePanic (.plain "close of closed channel")
    setObj ch (.chan room buf true sent received timer)
    pure (.tuple #[]))
   |_=>stuck "close: no channel in this block"):=rfl
 have e2:invoke (.builtin .close ts ty cs) #[.chan (some ch)]=(Builtin.close_ ts ty #[.chan (some ch)]>>=fun x=>pure (.value x)):=rfl
 have h1:(invoke (.builtin .close ts ty cs) #[.chan (some ch)]).run P w= .ok (.value (.tuple #[])) (w.setChan ch 0 buf true s r tm):=by
  rw[e2,e]
  simp[getObj,setObj,Sem.run_bind,Sem.run,h,World.setChan]
 have h2:(invoke (.builtin .close ts ty cs) #[.chan (some ch)]).events P w #[]= #[⟨.obj ch,false,true⟩,⟨.obj ch,true,true⟩]:=by
  rw[e2,e]
  unfold Sem.events
  show(Sem.runT P (Sem.getObj ch _) w #[]).2=_
  simp only[Sem.runT,h]
  show(Sem.runT P (Sem.setObj ch _ _) w _).2=_
  simp only[Sem.runT,h]
  rfl
 have h3:seen P f #[⟨.obj ch,false,true⟩,⟨.obj ch,true,true⟩]= #[⟨.obj ch,false,true⟩,⟨.obj ch,true,true⟩]:=by
  simp[seen]
 simp[G,stepG,unwind,callDeferred,mkF,ZhM,h1,h2,h3,GStep.after]
theorem Zow {fr:Frame} {cs:List Frame} {w:World} {fr' cfr:Frame} {E:RP} {s:Nat} {tm:Bool} (hk:kf P fr cs=some (ch,cell,E)) (hgo:Zmi P fr cs fr' cfr) (hE:Zpg P ch cell E (fr',cs)) (hch:w.heap[ch]? =some (.chan 0 #[] false s s tm))
  (hcell:w.cell? ⟨cell,0,none⟩=some (.chan (some ch))) (hne:ch≠cell) {f1:Frame} {c1:List Frame} (h0:∀main w,stepG P main (G cfr []) w= .go (G f1 c1) w) {wf:World} (hF:Fz cell wf w) {b:Cf} (hst:StepsC P (some ch) ⟨f1,c1,wf⟩ b)
  {L:List Bool} {s' r':Nat} {tm':Bool} (hb:b.w.heap[ch]? =some (.chan 0 (L.map Value.bool).toArray false s' r' tm')) (hcl:Zh3 P (fun n=>n=cell∨n=ch) ch b.fr b.cs):
  ∃w',Fz cell b.w w'∧StepsC P none ⟨fr,cs,w⟩ ⟨(got (E L) false false).1,(got (E L) false false).2,w'.setChan ch 0 #[] true s' s' tm'⟩:=by
 obtain⟨w',h1,h2,_⟩:=StepsC.child (KF:=kf P) (R:=E) hne hst w hF ⟨#[],s,s,tm,(hF.ne ch hne).symm.trans hch⟩
 refine⟨w',h2,.one ?_⟩
 exact .head (.go hk hgo hE hch hcell hne) (.head (.cown (Ow.ctl h0)) (Zc2.trans h1 (.head (.close hcl ((h2.ne ch hne).trans hb)) (.refl _))))
theorem YV {x y:Frame×List Frame} (h:∀w,stepG P true (G x.1 x.2) w= .go (G y.1 y.2) w):ZdM P ch cell x y:=fun w _=>⟨#[],h w,fun e he=>by simp at he⟩
variable {b:FB} {ds:List Deferred} {k:List Item} {cs:List Frame}
theorem Zoh:ZdM P ch cell (mkF b t ds (.code .skip::k),cs) (mkF b t ds k,cs):=YV fun _=>rfl
theorem Zd5 {id:Nat}:ZdM P ch cell (mkF b t ds (.inBlock id::k),cs) (mkF b t ds k,cs):=YV fun _=>rfl
theorem Jm {x y:Code}:ZdM P ch cell (mkF b t ds (.code (.seq x y)::k),cs) (mkF b t ds (.code x:: .code y::k),cs):=YV fun _=>rfl
theorem ZiD {c:Operand} {x y:Code} {v:Bool} (h:Qw t c= .bool v):ZdM P ch cell (mkF b t ds (.code (.cond c x y)::k),cs) (mkF b t ds (.code (if v then x else y)::k),cs):=
 YV fun _=>by
  have h:(mkF b t ds (.code (.cond c x y)::k)).eval c= .bool v:=by rw[ZbT];exact h
  simp only[mkF]at h
  simp[stepG,stepG.exec,mkF,G,h]
theorem Zgy {id:Nat} {c:Code}:ZdM P ch cell (mkF b t ds (.code (.block id c)::k),cs) (mkF b t ds (.code c:: .inBlock id::k),cs):=YV fun _=>rfl
theorem Zoi {c:Code}:ZdM P ch cell (mkF b t ds (.code (.loop c)::k),cs) (mkF b t ds (.code c:: .inLoop c::k),cs):=YV fun _=>rfl
theorem Zfm {c:Code}:ZdM P ch cell (mkF b t ds (.inLoop c::k),cs) (mkF b t ds (.code c:: .inLoop c::k),cs):=YV fun _=>rfl
theorem Xv {id:Nat} {ops:Array Oper} {l:List Nat} (hl:List.range ops.size=l):ZdM P ch cell (mkF b t ds (.code (.region id ops false)::k),cs) (mkF b t ds (.inRegion ops l::k),cs):=YV fun _=>by subst hl;simp[stepG,stepG.exec,mkF,G]
theorem Xr {ops:Array Oper}:ZdM P ch cell (mkF b t ds (.inRegion ops []::k),cs) (mkF b t ds k,cs):=YV fun _=>by simp[stepG,stepG.exec,mkF,G]
structure Jf (ops:Array Oper) (i:Nat) (d:Option Tmp) (op:Op):Prop where
 ok:∃o,ops[i]? =some o∧o.op=op∧o.dst=d∧o.guard=none
theorem ZdH {ops:Array Oper} {i:Nat} {rest:List Nat} {o:Oper} {v:Value} {w w':World} {es:Array Event} (ho:ops[i]? =some o) (hg:o.guard=none) (hd:∀c,o.op≠ .defer c) (hr:(execOp (Qw t) o).runT P w #[]=(.ok (.value v) w',es)) (main:Bool):
  stepG P main (G (mkF b t ds (.inRegion ops (i::rest)::k)) cs) w= .go (G (mkF b (ZZ t o.dst v) ds (.inRegion ops rest::k)) cs) w' (seen P b.fn es):=by
 have hf:(mkF b t ds (.inRegion ops (i::rest)::k)).finish v=mkF b (ZZ t o.dst v) ds (.inRegion ops rest::k):=by rw[Q8,ho];rfl
 rw[Zcm ho (by simp[Region.wanted,hg]) hd,←hf]
 unfold stepG.apply
 simp only[if_true,hr,b.not_early,show((mkF b t ds (.inRegion ops (i::rest)::k)).kind==CallKind.early)=false from b.not_early,Bool.false_eq_true,if_false]
 simp[GStep.after,G,mkF]
theorem Ja {ops:Array Oper} {i:Nat} {rest:List Nat} {d:Option Tmp} {op:Op} {v:Value} (H:Jf ops i d op) (hd:∀c,op≠ .defer c) (hr:∀o:Oper,o.op=op→execOp (Qw t) o=pure (.value v)):
  ZdM P ch cell (mkF b t ds (.inRegion ops (i::rest)::k),cs) (mkF b (ZZ t d v) ds (.inRegion ops rest::k),cs):=by
 obtain⟨o,ho,hop,hdst,hg⟩:=H.ok
 refine YV fun w=>?_
 have:=ZdH (P:=P) (b:=b) (ds:=ds) (k:=k) (cs:=cs) (rest:=rest) (w:=w) (w':=w) (v:=v) (es:= #[]) ho hg (fun c=>by rw[hop];exact hd c) (by rw[hr o hop];rfl) true
 rw[seen_none,hdst]at this
 exact this
theorem Zoj {ops:Array Oper} {i:Nat} {rest:List Nat} {d:Option Tmp} {T:TypeId} {a:Operand} {dr:ChanDir} {B:TypeId} (H:Jf ops i d (.load T a)) (hU:P.underlying T=some (.chan dr B)) (ha:Qw t a= .pointer (some ⟨cell,0,none⟩)):
  ZdM P ch cell (mkF b t ds (.inRegion ops (i::rest)::k),cs) (mkF b (ZZ t d (.chan (some ch))) ds (.inRegion ops rest::k),cs):=by
 obtain⟨o,ho,hop,hdst,hg⟩:=H.ok
 intro w hw
 have hr:(execOp (Qw t) o).runT P w #[]=(.ok (.value (.chan (some ch))) w, #[⟨.cell ⟨cell,0,none⟩,false,false⟩]):=by
  have e:execOp (Qw t) o=(Instr.loadAt T (.pointer (some ⟨cell,0,none⟩))>>=fun x=>pure (.value x)):=by
   unfold execOp
   simp only[hop,ha]
  rw[e]
  have h1:∀es,(isAgg T).runT P w es=(.ok false w,es):=fun es=>by
   unfold isAgg underlying
   show(Sem.bind (Sem.bind program _) _).runT P w es=_
   rw[Sem.runT_bind',Sem.runT_bind',show program.runT P w es=(.ok P w,es)from rfl]
   simp only[hU]
   rfl
  have h2:∀es,(load ⟨cell,0,none⟩).runT P w es=(.ok (.chan (some ch)) w,es.push ⟨.cell ⟨cell,0,none⟩,false,false⟩):=fun es=>by
   unfold load
   simp only[Sem.runT,hw]
   rfl
  show(Sem.bind (Sem.bind (isAgg T) _) _).runT P w #[]=_
  rw[Sem.runT_bind',Sem.runT_bind',h1]
  simp only[Bool.false_eq_true,if_false]
  rw[h2]
  rfl
 have:=ZdH (P:=P) (b:=b) (ds:=ds) (k:=k) (cs:=cs) (rest:=rest) ho hg (fun c=>by rw[hop];intro h;cases h) hr true
 rw[hdst]at this
 exact⟨_,this,fun e he=>by simpa using mem_seen he⟩
end
end Go.Proofs.YtjgpiclllehgmaaGreat.Vm
namespace Go.Proofs.YtjgpiclllehgmaaGreat.Vm
open Go Go.Conc Go.Proofs Go.Proofs.YtjgpiclllehgmaaGreat.Conc1
structure ZaW (T I I':TypeId) (fid:FuncId) (o2 o3 o4 o5 o6 o7 o8 o9 o10:Array Oper):Prop where
 s2:List.range o2.size=[0,1,2]
 s3:List.range o3.size=[0,1]
 s4:List.range o4.size=[0,1]
 s5:List.range o5.size=[0]
 s6:List.range o6.size=[0,1]
 s7:List.range o7.size=[0,1]
 s8:List.range o8.size=[0]
 s9:List.range o9.size=[0,1,2]
 s10:List.range o10.size=[0,1,2]
 a20:Jf o2 0 (some 37) (.makeChan T (.const (.int .i64 0)))
 a21:Jf o2 1 (some 11) (.alloc T)
 a22:Jf o2 2 none (.store T (.tmp 11) (.tmp 37))
 a30:Jf o3 0 (some 38) (.makeFunc (.func fid) #[] #[.tmp 11,.tmp 4,.tmp 9,.tmp 10])
 a31:Jf o3 1 none (.go {callee:=.value (.tmp 38),args:= #[],argTypes:= #[]})
 a40:Jf o4 0 (some 12) (.assign (.const (.int .i64 0)))
 a41:Jf o4 1 (some 13) (.assign (.const (.int .i64 0)))
 a50:Jf o5 0 (some 39) (.load T (.tmp 11))
 a60:Jf o6 0 (some 40) (.recv T (.tmp 39) true)
 a61:Jf o6 1 (some 41) (.extract (.tmp 40) 1)
 a70:Jf o7 0 (some 42) (.extract (.tmp 40) 0)
 a71:Jf o7 1 (some 14) (.assign (.tmp 42))
 a80:Jf o8 0 (some 43) (.move (.tmp 14))
 a90:Jf o9 0 (some 44) (.move (.tmp 12))
 a91:Jf o9 1 (some 45) (.binOp .add I (.tmp 44) (.const (.int .i64 1)) I')
 a92:Jf o9 2 (some 12) (.assign (.tmp 45))
 a100:Jf o10 0 (some 46) (.move (.tmp 13))
 a101:Jf o10 1 (some 47) (.binOp .add I (.tmp 46) (.const (.int .i64 1)) I')
 a102:Jf o10 2 (some 13) (.assign (.tmp 47))
def ZhW:Value→Value
 |.int .i64 n=>.int .i64 (IntKind.i64.wrap (n+1))
 |v=>v
def st0 (ch:Nat) (t:Array Value):Array Value:=ZZ (ZZ (ZZ t (some 12) (.int .i64 0)) (some 13) (.int .i64 0)) (some 39) (.chan (some ch))
def Zej (t:Array Value) (v:Bool):Array Value:=ZZ (ZZ (ZZ (ZZ (ZZ t (some 40) (.tuple #[.bool v,.bool true])) (some 41) (.bool true)) (some 42) (.bool v)) (some 14) (.bool v)) (some 43) (.bool v)
def stp (t:Array Value) (v:Bool):Array Value:=match v with
 |true=>ZZ (ZZ (ZZ (Zej t v) (some 44) (t.getD 12 undef)) (some 45) (ZhW (t.getD 12 undef))) (some 12) (ZhW (t.getD 12 undef))
 |false=>ZZ (ZZ (ZZ (Zej t v) (some 46) (t.getD 13 undef)) (some 47) (ZhW (t.getD 13 undef))) (some 13) (ZhW (t.getD 13 undef))
def cnt (w:Bool):List Bool→Int→Int
 |[],n=>n
 |v::l,n=>cnt w l (if v=w then IntKind.i64.wrap (n+1)else n)
theorem Z2 {t:Array Value} {d:Option Tmp} {v:Value}:(ZZ t d v).size=t.size:=by cases d<;>simp[ZZ]
theorem Yg {t:Array Value} {d:Nat} {v:Value} (h:d<t.size):(ZZ t (some d) v).getD d undef=v:=by
 simp[ZZ,Array.getD_eq_getD_getElem?,h]
theorem QH {t:Array Value} {d i:Nat} {v:Value} (h:d≠i):(ZZ t (some d) v).getD i undef=t.getD i undef:=by
 simp[ZZ,Array.getD_eq_getD_getElem?,Array.getElem?_setIfInBounds_ne h]
theorem Xh {t:Array Value} {d:Nat} {v:Value} (h:d<t.size):Qw (ZZ t (some d) v) (.tmp d)=v:=Yg h
theorem Yp {t:Array Value} {d i:Nat} {v:Value} (h:d≠i):Qw (ZZ t (some d) v) (.tmp i)=Qw t (.tmp i):=QH h
structure Zgg (t0 t:Array Value) (ch cell:Nat) (y n:Int):Prop where
 size:t.size=t0.size
 c11:t.getD 11 undef= .pointer (some ⟨cell,0,none⟩)
 c39:t.getD 39 undef= .chan (some ch)
 c12:t.getD 12 undef= .int .i64 y
 c13:t.getD 13 undef= .int .i64 n
theorem Zgg.step {t0 t:Array Value} {ch cell:Nat} {y n:Int} (h:Zgg t0 t ch cell y n) (hs:47<t0.size) (v:Bool):Zgg t0 (stp t v) ch cell (if v=true then IntKind.i64.wrap (y+1)else y) (if v=false then IntKind.i64.wrap (n+1)else n):=by
 have hsz:=h.size
 cases v
 ·refine⟨?_,?_,?_,?_,?_⟩
  ·simp only[stp,Zej,Z2];exact hsz
  ·simp only[stp,Zej]
   repeat rw[QH (by decide)]
   exact h.c11
  ·simp only[stp,Zej]
   repeat rw[QH (by decide)]
   exact h.c39
  ·simp only[stp,Zej]
   repeat rw[QH (by decide)]
   exact h.c12
  ·simp only[stp]
   rw[Yg (by simp only[Zej,Z2];omega),h.c13]
   rfl
 ·refine⟨?_,?_,?_,?_,?_⟩
  ·simp only[stp,Zej,Z2];exact hsz
  ·simp only[stp,Zej]
   repeat rw[QH (by decide)]
   exact h.c11
  ·simp only[stp,Zej]
   repeat rw[QH (by decide)]
   exact h.c39
  ·simp only[stp]
   rw[Yg (by simp only[Zej,Z2];omega),h.c12]
   rfl
  ·simp only[stp,Zej]
   repeat rw[QH (by decide)]
   exact h.c13
theorem Zgg.fold {t0:Array Value} {ch cell:Nat} (hs:47<t0.size):∀(L:List Bool) {t:Array Value} {y n:Int},Zgg t0 t ch cell y n→Zgg t0 (L.foldl stp t) ch cell (cnt true L y) (cnt false L n)
 |[],_,_,_,h=>h
 |v::L,_,_,_,h=>by
  have:=Zgg.fold hs L (h.step hs v)
  exact this
section
variable {P:Program} {ch cell:Nat} {b:FB} {ds:List Deferred} {k:List Item} {cs:List Frame}
variable {T I I':TypeId} {fid:FuncId} {o2 o3 o4 o5 o6 o7 o8 o9 o10:Array Oper}
theorem ZeW {T:TypeId} {d:TypeDesc} {w:World} {es:Array Event} (h:P.underlying T=some d):(underlying T).runT P w es=(.ok d w,es):=by
 unfold underlying
 show(Sem.bind program _).runT P w es=_
 rw[Sem.runT_bind',show program.runT P w es=(.ok P w,es)from rfl]
 simp only[h]
 rfl
theorem Zc9 {T:TypeId} {i:TypeInfo} {w:World} {es:Array Event} (h:P.info? T=some i):(typeInfo T).runT P w es=(.ok i w,es):=by
 unfold typeInfo
 show(Sem.bind program _).runT P w es=_
 rw[Sem.runT_bind',show program.runT P w es=(.ok P w,es)from rfl]
 simp only[h]
 rfl
theorem ZeV {T:TypeId} {i:TypeInfo} {v:Value} {w:World} {es:Array Event} (h:P.info? T=some i) (hv:i.zero=some v):(zeroValue T).runT P w es=(.ok v w,es):=by
 unfold zeroValue
 show(Sem.bind (typeInfo T) _).runT P w es=_
 rw[Sem.runT_bind',Zc9 h]
 simp only[hv]
 rfl
theorem Zdy {t:Array Value} {x:Operand} {v:Value} (h:Qw t x=v):∀o:Oper,o.op= .move x→execOp (Qw t) o=pure (.value v):=fun o ho=>by
 unfold execOp
 simp only[ho,h]
theorem Y5 {t:Array Value} {x:Operand} {v:Value} (h:Qw t x=v):∀o:Oper,o.op= .assign x→execOp (Qw t) o=pure (.value v):=fun o ho=>by
 unfold execOp
 simp only[ho,h]
theorem Jn {t:Array Value} {x:Operand} {vs:Array Value} {i:Nat} {v:Value} (h:Qw t x= .tuple vs) (hv:vs[i]? =some v):∀o:Oper,o.op= .extract x i→execOp (Qw t) o=pure (.value v):=fun o ho=>by
 unfold execOp
 simp only[ho,h,Instr.extract,hv]
 rfl
theorem ZiR {t:Array Value} {x:Operand} {n:Int} (h:Qw t x= .int .i64 n):∀o:Oper,o.op= .binOp .add I x (.const (.int .i64 1)) I'→execOp (Qw t) o=pure (.value (ZhW (.int .i64 n))):=fun o ho=>by
 unfold execOp
 simp only[ho,h]
 rfl
def lpB (i6 i7 i8 i9 i10 b0 b1:Nat) (o6 o7 o8 o9 o10:Array Oper):Code:=
 .seq (.region i6 o6 false) (.seq (.cond (.tmp 41) .skip (.exit b0)) (.block b1 (.seq (.region i7 o7 false) (.seq (.region i8 o8 false) (.cond (.tmp 43) (.region i9 o9 false) (.region i10 o10 false))))))
def atR (i6 i7 i8 i9 i10 b0 b1:Nat) (o6 o7 o8 o9 o10:Array Oper) (k:List Item) (r:List Nat):List Item:=
 .inRegion o6 r:: .code (.seq (.cond (.tmp 41) .skip (.exit b0)) (.block b1 (.seq (.region i7 o7 false) (.seq (.region i8 o8 false) (.cond (.tmp 43) (.region i9 o9 false) (.region i10 o10 false)))))):: .inLoop (lpB i6 i7 i8 i9 i10 b0 b1 o6 o7 o8 o9 o10):: .inBlock b0::k
theorem Zj3 {i4 i5 i6 i7 i8 i9 i10 b0 b1:Nat} {x11:Code} (H:ZaW T I I' fid o2 o3 o4 o5 o6 o7 o8 o9 o10) {dr:ChanDir} {B:TypeId} (hU:P.underlying T=some (.chan dr B)) {t:Array Value} (h11:Qw t (.tmp 11)= .pointer (some ⟨cell,0,none⟩)):
  ZdL P ch cell 15 (mkF b t ds (.inRegion o3 []:: .code (.seq (.region i4 o4 false) (.seq (.seq (.region i5 o5 false) (.block b0 (.loop (lpB i6 i7 i8 i9 i10 b0 b1 o6 o7 o8 o9 o10)))) x11))::k),cs) (mkF b (st0 ch t) ds (atR i6 i7 i8 i9 i10 b0 b1 o6 o7 o8 o9 o10 (.code x11::k) [0,1]),cs):=by
 refine .succ Xr (.succ Jm (.succ (Xv H.s4) (.succ (Ja H.a40 (fun _ h=>by cases h) (Y5 rfl)) (.succ (Ja H.a41 (fun _ h=>by cases h) (Y5 rfl)) (.succ Xr ?_)))))
 refine .succ Jm (.succ Jm (.succ (Xv H.s5) (.succ (Zoj H.a50 hU ?_) (.succ Xr ?_))))
 ·rw[Yp (by decide),Yp (by decide)]
  exact h11
 exact .succ Zgy (.succ Zoi (.succ Jm (.succ (Xv H.s6) (.zero _))))
theorem ZlO {i6 i7 i8 i9 i10 b0 b1:Nat} (H:ZaW T I I' fid o2 o3 o4 o5 o6 o7 o8 o9 o10) {t0 t:Array Value} {y n:Int} (hs:47<t0.size) (h:Zgg t0 t ch cell y n) (v:Bool):
  ZdL P ch cell 25 (mkF b (ZZ t (some 40) (.tuple #[.bool v,.bool true])) ds (atR i6 i7 i8 i9 i10 b0 b1 o6 o7 o8 o9 o10 k [1]),cs) (mkF b (stp t v) ds (atR i6 i7 i8 i9 i10 b0 b1 o6 o7 o8 o9 o10 k [0,1]),cs):=by
 have hsz:=h.size
 have e40:Qw (ZZ t (some 40) (.tuple #[.bool v,.bool true])) (.tmp 40)= .tuple #[.bool v,.bool true]:=Xh (by omega)
 refine .succ (Ja H.a61 (fun _ h=>by cases h) (Jn (v:=.bool true) e40 rfl)) (.succ Xr (.succ Jm (.succ (ZiD (v:=true) (Xh (by simp only[Z2];omega))) ?_)))
 refine .succ Zoh (.succ Zgy (.succ Jm (.succ (Xv H.s7) ?_)))
 refine .succ (Ja H.a70 (fun _ h=>by cases h) (Jn (v:=.bool v) ((Yp (by decide)).trans e40) rfl)) ?_
 refine .succ (Ja H.a71 (fun _ h=>by cases h) (Y5 (Xh (by simp only[Z2];omega)))) (.succ Xr (.succ Jm (.succ (Xv H.s8) ?_)))
 refine .succ (Ja H.a80 (fun _ h=>by cases h) (Zdy (Xh (by simp only[Z2];omega)))) (.succ Xr (.succ (ZiD (v:=v) (Xh (by simp only[Z2];omega))) ?_))
 cases v
 ·refine .succ (Xv H.s10) (.succ (Ja H.a100 (fun _ h=>by cases h) (Zdy (v:=t.getD 13 undef) ?_)) ?_)
  ·rw[Yp (by decide),Yp (by decide),Yp (by decide),Yp (by decide),Yp (by decide)]
   rfl
  have e:ZhW (.int .i64 n)=ZhW (t.getD 13 undef):=by rw[h.c13]
  refine .succ (Ja H.a101 (fun _ h=>by cases h) (ZiR (n:=n) ((Xh (by simp only[Z2];omega)).trans h.c13))) ?_
  rw[e]
  exact .succ (Ja H.a102 (fun _ h=>by cases h) (Y5 (Xh (by simp only[Z2];omega)))) (.succ Xr (.succ Zd5 (.succ Zfm (.succ Jm (.succ (Xv H.s6) (.zero _))))))
 ·refine .succ (Xv H.s9) (.succ (Ja H.a90 (fun _ h=>by cases h) (Zdy (v:=t.getD 12 undef) ?_)) ?_)
  ·rw[Yp (by decide),Yp (by decide),Yp (by decide),Yp (by decide),Yp (by decide)]
   rfl
  have e:ZhW (.int .i64 y)=ZhW (t.getD 12 undef):=by rw[h.c12]
  refine .succ (Ja H.a91 (fun _ h=>by cases h) (ZiR (n:=y) ((Xh (by simp only[Z2];omega)).trans h.c12))) ?_
  rw[e]
  exact .succ (Ja H.a92 (fun _ h=>by cases h) (Y5 (Xh (by simp only[Z2];omega)))) (.succ Xr (.succ Zd5 (.succ Zfm (.succ Jm (.succ (Xv H.s6) (.zero _))))))
def Zos (i6 i7 i8 i9 i10 b0 b1:Nat) (o6 o7 o8 o9 o10:Array Oper) (b:FB) (ds:List Deferred) (k:List Item) (cs:List Frame) (t:Array Value):RP:=fun L=>(mkF b (L.foldl stp t) ds (atR i6 i7 i8 i9 i10 b0 b1 o6 o7 o8 o9 o10 k [0,1]),cs)
theorem ZhB {t:Array Value} (hs:47<t.size) (h11:t.getD 11 undef= .pointer (some ⟨cell,0,none⟩)) (L:List Bool):Zgg t (L.foldl stp (st0 ch t)) ch cell (cnt true L 0) (cnt false L 0):=by
 have h0:Zgg t (st0 ch t) ch cell 0 0:=by
  refine⟨?_,?_,?_,?_,?_⟩
  ·simp only[st0,Z2]
  ·simp only[st0]
   rw[QH (by decide),QH (by decide),QH (by decide)]
   exact h11
  ·exact Yg (by simp only[Z2];omega)
  ·simp only[st0]
   rw[QH (by decide),QH (by decide)]
   exact Yg (by omega)
  ·simp only[st0]
   rw[QH (by decide)]
   exact Yg (by simp only[Z2];omega)
 exact h0.fold hs L
theorem ZlQ {i4 i5 i6 i7 i8 i9 i10 b0 b1:Nat} {x11:Code} (H:ZaW T I I' fid o2 o3 o4 o5 o6 o7 o8 o9 o10) {dr:ChanDir} {B:TypeId} (hU:P.underlying T=some (.chan dr B)) (hB:∃i,P.info? B=some i∧i.zero=some (.bool false)) {t:Array Value} (hs:47<t.size)
  (h11:t.getD 11 undef= .pointer (some ⟨cell,0,none⟩)) (h37:t.getD 37 undef= .chan (some ch)) {fr:Frame} {cfr:Frame} (hfr:fr=mkF b t ds (.inRegion o3 [1]:: .code (.seq (.region i4 o4 false) (.seq (.seq (.region i5 o5 false) (.block b0 (.loop (lpB i6 i7 i8 i9 i10 b0 b1 o6 o7 o8 o9 o10)))) x11))::k))
  (hgo:Zmi P fr cs (mkF b t ds (.inRegion o3 []:: .code (.seq (.region i4 o4 false) (.seq (.seq (.region i5 o5 false) (.block b0 (.loop (lpB i6 i7 i8 i9 i10 b0 b1 o6 o7 o8 o9 o10)))) x11))::k)) cfr):
  kf P fr cs=some (ch,cell,Zos i6 i7 i8 i9 i10 b0 b1 o6 o7 o8 o9 o10 b ds (.code x11::k) cs (st0 ch t))∧Zpg P ch cell (Zos i6 i7 i8 i9 i10 b0 b1 o6 o7 o8 o9 o10 b ds (.code x11::k) cs (st0 ch t)) (mkF b t ds (.inRegion o3 []:: .code (.seq (.region i4 o4 false) (.seq (.seq (.region i5 o5 false) (.block b0 (.loop (lpB i6 i7 i8 i9 i10 b0 b1 o6 o7 o8 o9 o10)))) x11))::k),cs):=by
 have gd:∀i v,i<t.size→t.getD i undef=v→t[i]? =some v:=fun i v h e=>by
  rw[Array.getD_eq_getD_getElem?,Array.getElem?_eq_getElem h]at e
  rw[Array.getElem?_eq_getElem h]
  exact congrArg some e
 have hL:=ZhB (ch:=ch) hs h11
 subst hfr
 refine ZtJ (gd 37 _ (by omega) h37) (gd 11 _ (by omega) h11) hgo ⟨15,by decide,Zj3 H hU h11⟩ (fun L w hw=>⟨#[],?_,fun e he=>by simp at he⟩) fun L v=>⟨25,by decide,?_⟩
 ·obtain⟨o,ho,hop,hd,hg⟩:=H.a60.ok
  obtain⟨i,hi,hz⟩:=hB
  show stepG P true (G (mkF b (L.foldl stp (st0 ch t)) ds (.inRegion o6 [0,1]::_)) cs) w=_
  rw[Zcm ho (by simp[Region.wanted,hg]) (fun c=>by rw[hop];intro h;cases h)]
  have hr:(execOp (Qw (L.foldl stp (st0 ch t))) o).runT P w #[]=(.ok (.comm #[rcase ch (.bool false)] true (.recv true)) w, #[]):=by
   unfold execOp
   simp only[hop,show Qw (L.foldl stp (st0 ch t)) (.tmp 39)= .chan (some ch)from(hL L).c39]
   show(Sem.bind (underlying T) _).runT P w #[]=_
   rw[Sem.runT_bind',ZeW hU]
   show(Sem.bind (zeroValue B) _).runT P w #[]=_
   rw[Sem.runT_bind',ZeV hi hz]
   rfl
  unfold stepG.apply
  simp only[if_true,hr]
  have hk:=b.not_early
  simp[GStep.after,G,mkF,seen_none,hk]
  exact⟨rfl,rfl⟩
 ·have:=ZlO (P:=P) (b:=b) (ds:=ds) (k:=.code x11::k) (cs:=cs) (i6:=i6) (i7:=i7) (i8:=i8) (i9:=i9) (i10:=i10) (b0:=b0) (b1:=b1) H hs (hL L) v
  unfold Zos
  rw[List.foldl_append]
  obtain⟨o,ho,hop,hd,hg⟩:=H.a60.ok
  have e:got (mkF b (L.foldl stp (st0 ch t)) ds (atR i6 i7 i8 i9 i10 b0 b1 o6 o7 o8 o9 o10 (.code x11::k) [0,1]),cs) v true=(mkF b (ZZ (L.foldl stp (st0 ch t)) (some 40) (.tuple #[.bool v,.bool true])) ds (atR i6 i7 i8 i9 i10 b0 b1 o6 o7 o8 o9 o10 (.code x11::k) [1]),cs):=by
   unfold got atR
   rw[Q8,ho]
   show(mkF b (ZZ _ o.dst _) ds _,cs)=_
   rw[hd]
  rw[e]
  exact this
end
end Go.Proofs.YtjgpiclllehgmaaGreat.Vm
