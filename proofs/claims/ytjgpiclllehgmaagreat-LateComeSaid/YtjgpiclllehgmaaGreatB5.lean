/- Contract: traffic made of numbers (TrafficOf). -/
import Derived.Test.YtjgpiclllehgmaaGreatB4
import Derived.Test.YtjgpiclllehgmaaGreatB3
import Derived.Test.YtjgpiclllehgmaaGreatB2
import Derived.Test.YtjgpiclllehgmaaGreatB0
set_option linter.all false
namespace Go.Proofs.YtjgpiclllehgmaaGreat.Vm
attribute [local irreducible] Dn
open Go Go.Proofs Sp
set_option maxRecDepth 100000
set_option maxHeartbeats 8000000
theorem ZL.garE {n k s:Nat} {m m':Unit→Int} {f f':(Unit→Int)→List AV} (hm:m ()=m' ()) (hf:∀i:Nat,(i:Int)<m ()→Y5 (f fun _=>(i:Int)) (f' fun _=>(i:Int))):ZL n k (.gar s m f) (.gar s m' f'):=
 ⟨fun R id hN ⟨h1,h2⟩=>⟨h1.trans hm,by
  rcases h2 with⟨h3,h4⟩|⟨b,o,len,cap,arr,ty,a1,a2,a3,a4,a5,a6⟩
  ·exact .inl ⟨by omega,h4⟩
  ·refine .inr ⟨b,o,len,cap,arr,ty,by omega,a2,a3,a4,a5,fun i hi=>?_⟩
   have hle:=hf i (by omega)
   refine⟨by rw[hle.1];exact(a6 i hi).1,fun j c hj=>?_⟩
   obtain⟨c0,g1,g2⟩:=hle.2 j c hj
   exact g2 _ _ _ ((a6 i hi).2 j c0 g1)⟩,fun _ _ _=>Iff.rfl,fun _ _ _ _ _=>Iff.rfl,rfl⟩
theorem To.rsvC {s:List AV} {h:List Zi} {id:Nat} {cs:List AV} (hid:h[id]? =some (.cells cs)):To s h s (h.set id (.cells (cs.map (rsv h)))):=fun G R t H hs=>by
 have hget:∀ {j x},(h.set id (.cells (cs.map (rsv h))))[j]? =some x→(j=id∧x= .cells (cs.map (rsv h)))∨(j≠id∧h[j]? =some x):=fun {j x} hx=>by
  rw[List.getElem?_set]at hx
  split at hx
  ·rename_i e
   split at hx
   ·simp only[Option.some.injEq]at hx
    exact .inl ⟨e.symm,hx.symm⟩
   ·cases hx
  ·rename_i e
   exact .inr ⟨fun e'=>e e'.symm,hx⟩
 have hset:∀ {j},j≠id→(h.set id (.cells (cs.map (rsv h))))[j]? =h[j]? :=fun {j} e=>by rw[List.getElem?_set_ne (Ne.symm e)]
 have hlt:=(List.getElem?_eq_some_iff.1 hid).1
 have hself:(h.set id (.cells (cs.map (rsv h))))[id]? =some (.cells (cs.map (rsv h))):=by rw[List.getElem?_set_self hlt]
 have hph:∀ {j x b},(h.set id (.cells (cs.map (rsv h))))[j]? =some x→ZG R j x b→∃y,h[j]? =some y∧ZG R j y b:=fun {j x b} hx hp=>by
  rcases hget hx with⟨rfl,rfl⟩|⟨hne,hx⟩
  ·exact⟨_,hid,hp⟩
  ·exact⟨x,hx,hp⟩
 have hav:∀b o n,ZfZ R h b o n↔ZfZ R (h.set id (.cells (cs.map (rsv h)))) b o n:=fun b o n=>by
  constructor
  ·intro ha j x hx
   rcases hget hx with⟨rfl,rfl⟩|⟨hne,hx⟩
   ·exact(ha j _ hid:¬ZG R j (.cells cs) b)
   ·exact ha j x hx
  ·intro ha j x hx
   by_cases e:j=id
   ·subst e
    rw[hid]at hx
    cases hx
    exact(ha j _ hself:¬ZG R j (.cells (cs.map (rsv h))) b)
   ·exact ha j x (by rw[hset e];exact hx)
 refine⟨R,rfl,⟨by rw[List.length_set];exact H.len,fun b o n=>by rw[←hav];exact H.okd b o n,fun j x hx=>?_,fun i j bi bj b hij hi hj hp hp'=>?_,H.cl,H.fresh,fun j x b hx hk hp o n=>?_,H.n0m⟩,⟨rfl,rfl,rfl,rfl,Nat.le_refl _,Nat.le_refl _,fun _ _=>rfl,fun _ _ _ k=>k,fun _ _ _ _ _ _=>rfl,fun _ _ _=>rfl,fun j x b hx hp=>?_⟩,RC.le.refl _,hs⟩
 ·rcases hget hx with⟨rfl,rfl⟩|⟨hne,hx⟩
  ·obtain⟨arr,ty,h1,h2,h3⟩:=H.blk _ _ hid
   refine⟨arr,ty,h1,by rw[List.length_map];exact h2,fun k c hk=>?_⟩
   rw[List.getElem?_map,Option.map_eq_some_iff]at hk
   obtain⟨c0,hc0,rfl⟩:=hk
   have:=(SL.rsv (t:= #[arr.getD ((R.α j).o+k) undef]) H ⟨rfl,fun i a hi=>by
    cases i with
    |zero=>
     have hi:c0=a:=by simpa using hi
     subst hi
     exact h3 k _ hc0
    |succ i=>simp at hi⟩ {tb with rs:=true} (s:=[c0])).2 0 (rsv h c0) rfl
   exact this
  ·exact H.blk j x hx
 ·obtain⟨y,hy,hp⟩:=hph hi hp
  obtain⟨y',hy',hp'⟩:=hph hj hp'
  exact H.dis i j y y' b hij hy hy' hp hp'
 ·rcases hget hx with⟨rfl,rfl⟩|⟨hne,hx⟩
  ·cases hk
  ·exact H.tokG j x b hx hk hp o n
 ·obtain⟨y,hy,hp⟩:=hph hx hp
  exact .inr ⟨j,y,hy,hp,.inl rfl⟩
theorem ZL.deadF {n k s:Nat} {m:Unit→Int} {f:(Unit→Int)→List AV}:ZL n k (.fro s m f) .dead:=⟨fun _ _ _ _=>trivial,fun _ _ _=>Iff.rfl,fun _ _ _ _ _=>Iff.rfl,rfl⟩
theorem PR.nilw' {w:World} {ok:Nat→Nat→Nat→Prop} {s s':Nat} {m m':Unit→Int} {f f':(Unit→Int)→List AV} {v:Value} (h:PR w ok (.isl s m f .nil) v) (hm:m' ()=0):PR w ok (.isl s' m' f' .none) v:=by
 cases h with
 |isl0 _ _ _ _ hz h1=>exact .isl0 _ _ _ _ hm rfl
 |islE _ _ _ _ a hz h1=>exact .islE _ _ _ _ a hm (.inl rfl)
 |isl _ _ _ _ b o len cap us hn hc h1=>rcases h1 with h|h<;>cases h
theorem Zqd {p A:Prop} {α β γ δ ε:Type} {k:List Item} {K:Ex→List AV→List Zi→Cd→Prop} (st:α×β×γ×δ×ε→List AV) (hp:α×β×γ×δ×ε→List Zi) (inv:α×β×γ×δ×ε→Prop) (hA:p→(∀i,inv i→HP false 1 (fun _=>Tryz.prog) k K (st i) (hp i))→A) (hB:¬p→(∀i,inv i→HP false 1 (fun _=>Tryz.prog) k K (st i) (hp i))→A)
  (hM:∀a b c d e,inv (a,b,c,d,e)→HP false 1 (fun _=>Tryz.prog) k K (st (a,b,c,d,e)) (hp (a,b,c,d,e))):A:=by
 by_cases h:p
 ·exact hA h fun⟨a,b,c,d,e⟩ hi=>hM a b c d e hi
 ·exact hB h fun⟨a,b,c,d,e⟩ hi=>hM a b c d e hi
theorem ZhB (kp rs:Bool) (cs:List Nat) {x:Code} {Q:Ex→List AV→List Zi→Prop} {s:List AV} {h:List Zi} {α β γ:Type} (L:List Nat) (ex:List Zi) (ch:α×β×γ→List (Nat×AV)) (hc:α×β×γ→List (Nat×Zi)) (inv:α×β×γ→Prop) (μ:α×β×γ→Nat) (i:α×β×γ)
  (hi:inv i) (hto:To (Vm.keep L s) h (Jp (Vm.keep L s) (ch i)) (Yy (h++ex) (hc i)))
  (step:∀a b c,inv (a,b,c)→Dn (tbX kp rs cs) (fun _=>Tryz.prog) (Zfu L (fun i=>Jp (Vm.keep L s) (ch i)) (fun i=>Yy (h++ex) (hc i)) inv μ (a,b,c) (h++ex).length Q) 100 .none [.code x] (Jp (Vm.keep L s) (ch (a,b,c))) (Yy (h++ex) (hc (a,b,c))) []):LP false (fun _=>Tryz.prog) x Q s h:=
 ZV kp rs cs L ex ch hc inv μ i hi hto fun⟨a,b,c⟩ h=>step a b c h
theorem ZtY {nt:(α:Type)→α→List α→Int→α} (hnt:∀(α:Type) (d:α) (l:List α) (i:Int),nt α d l i=l.getD i.toNat d) (z:Zone) (old:List Train) (n:Int) (hf:YG (Zn z old)) (hn:(Qx (Zn z old) ⟨n,0⟩).2=false):SC (fun _=>Tryz.prog) 75 [.agg [.gd (fun _=>decide ((1:Int)=1)) (.isl 2 (fun _=>1) (fun e=>encZone (nt Zone default [z] (e ()))) .none),.isl 3 (fun _=>(old.length:Int)) (fun e=>encTrain (nt Train default old (e ()))) .none,.isl 0 (fun _=>0) (fun _=>[]) .nil,.int .i64 fun _=>1,.int .i64 fun _=>0],.agg [.int .i64 fun _=>n,.int .i64 fun _=>0]] [] fun v h=>v= .tup [.undef,.bool fun _=>false]∧h=[]:=by
 have k:=ZtZ (Zn z old) ⟨n,0⟩ hf hn
 simp only[Zc,Zg,Zn,Za hnt]at k
 refine SC.to ?_ k
 (refine To.of [] ?_;cbv;(try simp only[nc]);(repeat' (first|exact trivial|exact ZD.refl _|exact ZL.refl _|refine⟨?_,?_⟩|refine ZL.cells ?_|refine ZD.agg ?_|refine ZD.tup ?_));(all_goals (first|exact X9|skip)))
 all_goals exact .gd rfl (.none rfl fun _ _=>rfl)
theorem Zsp (kp rs:Bool) (cs:List Nat) {x:Code} {Q:Ex→List AV→List Zi→Prop} {s:List AV} {h:List Zi} {α β γ δ:Type} (L:List Nat) (ex:List Zi) (ch:α×β×γ×δ→List (Nat×AV)) (hc:α×β×γ×δ→List (Nat×Zi)) (inv:α×β×γ×δ→Prop) (μ:α×β×γ×δ→Nat) (i:α×β×γ×δ)
  (hi:inv i) (hto:To (Vm.keep L s) h (Jp (Vm.keep L s) (ch i)) (Yy (h++ex) (hc i)))
  (step:∀a b c d,inv (a,b,c,d)→Dn (tbX kp rs cs) (fun _=>Tryz.prog) (Zfu L (fun i=>Jp (Vm.keep L s) (ch i)) (fun i=>Yy (h++ex) (hc i)) inv μ (a,b,c,d) (h++ex).length Q) 100 .none [.code x] (Jp (Vm.keep L s) (ch (a,b,c,d))) (Yy (h++ex) (hc (a,b,c,d))) []):LP false (fun _=>Tryz.prog) x Q s h:=
 ZV kp rs cs L ex ch hc inv μ i hi hto fun⟨a,b,c,d⟩ h=>step a b c d h
structure ByL (b:List Int) (n:Int):Prop where
 rng:∀k,k<b.length→0≤b.getD k 0∧b.getD k 0≤240
 asc:∀k,k+1<b.length→b.getD k 0<b.getD (k+1) 0
 bd:0≤n∧n≤10+60*b.length
 last:∀k,k<b.length→b.getD k 0<n
theorem ByL.nil {n:Int} (h:0≤n∧n≤10):ByL [] n:=⟨fun k h=>by simp at h,fun k h=>by simp at h,by simp;omega,fun k h=>by simp at h⟩
theorem ByL.snoc {b:List Int} {n y:Int} (h:ByL b n) (hl:b.length≤2) (hy:1≤y∧y≤60):ByL (b++[n]) (n+y):=by
 have hbd:=h.bd
 have hg:∀k,k<b.length→(b++[n]).getD k 0=b.getD k 0:=fun k hk=>Zdt hk
 have hz:(b++[n]).getD b.length 0=n:=Zdu
 have hlen:(b++[n]).length=b.length+1:=by rw[List.length_append,List.length_singleton]
 refine⟨fun k hk=>?_,fun k hk=>?_,by rw[hlen];omega,fun k hk=>?_⟩
 ·by_cases e:k<b.length
  ·rw[hg k e];exact h.rng k e
  ·rw[show k=b.length by omega,hz];omega
 ·rw[hg k (by omega)]
  by_cases e:k+1<b.length
  ·rw[hg _ e];exact h.asc k e
  ·rw[show k+1=b.length by omega,hz];exact h.last k (by omega)
 ·by_cases e:k<b.length
  ·rw[hg k e];have:=h.last k e;omega
  ·rw[show k=b.length by omega,hz];omega
theorem Zl9 {α:Type} {p:α→Bool} {d:α} {l:List α} {k:Nat} (h:k<l.length):(l.take (k+1)).any p=((l.take k).any p||p (l.getD k d)):=by
 rw[List.take_add_one,List.any_append,List.getElem?_eq_getElem h,List.getD_eq_getElem?_getD,List.getElem?_eq_getElem h]
 simp
theorem ZqP (a b c d:Int):decide (a=b∧c=d)=(bif a==b then c==d else false):=by
 by_cases h:a=b
 ·subst h;simp;rfl
 ·simp[h]
theorem cL2 (l:List Nat) {f:FuncId} {xs ys:List AV} {h hc:List Zi} {Post Q:AV→List Zi→Prop} (H:SC (fun _=>Tryz.prog) f ys hc Q) (hq:∀ r h₂,Q r h₂→Post (ren (YK l h.length) 5 r) (back l h h₂)) (hn:l.Nodup:=by decide) (hl:∀ i∈l,i<h.length:=by simp) (hx:xs.map (Qs false l h 5)=ys:=by first|rfl|(simp only[Zd,Zc,Zf,Zb,Zg,Zn,Za hnt];rfl)) (hh:sel false l h=hc:=by first|rfl|(simp only[Zd,Zc,Zf,Zb,Zg,Zn,Za hnt];rfl)):SC (fun _=>Tryz.prog) f xs h Post:=ZH l H hn hl hx hh hq
theorem Zu0 (s runs waits delays:Int) (hr:1≤runs∧runs≤4) (hw:0≤waits∧waits≤4) (hd:0≤delays∧delays≤6):SC (fun _=>Tryz.prog) 19 [.ptr 0 0,.int .i64 fun _=>runs,.int .i64 fun _=>waits,.int .i64 fun _=>delays] [Xe s] fun v h=>
  ∃(t:Ze) (s':Int),(Zji t∧(t.runs.length:Int)≤runs∧(t.waits.length:Int)≤waits∧(t.delays.length:Int)≤delays)∧v=Zf t∧h=[Xe s']:=by
 obtain⟨nt,hnt⟩:=Zs
 obtain⟨N,hN⟩:∃N:Nat,(N:Int)=4*waits:=⟨(4*waits).toNat,by omega⟩
 refine SC.less (Zsz false false [] [1] false 1 Tryz.func19 (body:=Zk Tryz.f19) rfl (by decide+kernel) rfl ?_)
 refine wS ?_
 refine hpX (T:=tbH false false [] [] false 1) (hTH false false [] [] false 1) 33 ?_
 refine vS ?_
 refine cL2 [0] (c22 s (-1) 1 (by omega) (by omega)) fun r h₂ hp=>?_
 (try simp only[Zd,Zc,Zf,Zb,Zg,Zn,Za hnt]at hp)
 obtain⟨x,s1,hx,rfl,rfl⟩:=hp
 refine wS ?_
 refine Zbr [0,1,2,3,8,9] 4 rfl rfl (s₂:=mkS 312 [(0,.ptr 0 0),(1,.int .i64 fun _=>runs),(2,.int .i64 fun _=>waits),(3,.int .i64 fun _=>delays),(8,.ptr 1 0),(9,.ptr 3 0)]) (h₂:=[Xe s1,.cells [.isl 0 (fun _=>0) (fun _=>[]) .nil,.isl 0 (fun _=>0) (fun _=>[]) .nil,.isl 0 (fun _=>0) (fun _=>[]) .nil,.int .i64 fun _=>0,.int .i64 fun _=>0,.isl 0 (fun _=>0) (fun _=>[]) .nil,.isl 0 (fun _=>0) (fun _=>[]) .nil,.isl 0 (fun _=>0) (fun _=>[]) .nil],.gar 2 (fun _=>1) (fun e=>encZone (nt Zone default [⟨30*x,[]⟩] (e ()))),.cells [.gsl 2 fun _=>1,.isl 0 (fun _=>0) (fun _=>[]) .nil,.isl 0 (fun _=>0) (fun _=>[]) .nil,.int .i64 fun _=>1,.int .i64 fun _=>0,.isl 0 (fun _=>0) (fun _=>[]) .nil,.isl 0 (fun _=>0) (fun _=>[]) .nil,.isl 0 (fun _=>0) (fun _=>[]) .nil]]) ?_ ?_
 ·refine toR ?_
  refine ZL.garE rfl fun i hi=>?_
  match i,hi with
  |0,_=>(show Y5 [_,_] (encZone (nt Zone default [⟨30*x,[]⟩] 0)));rw[hnt];exact Y5.two fun w ok v h=>h.nilw' rfl
 refine Zd9 false false [4] [19,21] false ?_
 refine wS ?_
 refine cL2 [0] (c37 s1 1 5 (by omega)) fun r h₂ hp=>?_
 (try simp only[Zd,Zc,Zf,Zb,Zg,Zn,Za hnt]at hp)
 obtain⟨bb,s2,rfl,rfl⟩:=hp
 refine wS ?_
 refine Zsx false false [] 50 [0,1,2,3,8,9] (fun _=>[]) (fun(⟨s,z⟩:Int×Zone)=>[(0,Xe s),(2,.gar 2 (fun _=>1) (fun e=>encZone (nt Zone default [z] (e ())))),(3,.cells [.gsl 2 fun _=>1,.isl 0 (fun _=>0) (fun _=>[]) .nil,.isl 0 (fun _=>0) (fun _=>[]) .nil,.int .i64 fun _=>1,.int .i64 fun _=>0,.isl 0 (fun _=>0) (fun _=>[]) .nil,.isl 0 (fun _=>0) (fun _=>[]) .nil,.isl 0 (fun _=>0) (fun _=>[]) .nil])]) (fun⟨s,z⟩=>ZoX 1 z) (fun _ _ h=>h) (by decide) ?_ ?_
 ·refine wS ?_
  refine⟨fun hb=>?_,fun hb=>?_⟩
  ·refine wS ?_
   refine cL2 [0] (c29 s2 1 (by omega)) fun r h₂ hp=>?_
   (try simp only[Zd,Zc,Zf,Zb,Zg,Zn,Za hnt]at hp)
   obtain⟨z,s3,hz,rfl,rfl⟩:=hp
   refine wS ?_
   refine⟨(s3,z),hz,?_⟩
   refine toR ?_
   refine ZL.garE rfl fun i hi=>?_
   match i,hi with
   |0,_=>(simp only[hnt]);exact Y5.two fun w ok v h=>h.wk rfl (fun j hj=>rfl) (.inl rfl)
  ·refine wS ?_
   refine⟨(s2,⟨30*x,[]⟩),⟨by dsimp only;omega,.inr rfl,.nil,by simp,by simp⟩,?_⟩
   exact ZI
 rintro⟨s,z⟩ hz
 refine wS ?_
 refine cL2 [0] (c22 s 1 runs (by omega) (by omega)) fun r h₂ hp=>?_
 (try simp only[Zd,Zc,Zf,Zb,Zg,Zn,Za hnt]at hp)
 obtain⟨n,s4,hn,rfl,rfl⟩:=hp
 refine wS ?_
 obtain⟨n,rfl⟩:∃k:Nat,n=k:=⟨n.toNat,by omega⟩
 refine ZV false false [] [0,2,3,8,9,10] [.tok 3 fun _=>0] (fun(⟨i,s,old⟩:Nat×Int×List Train)=>[(10,.int .i64 fun _=>i)])
  (fun⟨i,s,old⟩=>[(0,Xe s),(3,.cells [.gsl 2 fun _=>1,.isl 3 (fun _=>(old.length:Int)) (fun e=>encTrain (nt Train default old (e ()))) (.own 4),.isl 0 (fun _=>0) (fun _=>[]) .nil,.int .i64 fun _=>1,.int .i64 fun _=>0,.isl 0 (fun _=>0) (fun _=>[]) .nil,.isl 0 (fun _=>0) (fun _=>[]) .nil,.isl 0 (fun _=>0) (fun _=>[]) .nil]),(4,.tok 3 fun _=>(old.length:Int))])
  (fun⟨i,s,old⟩=>i≤n∧old.length+i=n∧DL n old) (fun i=>i.1+0) (n,s4,[]) ⟨Nat.le_refl _,by simp,⟨fun k hk=>by simp at hk⟩⟩ ?_ ?_
 ·(refine To.of [(3,false)] ?_;cbv;(try simp only[nc]);(repeat' (first|exact trivial|exact ZD.refl _|exact ZL.refl _|refine⟨?_,?_⟩|refine ZL.cells ?_|refine ZD.agg ?_|refine ZD.tup ?_));(all_goals (first|exact X9|skip)))
 rintro⟨i,s,old⟩ ⟨hi,hlen,hdl⟩
 refine wS ?_
 refine⟨fun hb=>?_,fun hb=>?_⟩
 ·simp only[decide_eq_true_eq]at hb
  refine wS ?_
  refine cL2 [0] (c22 s 3 5 (by omega) (by omega)) fun r h₂ hp=>?_
  (try simp only[Zd,Zc,Zf,Zb,Zg,Zn,Za hnt]at hp)
  obtain⟨st,s5,hst,rfl,rfl⟩:=hp
  refine wS ?_
  obtain⟨st,rfl⟩:∃k:Nat,st=k:=⟨st.toNat,by omega⟩
  refine cL2 [0] (ZuQ s5 i st (by omega)) fun r h₂ hp=>?_
  (try simp only[Zd,Zc,Zf,Zb,Zg,Zn,Za hnt]at hp)
  obtain⟨t,s6,ht,rfl,rfl⟩:=hp
  refine wS ?_
  obtain⟨j,rfl⟩:∃j,i=j+1:=⟨i-1,by omega⟩
  refine⟨(j,s6,old++[t]),⟨by omega,by simp only[List.length_append,List.length_cons,List.length_nil];omega,hdl.snoc (st:=st) (by omega) (by rw[show(n:Int)-old.length=((j+1:Nat):Int) by omega];exact ht)⟩,by show j+0<j+1+0;omega,?_⟩
  (refine To.of [] ?_;cbv;(try simp only[nc]);(repeat' (first|exact trivial|exact ZD.refl _|exact ZL.refl _|refine⟨?_,?_⟩|refine ZL.cells ?_|refine ZD.agg ?_|refine ZD.tup ?_));(all_goals (first|exact X9|skip)))
  all_goals trace_state
 ·simp only[decide_eq_false_iff_not]at hb
  have hlen:old.length=n:=by omega
  have hni:(n:Int)=old.length:=by omega
  have hl4:old.length≤4:=by omega
  have hlr:(old.length:Int)≤runs:=by omega
  have hzk:=Zmk hz (by decide)
  have hck:=ZhN hzk hdl (by omega) (by omega)
  have hf:YG (Zn z old):=by
   have hc:=ZbY hck
   exact⟨by have:=hc.zlen;omega,by have:=hc.olen;omega,by have:=hc.nlen;omega,fun z hz=>by have:=(ZbD (hc.zones z hz)).2.2.1;omega,⟨fun t ht=>by have:=(hc.old t ht).len;omega,fun t ht=>by have:=(hc.new t ht).len;omega⟩⟩
  apply Zqd (p:=∃j,j<old.length∧(Qx (Zn z old) (Qr (Zn z old) j)).2=true) (fun(⟨s,z,old,rs,rows⟩:Int×Zone×List Train×List Sp.Qq×List (List Sp.Call))=>mkS 312 [(0,.ptr 0 0),(2,.int .i64 fun _=>waits),(3,.int .i64 fun _=>delays),(8,.ptr 1 0),(9,.ptr 3 0),(11,.isl 1 (fun _=>(rows.length:Int)) (fun e=>[.isl 3 (fun _=>((nt (List Sp.Call) [] rows (e ())).length:Int)) (fun e2=>XK (nt Sp.Call default (nt (List Sp.Call) [] rows (e ())) (e2 ()))) .none]) .none)])
   (fun⟨s,z,old,rs,rows⟩=>[Xe s,.cells [.isl 0 (fun _=>0) (fun _=>[]) .nil,.isl 0 (fun _=>0) (fun _=>[]) .nil,.isl 0 (fun _=>0) (fun _=>[]) .nil,.int .i64 fun _=>0,.int .i64 fun _=>0,.isl 0 (fun _=>0) (fun _=>[]) .nil,.isl 0 (fun _=>0) (fun _=>[]) .nil,.isl 0 (fun _=>0) (fun _=>[]) .nil],.dead,.cells [.isl 2 (fun _=>1) (fun e=>encZone (nt Zone default [z] (e ()))) .none,.isl 3 (fun _=>(old.length:Int)) (fun e=>encTrain (nt Train default old (e ()))) .none,.isl 0 (fun _=>0) (fun _=>[]) .nil,.int .i64 fun _=>1,.int .i64 fun _=>0,.isl 2 (fun _=>(rs.length:Int)) (fun e=>Zg (nt Sp.Qq default rs (e ()))) .none,.isl 0 (fun _=>0) (fun _=>[]) .nil,.isl 0 (fun _=>0) (fun _=>[]) .nil]])
   (fun⟨s,z,old,rs,rows⟩=>RJ (Zn z old) rs rows∧(rs.length:Int)≤runs∧Zu z=0∧∃n,DL n old)
  ·intro hany M
   refine wS ?_
   refine ZV false false [] [0,2,3,8,9,11,12] [.tok 1 fun _=>0,.tok 2 fun _=>0] (fun(⟨i,runs,rows⟩:Nat×List Sp.Qq×List (List Sp.Call))=>[(11,.isl 1 (fun _=>(rows.length:Int)) (fun e=>Zb (nt (List Sp.Call) [] rows (e ()))) (.own 5)),(12,.int .i64 fun _=>i)])
    (fun⟨i,runs,rows⟩=>[(2,.dead),(3,.cells [.isl 2 (fun _=>1) (fun e=>encZone (nt Zone default [z] (e ()))) .none,.isl 3 (fun _=>(old.length:Int)) (fun e=>encTrain (nt Train default old (e ()))) .none,.isl 0 (fun _=>0) (fun _=>[]) .nil,.int .i64 fun _=>1,.int .i64 fun _=>0,.isl 2 (fun _=>(runs.length:Int)) (fun e=>Zg (nt Sp.Qq default runs (e ()))) (.own 6),.isl 0 (fun _=>0) (fun _=>[]) .nil,.isl 0 (fun _=>0) (fun _=>[]) .nil]),(5,.tok 1 fun _=>(rows.length:Int)),(6,.tok 2 fun _=>(runs.length:Int))])
    (fun⟨i,runs,rows⟩=>i≤old.length∧RL (Zn z old) i runs rows) (fun i=>old.length-i.1+0) (0,[],[]) ⟨Nat.zero_le _,.nil⟩ ?_ ?_
   ·refine(To.froze (id:=2) rfl).trans ((To.rsvC (id:=3) rfl).trans ?_)
    (refine To.of [(1,false),(2,false)] ?_;cbv;(try simp only[nc]);(repeat' (first|exact trivial|exact ZD.refl _|exact ZL.refl _|refine⟨?_,?_⟩|refine ZL.cells ?_|refine ZD.agg ?_|refine ZD.tup ?_));(all_goals (first|exact X9|skip)))
    ·exact .deadF
    ·exact .none rfl fun _ _=>rfl
   rintro⟨i,runs,rows⟩ ⟨hi,hrl⟩
   refine wS ?_
   refine⟨fun hb=>?_,fun hb=>?_⟩
   ·simp only[decide_eq_true_eq]at hb
    have hD':Qr (Zn z old) i=⟨(nt Train default old i).number,0⟩:=by unfold Qr Zn;rw[hnt];rfl
    have hE:Qx (Zn z old) (Qr (Zn z old) i)=Qx ⟨[z],old,[],1,0⟩ ⟨(nt Train default old i).number,0⟩:=by rw[hD'];rfl
    have k:=ZqI ⟨[z],old,[],1,0⟩ ⟨(nt Train default old i).number,0⟩ hf
    generalize Qx ⟨[z],old,[],1,0⟩ ⟨(nt Train default old i).number,0⟩=E at hE k
    refine wS ?_
    refine J2 (k) (by(try simp only[Zd,Zc,Zf,Zb,Zg,Zn,Za hnt]);exact ZI) (by first|rfl|(simp only[Zd,Zc,Zf,Zb,Zg,Zn,Za hnt];rfl)) fun r h₂ hp=>?_
    (try simp only[Zd,Zc,Zf,Zb,Zg,Zn,Za hnt]at hp)
    obtain⟨rfl,rfl⟩:=hp
    refine wS ?_
    refine⟨fun h9=>?_,fun h9=>?_⟩
    ·have hrlen:=hrl.len
     have hrle:=hrl.le
     refine wS ?_
     refine⟨(i+1,runs++[⟨(nt Train default old i).number,0⟩],rows++[E.1]),⟨by omega,by
      have:=hrl.snoc hdl (by show i<old.length;omega) (C:=E.1) (by rw[hE,←h9])
      rw[hD']at this
      exact this⟩,by show old.length-(i+1)+0<old.length-i+0;omega,?_⟩
     refine toR ?_
     exact .snoc hnt rfl (by simp) (by unfold Zb;rw[Za hnt];rfl)
    ·refine wS ?_
     refine⟨(i+1,runs,rows),⟨by omega,hrl.skip (by rw[hE,←h9])⟩,by show old.length-(i+1)+0<old.length-i+0;omega,?_⟩
     exact ZI
   ·simp only[decide_eq_false_iff_not]at hb
    have hpos:0<runs.length:=by
     obtain⟨j,hj1,hj2⟩:=hany
     exact hrl.some j (by omega) hj2
    refine wS ?_
    refine Br.isF (by simp only[beq_eq_false_iff_ne];omega) ?_
    refine wS ?_
    have hi':i=old.length:=by omega
    subst hi'
    have hrle:=hrl.le
    refine Zbr [0,2,3,8,9,11] 4 rfl rfl ?_ (M (s,z,old,runs,rows) ⟨hrl.ok hzk hdl hni hl4 hl4 hpos,by show(runs.length:Int)≤_;omega,hzk,_,hdl⟩)
    refine toR ?_
    exact .none rfl fun i hi=>by simp only[Zb,Za hnt]
  ·intro hno M
   refine wS ?_
   refine ZV false false [] [0,2,3,8,9,11,12] [] (fun(i:Nat)=>[(12,.int .i64 fun _=>i)]) (fun _=>[]) (fun i=>i≤old.length) (fun i=>old.length-i+0) 0 (Nat.zero_le _) ?_ ?_
   ·exact ZI
   intro i hi
   have hi:i≤old.length:=hi
   refine wS ?_
   refine⟨fun hb=>?_,fun hb=>?_⟩
   ·simp only[decide_eq_true_eq]at hb
    have hD':Qr (Zn z old) i=⟨(nt Train default old i).number,0⟩:=by unfold Qr Zn;rw[hnt];rfl
    have hE:(Qx (Zn z old) ⟨(nt Train default old i).number,0⟩).2=false:=by
     rw[←hD',←Bool.not_eq_true]
     exact fun h=>hno ⟨i,by omega,h⟩
    refine wS ?_
    refine SC.lend0 (ZtY hnt z old _ hf hE) rfl fun r h₂ hp=>?_
    obtain⟨rfl,rfl⟩:=hp
    refine⟨rfl,rfl,?_⟩
    refine wS ?_
    refine Br.isF rfl ?_
    refine wS ?_
    refine⟨i+1,by show i+1≤_;omega,by show old.length-(i+1)+0<old.length-i+0;omega,?_⟩
    exact ZI
   ·simp only[decide_eq_false_iff_not]at hb
    refine wS ?_
    refine Br.isT rfl ?_
    refine wS ?_
    have hck0:=ZhN (z:=⟨0,[]⟩) rfl hdl hni hl4
    have hf0:YG (Zn ⟨0,[]⟩ old):=⟨by simp[Zn],hf.old,hf.new,fun z hz=>by simp[Zn]at hz;subst hz;simp,hf.stops⟩
    have hone:=RL.one hck0 hdl (by omega)
    have hD':Qr (Zn ⟨0,[]⟩ old) 0=⟨(nt Train default old 0).number,0⟩:=by unfold Qr Zn;rw[hnt];rfl
    have hrl:=RL.snoc (C:=(Qx (Zn ⟨0,[]⟩ old) (Qr (Zn ⟨0,[]⟩ old) 0)).1) hdl RL.nil (by show 0<old.length;omega) hone
    have hrj:=hrl.ok (z:=⟨0,[]⟩) rfl hdl hni hl4 (by omega) (by simp)
    have k:=ZqI (Zn ⟨0,[]⟩ old) (Qr (Zn ⟨0,[]⟩ old) 0) hf0
    rw[hD']at k hrj hone
    rw[show(Qx (Zn ⟨0,[]⟩ old) ⟨(nt Train default old 0).number,0⟩).2=true by rw[hone]]at k
    generalize (Qx (Zn ⟨0,[]⟩ old) ⟨(nt Train default old 0).number,0⟩).1=C at hrj k
    refine Zbr [0,2,3,8,9] 4 rfl rfl (s₂:=mkS 312 [(0,.ptr 0 0),(2,.int .i64 fun _=>waits),(3,.int .i64 fun _=>delays),(8,.ptr 1 0),(9,.ptr 3 0)]) (h₂:=[Xe s,.cells [.isl 0 (fun _=>0) (fun _=>[]) .nil,.isl 0 (fun _=>0) (fun _=>[]) .nil,.isl 0 (fun _=>0) (fun _=>[]) .nil,.int .i64 fun _=>0,.int .i64 fun _=>0,.isl 0 (fun _=>0) (fun _=>[]) .nil,.isl 0 (fun _=>0) (fun _=>[]) .nil,.isl 0 (fun _=>0) (fun _=>[]) .nil],.dead,.cells [.isl 2 (fun _=>1) (fun e=>encZone (nt Zone default [⟨0,[]⟩] (e ()))) .none,.isl 3 (fun _=>(old.length:Int)) (fun e=>encTrain (nt Train default old (e ()))) .none,.isl 0 (fun _=>0) (fun _=>[]) .nil,.int .i64 fun _=>1,.int .i64 fun _=>0,.isl 2 (fun _=>1) (fun e=>Zg (nt Sp.Qq default [⟨(nt Train default old 0).number,0⟩] (e ()))) .none,.isl 0 (fun _=>0) (fun _=>[]) .nil,.isl 0 (fun _=>0) (fun _=>[]) .nil]]) ((To.froze (id:=2) rfl).trans ((To.rsvC (id:=3) rfl).trans ?_)) ?_
    ·(refine To.of [] ?_;cbv;(try simp only[nc]);(repeat' (first|exact trivial|exact ZD.refl _|exact ZL.refl _|refine⟨?_,?_⟩|refine ZL.cells ?_|refine ZD.agg ?_|refine ZD.tup ?_));(all_goals (first|exact X9|skip)))
     ·exact .deadF
     ·refine .gd rfl (.elems rfl fun i hi=>?_)
      match i,hi with
      |0,_=>(simp only[hnt]);exact Y5.two fun w ok v h=>h.wk rfl (fun j hj=>by have hj:(j:Int)<0:=hj;omega) (.inl rfl)
     ·refine .none rfl fun i hi=>?_
      match i,hi with
      |0,_=>(simp only[hnt]);rfl
    refine Zd9 false false [] [21] false ?_
    simp only[Zc,Zg,Zn,Za hnt]at k
    refine wS ?_
    have e0:nt Sp.Qq default [⟨(nt Train default old 0).number,0⟩] 0=⟨(nt Train default old 0).number,0⟩:=by rw[hnt];rfl
    refine J2 k (by((refine To.of [] ?_;cbv;(try simp only[nc]);(repeat' (first|exact trivial|exact ZD.refl _|exact ZL.refl _|refine⟨?_,?_⟩|refine ZL.cells ?_|refine ZD.agg ?_|refine ZD.tup ?_));(all_goals (first|exact X9|skip)));all_goals exact .int (by simp only[e0]))) rfl fun r h₂ hp=>?_
    obtain⟨rfl,rfl⟩:=hp
    refine wS ?_
    refine Zbr [0,2,3,8,9,11] 4 rfl rfl ?_ (M (s,⟨0,[]⟩,old,[⟨(nt Train default old 0).number,0⟩],[C]) ⟨hrj,by show((1:Nat):Int)≤_;omega,rfl,_,hdl⟩)
    refine toR ?_
    refine .none rfl fun i hi=>?_
    match i,hi with
    |0,_=>(simp only[hnt]);rfl
  ·intro s z old rs rows hj
   have hrj:=hj.1
   have hrs:=hj.2.1
   have hbk:(∃z' old' n,Zn z old=Zn z' old'∧Zu z'=0∧DL n old')∧∀k,k<rs.length→∃j,j<old.length∧rs.getD k default=Qr (Zn z old) j:=⟨⟨z,old,hj.2.2.2.choose,rfl,hj.2.2.1,hj.2.2.2.choose_spec⟩,hrj.from_⟩
   have hrpos:=hrj.pos
   have hrlen:=hrj.len
   clear hj
   have hrow:∀f:Int,0≤f→f<rows.length→Zjj (nt (List Sp.Call) [] rows f):=fun f h1 h2=>by rw[hnt];exact hrj.row _ (ZjS (by omega))
   refine Zd9 false false [] [] false ?_
   refine wS ?_
   refine ZhB false false [] [0,2,3,8,9,11,18] [.tok 4 fun _=>0] (fun(⟨i,s,ws⟩:Nat×Int×List Sp.Xo)=>[(18,.int .i64 fun _=>i)])
    (fun⟨i,s,ws⟩=>[(0,Xe s),(3,.cells [.isl 2 (fun _=>1) (fun e=>encZone (nt Zone default [z] (e ()))) .none,.isl 3 (fun _=>(old.length:Int)) (fun e=>encTrain (nt Train default old (e ()))) .none,.isl 0 (fun _=>0) (fun _=>[]) .nil,.int .i64 fun _=>1,.int .i64 fun _=>0,.isl 2 (fun _=>(rs.length:Int)) (fun e=>Zg (nt Sp.Qq default rs (e ()))) .none,.isl 4 (fun _=>(ws.length:Int)) (fun e=>Xh (nt Sp.Xo default ws (e ()))) (.own 4),.isl 0 (fun _=>0) (fun _=>[]) .nil]),(4,.tok 4 fun _=>(ws.length:Int))])
    (fun⟨i,s,ws⟩=>i≤N∧LOk (QA rows) ws∧(ws.length:Int)≤waits) (fun i=>i.1+0) (N,s,[]) ⟨Nat.le_refl _,.nil,by simp;omega⟩ ?_ ?_
   ·(refine To.of [(4,false)] ?_;cbv;(try simp only[nc]);(repeat' (first|exact trivial|exact ZD.refl _|exact ZL.refl _|refine⟨?_,?_⟩|refine ZL.cells ?_|refine ZD.agg ?_|refine ZD.tup ?_));(all_goals (first|exact X9|skip)))
    exact .int hN.symm
   intro i s ws hq
   have hi:i≤N:=hq.1
   have hok:LOk (QA rows) ws:=hq.2.1
   have hwl:(ws.length:Int)≤waits:=hq.2.2
   clear hq
   refine wS ?_
   refine⟨fun hb=>?_,fun hb=>?_⟩
   ·have hb1:0<i∧(ws.length:Int)<waits:=by
     by_cases h0:(0:Int)<i<;>simp[h0]at hb<;>omega
    refine wS ?_
    refine cL2 [0] (c17 s ((rows.length:Int)-1) (by omega)) fun r h₂ hp=>?_
    (try simp only[Zd,Zc,Zf,Zb,Zg,Zn,Za hnt]at hp)
    obtain⟨fe,s5,hfe,rfl,rfl⟩:=hp
    refine wS ?_
    refine cL2 [0] (c17 s5 ((rows.length:Int)-1) (by omega)) fun r h₂ hp=>?_
    (try simp only[Zd,Zc,Zf,Zb,Zg,Zn,Za hnt]at hp)
    obtain⟨tr,s6,htr,rfl,rfl⟩:=hp
    refine wS ?_
    have hfr:=hrow fe (by omega) (by omega)
    have htr2:=hrow tr (by omega) (by omega)
    have hfl:=hfr.len
    have htl:=htr2.len
    refine cL2 [0] (c17 s6 20 (by omega)) fun r h₂ hp=>?_
    (try simp only[Zd,Zc,Zf,Zb,Zg,Zn,Za hnt]at hp)
    obtain⟨m1,s7,hm1,rfl,rfl⟩:=hp
    refine wS ?_
    refine cL2 [0] (c17 s7 60 (by omega)) fun r h₂ hp=>?_
    (try simp only[Zd,Zc,Zf,Zb,Zg,Zn,Za hnt]at hp)
    obtain⟨m2,s8,hm2,rfl,rfl⟩:=hp
    refine wS ?_
    refine cL2 [0] (ZfN s8 [0,m1,m2] (by simp)) fun r h₂ hp=>?_
    (try simp only[Zd,Zc,Zf,Zb,Zg,Zn,Za hnt]at hp)
    obtain⟨mi,s9,hmi,rfl,rfl⟩:=hp
    have hmi:0≤mi∧mi≤60:=by simp at hmi;omega
    refine wS ?_
    refine⟨?_,?_⟩
    all_goals
     (try refine wS ?_)
     refine cL2 [0] (c22 s9 1 (((nt (List Sp.Call) [] rows fe).length:Int)-1) (by omega) (by omega)) fun r h₂ hp=>?_
     (try simp only[Zd,Zc,Zf,Zb,Zg,Zn,Za hnt]at hp)
     obtain⟨x,s10,hx,rfl,rfl⟩:=hp
     refine wS ?_
     refine ZhB false false [] [0,2,3,8,9,11,18,19,20,21] [] (fun(⟨j,ws,u⟩:Nat×List Sp.Xo×Unit)=>[(21,.int .i64 fun _=>j)])
      (fun⟨j,ws,u⟩=>[(3,.cells [.isl 2 (fun _=>1) (fun e=>encZone (nt Zone default [z] (e ()))) .none,.isl 3 (fun _=>(old.length:Int)) (fun e=>encTrain (nt Train default old (e ()))) .none,.isl 0 (fun _=>0) (fun _=>[]) .nil,.int .i64 fun _=>1,.int .i64 fun _=>0,.isl 2 (fun _=>(rs.length:Int)) (fun e=>Zg (nt Sp.Qq default rs (e ()))) .none,.isl 4 (fun _=>(ws.length:Int)) (fun e=>Xh (nt Sp.Xo default ws (e ()))) (.own 4),.isl 0 (fun _=>0) (fun _=>[]) .nil]),(4,.tok 4 fun _=>(ws.length:Int))])
      (fun⟨j,ws,u⟩=>LOk (QA rows) ws∧(ws.length:Int)≤waits∧((ws.length:Int)<waits∨(ws.any fun q=>decide (q.feeder=fe∧q.train=tr∧q.station=(nt Sp.Call default (nt (List Sp.Call) [] rows fe) x).station))=true)) (fun q=>(nt (List Sp.Call) [] rows tr).length-q.1+0) (0,ws,()) ⟨hok,hwl,.inl hb1.2⟩ ?_ ?_
     ·exact ZI
     intro j ws2 u hq2
     have hok2:LOk (QA rows) ws2:=hq2.1
     have hwl2:(ws2.length:Int)≤waits:=hq2.2.1
     have hor2:=hq2.2.2
     clear hq2
     refine wS ?_
     refine⟨fun hb2=>?_,fun hb2=>?_⟩
     ·have hj2:(j:Int)<((nt (List Sp.Call) [] rows tr).length:Int)-1∧fe≠tr:=by
       by_cases h0:(j:Int)<((nt (List Sp.Call) [] rows tr).length:Int)-1<;>simp[h0]at hb2<;>exact⟨h0,hb2⟩
      refine wS ?_
      generalize hc7:(bif (nt Sp.Call default (nt (List Sp.Call) [] rows tr) (j:Int)).station==(nt Sp.Call default (nt (List Sp.Call) [] rows fe) x).station then decide ((nt Sp.Call default (nt (List Sp.Call) [] rows fe) x).arrive≤(nt Sp.Call default (nt (List Sp.Call) [] rows tr) (j:Int)).depart)else false)=c7
      refine⟨fun h7=>?_,fun h7=>?_⟩
      ·subst h7
       have h8:(nt Sp.Call default (nt (List Sp.Call) [] rows tr) (j:Int)).station=(nt Sp.Call default (nt (List Sp.Call) [] rows fe) x).station∧(nt Sp.Call default (nt (List Sp.Call) [] rows fe) x).arrive≤(nt Sp.Call default (nt (List Sp.Call) [] rows tr) (j:Int)).depart:=by
        by_cases h0:(nt Sp.Call default (nt (List Sp.Call) [] rows tr) (j:Int)).station=(nt Sp.Call default (nt (List Sp.Call) [] rows fe) x).station
        ·simp only[h0,beq_self_eq_true,cond_true,decide_eq_true_eq]at hc7
         exact⟨h0,hc7⟩
        ·have h1:((nt Sp.Call default (nt (List Sp.Call) [] rows tr) (j:Int)).station==(nt Sp.Call default (nt (List Sp.Call) [] rows fe) x).station)=false:=by simpa using h0
         rw[h1]at hc7
         cases hc7
       clear hc7
       have k:=ZuP ws2 ⟨fe,tr,(nt Sp.Call default (nt (List Sp.Call) [] rows fe) x).station,mi⟩ (by omega)
       dsimp only at k
       generalize hE:(ws2.any fun q=>decide (q.feeder=fe∧q.train=tr∧q.station=(nt Sp.Call default (nt (List Sp.Call) [] rows fe) x).station))=E at k
       simp only[Za hnt]at k
       refine wS ?_
       refine J2 k (by((refine To.of [] ?_;cbv;(try simp only[nc]);(repeat' (first|exact trivial|exact ZD.refl _|exact ZL.refl _|refine⟨?_,?_⟩|refine ZL.cells ?_|refine ZD.agg ?_|refine ZD.tup ?_));(all_goals (first|exact X9|skip)));all_goals exact .none rfl fun _ _=>rfl)) rfl fun r h₂ hp=>?_
       obtain⟨rfl,rfl⟩:=hp
       refine wS ?_
       refine⟨fun h9=>?_,fun h9=>?_⟩
       ·have h9:E=false:=by
         cases E
         ·rfl
         ·cases h9
        have hlt:(ws2.length:Int)<waits:=by
         rcases hor2 with h|h
         ·exact h
         ·rw[hE,h9]at h;cases h
        have hx1:1≤x.toNat∧x.toNat<(Sp.Zo rows fe).length:=by have h1:=hx;have h2:=hfl;simp only[hnt]at h1 h2;unfold Sp.Zo;omega
        have hx2:j+1<(Sp.Zo rows tr).length:=by have:=hj2.1;simp only[hnt]at this;unfold Sp.Zo;omega
        have hw9:QA rows ⟨fe,tr,(nt Sp.Call default (nt (List Sp.Call) [] rows fe) x).station,mi⟩ ws2=0:=Zpd (w:=⟨fe,tr,(nt Sp.Call default (nt (List Sp.Call) [] rows fe) x).station,mi⟩) hrj.row (i:=x.toNat) (k:=j) ⟨hfe.1,by dsimp only;omega⟩ ⟨htr.1,by dsimp only;omega⟩ hj2.2 hx1 hx2 (by simp only[hnt];rfl) (by have:=h8.1;simp only[hnt,Int.toNat_natCast]at this⊢;exact this) (by have:=h8.2;simp only[hnt,Int.toNat_natCast]at this⊢;exact this) hmi (by dsimp only;rw[hE,h9])
        have hok3:=hok2.snoc hw9
        have hl9:((ws2++[(⟨fe,tr,(nt Sp.Call default (nt (List Sp.Call) [] rows fe) x).station,mi⟩:Sp.Xo)]).length:Int)≤waits:=by rw[List.length_append,List.length_singleton];omega
        have ha9:((ws2++[(⟨fe,tr,(nt Sp.Call default (nt (List Sp.Call) [] rows fe) x).station,mi⟩:Sp.Xo)]).any fun q=>decide (q.feeder=fe∧q.train=tr∧q.station=(nt Sp.Call default (nt (List Sp.Call) [] rows fe) x).station))=true:=by rw[List.any_append];simp
        refine wS ?_
        refine⟨(j+1,ws2++[⟨fe,tr,(nt Sp.Call default (nt (List Sp.Call) [] rows fe) x).station,mi⟩],()),⟨hok3,hl9,.inr ha9⟩,by show(nt (List Sp.Call) [] rows tr).length-(j+1)+0<(nt (List Sp.Call) [] rows tr).length-j+0;omega,?_⟩
        exact ZI
       ·refine wS ?_
        refine⟨(j+1,ws2,()),⟨hok2,hwl2,hor2⟩,by show(nt (List Sp.Call) [] rows tr).length-(j+1)+0<(nt (List Sp.Call) [] rows tr).length-j+0;omega,?_⟩
        exact ZI
      ·subst h7
       clear hc7
       refine wS ?_
       refine Br.isF rfl ?_
       refine wS ?_
       refine⟨(j+1,ws2,()),⟨hok2,hwl2,hor2⟩,by show(nt (List Sp.Call) [] rows tr).length-(j+1)+0<(nt (List Sp.Call) [] rows tr).length-j+0;omega,?_⟩
       exact ZI
     ·refine wS ?_
      obtain⟨k,rfl⟩:∃k,i=k+1:=⟨i-1,by omega⟩
      refine⟨(k,s10,ws2),⟨by omega,hok2,hwl2⟩,by show k+0<k+1+0;omega,?_⟩
      exact ZI
   ·refine wS ?_
    obtain⟨D,hD⟩:∃D:Nat,(D:Int)=delays:=⟨delays.toNat,by omega⟩
    refine ZhB false false [] [0,8,9,11,23] [.tok 3 fun _=>0] (fun(⟨i,s,ds⟩:Nat×Int×List Sp.Qn)=>[(23,.int .i64 fun _=>i)])
     (fun⟨i,s,ds⟩=>[(0,Xe s),(3,.cells [.isl 2 (fun _=>1) (fun e=>encZone (nt Zone default [z] (e ()))) .none,.isl 3 (fun _=>(old.length:Int)) (fun e=>encTrain (nt Train default old (e ()))) .none,.isl 0 (fun _=>0) (fun _=>[]) .nil,.int .i64 fun _=>1,.int .i64 fun _=>0,.isl 2 (fun _=>(rs.length:Int)) (fun e=>Zg (nt Sp.Qq default rs (e ()))) .none,.isl 4 (fun _=>(ws.length:Int)) (fun e=>Xh (nt Sp.Xo default ws (e ()))) (.own 4),.isl 3 (fun _=>(ds.length:Int)) (fun e=>ZE (nt Sp.Qn default ds (e ()))) (.own 5)]),(5,.tok 3 fun _=>(ds.length:Int))])
     (fun⟨i,s,ds⟩=>i≤D∧LOk (QY rows) ds∧ds.length+i≤D) (fun i=>i.1+0) (D,s,[]) ⟨Nat.le_refl _,.nil,by simp⟩ ?_ ?_
    ·(refine To.of [(3,false)] ?_;cbv;(try simp only[nc]);(repeat' (first|exact trivial|exact ZD.refl _|exact ZL.refl _|refine⟨?_,?_⟩|refine ZL.cells ?_|refine ZD.agg ?_|refine ZD.tup ?_));(all_goals (first|exact X9|skip)))
     exact .int hD.symm
    intro i s ds hq
    have hi2:i≤D:=hq.1
    have hdk:LOk (QY rows) ds:=hq.2.1
    have hdl2:ds.length+i≤D:=hq.2.2
    clear hq
    refine wS ?_
    refine⟨fun hb3=>?_,fun hb3=>?_⟩
    ·simp only[decide_eq_true_eq]at hb3
     refine wS ?_
     refine cL2 [0] (c17 s ((rows.length:Int)-1) (by omega)) fun r h₂ hp=>?_
     (try simp only[Zd,Zc,Zf,Zb,Zg,Zn,Za hnt]at hp)
     obtain⟨r,s5,hr5,rfl,rfl⟩:=hp
     have hrr:=hrow r (by omega) (by omega)
     have hrl:=hrr.len
     refine wS ?_
     refine cL2 [0] (c17 s5 (((nt (List Sp.Call) [] rows r).length:Int)-2) (by omega)) fun r h₂ hp=>?_
     (try simp only[Zd,Zc,Zf,Zb,Zg,Zn,Za hnt]at hp)
     obtain⟨lg,s6,hlg,rfl,rfl⟩:=hp
     refine wS ?_
     refine cL2 [0] (c17 s6 10 (by omega)) fun r h₂ hp=>?_
     (try simp only[Zd,Zc,Zf,Zb,Zg,Zn,Za hnt]at hp)
     obtain⟨n0,s7,hn0,rfl,rfl⟩:=hp
     refine wS ?_
     refine cL2 [0] (ZfN s7 [0,0,n0] (by simp)) fun r h₂ hp=>?_
     (try simp only[Zd,Zc,Zf,Zb,Zg,Zn,Za hnt]at hp)
     obtain⟨nn,s8,hnn,rfl,rfl⟩:=hp
     have hnn:0≤nn∧nn≤10:=by simp at hnn;omega
     refine wS ?_
     refine cL2 [0] (c22 s8 1 3 (by omega) (by omega)) fun r h₂ hp=>?_
     (try simp only[Zd,Zc,Zf,Zb,Zg,Zn,Za hnt]at hp)
     obtain⟨kk,s9,hkk,rfl,rfl⟩:=hp
     refine wS ?_
     obtain⟨kk,rfl⟩:∃q:Nat,kk=q:=⟨kk.toNat,by omega⟩
     refine Zsp false false [] [0,8,9,11,23,24,25,26] [.tok 1 fun _=>0] (fun(⟨k,n,s,b⟩:Nat×Int×Int×List Int)=>[(25,.int .i64 fun _=>n),(26,.int .i64 fun _=>k)])
      (fun⟨k,n,s,b⟩=>[(0,Xe s),(6,.cells [.int .i64 fun _=>r,.int .i64 fun _=>lg,.isl 1 (fun _=>(b.length:Int)) (fun e=>XC (nt Int 0 b (e ()))) (.own 7)]),(7,.tok 1 fun _=>(b.length:Int))])
      (fun⟨k,n,s,b⟩=>b.length+k=kk∧ByL b n) (fun q=>q.1+0) (kk,nn,s9,[]) ⟨by simp,.nil hnn⟩ ?_ ?_
     ·(refine To.of [(1,false)] ?_;cbv;(try simp only[nc]);(repeat' (first|exact trivial|exact ZD.refl _|exact ZL.refl _|refine⟨?_,?_⟩|refine ZL.cells ?_|refine ZD.agg ?_|refine ZD.tup ?_));(all_goals (first|exact X9|skip)))
     intro k n s b hq3
     have hbk:b.length+k=kk:=hq3.1
     have hbl:ByL b n:=hq3.2
     clear hq3
     refine wS ?_
     refine⟨fun hb4=>?_,fun hb4=>?_⟩
     ·simp only[decide_eq_true_eq]at hb4
      have hbd:=hbl.bd
      refine wS ?_
      refine cL2 [0] (c22 s 1 60 (by omega) (by omega)) fun r h₂ hp=>?_
      (try simp only[Zd,Zc,Zf,Zb,Zg,Zn,Za hnt]at hp)
      obtain⟨y,s10,hy,rfl,rfl⟩:=hp
      refine wS ?_
      refine cL2 [0] (ZfN s10 [5,10,20,y] (by simp)) fun r h₂ hp=>?_
      (try simp only[Zd,Zc,Zf,Zb,Zg,Zn,Za hnt]at hp)
      obtain⟨y2,s11,hy2,rfl,rfl⟩:=hp
      have hy2:1≤y2∧y2≤60:=by simp at hy2;omega
      refine wS ?_
      obtain⟨k,rfl⟩:∃q,k=q+1:=⟨k-1,by omega⟩
      refine⟨(k,n+y2,s11,b++[n]),⟨by simp only[List.length_append,List.length_cons,List.length_nil];omega,hbl.snoc (by omega) hy2⟩,by show k+0<k+1+0;omega,?_⟩
      exact ZI
     ·simp only[decide_eq_false_iff_not]at hb4
      refine wS ?_
      have hbk:b.length=kk:=by omega
      refine ZhB false false [] [0,8,9,11,23,24,27,28] [] (fun(⟨k,M,u⟩:Nat×Bool×Unit)=>[(27,.bool fun _=>M),(28,.int .i64 fun _=>k)])
       (fun⟨k,M,u⟩=>[(6,.cells [.int .i64 fun _=>r,.int .i64 fun _=>lg,.isl 1 (fun _=>(b.length:Int)) (fun e=>XC (nt Int 0 b (e ()))) .none])])
       (fun⟨k,M,u⟩=>k≤ds.length∧M=(ds.take k).any fun q=>decide (q.run=r∧q.leg=lg)) (fun q=>ds.length-q.1+0) (0,false,()) ⟨Nat.zero_le _,rfl⟩ ?_ ?_
      ·(refine To.of [] ?_;cbv;(try simp only[nc]);(repeat' (first|exact trivial|exact ZD.refl _|exact ZL.refl _|refine⟨?_,?_⟩|refine ZL.cells ?_|refine ZD.agg ?_|refine ZD.tup ?_));(all_goals (first|exact X9|skip)))
       all_goals exact .none rfl fun _ _=>rfl
      intro k M u hq4
      have hkd:k≤ds.length:=hq4.1
      have hM:M=(ds.take k).any fun q=>decide (q.run=r∧q.leg=lg):=hq4.2
      clear hq4
      refine wS ?_
      refine⟨fun hb5=>?_,fun hb5=>?_⟩
      ·simp only[decide_eq_true_eq]at hb5
       have hst:=Zl9 (p:=fun q:Sp.Qn=>decide (q.run=r∧q.leg=lg)) (d:=default) (l:=ds) (k:=k) (by omega)
       have hsr:decide ((ds.getD k default).run=r∧(ds.getD k default).leg=lg)=(bif (ds.getD k default).run==r then(ds.getD k default).leg==lg else false):=ZqP _ _ _ _
       have hn1:ds.getD k default=nt Sp.Qn default ds (k:Int):=by rw[hnt];rfl
       rw[hn1]at hsr hst
       rw[←hM]at hst
       cases M
       ·refine wS ?_
        refine⟨(k+1,(bif (nt Sp.Qn default ds (k:Int)).run==r then(nt Sp.Qn default ds (k:Int)).leg==lg else false),()),⟨by omega,by rw[hst];exact hsr.symm⟩,by show ds.length-(k+1)+0<ds.length-k+0;omega,?_⟩
        exact ZI
       ·refine wS ?_
        refine⟨(k+1,true,()),⟨by omega,by rw[hst];rfl⟩,by show ds.length-(k+1)+0<ds.length-k+0;omega,?_⟩
        exact ZI
      ·simp only[decide_eq_false_iff_not]at hb5
       have hM:M=ds.any fun q=>decide (q.run=r∧q.leg=lg):=by rw[hM,List.take_of_length_le (by omega)]
       refine wS ?_
       obtain⟨i,rfl⟩:∃q,i=q+1:=⟨i-1,by omega⟩
       refine⟨fun hb6=>?_,fun hb6=>?_⟩
       ·have hb6:M=false:=by
         cases M
         ·rfl
         ·cases hb6
        rw[hb6]at hM
        have hok9:QY rows ⟨r,lg,b⟩ ds=0:=ZoE (d:=⟨r,lg,b⟩) ⟨hr5.1,by dsimp only;omega⟩ ⟨hlg.1,by have h1:=hlg.2;have h2:=hrl;simp only[hnt]at h1 h2;unfold Sp.Zo;dsimp only;omega⟩ ⟨by dsimp only;omega,by dsimp only;omega⟩ hbl.rng hbl.asc hM.symm
        have hok10:=hdk.snoc hok9
        have hl10:(ds++[(⟨r,lg,b⟩:Sp.Qn)]).length+i≤D:=by rw[List.length_append,List.length_singleton];omega
        refine wS ?_
        refine⟨(i,s,ds++[⟨r,lg,b⟩]),⟨by omega,hok10,hl10⟩,by show i+0<i+1+0;omega,?_⟩
        refine toR ?_
        exact .snoc hnt rfl (by simp) (by unfold ZE;rw[Za hnt];rfl)
       ·refine wS ?_
        refine⟨(i,s,ds),⟨by omega,hdk,by show ds.length+i≤D;omega⟩,by show i+0<i+1+0;omega,?_⟩
        exact ZI
    ·refine wS ?_
     have hbg:Zr ⟨Zn z old,rs,ws,ds⟩=0:=ZoR hrj.check (hrj.err ws ds) (by show ws.length≤4;omega) (by rw[hrj.calls];exact hok) (by show ds.length≤6;omega) (by rw[hrj.calls];exact hdk)
     refine⟨Zf ⟨Zn z old,rs,ws,ds⟩,[Xe s],?_,⟨Zn z old,rs,ws,ds⟩,s,⟨⟨hbg,by rw[hrj.calls];exact hrj.row,hbk.1,hbk.2⟩,hrs,hwl,by show(ds.length:Int)≤delays;omega⟩,rfl,rfl⟩
     unfold Zf Zn
     simp only[Za hnt]
     (refine To.of [] ?_;cbv;(try simp only[nc]);(repeat' (first|exact trivial|exact ZD.refl _|exact ZL.refl _|refine⟨?_,?_⟩|refine ZL.cells ?_|refine ZD.agg ?_|refine ZD.tup ?_));(all_goals (first|exact X9|skip)))
     all_goals exact .none rfl fun _ _=>rfl
set_option maxHeartbeats 4000000
theorem Zkm (st a d:Int):SC (fun _=>Tryz.prog) 126 [.int .i64 fun _=>st,.int .i64 fun _=>a,.int .i64 fun _=>d] [] fun v h=>v= .agg (Q0 (ZcV st a d))∧h=[]:=by
 unfold Q0 ZcV
 refine SC.less (QP Tryz.func126 (body:=Zk Tryz.f126) rfl (by decide+kernel) ?_)
 refine wS ?_
 refine⟨_,[],?_,rfl,rfl⟩
 exact ZI
theorem ZqJ (a b:Int):SC (fun _=>Tryz.prog) 64 [.int .i64 fun _=>a,.int .i64 fun _=>b] [] fun v h=>v= .agg (Qz ⟨a,b⟩)∧h=[]:=by
 unfold Qz
 refine SC.less (QP Tryz.func64 (body:=Zk Tryz.f64) rfl (by decide+kernel) ?_)
 refine wS ?_
 refine⟨_,[],?_,rfl,rfl⟩
 exact ZI
theorem Zt0:SC (fun _=>Tryz.prog) 70 [] [] fun v h=>v=ZQ ZiM∧h=[]:=by
 obtain⟨nt,hnt⟩:=Zs
 unfold ZQ
 simp only[Za hnt]
 refine SC.less (QP Tryz.func70 (body:=Zk Tryz.f70) rfl (by decide+kernel) ?_)
 refine wS ?_
 refine⟨_,[],?_,rfl,rfl⟩
 exact ZI
theorem ZuR:SC (fun _=>Tryz.prog) 71 [] [] fun v h=>v=ZQ ZlL∧h=[]:=by
 obtain⟨nt,hnt⟩:=Zs
 have k:=Zt0
 have h2:ZlL.steps=ZiM.steps.take 2:=rfl
 have e:ZQ ZlL= .agg [.int .i64 fun _=>0,.int .i64 fun _=>0,.int .i64 fun _=>3,lst 3 Q1 default (ZiM.steps.take 2)]:=rfl
 rw[e]
 unfold ZQ at k
 simp only[Za hnt]at k⊢
 have hlen:ZiM.steps.length=3:=rfl
 generalize ZiM.steps=S at*
 refine SC.less (QP Tryz.func71 (body:=Zk Tryz.f71) rfl (by decide+kernel) ?_)
 refine wS ?_
 refine ZS (k) (by first|rfl|(simp only[Zd,Zc,Zf,Zb,Za hnt];rfl)) fun r h₂ hp=>?_
 (try simp only[Zd,Zc,Zf,Zb,Za hnt]at hp)
 obtain⟨rfl,rfl⟩:=hp
 refine wS ?_
 refine⟨_,[],?_,rfl,rfl⟩
 refine toR ?_
 refine .isl (by show(2:Int)=((S.take 2).length:Int);rw[List.length_take,hlen];rfl) fun i hi=>?_
 have hi:(i:Int)<2:=hi
 show Q1 (nt Sp.Step default S (i:Int))=Q1 (nt Sp.Step default (S.take 2) (i:Int))
 rw[hnt,hnt,Int.toNat_natCast,List.getD_eq_getElem?_getD,List.getD_eq_getElem?_getD,List.getElem?_take,if_pos (by omega)]
theorem ZsC (t:Ze) (hf:ZA t) (B0 B1 B2 B3 B4 B5 B6:Nat→Zi) (stop:Nat→Bool)
  (hs:∀i X,sel true [0,1,2,3,4,5,6] [B0 i,B1 i,B2 i,B3 i,B4 i,B5 i,B6 i,X]=[B0 i,B1 i,B2 i,B3 i,B4 i,B5 i,B6 i])
  (hs6:∀i (f0 f1 f2 f3 f4 f5:Unit→Int),sel true [0,1,2,3,4,5,6,7] [B0 i,B1 i,B2 i,B3 i,B4 i,B5 i,B6 i,.cells [.int .i64 f0,.int .i64 f1,.int .i64 f2,.int .i64 f3,.int .i64 f4,.int .i64 f5]]=[B0 i,B1 i,B2 i,B3 i,B4 i,B5 i,B6 i,.cells [.int .i64 f0,.int .i64 f1,.int .i64 f2,.int .i64 f3,.int .i64 f4,.int .i64 f5]])
  (hfr:∀i X,sel false [0,1,2,3,4,5,6] [B0 i,B1 i,B2 i,B3 i,B4 i,B5 i,B6 i,X]=[B0 i,B1 i,B2 i,B3 i,B4 i,B5 i,B6 i])
  (hbk:∀i j X,back [0,1,2,3,4,5,6] [B0 i,B1 i,B2 i,B3 i,B4 i,B5 i,B6 i,X] [B0 j,B1 j,B2 j,B3 j,B4 j,B5 j,B6 j]=[B0 j,B1 j,B2 j,B3 j,B4 j,B5 j,B6 j,X])
  (hy:∀i,i<ZO t→(∀j,j<i→stop j=false)→YC (fun _=>Tryz.prog) 6 [.agg (X1 (Zj t i))] [B0 i,B1 i,B2 i,B3 i,B4 i,B5 i,B6 i] fun v h=>v= .bool (fun _=> !stop i)∧h=[B0 (i+1),B1 (i+1),B2 (i+1),B3 (i+1),B4 (i+1),B5 (i+1),B6 (i+1)])
  (hB:zOk [B0 0,B1 0,B2 0,B3 0,B4 0,B5 0,B6 0]=true:=by rfl):
  SC (fun _=>Tryz.prog) 176 [.yld 6,XM t] [B0 0,B1 0,B2 0,B3 0,B4 0,B5 0,B6 0] fun v h=>∃m,EndAt stop (ZO t) m∧h=[B0 m,B1 m,B2 m,B3 m,B4 m,B5 m,B6 m]:=by
 obtain⟨nt,hnt⟩:=Zs
 have hfit:=Xq hf
 have hnext:=fun n=> @ZcC t hf n
 have hmany:=ZcQ hf
 have hd6:=hf.dlen
 have hd0:=ZcB hf
 have hlen3:∀k,k<t.delays.length→lenAt t.delays k≤3:=fun k h=>by
  unfold lenAt
  rw[List.getD_eq_getElem?_getD,List.getElem?_eq_getElem h]
  exact(hf.d _ (List.getElem_mem h)).2.1
 have hnd:∀k:Nat,(nt Sp.Qn default t.delays (k:Int)).by_.length=lenAt t.delays k:=fun k=>by rw[hnt];rfl
 have hbd:∀n k,0≤(Zj t n).getD k 0∧(Zj t n).getD k 0≤3:=fun n k=>by
  by_cases h:k<t.delays.length
  ·have h1:=(hfit n).d k h
   have h2:=hlen3 k h
   unfold lenAt at h2
   omega
  ·have:=Zam (ds:=t.delays) t.delays.length n k (by omega)
   unfold Zj
   omega
 generalize ZO t=N at*
 generalize Zj t=TA at*
 unfold XM ZT
 simp only[Za hnt,Zb,ZE]
 refine QP Tryz.func176 (body:=Zk Tryz.f176) rfl (by decide+kernel) ?_ hB
 refine wS ?_
 refine ZV false false [] [0,1,3] [] (fun(i:Nat)=>[]) (fun i=>[(0,B0 i),(1,B1 i),(2,B2 i),(3,B3 i),(4,B4 i),(5,B5 i),(6,B6 i),(7,.cells (X1 (TA i)))]) (fun i=>i<N∧∀j,j<i→stop j=false) (fun i=>N-i+0) 0 ⟨by omega,fun j h=>by omega⟩ ?_ ?_
 ·unfold X1
  rw[hd0]
  have hs':=hs6 0 (fun _=>0) (fun _=>0) (fun _=>0) (fun _=>0) (fun _=>0) (fun _=>0)
  cbv at hs'
  simp only[List.cons.injEq,and_true]at hs'
  obtain⟨e0,e1,e2,e3,e4,e5,e6⟩:=hs'
  (refine To.of [] ?_;cbv;(try simp only[nc]);(repeat' (first|exact trivial|exact ZD.refl _|exact ZL.refl _|refine⟨?_,?_⟩|refine ZL.cells ?_|refine ZD.agg ?_|refine ZD.tup ?_));(all_goals (first|exact X9|skip)))
  all_goals first|(rw[e0];exact ZL.refl _)|(rw[e1];exact ZL.refl _)|(rw[e2];exact ZL.refl _)|(rw[e3];exact ZL.refl _)|(rw[e4];exact ZL.refl _)|(rw[e5];exact ZL.refl _)|(rw[e6];exact ZL.refl _)
 intro i hh
 unfold X1 at*
 refine wS ?_
 have hi:=hh.1
 have hno:=hh.2
 have hni:=hnext i hi
 refine YC.frameB [0,1,2,3,4,5,6] (by decide) (by simp) rfl rfl (hfr i _) (hy i hi hno) (hbk i (i+1) _) ?_
 refine wS ?_
 refine⟨fun hst=>?_,fun hst=>?_⟩
 ·have hst:stop i=true:=by simpa using hst
  have hs':=fun X=>hs (i+1) X
  refine wS ?_
  refine⟨i+1,.inr ⟨i,rfl,hi,hst,hno⟩,?_⟩
  have hs':=hs' (.cells [.int .i64 fun _=>(TA i).getD 0 0,.int .i64 fun _=>(TA i).getD 1 0,.int .i64 fun _=>(TA i).getD 2 0,.int .i64 fun _=>(TA i).getD 3 0,.int .i64 fun _=>(TA i).getD 4 0,.int .i64 fun _=>(TA i).getD 5 0])
  cbv at hs'
  simp only[List.cons.injEq,and_true]at hs'⊢
  exact hs'
 have hst:stop i=false:=by simpa using hst
 refine wS ?_
 refine Zai fun Q hQ=>?_
 refine ZV false false [] [0,1,3,4] [] (fun p:Nat×List Int=>[(4,.int .i64 fun _=>(p.1:Int)-1)]) (fun p=>[(7,.cells [.int .i64 fun _=>p.2.getD 0 0,.int .i64 fun _=>p.2.getD 1 0,.int .i64 fun _=>p.2.getD 2 0,.int .i64 fun _=>p.2.getD 3 0,.int .i64 fun _=>p.2.getD 4 0,.int .i64 fun _=>p.2.getD 5 0])])
  (fun p=>p.1≤t.delays.length∧p.2.length=6∧(∀k,0≤p.2.getD k 0∧p.2.getD k 0≤3)∧Sp.stepT t.delays t.delays.length (TA i)=Sp.stepT t.delays p.1 p.2) (fun p=>p.1+0) (t.delays.length,TA i) ⟨Nat.le_refl _,(hfit i).len,hbd i,rfl⟩ ?_ ?_
 ·exact ZI
 intro p hp
 refine vS ?_
 have hm:=hp.1
 have hyl:=hp.2.1
 have hyb:=hp.2.2.1
 have hst2:=hp.2.2.2
 clear hp
 by_cases h0:p.1=0
 ·rw[h0,Sp.stepT]at hst2
  rw[hst2]at hni
  have hend:¬i+1<N:=fun h=>by rw[if_pos h]at hni;cases hni
  refine Chk.mk (Qa) ?_
  refine Br.isF (by show(bif decide (0≤(p.1:Int)-1)then _ else false)=false;rw[decide_eq_false (by omega)];rfl) ?_
  refine wS ?_
  refine hQ _ _ _ ?_
  refine wS ?_
  refine Br.isT (decide_eq_true (by show(p.1:Int)-1<0;omega)) ?_
  refine wS ?_
  have hs':=hs (i+1) (.cells [.int .i64 fun _=>p.2.getD 0 0,.int .i64 fun _=>p.2.getD 1 0,.int .i64 fun _=>p.2.getD 2 0,.int .i64 fun _=>p.2.getD 3 0,.int .i64 fun _=>p.2.getD 4 0,.int .i64 fun _=>p.2.getD 5 0])
  cbv at hs'
  simp only[List.cons.injEq,and_true]at hs'
  refine⟨i+1,.inl ⟨by omega,fun j hj=>?_⟩,?_⟩
  ·by_cases h:j=i
   ·rw[h];exact hst
   ·exact hno j (by omega)
  ·simp only[List.cons.injEq,and_true]
   exact hs'
 obtain⟨k,hk⟩:∃k,p.1=k+1:=⟨p.1-1,by omega⟩
 have e1:=Zeu (x:=p.2) (e:=(p.1:Int)-1) (i:=k) (by omega) (by omega)
 have e2:(nt Sp.Qn default t.delays ((p.1:Int)-1)).by_.length=lenAt t.delays k:=by rw[show(p.1:Int)-1=(k:Int) by omega];exact hnd k
 have hl3:=hlen3 k (by omega)
 have hybk:=hyb k
 refine Chk.mk (Qa) ?_
 refine⟨fun h1=>?_,fun h1=>?_⟩
 ·have h1:p.2.getD k 0=(lenAt t.delays k:Int)-1:=by
   rw[decide_eq_true (by omega),e1,e2]at h1
   exact eq_of_beq h1
  rw[hk,Sp.stepT,if_pos h1]at hst2
  refine wS ?_
  refine⟨(k,p.2.set k 0),⟨by show k≤_;omega,by show(p.2.set k 0).length=6;rw[List.length_set];exact hyl,fun j=>?_,hst2⟩,by show k+0<p.1+0;omega,?_⟩
  ·show 0≤(p.2.set k 0).getD j 0∧(p.2.set k 0).getD j 0≤3
   rw[←Z0 (e:=(k:Int)) rfl (by omega)]
   have:=hyb j
   cases decide ((k:Int)=j)
   ·exact this
   ·exact⟨Int.le_refl _,by show(0:Int)≤3;decide⟩
  have g0:=Z0 (x:=p.2) (e:=(p.1:Int)-1) (k:=k) (j:=0) (v:=0) (by omega) (by omega)
  have g1:=Z0 (x:=p.2) (e:=(p.1:Int)-1) (k:=k) (j:=1) (v:=0) (by omega) (by omega)
  have g2:=Z0 (x:=p.2) (e:=(p.1:Int)-1) (k:=k) (j:=2) (v:=0) (by omega) (by omega)
  have g3:=Z0 (x:=p.2) (e:=(p.1:Int)-1) (k:=k) (j:=3) (v:=0) (by omega) (by omega)
  have g4:=Z0 (x:=p.2) (e:=(p.1:Int)-1) (k:=k) (j:=4) (v:=0) (by omega) (by omega)
  have g5:=Z0 (x:=p.2) (e:=(p.1:Int)-1) (k:=k) (j:=5) (v:=0) (by omega) (by omega)
  have hs':=hs6 (i+1) (fun _=>bif decide ((p.1:Int)-1=((0:Nat):Int))then 0 else p.2.getD 0 0) (fun _=>bif decide ((p.1:Int)-1=((1:Nat):Int))then 0 else p.2.getD 1 0) (fun _=>bif decide ((p.1:Int)-1=((2:Nat):Int))then 0 else p.2.getD 2 0) (fun _=>bif decide ((p.1:Int)-1=((3:Nat):Int))then 0 else p.2.getD 3 0) (fun _=>bif decide ((p.1:Int)-1=((4:Nat):Int))then 0 else p.2.getD 4 0) (fun _=>bif decide ((p.1:Int)-1=((5:Nat):Int))then 0 else p.2.getD 5 0)
  cbv at hs'
  simp only[List.cons.injEq,and_true]at hs'
  obtain⟨e3,e4,e5,e6,e7,e8,e9⟩:=hs'
  (refine To.of [] ?_;cbv;(try simp only[nc]);(repeat' (first|exact trivial|exact ZD.refl _|exact ZL.refl _|refine⟨?_,?_⟩|refine ZL.cells ?_|refine ZD.agg ?_|refine ZD.tup ?_));(all_goals (first|exact X9|skip)))
  all_goals first|(rw[e3];exact ZL.refl _)|(rw[e4];exact ZL.refl _)|(rw[e5];exact ZL.refl _)|(rw[e6];exact ZL.refl _)|(rw[e7];exact ZL.refl _)|(rw[e8];exact ZL.refl _)|(rw[e9];exact ZL.refl _)
 ·have h1:p.2.getD k 0≠(lenAt t.delays k:Int)-1:=by
   rw[decide_eq_true (by omega),e1,e2]at h1
   exact ne_of_beq_false h1
  rw[hk,Sp.stepT,if_neg h1]at hst2
  rw[hst2]at hni
  have hlt:i+1<N:=by
   by_cases h:i+1<N
   ·exact h
   ·rw[if_neg h]at hni;cases hni
  rw[if_pos hlt]at hni
  have hni:=Option.some.inj hni
  refine wS ?_
  refine hQ _ _ _ ?_
  refine wS ?_
  refine Br.isF (decide_eq_false (by show¬(p.1:Int)-1<0;omega)) ?_
  refine vS ?_
  simp only[e1]
  refine Chk.mk (Qa) ?_
  have hs':=hs6 (i+1) (fun _=>bif decide ((p.1:Int)-1=((0:Nat):Int))then p.2.getD k 0+1 else p.2.getD 0 0) (fun _=>bif decide ((p.1:Int)-1=((1:Nat):Int))then p.2.getD k 0+1 else p.2.getD 1 0) (fun _=>bif decide ((p.1:Int)-1=((2:Nat):Int))then p.2.getD k 0+1 else p.2.getD 2 0) (fun _=>bif decide ((p.1:Int)-1=((3:Nat):Int))then p.2.getD k 0+1 else p.2.getD 3 0) (fun _=>bif decide ((p.1:Int)-1=((4:Nat):Int))then p.2.getD k 0+1 else p.2.getD 4 0) (fun _=>bif decide ((p.1:Int)-1=((5:Nat):Int))then p.2.getD k 0+1 else p.2.getD 5 0)
  cbv at hs'
  simp only[List.cons.injEq,and_true]at hs'
  obtain⟨e3,e4,e5,e6,e7,e8,e9⟩:=hs'
  refine⟨i+1,⟨hlt,fun j hj=>?_⟩,by show N-(i+1)+0<N-i+0;omega,?_⟩
  ·by_cases h:j=i
   ·rw[h];exact hst
   ·exact hno j (by omega)
  rw[←hni]
  have g0:=Z0 (x:=p.2) (e:=(p.1:Int)-1) (k:=k) (j:=0) (v:=p.2.getD k 0+1) (by omega) (by omega)
  have g1:=Z0 (x:=p.2) (e:=(p.1:Int)-1) (k:=k) (j:=1) (v:=p.2.getD k 0+1) (by omega) (by omega)
  have g2:=Z0 (x:=p.2) (e:=(p.1:Int)-1) (k:=k) (j:=2) (v:=p.2.getD k 0+1) (by omega) (by omega)
  have g3:=Z0 (x:=p.2) (e:=(p.1:Int)-1) (k:=k) (j:=3) (v:=p.2.getD k 0+1) (by omega) (by omega)
  have g4:=Z0 (x:=p.2) (e:=(p.1:Int)-1) (k:=k) (j:=4) (v:=p.2.getD k 0+1) (by omega) (by omega)
  have g5:=Z0 (x:=p.2) (e:=(p.1:Int)-1) (k:=k) (j:=5) (v:=p.2.getD k 0+1) (by omega) (by omega)
  (refine To.of [] ?_;cbv;(try simp only[nc]);(repeat' (first|exact trivial|exact ZD.refl _|exact ZL.refl _|refine⟨?_,?_⟩|refine ZL.cells ?_|refine ZD.agg ?_|refine ZD.tup ?_));(all_goals (first|exact X9|skip)))
  all_goals first|(rw[e3];exact ZL.refl _)|(rw[e4];exact ZL.refl _)|(rw[e5];exact ZL.refl _)|(rw[e6];exact ZL.refl _)|(rw[e7];exact ZL.refl _)|(rw[e8];exact ZL.refl _)|(rw[e9];exact ZL.refl _)
theorem ZqF (t:Ze) (hf:ZA t) (B0 B1 B2 B3 B4 B5 B6:Nat→Zi) (stop:Nat→Bool)
  (h0:∀i,Ql 7 (B0 i)) (h1:∀i,Ql 7 (B1 i)) (h2:∀i,Ql 7 (B2 i)) (h3:∀i,Ql 7 (B3 i)) (h4:∀i,Ql 7 (B4 i)) (h5:∀i,Ql 7 (B5 i)) (h6:∀i,Ql 7 (B6 i))
  (hy:∀i,i<ZO t→(∀j,j<i→stop j=false)→YC (fun _=>Tryz.prog) 6 [.agg (X1 (Zj t i))] [B0 i,B1 i,B2 i,B3 i,B4 i,B5 i,B6 i] fun v h=>v= .bool (fun _=> !stop i)∧h=[B0 (i+1),B1 (i+1),B2 (i+1),B3 (i+1),B4 (i+1),B5 (i+1),B6 (i+1)]):
  SC (fun _=>Tryz.prog) 176 [.yld 6,XM t] [B0 0,B1 0,B2 0,B3 0,B4 0,B5 0,B6 0] fun v h=>∃m,EndAt stop (ZO t) m∧h=[B0 m,B1 m,B2 m,B3 m,B4 m,B5 m,B6 m]:=by
 have p6:∀j,j<7→Qk j [0,1,2,3,4,5,6] 0=some j:=by decide
 have p7:∀j,j<7→Qk j [0,1,2,3,4,5,6,7] 0=some j:=by decide
 have f7:∀j,j<7→YK [0,1,2,3,4,5,6] 8 j=j:=by decide
 refine ZsC t hf B0 B1 B2 B3 B4 B5 B6 stop (fun i X=>?_) (fun i f0 f1 f2 f3 f4 f5=>?_) (fun i X=>?_) (fun i j X=>?_) hy (Zc9 fun b hb=>?_)
 ·show [ZK true _ _ (B0 i),ZK true _ _ (B1 i),ZK true _ _ (B2 i),ZK true _ _ (B3 i),ZK true _ _ (B4 i),ZK true _ _ (B5 i),ZK true _ _ (B6 i)]=_
  rw[(h0 i).s _ _ _ p6,(h1 i).s _ _ _ p6,(h2 i).s _ _ _ p6,(h3 i).s _ _ _ p6,(h4 i).s _ _ _ p6,(h5 i).s _ _ _ p6,(h6 i).s _ _ _ p6]
 ·show [ZK true _ _ (B0 i),ZK true _ _ (B1 i),ZK true _ _ (B2 i),ZK true _ _ (B3 i),ZK true _ _ (B4 i),ZK true _ _ (B5 i),ZK true _ _ (B6 i),_]=_
  rw[(h0 i).s _ _ _ p7,(h1 i).s _ _ _ p7,(h2 i).s _ _ _ p7,(h3 i).s _ _ _ p7,(h4 i).s _ _ _ p7,(h5 i).s _ _ _ p7,(h6 i).s _ _ _ p7]
  rfl
 ·show [ZK false _ _ (B0 i),ZK false _ _ (B1 i),ZK false _ _ (B2 i),ZK false _ _ (B3 i),ZK false _ _ (B4 i),ZK false _ _ (B5 i),ZK false _ _ (B6 i)]=_
  rw[(h0 i).s _ _ _ p6,(h1 i).s _ _ _ p6,(h2 i).s _ _ _ p6,(h3 i).s _ _ _ p6,(h4 i).s _ _ _ p6,(h5 i).s _ _ _ p6,(h6 i).s _ _ _ p6]
 ·show [Q9 (YK [0,1,2,3,4,5,6] 8) (B0 j),Q9 (YK [0,1,2,3,4,5,6] 8) (B1 j),Q9 (YK [0,1,2,3,4,5,6] 8) (B2 j),Q9 (YK [0,1,2,3,4,5,6] 8) (B3 j),Q9 (YK [0,1,2,3,4,5,6] 8) (B4 j),Q9 (YK [0,1,2,3,4,5,6] 8) (B5 j),Q9 (YK [0,1,2,3,4,5,6] 8) (B6 j),X]=_
  rw[(h0 j).r _ f7,(h1 j).r _ f7,(h2 j).r _ f7,(h3 j).r _ f7,(h4 j).r _ f7,(h5 j).r _ f7,(h6 j).r _ f7]
 ·simp only[List.mem_cons,List.not_mem_nil,or_false]at hb
  rcases hb with rfl|rfl|rfl|rfl|rfl|rfl|rfl
  ·exact(h0 0).z
  ·exact(h1 0).z
  ·exact(h2 0).z
  ·exact(h3 0).z
  ·exact(h4 0).z
  ·exact(h5 0).z
  ·exact(h6 0).z
theorem ZsD (t:Ze) (hf:ZA t) (B0 B1 B2 B3 B4:Nat→Zi) (stop:Nat→Bool)
  (h0:∀i,Ql 5 (B0 i)) (h1:∀i,Ql 5 (B1 i)) (h2:∀i,Ql 5 (B2 i)) (h3:∀i,Ql 5 (B3 i)) (h4:∀i,Ql 5 (B4 i))
  (hy:∀i,i<ZO t→(∀j,j<i→stop j=false)→YC (fun _=>Tryz.prog) 4 [.agg (X1 (Zj t i)),.imap 2 3 fun _=>Qe t (Zj t i)] [B0 i,B1 i,B2 i,B3 i,B4 i] fun v h=>v= .bool (fun _=> !stop i)∧h=[B0 (i+1),B1 (i+1),B2 (i+1),B3 (i+1),B4 (i+1)]):
  SC (fun _=>Tryz.prog) 135 [.yld 4,XM t] [B0 0,B1 0,B2 0,B3 0,B4 0] fun v h=>∃m,EndAt stop (ZO t) m∧h=[B0 m,B1 m,B2 m,B3 m,B4 m]:=by
 obtain⟨nt,hnt⟩:=Zs
 have p4:∀j,j<5→Qk j [0,1,2,3,4] 0=some j:=by decide
 have p5:∀j,j<5→Qk j [0,1,2,3,4,5] 0=some j:=by decide
 have p6:∀j,j<5→Qk j [0,1,2,3,4,5,6] 0=some j:=by decide
 have f7:∀j,j<5→YK [0,1,2,3,4] 8 j=j:=by decide
 have hfr:∀i X4 X5 X6,sel false [0,1,2,3,4] [B0 i,B1 i,B2 i,B3 i,B4 i,X4,X5,X6]=[B0 i,B1 i,B2 i,B3 i,B4 i]:=fun i X4 X5 X6=>by
  show [ZK false _ _ (B0 i),ZK false _ _ (B1 i),ZK false _ _ (B2 i),ZK false _ _ (B3 i),ZK false _ _ (B4 i)]=_
  rw[(h0 i).s _ _ _ p4,(h1 i).s _ _ _ p4,(h2 i).s _ _ _ p4,(h3 i).s _ _ _ p4,(h4 i).s _ _ _ p4]
 have hbk:∀i j X4 X5 X6,back [0,1,2,3,4] [B0 i,B1 i,B2 i,B3 i,B4 i,X4,X5,X6] [B0 j,B1 j,B2 j,B3 j,B4 j]=[B0 j,B1 j,B2 j,B3 j,B4 j,X4,X5,X6]:=fun i j X4 X5 X6=>by
  show [Q9 (YK [0,1,2,3,4] 8) (B0 j),Q9 (YK [0,1,2,3,4] 8) (B1 j),Q9 (YK [0,1,2,3,4] 8) (B2 j),Q9 (YK [0,1,2,3,4] 8) (B3 j),Q9 (YK [0,1,2,3,4] 8) (B4 j),X4,X5,X6]=_
  rw[(h0 j).r _ f7,(h1 j).r _ f7,(h2 j).r _ f7,(h3 j).r _ f7,(h4 j).r _ f7]
 have e5:∀m L,sel true (List.range 6) [B0 m,B1 m,B2 m,B3 m,B4 m,.cells [.yld 4],L]=[B0 m,B1 m,B2 m,B3 m,B4 m,.cells [.yld 4]]:=fun m L=>by
  show [ZK true [0,1,2,3,4,5] _ (B0 m),ZK true [0,1,2,3,4,5] _ (B1 m),ZK true [0,1,2,3,4,5] _ (B2 m),ZK true [0,1,2,3,4,5] _ (B3 m),ZK true [0,1,2,3,4,5] _ (B4 m),_]=_
  rw[(h0 m).s _ _ _ p5,(h1 m).s _ _ _ p5,(h2 m).s _ _ _ p5,(h3 m).s _ _ _ p5,(h4 m).s _ _ _ p5]
  rfl
 have hz:zOk [B0 0,B1 0,B2 0,B3 0,B4 0]=true:=Zc9 fun b hb=>by
  simp only[List.mem_cons,List.not_mem_nil,or_false]at hb
  rcases hb with rfl|rfl|rfl|rfl|rfl
  ·exact(h0 0).z
  ·exact(h1 0).z
  ·exact(h2 0).z
  ·exact(h3 0).z
  ·exact(h4 0).z
 have hz6:∀i a s d,zOk [B0 i,B1 i,B2 i,B3 i,B4 i,.cells a,.loop s d]=true:=fun i a s d=>Zc9 fun b hb=>by
  simp only[List.mem_cons,List.not_mem_nil,or_false]at hb
  rcases hb with rfl|rfl|rfl|rfl|rfl|rfl|rfl
  ·exact(h0 i).z
  ·exact(h1 i).z
  ·exact(h2 i).z
  ·exact(h3 i).z
  ·exact(h4 i).z
  ·rfl
  ·rfl
 have k436:=ZtN t
 have k476:=fun s ps a x g4 g5=>ZqF t hf B0 B1 B2 B3 B4 (fun _=>.cells [.yld 4]) (fun m=>.loop s ⟨ps,a,x,bif QC stop m then .done else .ready,bif QC stop m then some .ret else none⟩) stop (fun i=>(h0 i).mono (by decide)) (fun i=>(h1 i).mono (by decide)) (fun i=>(h2 i).mono (by decide)) (fun i=>(h3 i).mono (by decide)) (fun i=>(h4 i).mono (by decide)) g4 g5
 have k437:=fun i=>ZtM t (Zj t i) hf (Xq hf i)
 generalize Zj t=TA at*
 generalize Qe t=HL at*
 generalize ZO t=N at*
 unfold XM ZT X1 at*
 simp only[Za hnt,Zb,ZE]at*
 refine QP Tryz.func135 (body:=Zk Tryz.f135) rfl (by decide+kernel) ?_ hz
 refine wS ?_
 refine ZS (k436) (by first|rfl|(simp only[Zd,Zc,Zf,Zb,Za hnt];rfl)) fun r h₂ hp=>?_
 (try simp only[Zd,Zc,Zf,Zb,Za hnt]at hp)
 obtain⟨rfl,rfl⟩:=hp
 refine wS ?_
 refine Zn0 (fid:=176) (first:=[]) rfl Xm ?_
 refine SC.mono (k476 _ _ _ _ ?_ ?_ ?_) ?_
 ·exact fun i=>⟨fun fz ι h hp=>by simp only[ZK,Qs,List.map,hp 4 (by decide)],fun φ hp=>by simp only[Q9,ren,List.map,hp 4 (by decide)],rfl⟩
 ·exact fun i=>⟨fun fz ι h hp=>by simp only[ZK,Qs,List.map,hp 4 (by decide),hp 5 (by decide)],fun φ hp=>by simp only[Q9,ren,List.map,hp 4 (by decide),hp 5 (by decide)],rfl⟩
 ·intro i hi hno
  have hst:QC stop i=false:=by
   cases i with
   |zero=>rfl
   |succ j=>exact hno j (by omega)
  simp only[hst,cond_false]
  refine YC.less (Zat false false [] rfl rfl ?_ (hz6 i _ _ _))
  refine wS ?_
  refine ZS (k437 i) (by first|rfl|(simp only[Zd,Zc,Zf,Zb,Za hnt];rfl)) fun r h₂ hp=>?_
  (try simp only[Zd,Zc,Zf,Zb,Za hnt]at hp)
  obtain⟨rfl,rfl⟩:=hp
  refine wS ?_
  refine YC.frameB [0,1,2,3,4] (by decide) (by simp) rfl rfl (hfr i _ _ _) (hy i hi hno) (hbk i (i+1) _ _ _) ?_
  refine wS ?_
  refine⟨fun hb=>?_,fun hb=>?_⟩
  ·have hb:stop i=true:=by simpa using hb
   have hb2:QC stop (i+1)=true:=hb
   refine wS ?_
   simp only[hb2,cond_true]
   refine⟨.bool fun _=> !stop i,_,?_,rfl,rfl⟩
   (refine To.of [] ?_;cbv;(try simp only[nc]);(repeat' (first|exact trivial|exact ZD.refl _|exact ZL.refl _|refine⟨?_,?_⟩|refine ZL.cells ?_|refine ZD.agg ?_|refine ZD.tup ?_));(all_goals (first|exact X9|skip)))
   all_goals first|exact .bool (by rw[hb];rfl)|exact(h0 _).wk p6|exact(h1 _).wk p6|exact(h2 _).wk p6|exact(h3 _).wk p6|exact(h4 _).wk p6
  ·have hb:stop i=false:=by simpa using hb
   have hb2:QC stop (i+1)=false:=hb
   refine wS ?_
   simp only[hb2,cond_false]
   refine⟨.bool fun _=> !stop i,_,?_,rfl,rfl⟩
   (refine To.of [] ?_;cbv;(try simp only[nc]);(repeat' (first|exact trivial|exact ZD.refl _|exact ZL.refl _|refine⟨?_,?_⟩|refine ZL.cells ?_|refine ZD.agg ?_|refine ZD.tup ?_));(all_goals (first|exact X9|skip)))
   all_goals first|exact .bool (by rw[hb];rfl)|exact(h0 _).wk p6|exact(h1 _).wk p6|exact(h2 _).wk p6|exact(h3 _).wk p6|exact(h4 _).wk p6
 ·intro v h hh
  obtain⟨m,hm,rfl⟩:=hh
  rcases hm with⟨hm,hno⟩|⟨j,hm,hj,hst,hno⟩
  ·have hst:QC stop m=false:=by
    cases m with
    |zero=>rfl
    |succ j=>exact hno j (by omega)
   simp only[hst,cond_false]
   refine ZgA rfl rfl rfl (e5 m _) ?_
   refine wS ?_
   refine⟨m,.inl ⟨hm,hno⟩,?_⟩
   show [ZK true [0,1,2,3,4] _ (B0 m),ZK true [0,1,2,3,4] _ (B1 m),ZK true [0,1,2,3,4] _ (B2 m),ZK true [0,1,2,3,4] _ (B3 m),ZK true [0,1,2,3,4] _ (B4 m)]=_
   rw[(h0 m).s _ _ _ p4,(h1 m).s _ _ _ p4,(h2 m).s _ _ _ p4,(h3 m).s _ _ _ p4,(h4 m).s _ _ _ p4]
  ·have hst2:QC stop m=true:=by rw[hm];exact hst
   simp only[hst2,cond_true]
   refine Zgz rfl rfl rfl (e5 m _) ?_
   refine wS ?_
   refine⟨m,.inr ⟨j,hm,hj,hst,hno⟩,?_⟩
   show [ZK true [0,1,2,3,4] _ (B0 m),ZK true [0,1,2,3,4] _ (B1 m),ZK true [0,1,2,3,4] _ (B2 m),ZK true [0,1,2,3,4] _ (B3 m),ZK true [0,1,2,3,4] _ (B4 m)]=_
   rw[(h0 m).s _ _ _ p4,(h1 m).s _ _ _ p4,(h2 m).s _ _ _ p4,(h3 m).s _ _ _ p4,(h4 m).s _ _ _ p4]
theorem Zul (M:Nat→Bool) {i:Nat} (hi:i<4):Zih [fun _=>M 0,fun _=>M 1,fun _=>M 2,fun _=>M 3] (i:Int)=M i:=by
 match i,hi with
 |0,_=>rfl
 |1,_=>rfl
 |2,_=>rfl
 |3,_=>rfl
theorem ZuV (t:Ze) (d:Int) (hf:Xi t):SC (fun _=>Tryz.prog) 41 [Zf t,.int .i64 fun _=>d] [] fun v h=>
  v= .tup [lst 1 XC 0 (ZaX t d).1,.int .i64 fun _=>(ZaX t d).2]∧h=[]:=by
 obtain⟨nt,hnt⟩:=Zs
 have k:=ZqH t hf
 have hdl:=hf.delays
 have k1:=ZcY d 0 ((t.delays.length:Int)-1)
 by_cases he:Zr t=0
 ·have hw:=X0 he
  have k382:=ZlZ t
  have k4:=fun B0 B1 B2 B3 B4 stop=>ZsD t hw B0 B1 B2 B3 B4 stop
  have k5:=fun B0 B1 B2 B3 B4 B5 stop=>ZlY t hw B0 B1 B2 B3 B4 B5 stop
  obtain⟨F,hF0,hFS⟩:∃F:Nat→List (List Int×List (List Int×List Int)),F 0=[]∧∀i,F (i+1)=if(Zj t i).getD d.toNat 0=0 then Y0 (F i) (Sp.keyT (Zj t i)) (Qe t (Zj t i))else F i:=⟨J0 t d.toNat,rfl,fun _=>rfl⟩
  have hd6:=hw.dlen
  have hsix:=fun i (h:d.toNat<6)=> @Zsi (Zj t i) d.toNat (XX _ _) h
  have hmn:=fun i h r=> @ZjE t d.toNat i h r
  have hcvn:=fun L W r=> @ZqA L W r
  have hcvs:=fun L W S e he hn r=> @ZoG L W S e he hn r
  have hkeys:=fun x=> @ZiJ t x
  have hkey2:=fun x p hp=> @ZiK t hw x p hp
  have hhe:∀W p,Zj1 W p=(p.2.headD 0 !=((W.lookup p.1).getD []).headD 0||p.2.tail.tail.headD 0 !=((W.lookup p.1).getD []).tail.tail.headD 0):=fun _ _=>rfl
  have hcva:=fun i h0 S hS r=> @ZqB t d.toNat i h0 S hS r
  have hTl:∀i,(Zj t i).length=6:=fun i=>XX _ _
  obtain⟨MV,hMV0,hMVS⟩:∃M:Nat→Nat→Bool,(∀r,M 0 r=false)∧∀i r,M (i+1) r=(M i r||ZaD t d.toNat i r):=⟨Zey t d.toNat,fun _=>rfl,fun _ _=>rfl⟩
  have hML:Zfd t d.toNat=((List.range 4).filter fun r=>MV (ZO t) r).map fun(r:Nat)=>(r:Int):=by
   have e:∀n r,MV n r=Zey t d.toNat n r:=fun n=>by
    induction n with
    |zero=>intro r;rw[hMV0];rfl
    |succ n ih=>intro r;rw[hMVS,ih];rfl
   unfold Zfd
   simp only[e]
  have hFl:∀i,d.toNat<t.delays.length→(F (ZO t)).lookup (Sp.keyT ((Zj t i).set d.toNat 0))=some (Qe t ((Zj t i).set d.toNat 0)):=fun i hd=>by
   have e:∀n,F n=J0 t d.toNat n:=fun n=>by
    induction n with
    |zero=>exact hF0
    |succ n ih=>rw[hFS,J0,ih]
   rw[e]
   exact ZlN hw hd
  have hE:ZaX t d=if Xw d 0 ((t.delays.length:Int)-1)then([],3)else(Zfd t d.toNat,0):=by
   unfold ZaX
   rw[if_neg (fun h=>h he)]
  unfold QE at k
  rw[if_pos he,he]at k
  generalize ZaX t d=BE at*
  generalize hcv:cvE=CV at*
  generalize hhit:Zj1=HIT at*
  generalize ZaD t d.toNat=MI at*
  generalize Zj t=TA at*
  generalize Qe t=HL at*
  unfold XM ZT Zf X1 Sp.keyT at*
  simp only[Za hnt,Zb,ZE]at*
  refine SC.less (QP Tryz.func41 (body:=Zk Tryz.f41) rfl (by decide+kernel) ?_)
  refine wS ?_
  refine ZoQ (k) ?_
  refine wS ?_
  refine Br.isF rfl ?_
  refine wS ?_
  refine ZoQ (k1) ?_
  refine wS ?_
  refine⟨fun h=>?_,fun h=>?_⟩
  ·rw[if_pos h]at hE
   subst hE
   refine wS ?_
   refine⟨_,[],?_,rfl,rfl⟩
   exact ZI
  have hb:=XJ h
  rw[if_neg (by rw[h];exact Bool.false_ne_true)]at hE
  have hsel:=fun i=> @Zeu (TA i) d d.toNat (by omega) (by omega)
  refine wS ?_
  refine ZoQ (k382) ?_
  refine wS ?_
  refine Zcn [3,6,8,37] [] [(2,.gob (.mapM 6 2 3 fun _=>F 0))] (fid:=135) (first:=[]) ?_ rfl ?_ ?_
  ·rw[hF0]
   exact ZI
  ·exact Xm
  refine SC.mono (k4 (fun _=>_) (fun _=>_) (fun i=>.gob (.mapM 6 2 3 fun _=>F i)) (fun _=>_) (fun _=>_) (fun _=>false) ?_ ?_ ?_ ?_ ?_ ?_) ?_
  iterate 5 exact fun i=>Ql.of rfl
  ·intro i hi hno
   have hFi:=hFS i
   have hsi:=hsel i
   refine YC.less (Zat false false [] rfl rfl ?_)
   refine vS ?_
   simp only[hsi]
   refine Chk.mk (Qa) ?_
   refine⟨fun h2=>?_,fun h2=>?_⟩
   ·have h2:=eq_of_beq h2
    rw[if_pos h2]at hFi
    refine wS ?_
    refine⟨.bool fun _=>true,_,?_,rfl,rfl⟩
    rw[hFi]
    exact ZI
   ·have h2:=ne_of_beq_false h2
    rw[if_neg h2]at hFi
    refine wS ?_
    refine⟨.bool fun _=>true,_,?_,rfl,rfl⟩
    rw[hFi]
    exact ZI
  ·intro v h hh
   obtain⟨m,hm,rfl⟩:=hh
   have hmN:m=ZO t:=by
    rcases hm with h|⟨_,_,_,h,_⟩
    ·exact h.1
    ·cases h
   have hFat:=fun i=>hFl i
   rw[←hmN]at hFat
   refine wS ?_
   refine ZoQ (k382) ?_
   refine wS ?_
   refine Zcn [3,8,11,48] [] [(4,.cells [.bool fun _=>MV 0 0,.bool fun _=>MV 0 1,.bool fun _=>MV 0 2,.bool fun _=>MV 0 3])] (fid:=135) (first:=[]) ?_ rfl ?_ ?_
   ·(refine To.of [] ?_;cbv;(try simp only[nc]);(repeat' (first|exact trivial|exact ZD.refl _|exact ZL.refl _|refine⟨?_,?_⟩|refine ZL.cells ?_|refine ZD.agg ?_|refine ZD.tup ?_));(all_goals (first|exact X9|skip)))
    all_goals exact .bool (by rw[hMV0])
   ·exact Xm
   refine SC.mono (k5 (fun _=>_) (fun _=>_) (fun _=>_) (fun _=>_) (fun i=>.cells [.bool fun _=>MV i 0,.bool fun _=>MV i 1,.bool fun _=>MV i 2,.bool fun _=>MV i 3]) (fun _=>_) (fun _=>false) ?_ ?_ ?_ ?_ ?_ ?_ ?_) ?_
   iterate 6 exact fun i=>Ql.of rfl
   ·intro i hi hno
    have hMi:=hMVS i
    have g0:=Z0 (x:=TA i) (e:=d) (k:=d.toNat) (j:=0) (v:=0) (by omega) (by rw[hTl];omega)
    have g1:=Z0 (x:=TA i) (e:=d) (k:=d.toNat) (j:=1) (v:=0) (by omega) (by rw[hTl];omega)
    have g2:=Z0 (x:=TA i) (e:=d) (k:=d.toNat) (j:=2) (v:=0) (by omega) (by rw[hTl];omega)
    have g3:=Z0 (x:=TA i) (e:=d) (k:=d.toNat) (j:=3) (v:=0) (by omega) (by rw[hTl];omega)
    have g4:=Z0 (x:=TA i) (e:=d) (k:=d.toNat) (j:=4) (v:=0) (by omega) (by rw[hTl];omega)
    have g5:=Z0 (x:=TA i) (e:=d) (k:=d.toNat) (j:=5) (v:=0) (by omega) (by rw[hTl];omega)
    refine YC.less (Zat false false [] rfl rfl ?_)
    refine vS ?_
    simp only[g0,g1,g2,g3,g4,g5]
    refine Chk.mk (Qa) ?_
    have hsi:=hsix i (by omega)
    refine⟨fun h2=>?_,fun h2=>?_⟩
    ·have h2:(TA i).getD d.toNat 0=0:=of_decide_eq_true (hsi.symm.trans h2)
     have hm0:=hmn i h2
     simp only[hm0,Bool.or_false]at hMi
     refine wS ?_
     refine⟨.bool fun _=>true,_,?_,rfl,rfl⟩
     (refine To.of [] ?_;cbv;(try simp only[nc]);(repeat' (first|exact trivial|exact ZD.refl _|exact ZL.refl _|refine⟨?_,?_⟩|refine ZL.cells ?_|refine ZD.agg ?_|refine ZD.tup ?_));(all_goals (first|exact X9|skip)))
     all_goals exact .bool (by rw[hMi])
    have h2:(TA i).getD d.toNat 0≠0:=of_decide_eq_false (hsi.symm.trans h2)
    refine wS ?_
    refine ZrS false false [] [3,8,11,14,49,50,58] [] (fun _:List (List Int)×List Int×List Int=>[]) (fun p=>[(4,.cells [.bool fun _=>MV i 0||CV (HL (TA i)) (HL ((TA i).set d.toNat 0)) p.1 0,.bool fun _=>MV i 1||CV (HL (TA i)) (HL ((TA i).set d.toNat 0)) p.1 1,.bool fun _=>MV i 2||CV (HL (TA i)) (HL ((TA i).set d.toNat 0)) p.1 2,.bool fun _=>MV i 3||CV (HL (TA i)) (HL ((TA i).set d.toNat 0)) p.1 3]),(8,.gob (.mapIt 2 3 (fun _=>HL (TA i)) (fun _=>p.1) fun _=>p.2))])
     (fun _=>True) (fun p=>((HL (TA i)).filter fun q=> !p.1.contains q.1).length+0) ([],[],[]) trivial ?_ ?_
    ·(refine To.of [] ?_;cbv;(try simp only[nc]);(repeat' (first|exact trivial|exact ZD.refl _|exact ZL.refl _|refine⟨?_,?_⟩|refine ZL.cells ?_|refine ZD.agg ?_|refine ZD.tup ?_));(all_goals (first|exact X9|skip)))
     all_goals exact .bool (by rw[hcvn,Bool.or_false])
    intro p _
    refine wS ?_
    have hkx:=hkeys (TA i)
    have hFx:=hFat i (by omega)
    refine NC.next rfl (fun hall=>?_) fun e heL hns=>?_
    ·have hM:∀r,MV (i+1) r=(MV i r||CV (HL (TA i)) (HL ((TA i).set d.toNat 0)) p.1 r):=fun r=>by rw[hMi r,hcva i h2 p.1 hall r]
     refine wS ?_
     refine Br.isF rfl ?_
     refine wS ?_
     refine⟨.bool fun _=>true,_,?_,rfl,rfl⟩
     (refine To.of [] ?_;cbv;(try simp only[nc]);(repeat' (first|exact trivial|exact ZD.refl _|exact ZL.refl _|refine⟨?_,?_⟩|refine ZL.cells ?_|refine ZD.agg ?_|refine ZD.tup ?_));(all_goals (first|exact X9|skip)))
     all_goals exact .bool (by rw[hM])
    have hke:=hkey2 (TA i) e heL
    have hst:=hcvs (HL (TA i)) (HL ((TA i).set d.toNat 0)) p.1 e heL hkx
    refine wS ?_
    refine Br.isT rfl ?_
    refine vS ?_
    simp only[g0,g1,g2,g3,g4,g5,hFx,Option.getD_some,hke.1]
    refine Chk.mk (by(try simp only[nc,QK,QJ,QU,QI,Cn.p,and_true,true_and,decide_eq_true_eq,imp_self,List.length_cons,List.length_nil]);(repeat' (first|apply And.intro|intro _))<;>first|omega|assumption|exact nb1 (by assumption)|exact nb2 (by assumption)|exact nb3 (by assumption)|exact nb4 (by assumption)|(simp;done)|rfl|exact Or.inl rfl|decide+kernel|(exfalso;rename_i hx;exact absurd hx (by simp))|skip) ?_
    have hcnd:(bif e.2.headD 0 !=((List.lookup e.1 (HL ((TA i).set d.toNat 0))).getD []).headD 0 then true else e.2.tail.tail.headD 0 !=((List.lookup e.1 (HL ((TA i).set d.toNat 0))).getD []).tail.tail.headD 0)=HIT (HL ((TA i).set d.toNat 0)) e:=by
     rw[hhe]
     cases (e.2.headD 0 !=((List.lookup e.1 (HL ((TA i).set d.toNat 0))).getD []).headD 0)<;>rfl
    refine⟨fun h3=>?_,fun h3=>?_⟩
    ·have hh:=hcnd.symm.trans h3
     have hst2:∀k:Nat,(bif decide (e.1.headD 0=(k:Int))then true else(MV i k||CV (HL (TA i)) (HL ((TA i).set d.toNat 0)) p.1 k))=(MV i k||CV (HL (TA i)) (HL ((TA i).set d.toNat 0)) (p.1++[e.1]) k):=fun k=>by
      rw[hst k,hh]
      by_cases h:e.1.headD 0=(k:Int)
      ·rw[decide_eq_true h,h]
       simp
      ·rw[decide_eq_false h,show(e.1.headD 0==(k:Int))=false by simpa using h]
       show(MV i k||CV (HL (TA i)) (HL ((TA i).set d.toNat 0)) p.1 k)=(MV i k||(CV (HL (TA i)) (HL ((TA i).set d.toNat 0)) p.1 k||false))
       rw[Bool.or_false]
     refine vS ?_
     refine Chk.mk (Qa) ?_
     refine⟨(p.1++[e.1],e),trivial,by show(List.filter _ _).length+0<(List.filter _ _).length+0;exact ZkJ heL hns,?_⟩
     (refine To.of [] ?_;cbv;(try simp only[nc]);(repeat' (first|exact trivial|exact ZD.refl _|exact ZL.refl _|refine⟨?_,?_⟩|refine ZL.cells ?_|refine ZD.agg ?_|refine ZD.tup ?_));(all_goals (first|exact X9|skip)))
     all_goals exact .bool (hst2 _)
    ·have hh:=hcnd.symm.trans h3
     have hst2:∀k:Nat,(MV i k||CV (HL (TA i)) (HL ((TA i).set d.toNat 0)) p.1 k)=(MV i k||CV (HL (TA i)) (HL ((TA i).set d.toNat 0)) (p.1++[e.1]) k):=fun k=>by
      rw[hst k,hh,Bool.and_false,Bool.or_false]
     refine wS ?_
     refine⟨(p.1++[e.1],e),trivial,by show(List.filter _ _).length+0<(List.filter _ _).length+0;exact ZkJ heL hns,?_⟩
     (refine To.of [] ?_;cbv;(try simp only[nc]);(repeat' (first|exact trivial|exact ZD.refl _|exact ZL.refl _|refine⟨?_,?_⟩|refine ZL.cells ?_|refine ZD.agg ?_|refine ZD.tup ?_));(all_goals (first|exact X9|skip)))
     all_goals exact .bool (hst2 _)
   ·intro v h hh
    obtain⟨m2,hm2,rfl⟩:=hh
    have hm2N:m2=ZO t:=by
     rcases hm2 with h|⟨_,_,_,h,_⟩
     ·exact h.1
     ·cases h
    rw[←hm2N]at hML
    generalize Zfd t d.toNat=ML at*
    refine wS ?_
    refine ZV false false [] [18,84,85] [.tok 1 fun _=>0] (fun p:Nat×List Int=>[(85,.int .i64 fun _=>(p.1:Int)),(18,.isl 1 (fun _=>(p.2.length:Int)) (fun e=>XC (nt Int 0 p.2 (e ()))) (.own 5))]) (fun p=>[(5,.tok 1 fun _=>(p.2.length:Int))])
     (fun p=>p.1≤4∧p.2.length≤p.1∧p.2=((List.range p.1).filter fun r=>MV m2 r).map fun(r:Nat)=>(r:Int)) (fun p=>4-p.1+0) (0,[]) ⟨Nat.zero_le _,Nat.le_refl _,rfl⟩ ?_ ?_
    ·(refine To.of [(1,false)] ?_;cbv;(try simp only[nc]);(repeat' (first|exact trivial|exact ZD.refl _|exact ZL.refl _|refine⟨?_,?_⟩|refine ZL.cells ?_|refine ZD.agg ?_|refine ZD.tup ?_));(all_goals (first|exact X9|skip)))
    intro p hp
    refine wS ?_
    refine⟨fun h1=>?_,fun h1=>?_⟩
    ·simp only[decide_eq_true_eq]at h1
     have hlt:p.1<4:=by omega
     have hp2:=hp.2.2
     have hsucc:= @List.range_succ p.1
     have hlen:=hp.2.1
     have hsb:=Zul (fun r=>MV m2 r) (i:=p.1) hlt
     refine vS ?_
     simp only[hsb]
     try refine Chk.mk (Qa) ?_
     refine⟨fun h3=>?_,fun h3=>?_⟩
     ·refine wS ?_
      refine⟨(p.1+1,p.2++[(p.1:Int)]),⟨by show p.1+1≤4;omega,by show(p.2++[(p.1:Int)]).length≤p.1+1;rw[List.length_append];show p.2.length+1≤_;omega,?_⟩,by show 4-(p.1+1)+0<4-p.1+0;omega,?_⟩
      ·show p.2++[(p.1:Int)]=_
       rw[hsucc,List.filter_append,List.map_append,←hp2]
       simp[h3]
      exact ZI
     ·refine wS ?_
      refine⟨(p.1+1,p.2),⟨by show p.1+1≤4;omega,by show p.2.length≤p.1+1;omega,?_⟩,by show 4-(p.1+1)+0<4-p.1+0;omega,?_⟩
      ·show p.2=_
       rw[hsucc,List.filter_append,List.map_append,←hp2]
       simp[h3]
      exact ZI
    ·simp only[decide_eq_false_iff_not]at h1
     have h4:p.1=4:=by have:=hp.1;omega
     have hr:p.2=ML:=by rw[hp.2.2,h4,hML]
     subst hE
     refine wS ?_
     rw[hr]
     refine⟨_,[],?_,rfl,rfl⟩
     exact ZI
 ·have hE:ZaX t d=([],Zr t):=by
   unfold ZaX
   rw[if_pos he]
  rw[hE]
  unfold QE at k
  rw[if_neg he]at k
  generalize Zr t=e at*
  unfold Zf at*
  simp only[Za hnt,Zb,ZE]at*
  refine SC.less (QP Tryz.func41 (body:=Zk Tryz.f41) rfl (by decide+kernel) ?_)
  refine wS ?_
  refine ZoQ (k) ?_
  refine wS ?_
  refine⟨fun h=>?_,fun h=>?_⟩
  ·refine wS ?_
   refine⟨_,[],?_,rfl,rfl⟩
   exact ZI
  ·exact absurd (by simpa only[bne_eq_false_iff_eq]using h) he
end Go.Proofs.YtjgpiclllehgmaaGreat.Vm
namespace Go.Proofs.YtjgpiclllehgmaaGreat.Vm
open Go Go.Conc Go.Proofs Go.Proofs.YtjgpiclllehgmaaGreat.Conc1
def ZhQ (ts:Array TypeId) (ty:TypeId) (cs:Array Bool) (ch:Nat):Deferred:={target:=.builtin .close ts ty cs,args:= #[.chan (some ch)]}
def Zac (n:Nat) (ds:List Deferred):Frame:={(default:Frame)with fn:=n,defers:=ds,mode:=.panicking [goexitEntry]}
section
variable {P:Program} {ch cell:Nat} {f:FuncId} {fn:Func} {t:Array Value} {todo:List Item}
theorem Ztr (hf:P.funcs[f]? =some fn) (hr:fn.results= #[]):QuitsD P 2 0 (G {mkF ⟨f,true,none,[]⟩ t [] todo with mode:=.returning} [Zac P.funcs.size []]):=by
 refine .inr ⟨rfl,G (Zac P.funcs.size []) [], #[],by simp,fun w=>?_,.inr ⟨rfl,{frame:=Zac P.funcs.size [],callers:=[],status:=.finished,dying:=none}, #[],by simp,fun w=>?_,⟨rfl,rfl⟩⟩⟩
 ·have h1:results fn t=pure (.tuple #[]):=by
   unfold results
   rw[hr]
   simp
  have h2:(results fn t).run P w= .ok (.tuple #[]) w:=by rw[h1];rfl
  have h3:(results fn t).events P w #[]= #[]:=by rw[h1];rfl
  simp[G,stepG,unwind,doReturn,mkF,FB.kind,hf,h2,h3,GStep.after,Zac,goexitEntry,seen_none]
 ·have h:(default:Frame).todo=[]:=rfl
  simp[G,stepG,unwind,Zac,goexitEntry,Frame.catches,h]
theorem ZoS {ts:Array TypeId} {ty:TypeId} {cs:Array Bool} (hf:P.funcs[f]? =some fn) (hr:fn.results= #[]):
  Zh5 P (fun n=>n=cell∨n=ch) ch {mkF ⟨f,true,none,[]⟩ t [ZhQ ts ty cs ch] todo with mode:=.returning} [Zac P.funcs.size []]:=by
 refine⟨rfl,G {mkF ⟨f,true,none,[]⟩ t [] todo with mode:=.returning} [Zac P.funcs.size []], #[⟨.obj ch,false,true⟩],2,fun w buf s r tm h=>?_,fun e he=>.inr (by simpa using he),Ztr hf hr⟩
 have e:Builtin.close_ ts ty #[.chan (some ch)]=(getObj ch>>=fun o=>match o with
   |.chan room buf closed sent received timer=>(do
    if closed then runtimePanic (.plain "close of closed channel")
    setObj ch (.chan room buf true sent received timer)
    pure (.tuple #[]))
   |_=>stuck "close: no channel in this block"):=rfl
 have e2:invoke (.builtin .close ts ty cs) #[.chan (some ch)]=(Builtin.close_ ts ty #[.chan (some ch)]>>=fun x=>pure (.value x)):=rfl
 have h1:(invoke (.builtin .close ts ty cs) #[.chan (some ch)]).run P w= .ok (.value (.tuple #[])) (w.setChan ch 0 buf true s r tm):=by
  rw[e2,e]
  simp[getObj,setObj,Sem.run_bind,Sem.run,h,World.setChan]
 have h2:(invoke (.builtin .close ts ty cs) #[.chan (some ch)]).events P w #[]= #[⟨.obj ch,false,true⟩,⟨.obj ch,true,true⟩]:=by
  rw[e2,e]
  unfold Sem.events
  show(Sem.runT P (Sem.getObj ch _) w #[]).2=_
  simp only[Sem.runT,h]
  show(Sem.runT P (Sem.setObj ch _ _) w _).2=_
  simp only[Sem.runT,h]
  rfl
 have h3:seen P f #[⟨.obj ch,false,true⟩,⟨.obj ch,true,true⟩]= #[⟨.obj ch,false,true⟩,⟨.obj ch,true,true⟩]:=by
  simp[seen]
 simp[G,stepG,unwind,callDeferred,mkF,ZhQ,h1,h2,h3,GStep.after]
theorem Zoq {fr:Frame} {cs:List Frame} {w:World} {fr' cfr:Frame} {E:RP} {s:Nat} {tm:Bool} (hk:kf P fr cs=some (ch,cell,E)) (hgo:Zmd P fr cs fr' cfr) (hE:Zo8 P ch cell E (fr',cs)) (hch:w.heap[ch]? =some (.chan 0 #[] false s s tm))
  (hcell:w.cell? ⟨cell,0,none⟩=some (.chan (some ch))) (hne:ch≠cell) {f1:Frame} {c1:List Frame} (h0:∀main w,stepG P main (G cfr []) w= .go (G f1 c1) w) {wf:World} (hF:Fz cell wf w) {b:Cf} (hst:StepsC P (some ch) ⟨f1,c1,wf⟩ b)
  {L:List Bool} {s' r':Nat} {tm':Bool} (hb:b.w.heap[ch]? =some (.chan 0 (L.map Value.bool).toArray false s' r' tm')) (hcl:Zh5 P (fun n=>n=cell∨n=ch) ch b.fr b.cs):
  ∃w',Fz cell b.w w'∧StepsC P none ⟨fr,cs,w⟩ ⟨(got (E L) false false).1,(got (E L) false false).2,w'.setChan ch 0 #[] true s' s' tm'⟩:=by
 obtain⟨w',h1,h2,_⟩:=StepsC.child (KF:=kf P) (R:=E) hne hst w hF ⟨#[],s,s,tm,(hF.ne ch hne).symm.trans hch⟩
 refine⟨w',h2,.one ?_⟩
 exact .head (.go hk hgo hE hch hcell hne) (.head (.cown (Ow.ctl h0)) (Zc5.trans h1 (.head (.close hcl ((h2.ne ch hne).trans hb)) (.refl _))))
theorem YU {x y:Frame×List Frame} (h:∀w,stepG P true (G x.1 x.2) w= .go (G y.1 y.2) w):ZdN P ch cell x y:=fun w _=>⟨#[],h w,fun e he=>by simp at he⟩
variable {b:FB} {ds:List Deferred} {k:List Item} {cs:List Frame}
theorem Zoc:ZdN P ch cell (mkF b t ds (.code .skip::k),cs) (mkF b t ds k,cs):=YU fun _=>rfl
theorem Zd7 {id:Nat}:ZdN P ch cell (mkF b t ds (.inBlock id::k),cs) (mkF b t ds k,cs):=YU fun _=>rfl
theorem Jk {x y:Code}:ZdN P ch cell (mkF b t ds (.code (.seq x y)::k),cs) (mkF b t ds (.code x:: .code y::k),cs):=YU fun _=>rfl
theorem ZiD {c:Operand} {x y:Code} {v:Bool} (h:Qv t c= .bool v):ZdN P ch cell (mkF b t ds (.code (.cond c x y)::k),cs) (mkF b t ds (.code (if v then x else y)::k),cs):=
 YU fun _=>by
  have h:(mkF b t ds (.code (.cond c x y)::k)).eval c= .bool v:=by rw[ZbR];exact h
  simp only[mkF]at h
  simp[stepG,stepG.exec,mkF,G,h]
theorem ZgB {id:Nat} {c:Code}:ZdN P ch cell (mkF b t ds (.code (.block id c)::k),cs) (mkF b t ds (.code c:: .inBlock id::k),cs):=YU fun _=>rfl
theorem Zod {c:Code}:ZdN P ch cell (mkF b t ds (.code (.loop c)::k),cs) (mkF b t ds (.code c:: .inLoop c::k),cs):=YU fun _=>rfl
theorem Zfp {c:Code}:ZdN P ch cell (mkF b t ds (.inLoop c::k),cs) (mkF b t ds (.code c:: .inLoop c::k),cs):=YU fun _=>rfl
theorem Xy {id:Nat} {ops:Array Oper} {l:List Nat} (hl:List.range ops.size=l):ZdN P ch cell (mkF b t ds (.code (.region id ops false)::k),cs) (mkF b t ds (.inRegion ops l::k),cs):=YU fun _=>by subst hl;simp[stepG,stepG.exec,mkF,G]
theorem Xt {ops:Array Oper}:ZdN P ch cell (mkF b t ds (.inRegion ops []::k),cs) (mkF b t ds k,cs):=YU fun _=>by simp[stepG,stepG.exec,mkF,G]
structure Jd (ops:Array Oper) (i:Nat) (d:Option Tmp) (op:Op):Prop where
 ok:∃o,ops[i]? =some o∧o.op=op∧o.dst=d∧o.guard=none
theorem ZdI {ops:Array Oper} {i:Nat} {rest:List Nat} {o:Oper} {v:Value} {w w':World} {es:Array Event} (ho:ops[i]? =some o) (hg:o.guard=none) (hd:∀c,o.op≠ .defer c) (hr:(execOp (Qv t) o).runT P w #[]=(.ok (.value v) w',es)) (main:Bool):
  stepG P main (G (mkF b t ds (.inRegion ops (i::rest)::k)) cs) w= .go (G (mkF b (ZZ t o.dst v) ds (.inRegion ops rest::k)) cs) w' (seen P b.fn es):=by
 have hf:(mkF b t ds (.inRegion ops (i::rest)::k)).finish v=mkF b (ZZ t o.dst v) ds (.inRegion ops rest::k):=by rw[Xa,ho];rfl
 rw[Zcm ho (by simp[Region.wanted,hg]) hd,←hf]
 unfold stepG.apply
 simp only[if_true,hr,b.not_early,show((mkF b t ds (.inRegion ops (i::rest)::k)).kind==CallKind.early)=false from b.not_early,Bool.false_eq_true,if_false]
 simp[GStep.after,G,mkF]
theorem Y8 {ops:Array Oper} {i:Nat} {rest:List Nat} {d:Option Tmp} {op:Op} {v:Value} (H:Jd ops i d op) (hd:∀c,op≠ .defer c) (hr:∀o:Oper,o.op=op→execOp (Qv t) o=pure (.value v)):
  ZdN P ch cell (mkF b t ds (.inRegion ops (i::rest)::k),cs) (mkF b (ZZ t d v) ds (.inRegion ops rest::k),cs):=by
 obtain⟨o,ho,hop,hdst,hg⟩:=H.ok
 refine YU fun w=>?_
 have:=ZdI (P:=P) (b:=b) (ds:=ds) (k:=k) (cs:=cs) (rest:=rest) (w:=w) (w':=w) (v:=v) (es:= #[]) ho hg (fun c=>by rw[hop];exact hd c) (by rw[hr o hop];rfl) true
 rw[seen_none,hdst]at this
 exact this
theorem Zoe {ops:Array Oper} {i:Nat} {rest:List Nat} {d:Option Tmp} {T:TypeId} {a:Operand} {dr:ChanDir} {B:TypeId} (H:Jd ops i d (.load T a)) (hU:P.underlying T=some (.chan dr B)) (ha:Qv t a= .pointer (some ⟨cell,0,none⟩)):
  ZdN P ch cell (mkF b t ds (.inRegion ops (i::rest)::k),cs) (mkF b (ZZ t d (.chan (some ch))) ds (.inRegion ops rest::k),cs):=by
 obtain⟨o,ho,hop,hdst,hg⟩:=H.ok
 intro w hw
 have hr:(execOp (Qv t) o).runT P w #[]=(.ok (.value (.chan (some ch))) w, #[⟨.cell ⟨cell,0,none⟩,false,false⟩]):=by
  have e:execOp (Qv t) o=(Instr.loadAt T (.pointer (some ⟨cell,0,none⟩))>>=fun x=>pure (.value x)):=by
   unfold execOp
   simp only[hop,ha]
  rw[e]
  have h1:∀es,(isAgg T).runT P w es=(.ok false w,es):=fun es=>by
   unfold isAgg underlying
   show(Sem.bind (Sem.bind program _) _).runT P w es=_
   rw[Sem.runT_bind',Sem.runT_bind',show program.runT P w es=(.ok P w,es)from rfl]
   simp only[hU]
   rfl
  have h2:∀es,(load ⟨cell,0,none⟩).runT P w es=(.ok (.chan (some ch)) w,es.push ⟨.cell ⟨cell,0,none⟩,false,false⟩):=fun es=>by
   unfold load
   simp only[Sem.runT,hw]
   rfl
  show(Sem.bind (Sem.bind (isAgg T) _) _).runT P w #[]=_
  rw[Sem.runT_bind',Sem.runT_bind',h1]
  simp only[Bool.false_eq_true,if_false]
  rw[h2]
  rfl
 have:=ZdI (P:=P) (b:=b) (ds:=ds) (k:=k) (cs:=cs) (rest:=rest) ho hg (fun c=>by rw[hop];intro h;cases h) hr true
 rw[hdst]at this
 exact⟨_,this,fun e he=>by simpa using mem_seen he⟩
end
end Go.Proofs.YtjgpiclllehgmaaGreat.Vm
namespace Go.Proofs.YtjgpiclllehgmaaGreat.Vm
open Go Go.Conc Go.Proofs Go.Proofs.YtjgpiclllehgmaaGreat.Conc1
structure ZaY (T I I':TypeId) (fid:FuncId) (o2 o3 o4 o5 o6 o7 o8 o9 o10:Array Oper):Prop where
 s2:List.range o2.size=[0,1,2]
 s3:List.range o3.size=[0,1]
 s4:List.range o4.size=[0,1]
 s5:List.range o5.size=[0]
 s6:List.range o6.size=[0,1]
 s7:List.range o7.size=[0,1]
 s8:List.range o8.size=[0]
 s9:List.range o9.size=[0,1,2]
 s10:List.range o10.size=[0,1,2]
 a20:Jd o2 0 (some 37) (.makeChan T (.const (.int .i64 0)))
 a21:Jd o2 1 (some 11) (.alloc T)
 a22:Jd o2 2 none (.store T (.tmp 11) (.tmp 37))
 a30:Jd o3 0 (some 38) (.makeFunc (.func fid) #[] #[.tmp 11,.tmp 4,.tmp 9,.tmp 10])
 a31:Jd o3 1 none (.go {callee:=.value (.tmp 38),args:= #[],argTypes:= #[]})
 a40:Jd o4 0 (some 12) (.assign (.const (.int .i64 0)))
 a41:Jd o4 1 (some 13) (.assign (.const (.int .i64 0)))
 a50:Jd o5 0 (some 39) (.load T (.tmp 11))
 a60:Jd o6 0 (some 40) (.recv T (.tmp 39) true)
 a61:Jd o6 1 (some 41) (.extract (.tmp 40) 1)
 a70:Jd o7 0 (some 42) (.extract (.tmp 40) 0)
 a71:Jd o7 1 (some 14) (.assign (.tmp 42))
 a80:Jd o8 0 (some 43) (.move (.tmp 14))
 a90:Jd o9 0 (some 44) (.move (.tmp 12))
 a91:Jd o9 1 (some 45) (.binOp .add I (.tmp 44) (.const (.int .i64 1)) I')
 a92:Jd o9 2 (some 12) (.assign (.tmp 45))
 a100:Jd o10 0 (some 46) (.move (.tmp 13))
 a101:Jd o10 1 (some 47) (.binOp .add I (.tmp 46) (.const (.int .i64 1)) I')
 a102:Jd o10 2 (some 13) (.assign (.tmp 47))
def ZhY:Value→Value
 |.int .i64 n=>.int .i64 (IntKind.i64.wrap (n+1))
 |v=>v
def st0 (ch:Nat) (t:Array Value):Array Value:=ZZ (ZZ (ZZ t (some 12) (.int .i64 0)) (some 13) (.int .i64 0)) (some 39) (.chan (some ch))
def Zej (t:Array Value) (v:Bool):Array Value:=ZZ (ZZ (ZZ (ZZ (ZZ t (some 40) (.tuple #[.bool v,.bool true])) (some 41) (.bool true)) (some 42) (.bool v)) (some 14) (.bool v)) (some 43) (.bool v)
def stp (t:Array Value) (v:Bool):Array Value:=match v with
 |true=>ZZ (ZZ (ZZ (Zej t v) (some 44) (t.getD 12 undef)) (some 45) (ZhY (t.getD 12 undef))) (some 12) (ZhY (t.getD 12 undef))
 |false=>ZZ (ZZ (ZZ (Zej t v) (some 46) (t.getD 13 undef)) (some 47) (ZhY (t.getD 13 undef))) (some 13) (ZhY (t.getD 13 undef))
def cnt (w:Bool):List Bool→Int→Int
 |[],n=>n
 |v::l,n=>cnt w l (if v=w then IntKind.i64.wrap (n+1)else n)
theorem Z2 {t:Array Value} {d:Option Tmp} {v:Value}:(ZZ t d v).size=t.size:=by cases d<;>simp[ZZ]
theorem Yl {t:Array Value} {d:Nat} {v:Value} (h:d<t.size):(ZZ t (some d) v).getD d undef=v:=by
 simp[ZZ,Array.getD_eq_getD_getElem?,h]
theorem QF {t:Array Value} {d i:Nat} {v:Value} (h:d≠i):(ZZ t (some d) v).getD i undef=t.getD i undef:=by
 simp[ZZ,Array.getD_eq_getD_getElem?,Array.getElem?_setIfInBounds_ne h]
theorem Xg {t:Array Value} {d:Nat} {v:Value} (h:d<t.size):Qv (ZZ t (some d) v) (.tmp d)=v:=Yl h
theorem Ys {t:Array Value} {d i:Nat} {v:Value} (h:d≠i):Qv (ZZ t (some d) v) (.tmp i)=Qv t (.tmp i):=QF h
structure Zgh (t0 t:Array Value) (ch cell:Nat) (y n:Int):Prop where
 size:t.size=t0.size
 c11:t.getD 11 undef= .pointer (some ⟨cell,0,none⟩)
 c39:t.getD 39 undef= .chan (some ch)
 c12:t.getD 12 undef= .int .i64 y
 c13:t.getD 13 undef= .int .i64 n
theorem Zgh.step {t0 t:Array Value} {ch cell:Nat} {y n:Int} (h:Zgh t0 t ch cell y n) (hs:47<t0.size) (v:Bool):Zgh t0 (stp t v) ch cell (if v=true then IntKind.i64.wrap (y+1)else y) (if v=false then IntKind.i64.wrap (n+1)else n):=by
 have hsz:=h.size
 cases v
 ·refine⟨?_,?_,?_,?_,?_⟩
  ·simp only[stp,Zej,Z2];exact hsz
  ·simp only[stp,Zej]
   repeat rw[QF (by decide)]
   exact h.c11
  ·simp only[stp,Zej]
   repeat rw[QF (by decide)]
   exact h.c39
  ·simp only[stp,Zej]
   repeat rw[QF (by decide)]
   exact h.c12
  ·simp only[stp]
   rw[Yl (by simp only[Zej,Z2];omega),h.c13]
   rfl
 ·refine⟨?_,?_,?_,?_,?_⟩
  ·simp only[stp,Zej,Z2];exact hsz
  ·simp only[stp,Zej]
   repeat rw[QF (by decide)]
   exact h.c11
  ·simp only[stp,Zej]
   repeat rw[QF (by decide)]
   exact h.c39
  ·simp only[stp]
   rw[Yl (by simp only[Zej,Z2];omega),h.c12]
   rfl
  ·simp only[stp,Zej]
   repeat rw[QF (by decide)]
   exact h.c13
theorem Zgh.fold {t0:Array Value} {ch cell:Nat} (hs:47<t0.size):∀(L:List Bool) {t:Array Value} {y n:Int},Zgh t0 t ch cell y n→Zgh t0 (L.foldl stp t) ch cell (cnt true L y) (cnt false L n)
 |[],_,_,_,h=>h
 |v::L,_,_,_,h=>by
  have:=Zgh.fold hs L (h.step hs v)
  exact this
section
variable {P:Program} {ch cell:Nat} {b:FB} {ds:List Deferred} {k:List Item} {cs:List Frame}
variable {T I I':TypeId} {fid:FuncId} {o2 o3 o4 o5 o6 o7 o8 o9 o10:Array Oper}
theorem Ze0 {T:TypeId} {d:TypeDesc} {w:World} {es:Array Event} (h:P.underlying T=some d):(underlying T).runT P w es=(.ok d w,es):=by
 unfold underlying
 show(Sem.bind program _).runT P w es=_
 rw[Sem.runT_bind',show program.runT P w es=(.ok P w,es)from rfl]
 simp only[h]
 rfl
theorem Zdb {T:TypeId} {i:TypeInfo} {w:World} {es:Array Event} (h:P.info? T=some i):(typeInfo T).runT P w es=(.ok i w,es):=by
 unfold typeInfo
 show(Sem.bind program _).runT P w es=_
 rw[Sem.runT_bind',show program.runT P w es=(.ok P w,es)from rfl]
 simp only[h]
 rfl
theorem ZeZ {T:TypeId} {i:TypeInfo} {v:Value} {w:World} {es:Array Event} (h:P.info? T=some i) (hv:i.zero=some v):(zeroValue T).runT P w es=(.ok v w,es):=by
 unfold zeroValue
 show(Sem.bind (typeInfo T) _).runT P w es=_
 rw[Sem.runT_bind',Zdb h]
 simp only[hv]
 rfl
theorem Zdz {t:Array Value} {x:Operand} {v:Value} (h:Qv t x=v):∀o:Oper,o.op= .move x→execOp (Qv t) o=pure (.value v):=fun o ho=>by
 unfold execOp
 simp only[ho,h]
theorem Y3 {t:Array Value} {x:Operand} {v:Value} (h:Qv t x=v):∀o:Oper,o.op= .assign x→execOp (Qv t) o=pure (.value v):=fun o ho=>by
 unfold execOp
 simp only[ho,h]
theorem Jl {t:Array Value} {x:Operand} {vs:Array Value} {i:Nat} {v:Value} (h:Qv t x= .tuple vs) (hv:vs[i]? =some v):∀o:Oper,o.op= .extract x i→execOp (Qv t) o=pure (.value v):=fun o ho=>by
 unfold execOp
 simp only[ho,h,Instr.extract,hv]
 rfl
theorem ZiS {t:Array Value} {x:Operand} {n:Int} (h:Qv t x= .int .i64 n):∀o:Oper,o.op= .binOp .add I x (.const (.int .i64 1)) I'→execOp (Qv t) o=pure (.value (ZhY (.int .i64 n))):=fun o ho=>by
 unfold execOp
 simp only[ho,h]
 rfl
def lpB (i6 i7 i8 i9 i10 b0 b1:Nat) (o6 o7 o8 o9 o10:Array Oper):Code:=
 .seq (.region i6 o6 false) (.seq (.cond (.tmp 41) .skip (.exit b0)) (.block b1 (.seq (.region i7 o7 false) (.seq (.region i8 o8 false) (.cond (.tmp 43) (.region i9 o9 false) (.region i10 o10 false))))))
def atR (i6 i7 i8 i9 i10 b0 b1:Nat) (o6 o7 o8 o9 o10:Array Oper) (k:List Item) (r:List Nat):List Item:=
 .inRegion o6 r:: .code (.seq (.cond (.tmp 41) .skip (.exit b0)) (.block b1 (.seq (.region i7 o7 false) (.seq (.region i8 o8 false) (.cond (.tmp 43) (.region i9 o9 false) (.region i10 o10 false)))))):: .inLoop (lpB i6 i7 i8 i9 i10 b0 b1 o6 o7 o8 o9 o10):: .inBlock b0::k
theorem ZjZ {i4 i5 i6 i7 i8 i9 i10 b0 b1:Nat} {x11:Code} (H:ZaY T I I' fid o2 o3 o4 o5 o6 o7 o8 o9 o10) {dr:ChanDir} {B:TypeId} (hU:P.underlying T=some (.chan dr B)) {t:Array Value} (h11:Qv t (.tmp 11)= .pointer (some ⟨cell,0,none⟩)):
  ZdM P ch cell 15 (mkF b t ds (.inRegion o3 []:: .code (.seq (.region i4 o4 false) (.seq (.seq (.region i5 o5 false) (.block b0 (.loop (lpB i6 i7 i8 i9 i10 b0 b1 o6 o7 o8 o9 o10)))) x11))::k),cs) (mkF b (st0 ch t) ds (atR i6 i7 i8 i9 i10 b0 b1 o6 o7 o8 o9 o10 (.code x11::k) [0,1]),cs):=by
 refine .succ Xt (.succ Jk (.succ (Xy H.s4) (.succ (Y8 H.a40 (fun _ h=>by cases h) (Y3 rfl)) (.succ (Y8 H.a41 (fun _ h=>by cases h) (Y3 rfl)) (.succ Xt ?_)))))
 refine .succ Jk (.succ Jk (.succ (Xy H.s5) (.succ (Zoe H.a50 hU ?_) (.succ Xt ?_))))
 ·rw[Ys (by decide),Ys (by decide)]
  exact h11
 exact .succ ZgB (.succ Zod (.succ Jk (.succ (Xy H.s6) (.zero _))))
theorem ZlH {i6 i7 i8 i9 i10 b0 b1:Nat} (H:ZaY T I I' fid o2 o3 o4 o5 o6 o7 o8 o9 o10) {t0 t:Array Value} {y n:Int} (hs:47<t0.size) (h:Zgh t0 t ch cell y n) (v:Bool):
  ZdM P ch cell 25 (mkF b (ZZ t (some 40) (.tuple #[.bool v,.bool true])) ds (atR i6 i7 i8 i9 i10 b0 b1 o6 o7 o8 o9 o10 k [1]),cs) (mkF b (stp t v) ds (atR i6 i7 i8 i9 i10 b0 b1 o6 o7 o8 o9 o10 k [0,1]),cs):=by
 have hsz:=h.size
 have e40:Qv (ZZ t (some 40) (.tuple #[.bool v,.bool true])) (.tmp 40)= .tuple #[.bool v,.bool true]:=Xg (by omega)
 refine .succ (Y8 H.a61 (fun _ h=>by cases h) (Jl (v:=.bool true) e40 rfl)) (.succ Xt (.succ Jk (.succ (ZiD (v:=true) (Xg (by simp only[Z2];omega))) ?_)))
 refine .succ Zoc (.succ ZgB (.succ Jk (.succ (Xy H.s7) ?_)))
 refine .succ (Y8 H.a70 (fun _ h=>by cases h) (Jl (v:=.bool v) ((Ys (by decide)).trans e40) rfl)) ?_
 refine .succ (Y8 H.a71 (fun _ h=>by cases h) (Y3 (Xg (by simp only[Z2];omega)))) (.succ Xt (.succ Jk (.succ (Xy H.s8) ?_)))
 refine .succ (Y8 H.a80 (fun _ h=>by cases h) (Zdz (Xg (by simp only[Z2];omega)))) (.succ Xt (.succ (ZiD (v:=v) (Xg (by simp only[Z2];omega))) ?_))
 cases v
 ·refine .succ (Xy H.s10) (.succ (Y8 H.a100 (fun _ h=>by cases h) (Zdz (v:=t.getD 13 undef) ?_)) ?_)
  ·rw[Ys (by decide),Ys (by decide),Ys (by decide),Ys (by decide),Ys (by decide)]
   rfl
  have e:ZhY (.int .i64 n)=ZhY (t.getD 13 undef):=by rw[h.c13]
  refine .succ (Y8 H.a101 (fun _ h=>by cases h) (ZiS (n:=n) ((Xg (by simp only[Z2];omega)).trans h.c13))) ?_
  rw[e]
  exact .succ (Y8 H.a102 (fun _ h=>by cases h) (Y3 (Xg (by simp only[Z2];omega)))) (.succ Xt (.succ Zd7 (.succ Zfp (.succ Jk (.succ (Xy H.s6) (.zero _))))))
 ·refine .succ (Xy H.s9) (.succ (Y8 H.a90 (fun _ h=>by cases h) (Zdz (v:=t.getD 12 undef) ?_)) ?_)
  ·rw[Ys (by decide),Ys (by decide),Ys (by decide),Ys (by decide),Ys (by decide)]
   rfl
  have e:ZhY (.int .i64 y)=ZhY (t.getD 12 undef):=by rw[h.c12]
  refine .succ (Y8 H.a91 (fun _ h=>by cases h) (ZiS (n:=y) ((Xg (by simp only[Z2];omega)).trans h.c12))) ?_
  rw[e]
  exact .succ (Y8 H.a92 (fun _ h=>by cases h) (Y3 (Xg (by simp only[Z2];omega)))) (.succ Xt (.succ Zd7 (.succ Zfp (.succ Jk (.succ (Xy H.s6) (.zero _))))))
def Zom (i6 i7 i8 i9 i10 b0 b1:Nat) (o6 o7 o8 o9 o10:Array Oper) (b:FB) (ds:List Deferred) (k:List Item) (cs:List Frame) (t:Array Value):RP:=fun L=>(mkF b (L.foldl stp t) ds (atR i6 i7 i8 i9 i10 b0 b1 o6 o7 o8 o9 o10 k [0,1]),cs)
theorem ZhE {t:Array Value} (hs:47<t.size) (h11:t.getD 11 undef= .pointer (some ⟨cell,0,none⟩)) (L:List Bool):Zgh t (L.foldl stp (st0 ch t)) ch cell (cnt true L 0) (cnt false L 0):=by
 have h0:Zgh t (st0 ch t) ch cell 0 0:=by
  refine⟨?_,?_,?_,?_,?_⟩
  ·simp only[st0,Z2]
  ·simp only[st0]
   rw[QF (by decide),QF (by decide),QF (by decide)]
   exact h11
  ·exact Yl (by simp only[Z2];omega)
  ·simp only[st0]
   rw[QF (by decide),QF (by decide)]
   exact Yl (by omega)
  ·simp only[st0]
   rw[QF (by decide)]
   exact Yl (by simp only[Z2];omega)
 exact h0.fold hs L
theorem ZlJ {i4 i5 i6 i7 i8 i9 i10 b0 b1:Nat} {x11:Code} (H:ZaY T I I' fid o2 o3 o4 o5 o6 o7 o8 o9 o10) {dr:ChanDir} {B:TypeId} (hU:P.underlying T=some (.chan dr B)) (hB:∃i,P.info? B=some i∧i.zero=some (.bool false)) {t:Array Value} (hs:47<t.size)
  (h11:t.getD 11 undef= .pointer (some ⟨cell,0,none⟩)) (h37:t.getD 37 undef= .chan (some ch)) {fr:Frame} {cfr:Frame} (hfr:fr=mkF b t ds (.inRegion o3 [1]:: .code (.seq (.region i4 o4 false) (.seq (.seq (.region i5 o5 false) (.block b0 (.loop (lpB i6 i7 i8 i9 i10 b0 b1 o6 o7 o8 o9 o10)))) x11))::k))
  (hgo:Zmd P fr cs (mkF b t ds (.inRegion o3 []:: .code (.seq (.region i4 o4 false) (.seq (.seq (.region i5 o5 false) (.block b0 (.loop (lpB i6 i7 i8 i9 i10 b0 b1 o6 o7 o8 o9 o10)))) x11))::k)) cfr):
  kf P fr cs=some (ch,cell,Zom i6 i7 i8 i9 i10 b0 b1 o6 o7 o8 o9 o10 b ds (.code x11::k) cs (st0 ch t))∧Zo8 P ch cell (Zom i6 i7 i8 i9 i10 b0 b1 o6 o7 o8 o9 o10 b ds (.code x11::k) cs (st0 ch t)) (mkF b t ds (.inRegion o3 []:: .code (.seq (.region i4 o4 false) (.seq (.seq (.region i5 o5 false) (.block b0 (.loop (lpB i6 i7 i8 i9 i10 b0 b1 o6 o7 o8 o9 o10)))) x11))::k),cs):=by
 have gd:∀i v,i<t.size→t.getD i undef=v→t[i]? =some v:=fun i v h e=>by
  rw[Array.getD_eq_getD_getElem?,Array.getElem?_eq_getElem h]at e
  rw[Array.getElem?_eq_getElem h]
  exact congrArg some e
 have hL:=ZhE (ch:=ch) hs h11
 subst hfr
 refine Ztz (gd 37 _ (by omega) h37) (gd 11 _ (by omega) h11) hgo ⟨15,by decide,ZjZ H hU h11⟩ (fun L w hw=>⟨#[],?_,fun e he=>by simp at he⟩) fun L v=>⟨25,by decide,?_⟩
 ·obtain⟨o,ho,hop,hd,hg⟩:=H.a60.ok
  obtain⟨i,hi,hz⟩:=hB
  show stepG P true (G (mkF b (L.foldl stp (st0 ch t)) ds (.inRegion o6 [0,1]::_)) cs) w=_
  rw[Zcm ho (by simp[Region.wanted,hg]) (fun c=>by rw[hop];intro h;cases h)]
  have hr:(execOp (Qv (L.foldl stp (st0 ch t))) o).runT P w #[]=(.ok (.comm #[rcase ch (.bool false)] true (.recv true)) w, #[]):=by
   unfold execOp
   simp only[hop,show Qv (L.foldl stp (st0 ch t)) (.tmp 39)= .chan (some ch)from(hL L).c39]
   show(Sem.bind (underlying T) _).runT P w #[]=_
   rw[Sem.runT_bind',Ze0 hU]
   show(Sem.bind (zeroValue B) _).runT P w #[]=_
   rw[Sem.runT_bind',ZeZ hi hz]
   rfl
  unfold stepG.apply
  simp only[if_true,hr]
  have hk:=b.not_early
  simp[GStep.after,G,mkF,seen_none,hk]
  exact⟨rfl,rfl⟩
 ·have:=ZlH (P:=P) (b:=b) (ds:=ds) (k:=.code x11::k) (cs:=cs) (i6:=i6) (i7:=i7) (i8:=i8) (i9:=i9) (i10:=i10) (b0:=b0) (b1:=b1) H hs (hL L) v
  unfold Zom
  rw[List.foldl_append]
  obtain⟨o,ho,hop,hd,hg⟩:=H.a60.ok
  have e:got (mkF b (L.foldl stp (st0 ch t)) ds (atR i6 i7 i8 i9 i10 b0 b1 o6 o7 o8 o9 o10 (.code x11::k) [0,1]),cs) v true=(mkF b (ZZ (L.foldl stp (st0 ch t)) (some 40) (.tuple #[.bool v,.bool true])) ds (atR i6 i7 i8 i9 i10 b0 b1 o6 o7 o8 o9 o10 (.code x11::k) [1]),cs):=by
   unfold got atR
   rw[Xa,ho]
   show(mkF b (ZZ _ o.dst _) ds _,cs)=_
   rw[hd]
  rw[e]
  exact this
end
end Go.Proofs.YtjgpiclllehgmaaGreat.Vm
