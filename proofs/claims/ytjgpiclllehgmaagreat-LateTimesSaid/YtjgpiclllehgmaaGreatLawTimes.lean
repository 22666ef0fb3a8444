/- The statement LateTimes: for every argument the law returns true on every schedule, and the arguments read afterwards as they read before. No condition. -/
import Derived.Conc.LeavingOf
import Derived.Test.YtjgpiclllehgmaaGreatB1
import Derived.Test.YtjgpiclllehgmaaGreatB2
import Derived.Test.YtjgpiclllehgmaaGreatB7
set_option linter.unusedSimpArgs false
set_option linter.unusedVariables false
open Go.Proofs.Tryz renaming prog->aB
namespace Go.Proofs.YtjgpiclllehgmaaGreat.lateTimes
open Go.ChangeShapes Go.WideShapes Go.ChangeAt Go.RowKit Go.Conc
set_option maxRecDepth 100000 in
theorem lifted (os:Os) (S:os.Started) (H:Type) (enc:TypeId×Value->H):
  ReturnsInLeavingWide {} Tryz.checked os 3 .any (Rows.lateTimesSpec.pre6 enc aB Tryz.f3 Rows.lateTimesRow.domain false) (Rows.lateTimesSpec.post enc aB Tryz.f3 false true false false):=by
 refine returnsInLeavingWide_of_change_sized (C:=Tryz.checked) Vm.own S Tryz.func3
  (ChangeSpec.witness6 (enc:=enc) (C:=Tryz.checked) false ⟨#[], #[.agg #[.slice none 0 0,.slice none 0 0,.slice none 0 0,.int .i64 0,.int .i64 0,.slice none 0 0,.slice none 0 0,.slice none 0 0],.int .i64 0,.agg #[.int .i64 0,.int .i64 0,.int .i64 0,.int .i64 0],.agg #[.int .i64 0,.int .i64 0,.slice none 0 0],.slice none 0 0],[]⟩ 8 (by kernel_rfl) (by kernel_rfl) (by kernel_rfl) (by kernel_rfl)) ?_
 intro W base I ds gs ab J hW _ _ _;have A:∀(j:Nat) t v,Tryz.f3.params[j]? =some t->I[j]? =some v->Value.okWide aB W .any base t v:=J;have ao:=hW;obtain⟨p,q,U,hV,rfl,bh,a9⟩:=hW;have hA:DataW.TrodAll enc aB W 0 (fun _=>true) true Tryz.f3.params.toList I.toList ds p:=U;rw[Tryz.params3]at hA A;obtain⟨v0,au,d0,ar,p0,q0,aq,rfl,rfl,h0,r0⟩:=trodAll_cons hA;obtain⟨V,az,d1,bc,p1,q1,rfl,rfl,rfl,Z,r1⟩:=trodAll_cons r0;obtain⟨v2,bk,d2,bl,p2,q2,rfl,rfl,rfl,h2,r2⟩:=trodAll_cons r1;obtain⟨v3,bm,d3,bg,p3,q3,rfl,rfl,rfl,h3,r3⟩:=trodAll_cons r2;obtain⟨v4,aw,d4,ba,p4,q4,rfl,rfl,rfl,Y,r4⟩:=trodAll_cons r3;obtain⟨rfl,rfl,rfl⟩:=trodAll_nil r4;obtain rfl:I= #[v0,V,v2,v3,v4]:=by cases I;simp_all
 obtain⟨rfl,rfl⟩:=trodVars_none hV;have ak:=A 0 30 v0 rfl rfl;have ac:∀x∈p0,x.block<W.heap.size:=by obtain⟨m,hm⟩:=h0;exact DataW.trod_lt m _ _ _ hm
 obtain⟨x0,k0,a0⟩:=Vm.Zi7 Tryz.underlying30 Vm.Zwd ak h0;have ai:=A 1 3 V rfl rfl;have aj:∀x∈p1,x.block<W.heap.size:=by obtain⟨m,hm⟩:=Z;exact DataW.trod_lt m _ _ _ hm
 obtain⟨x1,k1,a1⟩:=Vm.ZmQ Vm.on (Vm.ZnU Tryz.underlying3 ai) Z;have am:=A 2 32 v2 rfl rfl;have ae:∀x∈p2,x.block<W.heap.size:=by obtain⟨m,hm⟩:=h2;exact DataW.trod_lt m _ _ _ hm
 obtain⟨x2,k2,a2⟩:=Vm.Zi7 Tryz.underlying32 Vm.Zud am h2;have ah:=A 3 35 v3 rfl rfl;have aa:∀x∈p3,x.block<W.heap.size:=by obtain⟨m,hm⟩:=h3;exact DataW.trod_lt m _ _ _ hm
 obtain⟨x3,k3,a3⟩:=Vm.Zi7 Tryz.underlying35 Vm.Zp9 ah h3;have ap:=A 4 33 v4 rfl rfl;have al:∀x∈p4,x.block<W.heap.size:=by obtain⟨m,hm⟩:=Y;exact DataW.trod_lt m _ _ _ hm
 obtain⟨x4,k4,a4⟩:=Vm.ZmQ Vm.ol (Vm.Zkp Tryz.underlying33 ap) Y;clear U J;obtain⟨M,last,o,w',t',e1,e2,e3,e4⟩:=Vm.ZsL (f:=3) (xs:=[Vm.Zf x0,.int .i64 fun _=>x1,.agg (Vm.Qk x2),.agg (Vm.Zq x3),Vm.lst 1 Vm.Q9 0 x4]) (vs:= #[v0,V,v2,v3,v4]) (W:=W) (by kernel_rfl) (fun t d=>(Vm.ZaL (Vm.ZkJ a0) (Vm.ZaL (Vm.ZkJ a1) (Vm.ZaL (Vm.ZkJ a2) (Vm.ZaL (Vm.ZkJ a3) (Vm.ZaL (Vm.ZkJ a4) Vm.ZpX)))))) (Vm.Zx2 x0 x1 x2 x3 x4 k0 k1 k2 k3 k4);refine⟨M,last,o,w',t',e1,e2,e3,e4.mono fun v hF=>?_⟩;obtain⟨rfl,G⟩:=hF;exact⟨_,_,_,[],_,[],ao,trodAll_mk1 (shut_bool Tryz.underlying4 _),(trodAll_cons_mk (Below.trod Vm.ZdH (by kernel_rfl) (of_decide_eq_true (by kernel_rfl)) h0 G ac) (trodAll_cons_mk (Below.trod Vm.ZdH (by kernel_rfl) (of_decide_eq_true (by kernel_rfl)) Z G aj) (trodAll_cons_mk (Below.trod Vm.ZdH (by kernel_rfl) (of_decide_eq_true (by kernel_rfl)) h2 G ae) (trodAll_cons_mk (Below.trod Vm.ZdH (by kernel_rfl) (of_decide_eq_true (by kernel_rfl)) h3 G aa) (trodAll_cons_mk (Below.trod Vm.ZdH (by kernel_rfl) (of_decide_eq_true (by kernel_rfl)) Y G al) trodAll_mk0))))),rfl,G.frame _,fun h=>by cases h⟩
theorem o1:Tryz.pinned.checked.prog.funcNamed Rows.lateTimesRow.func=some 3:=by kernel_rfl
set_option maxRecDepth 100000 in
set_option maxHeartbeats 4000000 in
theorem o2:joinedFacts Tryz.pinned.checked.prog 3 Tryz.f3 Rows.lateTimesSpec Rows.lateTimesRow=true:=by
 unfold joinedFacts;simp only[Bool.and_eq_true];repeat' (with_reducible apply And.intro)
 all_goals as_aux_lemma=>kernel_rfl
theorem o3:Tryz.f3.isInstance Tryz.pinned.checked.prog Rows.lateTimesRow.origin Rows.lateTimesRow.targs:=of_decide_eq_true (by kernel_rfl)
theorem o4:Tryz.f3.isWrapper Tryz.pinned.checked.prog Rows.lateTimesRow.wrapper Rows.lateTimesRow.mainSum:=by unfold Func.isWrapper;first|(rw[if_pos (by decide+kernel)];kernel_rfl)|(rw[if_neg (by decide+kernel)];exact⟨rfl,rfl⟩)
theorem over:Rows.lateTimesRow.holds Tryz.pinned (OpenSpec.ofChange Rows.lateTimesSpec):=
 OpenClaim.holds_of_wide_leaving 3 Tryz.f3 rfl rfl rfl rfl rfl rfl rfl ⟨rfl,rfl,rfl,rfl,rfl⟩ rfl rfl rfl rfl rfl o1 Tryz.func3 o2 o3 o4
  (fun os A H G _=>lifted os A H G)
theorem proved:Rows.LateTimesSaid:=over
#print axioms proved
end Go.Proofs.YtjgpiclllehgmaaGreat.lateTimes
