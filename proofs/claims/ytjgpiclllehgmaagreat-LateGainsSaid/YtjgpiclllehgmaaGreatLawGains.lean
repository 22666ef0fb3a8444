/- LateGains: the law returns true for every argument, and leaves it as it was. No condition. -/
import Derived.Conc.LeavingOf
import Derived.Test.YtjgpiclllehgmaaGreatB1
import Derived.Test.YtjgpiclllehgmaaGreatB2
import Derived.Test.YtjgpiclllehgmaaGreatB8
set_option linter.all false
open Go.Proofs.Tryz renaming prog->aB
namespace Go.Proofs.YtjgpiclllehgmaaGreat.lateGains
open Go.ChangeShapes Go.WideShapes Go.ChangeAt Go.RowKit Go.Conc
set_option maxRecDepth 100000 in
theorem lifted (os:Os) (S:os.Started) (H:Type) (enc:TypeId×Value->H):
  ReturnsInLeavingWide {} Tryz.checked os 5 .any (Rows.lateGainsSpec.pre6 enc aB Tryz.f5 Rows.lateGainsRow.domain false) (Rows.lateGainsSpec.post enc aB Tryz.f5 false true false false):=by
 refine returnsInLeavingWide_of_change_sized (C:=Tryz.checked) Vm.own S Tryz.func5
  (ChangeSpec.witness6 (enc:=enc) (C:=Tryz.checked) false ⟨#[], #[.agg #[.slice none 0 0,.slice none 0 0,.slice none 0 0,.int .i64 0,.int .i64 0,.slice none 0 0,.slice none 0 0,.slice none 0 0],.agg #[.int .i64 0,.int .i64 0,.int .i64 0,.slice none 0 0],.int .i64 0,.int .i64 0,.slice none 0 0],[]⟩ 8 (by kernel_rfl) (by kernel_rfl) (by kernel_rfl) (by kernel_rfl)) ?_
 intro W base I ds gs ah J hW _ _ _;have A:∀(j:Nat) t v,Tryz.f5.params[j]? =some t->I[j]? =some v->Value.okWide aB W .any base t v:=J;have al:=hW;obtain⟨p,q,U,hV,rfl,ba,bk⟩:=hW;have hA:DataW.TrodAll enc aB W 0 (λ_=>true) true Tryz.f5.params.toList I.toList ds p:=U;rw[Tryz.params5]at hA A;obtain⟨Z,aw,d0,au,p0,q0,aq,rfl,rfl,h0,r0⟩:=trodAll_cons hA;obtain⟨V,ar,d1,be,p1,q1,rfl,rfl,rfl,h1,r1⟩:=trodAll_cons r0;obtain⟨v2,bh,d2,az,p2,q2,rfl,rfl,rfl,h2,r2⟩:=trodAll_cons r1;obtain⟨v3,bg,d3,a9,p3,q3,rfl,rfl,rfl,Y,r3⟩:=trodAll_cons r2;obtain⟨v4,bc,d4,bl,p4,q4,rfl,rfl,rfl,h4,r4⟩:=trodAll_cons r3;obtain⟨rfl,rfl,rfl⟩:=trodAll_nil r4;obtain rfl:I= #[Z,V,v2,v3,v4]:=by cases I;simp_all
 obtain⟨rfl,rfl⟩:=trodVars_none hV;have ap:=A 0 30 Z rfl rfl;have aa:∀x∈p0,x.block<W.heap.size:=by obtain⟨m,hm⟩:=h0;exact DataW.trod_lt m _ _ _ hm
 obtain⟨x0,k0,a0⟩:=Vm.Znh Tryz.underlying30 Vm.ZwB ap h0;have ac:=A 1 66 V rfl rfl;have ab:∀x∈p1,x.block<W.heap.size:=by obtain⟨m,hm⟩:=h1;exact DataW.trod_lt m _ _ _ hm
 obtain⟨x1,k1,a1⟩:=Vm.Znh Tryz.underlying66 Vm.ZwA ac h1;have aj:=A 2 3 v2 rfl rfl;have ao:∀x∈p2,x.block<W.heap.size:=by obtain⟨m,hm⟩:=h2;exact DataW.trod_lt m _ _ _ hm
 obtain⟨x2,k2,a2⟩:=Vm.Zjv Vm.on (Vm.Zim Tryz.underlying3 aj) h2;have ak:=A 3 3 v3 rfl rfl;have ai:∀x∈p3,x.block<W.heap.size:=by obtain⟨m,hm⟩:=Y;exact DataW.trod_lt m _ _ _ hm
 obtain⟨x3,k3,a3⟩:=Vm.Zjv Vm.on (Vm.Zim Tryz.underlying3 ak) Y;have ae:=A 4 33 v4 rfl rfl;have am:∀x∈p4,x.block<W.heap.size:=by obtain⟨m,hm⟩:=h4;exact DataW.trod_lt m _ _ _ hm
 obtain⟨x4,k4,a4⟩:=Vm.Zjv Vm.ol (Vm.ZkM Tryz.underlying33 ae) h4;clear U J;obtain⟨M,last,o,w',t',e1,e2,e3,e4⟩:=Vm.Zs5 (f:=5) (xs:=[Vm.Zf x0,Vm.Qa x1,.int .i64 λ_=>x2,.int .i64 λ_=>x3,Vm.lst 1 Vm.Xd 0 x4]) (vs:= #[Z,V,v2,v3,v4]) (W:=W) (by kernel_rfl) (λt d=>(Vm.ZaT (Vm.Zk7 a0) (Vm.ZaT (Vm.Zk7 a1) (Vm.ZaT (Vm.Zk7 a2) (Vm.ZaT (Vm.Zk7 a3) (Vm.ZaT (Vm.Zk7 a4) Vm.Zqi)))))) (Vm.ZyA x0 x1 x2 x3 x4 k0 k1 k2 k3 k4);refine⟨M,last,o,w',t',e1,e2,e3,e4.mono λv hF=>?_⟩;obtain⟨rfl,G⟩:=hF;exact⟨_,_,_,[],_,[],al,trodAll_mk1 (shut_bool Tryz.underlying4 _),(trodAll_cons_mk (Below.trod Vm.ZdR (by kernel_rfl) (iU (by kernel_rfl)) h0 G aa) (trodAll_cons_mk (Below.trod Vm.ZdR (by kernel_rfl) (iU (by kernel_rfl)) h1 G ab) (trodAll_cons_mk (Below.trod Vm.ZdR (by kernel_rfl) (iU (by kernel_rfl)) h2 G ao) (trodAll_cons_mk (Below.trod Vm.ZdR (by kernel_rfl) (iU (by kernel_rfl)) Y G ai) (trodAll_cons_mk (Below.trod Vm.ZdR (by kernel_rfl) (iU (by kernel_rfl)) h4 G am) trodAll_mk0))))),rfl,G.frame _,λh=>by cases h⟩
theorem o1:Tryz.pinned.checked.prog.funcNamed Rows.lateGainsRow.func=some 5:=by kernel_rfl
set_option maxRecDepth 100000 in
set_option maxHeartbeats 4000000 in
theorem o2:joinedFacts Tryz.pinned.checked.prog 5 Tryz.f5 Rows.lateGainsSpec Rows.lateGainsRow=true:=by
 unfold joinedFacts;simp only[Bool.and_eq_true];repeat' (with_reducible apply And.intro)
 all_goals as_aux_lemma=>kernel_rfl
theorem o3:Tryz.f5.isInstance Tryz.pinned.checked.prog Rows.lateGainsRow.origin Rows.lateGainsRow.targs:=iU (by kernel_rfl)
theorem o4:Tryz.f5.isWrapper Tryz.pinned.checked.prog Rows.lateGainsRow.wrapper Rows.lateGainsRow.mainSum:=by unfold Func.isWrapper;first|(rw[iQ (by decide+kernel)];kernel_rfl)|(rw[iP (by decide+kernel)];exact⟨rfl,rfl⟩)
theorem over:Rows.lateGainsRow.holds Tryz.pinned (OpenSpec.ofChange Rows.lateGainsSpec):=
 OpenClaim.holds_of_wide_leaving 5 Tryz.f5 rfl rfl rfl rfl rfl rfl rfl ⟨rfl,rfl,rfl,rfl,rfl⟩ rfl rfl rfl rfl rfl o1 Tryz.func5 o2 o3 o4
  (λos A H G _=>lifted os A H G)
theorem proved:Rows.LateGainsSaid:=over
#print axioms proved
end Go.Proofs.YtjgpiclllehgmaaGreat.lateGains
