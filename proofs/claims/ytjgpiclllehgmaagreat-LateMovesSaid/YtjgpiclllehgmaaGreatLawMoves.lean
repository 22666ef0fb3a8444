/- The statement LateMoves: for every argument the law returns true on every schedule, and the arguments read afterwards as they read before. No condition. -/
import Derived.Conc.LeavingOf
import Derived.Test.YtjgpiclllehgmaaGreatB1
import Derived.Test.YtjgpiclllehgmaaGreatB2
import Derived.Test.YtjgpiclllehgmaaGreatB8
set_option linter.unusedSimpArgs false
set_option linter.unusedVariables false
open Go.Proofs.Tryz renaming prog->aB
namespace Go.Proofs.YtjgpiclllehgmaaGreat.lateMoves
open Go.ChangeShapes Go.WideShapes Go.ChangeAt Go.RowKit Go.Conc
set_option maxRecDepth 100000 in
theorem lifted (os:Os) (S:os.Started) (H:Type) (enc:TypeId×Value->H):
  ReturnsInLeavingWide {} Tryz.checked os 7 .any (Rows.lateMovesSpec.pre6 enc aB Tryz.f7 Rows.lateMovesRow.domain false) (Rows.lateMovesSpec.post enc aB Tryz.f7 false true false false):=by
 refine returnsInLeavingWide_of_change_sized (C:=Tryz.checked) Vm.own S Tryz.func7
  (ChangeSpec.witness6 (enc:=enc) (C:=Tryz.checked) false ⟨#[], #[.agg #[.slice none 0 0,.slice none 0 0,.slice none 0 0,.int .i64 0,.int .i64 0,.slice none 0 0,.slice none 0 0,.slice none 0 0],.int .i64 0,.int .i64 0,.int .i64 0,.slice none 0 0],[]⟩ 8 (by kernel_rfl) (by kernel_rfl) (by kernel_rfl) (by kernel_rfl)) ?_
 intro W base I ds gs ah J hW _ _ _;have A:∀(j:Nat) t v,Tryz.f7.params[j]? =some t->I[j]? =some v->Value.okWide aB W .any base t v:=J;have am:=hW;obtain⟨p,q,U,hV,rfl,bg,bo⟩:=hW;have hA:DataW.TrodAll enc aB W 0 (λ_=>true) true Tryz.f7.params.toList I.toList ds p:=U;rw[Tryz.params7]at hA A;obtain⟨Z,a9,d0,az,p0,q0,au,rfl,rfl,h0,r0⟩:=trodAll_cons hA;obtain⟨V,aw,d1,bk,p1,q1,rfl,rfl,rfl,h1,r1⟩:=trodAll_cons r0;obtain⟨v2,bm,d2,ba,p2,q2,rfl,rfl,rfl,h2,r2⟩:=trodAll_cons r1;obtain⟨v3,bl,d3,bc,p3,q3,rfl,rfl,rfl,Y,r3⟩:=trodAll_cons r2;obtain⟨v4,bh,d4,bp,p4,q4,rfl,rfl,rfl,h4,r4⟩:=trodAll_cons r3;obtain⟨rfl,rfl,rfl⟩:=trodAll_nil r4;obtain rfl:I= #[Z,V,v2,v3,v4]:=by cases I;simp_all
 obtain⟨rfl,rfl⟩:=trodVars_none hV;have ar:=A 0 30 Z rfl rfl;have aa:∀x∈p0,x.block<W.heap.size:=by obtain⟨m,hm⟩:=h0;exact DataW.trod_lt m _ _ _ hm
 obtain⟨x0,k0,a0⟩:=Vm.Zty Tryz.underlying30 Vm.ZwH ar h0;have ac:=A 1 3 V rfl rfl;have ab:∀x∈p1,x.block<W.heap.size:=by obtain⟨m,hm⟩:=h1;exact DataW.trod_lt m _ _ _ hm
 obtain⟨x1,k1,a1⟩:=Vm.ZfX Vm.on (Vm.ZeV Tryz.underlying3 ac) h1;have aj:=A 2 3 v2 rfl rfl;have aq:∀x∈p2,x.block<W.heap.size:=by obtain⟨m,hm⟩:=h2;exact DataW.trod_lt m _ _ _ hm
 obtain⟨x2,k2,a2⟩:=Vm.ZfX Vm.on (Vm.ZeV Tryz.underlying3 aj) h2;have ak:=A 3 3 v3 rfl rfl;have ai:∀x∈p3,x.block<W.heap.size:=by obtain⟨m,hm⟩:=Y;exact DataW.trod_lt m _ _ _ hm
 obtain⟨x3,k3,a3⟩:=Vm.ZfX Vm.on (Vm.ZeV Tryz.underlying3 ak) Y;have ae:=A 4 33 v4 rfl rfl;have ao:∀x∈p4,x.block<W.heap.size:=by obtain⟨m,hm⟩:=h4;exact DataW.trod_lt m _ _ _ hm
 obtain⟨x4,k4,a4⟩:=Vm.ZfX Vm.ol (Vm.ZkS Tryz.underlying33 ae) h4;clear U J;obtain⟨M,last,o,w',t',e1,e2,e3,e4⟩:=Vm.Zs4 (f:=7) (xs:=[Vm.Zf x0,.int .i64 λ_=>x1,.int .i64 λ_=>x2,.int .i64 λ_=>x3,Vm.lst 1 Vm.QO 0 x4]) (vs:= #[Z,V,v2,v3,v4]) (W:=W) (by kernel_rfl) (λt d=>(Vm.Za2 (Vm.Zlc a0) (Vm.Za2 (Vm.Zlc a1) (Vm.Za2 (Vm.Zlc a2) (Vm.Za2 (Vm.Zlc a3) (Vm.Za2 (Vm.Zlc a4) Vm.Zqj)))))) (Vm.ZyO x0 x1 x2 x3 x4 k0 k1 k2 k3 k4);refine⟨M,last,o,w',t',e1,e2,e3,e4.mono λv hF=>?_⟩;obtain⟨rfl,G⟩:=hF;exact⟨_,_,_,[],_,[],am,trodAll_mk1 (shut_bool Tryz.underlying4 _),(trodAll_cons_mk (Below.trod Vm.Zd0 (by kernel_rfl) (iW (by kernel_rfl)) h0 G aa) (trodAll_cons_mk (Below.trod Vm.Zd0 (by kernel_rfl) (iW (by kernel_rfl)) h1 G ab) (trodAll_cons_mk (Below.trod Vm.Zd0 (by kernel_rfl) (iW (by kernel_rfl)) h2 G aq) (trodAll_cons_mk (Below.trod Vm.Zd0 (by kernel_rfl) (iW (by kernel_rfl)) Y G ai) (trodAll_cons_mk (Below.trod Vm.Zd0 (by kernel_rfl) (iW (by kernel_rfl)) h4 G ao) trodAll_mk0))))),rfl,G.frame _,λh=>by cases h⟩
theorem o1:Tryz.pinned.checked.prog.funcNamed Rows.lateMovesRow.func=some 7:=by kernel_rfl
set_option maxRecDepth 100000 in
set_option maxHeartbeats 4000000 in
theorem o2:joinedFacts Tryz.pinned.checked.prog 7 Tryz.f7 Rows.lateMovesSpec Rows.lateMovesRow=true:=by
 unfold joinedFacts;simp only[Bool.and_eq_true];repeat' (with_reducible apply And.intro)
 all_goals as_aux_lemma=>kernel_rfl
theorem o3:Tryz.f7.isInstance Tryz.pinned.checked.prog Rows.lateMovesRow.origin Rows.lateMovesRow.targs:=iW (by kernel_rfl)
theorem o4:Tryz.f7.isWrapper Tryz.pinned.checked.prog Rows.lateMovesRow.wrapper Rows.lateMovesRow.mainSum:=by unfold Func.isWrapper;first|(rw[iP (by decide+kernel)];kernel_rfl)|(rw[iN (by decide+kernel)];exact⟨rfl,rfl⟩)
theorem over:Rows.lateMovesRow.holds Tryz.pinned (OpenSpec.ofChange Rows.lateMovesSpec):=
 OpenClaim.holds_of_wide_leaving 7 Tryz.f7 rfl rfl rfl rfl rfl rfl rfl ⟨rfl,rfl,rfl,rfl,rfl⟩ rfl rfl rfl rfl rfl o1 Tryz.func7 o2 o3 o4
  (λos A H G _=>lifted os A H G)
theorem proved:Rows.LateMovesSaid:=over
#print axioms proved
end Go.Proofs.YtjgpiclllehgmaaGreat.lateMoves
