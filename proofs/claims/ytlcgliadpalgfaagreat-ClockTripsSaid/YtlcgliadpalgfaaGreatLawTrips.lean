/- The statement ClockTrips: for every argument the law returns true, and the arguments read afterwards as they read before. No condition. -/
import Derived.Test.YtlcgliadpalgfaaGreatB0
import Derived.Test.YtlcgliadpalgfaaGreatB1
import Derived.Test.YtlcgliadpalgfaaGreatB2
import Derived.Test.YtlcgliadpalgfaaGreatB3
import Derived.Test.YtlcgliadpalgfaaGreatB4
import Derived.Test.YtlcgliadpalgfaaGreatB5
import Derived.Test.YtlcgliadpalgfaaGreatB6
import Derived.Test.YtlcgliadpalgfaaGreatB7
import Derived.Test.YtlcgliadpalgfaaGreatB8
import Derived.Test.YtlcgliadpalgfaaGreatB9
import Derived.Test.YtlcgliadpalgfaaGreatB10
import Derived.Test.YtlcgliadpalgfaaGreatB11
set_option linter.unusedSimpArgs false
set_option linter.unusedVariables false
namespace Go.Proofs.YtlcgliadpalgfaaGreat.clockTrips
open Go.ChangeShapes Go.WideShapes Go.ChangeAt Go.RowKit
set_option linter.unusedVariables false

set_option maxRecDepth 100000 in
theorem lifted (os : Os) (started : os.Started) (H : Type) (enc : TypeId × Value → H) :
    ReturnsInHanded {} Tryz.checked os 4 .any (Rows.clockTripsSpec.pre6 enc Tryz.prog Tryz.f4 Rows.clockTripsRow.domain false) (Rows.clockTripsSpec.post enc Tryz.prog Tryz.f4 false true false false) := by
  refine returnsInHanded_of_change (C := Tryz.checked) Vm.own started (by kernel_rfl) Tryz.func4
    (ChangeSpec.witness6 (enc := enc) (C := Tryz.checked) false ⟨#[], #[.agg #[.slice none 0 0, .slice none 0 0, .slice none 0 0, .int .i64 0, .int .i64 0], .slice none 0 0, .agg #[.int .i64 0, .int .i64 0, .int .i64 0], .int .i64 0, .int .i64 0, .slice none 0 0], []⟩ 8 (by kernel_rfl) (by kernel_rfl) (by kernel_rfl) (by kernel_rfl)) ?_
  intro W base args ds gs before hval0 hW hcnd _
  have hval : ∀ (j : Nat) t v, Tryz.f4.params[j]? = some t → args[j]? = some v → Value.okWide Tryz.prog W .any base t v := hval0
  have hW' := hW
  obtain ⟨p, q, hA0, hV, rfl, hfz, hnd⟩ := hW
  have hA : DataW.TrodAll enc Tryz.prog W 0 (fun _ => true) true Tryz.f4.params.toList args.toList ds p := hA0
  rw [Tryz.params4] at hA hval
  obtain ⟨v0, vs0, d0, ds0, p0, q0, hargs, rfl, rfl, h0, r0⟩ := trodAll_cons hA
  obtain ⟨v1, vs1, d1, ds1, p1, q1, rfl, rfl, rfl, h1, r1⟩ := trodAll_cons r0
  obtain ⟨v2, vs2, d2, ds2, p2, q2, rfl, rfl, rfl, h2, r2⟩ := trodAll_cons r1
  obtain ⟨v3, vs3, d3, ds3, p3, q3, rfl, rfl, rfl, h3, r3⟩ := trodAll_cons r2
  obtain ⟨v4, vs4, d4, ds4, p4, q4, rfl, rfl, rfl, h4, r4⟩ := trodAll_cons r3
  obtain ⟨v5, vs5, d5, ds5, p5, q5, rfl, rfl, rfl, h5, r5⟩ := trodAll_cons r4
  obtain ⟨rfl, rfl, rfl⟩ := trodAll_nil r5
  obtain rfl : args = #[v0, v1, v2, v3, v4, v5] := by cases args; simp_all
  obtain ⟨rfl, rfl⟩ := trodVars_none hV
  have hv0 := hval 0 25 v0 rfl rfl
  have lt0 : ∀ x ∈ p0, x.block < W.heap.size := by obtain ⟨m, hm⟩ := h0; exact DataW.trod_lt m _ _ _ hm
  obtain ⟨x0, k0, a0⟩ := Vm.arg_agg Tryz.underlying25 Vm.obook hv0 h0
  have hv1 := hval 1 50 v1 rfl rfl
  have lt1 : ∀ x ∈ p1, x.block < W.heap.size := by obtain ⟨m, hm⟩ := h1; exact DataW.trod_lt m _ _ _ hm
  obtain ⟨x1, k1, a1⟩ := Vm.arg_one Vm.olegs (Vm.cells_slice Tryz.underlying50 hv1) h1
  have hv2 := hval 2 52 v2 rfl rfl
  have lt2 : ∀ x ∈ p2, x.block < W.heap.size := by obtain ⟨m, hm⟩ := h2; exact DataW.trod_lt m _ _ _ hm
  obtain ⟨x2, k2, a2⟩ := Vm.arg_agg Tryz.underlying52 Vm.oleg hv2 h2
  have hv3 := hval 3 3 v3 rfl rfl
  have lt3 : ∀ x ∈ p3, x.block < W.heap.size := by obtain ⟨m, hm⟩ := h3; exact DataW.trod_lt m _ _ _ hm
  obtain ⟨x3, k3, a3⟩ := Vm.arg_one Vm.on (Vm.cells_int Tryz.underlying3 hv3) h3
  have hv4 := hval 4 3 v4 rfl rfl
  have lt4 : ∀ x ∈ p4, x.block < W.heap.size := by obtain ⟨m, hm⟩ := h4; exact DataW.trod_lt m _ _ _ hm
  obtain ⟨x4, k4, a4⟩ := Vm.arg_one Vm.on (Vm.cells_int Tryz.underlying3 hv4) h4
  have hv5 := hval 5 29 v5 rfl rfl
  have lt5 : ∀ x ∈ p5, x.block < W.heap.size := by obtain ⟨m, hm⟩ := h5; exact DataW.trod_lt m _ _ _ hm
  obtain ⟨x5, k5, a5⟩ := Vm.arg_one Vm.ol (Vm.cells_slice Tryz.underlying29 hv5) h5
  clear hA0 hval0
  refine (Vm.walk_of (xs := [Vm.bookA x0, Vm.lst 3 Vm.encLegO default x1, Vm.legA x2, .int .i64 fun _ => x3, .int .i64 fun _ => x4, Vm.lst 1 Vm.encI 0 x5]) (Vm.rowA_cons a0 (Vm.rowA_cons a1 (Vm.rowA_cons a2 (Vm.rowA_cons a3 (Vm.rowA_cons a4 (Vm.rowA_cons a5 Vm.rowA_nil)))))) (Vm.c201L x0 x1 x2 x3 x4 x5 k0 k1 k2 k3 k4 k5)).mono fun e W' ⟨he, bel⟩ => ?_
  subst he
  exact ⟨_, rfl, _, _, _, [], _, [], hW', trodAll_mk1 (shut_bool Tryz.underlying4 _), (trodAll_cons_mk (Below.trod Vm.laidOut (by kernel_rfl) (of_decide_eq_true (by kernel_rfl)) h0 bel lt0) (trodAll_cons_mk (Below.trod Vm.laidOut (by kernel_rfl) (of_decide_eq_true (by kernel_rfl)) h1 bel lt1) (trodAll_cons_mk (Below.trod Vm.laidOut (by kernel_rfl) (of_decide_eq_true (by kernel_rfl)) h2 bel lt2) (trodAll_cons_mk (Below.trod Vm.laidOut (by kernel_rfl) (of_decide_eq_true (by kernel_rfl)) h3 bel lt3) (trodAll_cons_mk (Below.trod Vm.laidOut (by kernel_rfl) (of_decide_eq_true (by kernel_rfl)) h4 bel lt4) (trodAll_cons_mk (Below.trod Vm.laidOut (by kernel_rfl) (of_decide_eq_true (by kernel_rfl)) h5 bel lt5) trodAll_mk0)))))), rfl, bel.frame _, fun h => by cases h⟩

theorem over : Rows.clockTripsRow.holds Tryz.pinned (OpenSpec.ofChange Rows.clockTripsSpec) :=
  OpenClaim.holds_of_wide 4 Tryz.f4 rfl rfl rfl rfl rfl rfl rfl ⟨rfl, rfl, rfl, rfl, rfl⟩ rfl rfl rfl rfl rfl (by kernel_rfl) Tryz.func4 (by kernel_rfl)
    (of_decide_eq_true (by kernel_rfl)) (by unfold Func.isWrapper; first | (rw [if_pos (by decide +kernel)]; kernel_rfl) | (rw [if_neg (by decide +kernel)]; exact ⟨rfl, rfl⟩))
    (fun os started H enc _ => lifted os started H enc)

/-- The statement. -/
theorem proved : Rows.ClockTripsSaid := over
#print axioms proved
end Go.Proofs.YtlcgliadpalgfaaGreat.clockTrips
