/- Contracts: the bag that deals numbers. -/
import Derived.Test.YtlcgliadpalgfaaFb
set_option linter.unusedSimpArgs false
set_option linter.unusedVariables false
namespace Go.Proofs.Ytlcgliadpalgfaa.Vm
open Go Go.Proofs Sp
set_option maxRecDepth 100000
set_option maxHeartbeats 800000

def bagB (s : Int) : Blk := .cells [.int .u64 fun _ => s]

theorem wrap_u64 (n : Int) : 0 ≤ IntKind.u64.wrap n ∧ IntKind.u64.wrap n < 18446744073709551616 := by
  have h : IntKind.u64.wrap n = n % 18446744073709551616 := by
    simp [IntKind.wrap, IntKind.signed, IntKind.bits]
  omega

theorem c60 (s : Int) : SC (fun _ => Try.prog) 60 [.ptr 0 0] [bagB s] fun r h => ∃ x s' : Int, (0 ≤ x ∧ x < 18446744073709551616) ∧ r = .int .u64 (fun _ => x) ∧ h = [bagB s'] := by
  refine con Try.func60 (body := bodyOf Try.f60) rfl (by decide +kernel) ?_
  (cbv; (try simp only [nc] at *); (try refine Chk.mk (by (try simp only [nc, allc0, allc1, allcE, allcI, Cn.p, and_true, true_and, decide_eq_true_eq, imp_self, List.length_cons, List.length_nil]); all_goals ((repeat' (first | apply And.intro | intro _)) <;> first | omega | rfl | exact Or.inl rfl | assumption | exact nb1 (by assumption) | exact nb2 (by assumption) | exact nb3 (by assumption) | exact nb4 (by assumption) | decide | decide +kernel | (simp [*]; done))) ?_))
  exact ⟨_, _, wrap_u64 _, rfl, rfl⟩

theorem up_val (x m : Int) (h0 : 0 ≤ x ∧ x < 18446744073709551616) (h1 : 1 ≤ m) (h2 : m ≤ 1000000000) :
    0 ≤ (x.fdiv (2 ^ min (Int.toNat 13) IntKind.u64.bits)).tmod (IntKind.u64.wrap (m + 1)) ∧ (x.fdiv (2 ^ min (Int.toNat 13) IntKind.u64.bits)).tmod (IntKind.u64.wrap (m + 1)) ≤ m ∧ IntKind.u64.wrap (m + 1) ≠ 0 := by
  have hw : IntKind.u64.wrap (m + 1) = m + 1 := by
    have h : ∀ n, IntKind.u64.wrap n = n % 18446744073709551616 := fun n => by simp [IntKind.wrap, IntKind.signed, IntKind.bits]
    rw [h]; omega
  rw [hw]
  have h3 : (2 : Int) ^ min (Int.toNat 13) IntKind.u64.bits = 8192 := by decide
  rw [h3]
  have h4 : 0 ≤ x.fdiv 8192 := by rw [Int.fdiv_eq_ediv_of_nonneg _ (by omega)]; omega
  rw [Int.tmod_eq_emod_of_nonneg h4]
  have := Int.emod_nonneg (x.fdiv 8192) (show m + 1 ≠ 0 by omega)
  have := Int.emod_lt_of_pos (x.fdiv 8192) (show 0 < m + 1 by omega)
  omega

theorem c17 (s m : Int) (hm : m ≤ 1000000000) : SC (fun _ => Try.prog) 17 [.ptr 0 0, .int .i64 fun _ => m] [bagB s] fun r h => ∃ x s' : Int, (0 ≤ x ∧ (x ≤ m ∨ x = 0)) ∧ r = .int .i64 (fun _ => x) ∧ h = [bagB s'] := by
  refine con Try.func17 (body := bodyOf Try.f17) rfl (by decide +kernel) ?_
  cbv
  refine ⟨fun hb => ?_, fun hb => ?_⟩
  · (cbv; (try simp only [nc] at *); (try refine Chk.mk (by (try simp only [nc, allc0, allc1, allcE, allcI, Cn.p, and_true, true_and, decide_eq_true_eq, imp_self, List.length_cons, List.length_nil]); all_goals ((repeat' (first | apply And.intro | intro _)) <;> first | omega | rfl | exact Or.inl rfl | assumption | exact nb1 (by assumption) | exact nb2 (by assumption) | exact nb3 (by assumption) | exact nb4 (by assumption) | decide | decide +kernel | (simp [*]; done))) ?_))
    exact ⟨0, s, ⟨by omega, .inr rfl⟩, rfl, rfl⟩
  · simp only [decide_eq_false_iff_not] at hb
    (cbv; (try simp only [nc] at *); (try refine Chk.mk (by (try simp only [nc, allc0, allc1, allcE, allcI, Cn.p, and_true, true_and, decide_eq_true_eq, imp_self, List.length_cons, List.length_nil]); all_goals ((repeat' (first | apply And.intro | intro _)) <;> first | omega | rfl | exact Or.inl rfl | assumption | exact nb1 (by assumption) | exact nb2 (by assumption) | exact nb3 (by assumption) | exact nb4 (by assumption) | decide | decide +kernel | (simp [*]; done))) ?_))
    refine callL [0] (c60 s) (by decide) (by simp) rfl rfl fun r h₂ hp => ?_
    obtain ⟨x, s', hx, rfl, rfl⟩ := hp
    have hv := up_val x m hx (by omega) (by omega)
    (cbv; try simp only [nc] at *)
    generalize (x.fdiv (2 ^ min (Int.toNat 13) IntKind.u64.bits)).tmod (IntKind.u64.wrap (m + 1)) = y at *
    generalize IntKind.u64.wrap (m + 1) = z at *
    refine Chk.mk (by (try simp only [nc, allc0, allc1, allcE, allcI, Cn.p, and_true, true_and, decide_eq_true_eq, imp_self, List.length_cons, List.length_nil]); all_goals ((repeat' (first | apply And.intro | intro _)) <;> first | omega | rfl | exact Or.inl rfl | assumption | exact nb1 (by assumption) | exact nb2 (by assumption) | exact nb3 (by assumption) | exact nb4 (by assumption) | decide | decide +kernel | (simp [*]; done))) ?_
    exact ⟨y, s', ⟨by omega, .inl (by omega)⟩, rfl, rfl⟩

theorem c22 (s l m : Int) (hl : -1000000000 ≤ l ∧ l ≤ 1000000000) (hm : m - l ≤ 1000000000 ∧ -1000000000 ≤ m) : SC (fun _ => Try.prog) 22 [.ptr 0 0, .int .i64 fun _ => l, .int .i64 fun _ => m] [bagB s] fun r h => ∃ x s' : Int, (l ≤ x ∧ (x ≤ m ∨ x = l)) ∧ r = .int .i64 (fun _ => x) ∧ h = [bagB s'] := by
  refine con Try.func22 (body := bodyOf Try.f22) rfl (by decide +kernel) ?_
  (cbv; (try simp only [nc] at *); (try refine Chk.mk (by (try simp only [nc, allc0, allc1, allcE, allcI, Cn.p, and_true, true_and, decide_eq_true_eq, imp_self, List.length_cons, List.length_nil]); all_goals ((repeat' (first | apply And.intro | intro _)) <;> first | omega | rfl | exact Or.inl rfl | assumption | exact nb1 (by assumption) | exact nb2 (by assumption) | exact nb3 (by assumption) | exact nb4 (by assumption) | decide | decide +kernel | (simp [*]; done))) ?_))
  refine callL [0] (c17 s (m - l) (by omega)) (by decide) (by simp) rfl rfl fun r h₂ hp => ?_
  obtain ⟨x, s', hx, rfl, rfl⟩ := hp
  (cbv; (try simp only [nc] at *); (try refine Chk.mk (by (try simp only [nc, allc0, allc1, allcE, allcI, Cn.p, and_true, true_and, decide_eq_true_eq, imp_self, List.length_cons, List.length_nil]); all_goals ((repeat' (first | apply And.intro | intro _)) <;> first | omega | rfl | exact Or.inl rfl | assumption | exact nb1 (by assumption) | exact nb2 (by assumption) | exact nb3 (by assumption) | exact nb4 (by assumption) | decide | decide +kernel | (simp [*]; done))) ?_))
  exact ⟨l + x, s', by omega, rfl, rfl⟩

theorem c37 (s n m : Int) (hm : 0 ≤ m ∧ m ≤ 1000000000) : SC (fun _ => Try.prog) 37 [.ptr 0 0, .int .i64 fun _ => n, .int .i64 fun _ => m] [bagB s] fun r h => ∃ (b : Bool) (s' : Int), r = .bool (fun _ => b) ∧ h = [bagB s'] := by
  refine con Try.func37 (body := bodyOf Try.f37) rfl (by decide +kernel) ?_
  (cbv; (try simp only [nc] at *); (try refine Chk.mk (by (try simp only [nc, allc0, allc1, allcE, allcI, Cn.p, and_true, true_and, decide_eq_true_eq, imp_self, List.length_cons, List.length_nil]); all_goals ((repeat' (first | apply And.intro | intro _)) <;> first | omega | rfl | exact Or.inl rfl | assumption | exact nb1 (by assumption) | exact nb2 (by assumption) | exact nb3 (by assumption) | exact nb4 (by assumption) | decide | decide +kernel | (simp [*]; done))) ?_))
  refine callL [0] (c17 s (m - 1) (by omega)) (by decide) (by simp) rfl rfl fun r h₂ hp => ?_
  obtain ⟨x, s', hx, rfl, rfl⟩ := hp
  (cbv; (try simp only [nc] at *); (try refine Chk.mk (by (try simp only [nc, allc0, allc1, allcE, allcI, Cn.p, and_true, true_and, decide_eq_true_eq, imp_self, List.length_cons, List.length_nil]); all_goals ((repeat' (first | apply And.intro | intro _)) <;> first | omega | rfl | exact Or.inl rfl | assumption | exact nb1 (by assumption) | exact nb2 (by assumption) | exact nb3 (by assumption) | exact nb4 (by assumption) | decide | decide +kernel | (simp [*]; done))) ?_))
  exact ⟨_, s', rfl, rfl⟩

theorem c81 (s : Int) (l : List Int) (hl : 0 < l.length ∧ l.length ≤ 1000000) : SC (fun _ => Try.prog) 81 [.ptr 0 0, lst 1 encI 0 l] [bagB s] fun r h => ∃ x s' : Int, x ∈ l ∧ r = .int .i64 (fun _ => x) ∧ h = [bagB s'] := by
  obtain ⟨nt, hnt⟩ := nth_ex
  rw [lst_nt hnt]
  refine con Try.func81 (body := bodyOf Try.f81) rfl (by decide +kernel) ?_
  cbv
  refine ⟨fun hb => ?_, fun hb => ?_⟩
  · simp only [nc, beq_iff_eq] at hb
    omega
  (cbv; (try simp only [nc] at *); (try refine Chk.mk (by (try simp only [nc, allc0, allc1, allcE, allcI, Cn.p, and_true, true_and, decide_eq_true_eq, imp_self, List.length_cons, List.length_nil]); all_goals ((repeat' (first | apply And.intro | intro _)) <;> first | omega | rfl | exact Or.inl rfl | assumption | exact nb1 (by assumption) | exact nb2 (by assumption) | exact nb3 (by assumption) | exact nb4 (by assumption) | decide | decide +kernel | (simp [*]; done))) ?_))
  refine callL [0] (c17 s ((l.length : Int) - 1) (by omega)) (by decide) (by simp) rfl rfl fun r h₂ hp => ?_
  obtain ⟨x, s', hx, rfl, rfl⟩ := hp
  (cbv; (try simp only [nc] at *); (try refine Chk.mk (by (try simp only [nc, allc0, allc1, allcE, allcI, Cn.p, and_true, true_and, decide_eq_true_eq, imp_self, List.length_cons, List.length_nil]); all_goals ((repeat' (first | apply And.intro | intro _)) <;> first | omega | rfl | exact Or.inl rfl | assumption | exact nb1 (by assumption) | exact nb2 (by assumption) | exact nb3 (by assumption) | exact nb4 (by assumption) | decide | decide +kernel | (simp [*]; done))) ?_))
  obtain ⟨i, rfl⟩ : ∃ i : Nat, x = i := ⟨x.toNat, by omega⟩
  exact ⟨_, s', nt_mem hnt (by omega), rfl, rfl⟩

theorem c14 (l : List Int) (hl : (l.length : Int) ≤ 9223372036854775807) : SC (fun _ => Try.prog) 14 [lst 1 encI 0 l] [] fun r h => ∃ s : Int, r = .ptr 0 0 ∧ h = [bagB s] := by
  obtain ⟨nt, hnt⟩ := nth_ex
  rw [lst_nt hnt]
  refine conF true false Try.func14 (body := bodyOf Try.f14) rfl (by decide +kernel) ?_
  (cbv; (try simp only [nc] at *); (try refine Chk.mk (by (try simp only [nc, allc0, allc1, allcE, allcI, Cn.p, and_true, true_and, decide_eq_true_eq, imp_self, List.length_cons, List.length_nil]); all_goals ((repeat' (first | apply And.intro | intro _)) <;> first | omega | rfl | exact Or.inl rfl | assumption | exact nb1 (by assumption) | exact nb2 (by assumption) | exact nb3 (by assumption) | exact nb4 (by assumption) | decide | decide +kernel | (simp [*]; done))) ?_))
  refine loopF true false [0, 3, 4] (fun (⟨i, s⟩ : Nat × Int) => mkS 41 [(0, .isl 1 (fun _ => (l.length : Int)) (fun e => encI (nt Int 0 l (e ()))) .none), (3, .ptr 0 0), (4, .int .i64 fun _ => (i : Int))])
    (fun ⟨i, s⟩ => [bagB s]) (fun ⟨i, s⟩ => i ≤ l.length) (fun i => l.length - i.1 + 0) (0, 11400714819323198485) 1 (fun _ => rfl) (Nat.zero_le _) (To.of [] ?_) ?_
  · cbv
    exact ⟨⟨.refl _, .refl _, .int rfl, trivial⟩, .refl _, trivial⟩
  rintro ⟨i, s⟩ hi
  have hi : i ≤ l.length := hi
  (cbv; (try simp only [nc] at *); (try refine Chk.mk (by (try simp only [nc, allc0, allc1, allcE, allcI, Cn.p, and_true, true_and, decide_eq_true_eq, imp_self, List.length_cons, List.length_nil]); all_goals ((repeat' (first | apply And.intro | intro _)) <;> first | omega | rfl | exact Or.inl rfl | assumption | exact nb1 (by assumption) | exact nb2 (by assumption) | exact nb3 (by assumption) | exact nb4 (by assumption) | decide | decide +kernel | (simp [*]; done))) ?_))
  refine ⟨fun hb => ?_, fun hb => ?_⟩
  · simp only [decide_eq_true_eq] at hb
    (cbv; (try simp only [nc] at *); (try refine Chk.mk (by (try simp only [nc, allc0, allc1, allcE, allcI, Cn.p, and_true, true_and, decide_eq_true_eq, imp_self, List.length_cons, List.length_nil]); all_goals ((repeat' (first | apply And.intro | intro _)) <;> first | omega | rfl | exact Or.inl rfl | assumption | exact nb1 (by assumption) | exact nb2 (by assumption) | exact nb3 (by assumption) | exact nb4 (by assumption) | decide | decide +kernel | (simp [*]; done))) ?_))
    exact ⟨(i + 1, _), (by omega : i + 1 ≤ l.length), by show l.length - (i + 1) + 0 < l.length - i + 0; omega, To.of [] (by
      cbv
      exact ⟨⟨.refl _, .refl _, .int rfl, trivial⟩, .refl _, trivial⟩)⟩
  · (cbv; (try simp only [nc] at *); (try refine Chk.mk (by (try simp only [nc, allc0, allc1, allcE, allcI, Cn.p, and_true, true_and, decide_eq_true_eq, imp_self, List.length_cons, List.length_nil]); all_goals ((repeat' (first | apply And.intro | intro _)) <;> first | omega | rfl | exact Or.inl rfl | assumption | exact nb1 (by assumption) | exact nb2 (by assumption) | exact nb3 (by assumption) | exact nb4 (by assumption) | decide | decide +kernel | (simp [*]; done))) ?_))
    exact ⟨s, rfl, rfl⟩
end Go.Proofs.Ytlcgliadpalgfaa.Vm
