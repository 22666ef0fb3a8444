/- Contracts: slices.Sort of few ints. -/
import Derived.Test.YtlcgliadpalgfaaFb
import Derived.Test.YtlcgliadpalgfaaM5
set_option linter.unusedSimpArgs false
set_option linter.unusedVariables false
namespace Go.Proofs.Ytlcgliadpalgfaa.Vm
open Go Go.Proofs Sp
set_option maxRecDepth 100000
set_option maxHeartbeats 800000

theorem c142 (n : Int) : SC (fun _ => Try.prog) 142 [.int .i64 fun _ => n] [] fun v h => v = .bool (fun _ => false) ∧ h = [] := by
  refine con Try.func142 (body := bodyOf Try.f142) rfl (by decide +kernel) ?_
  cbv
  exact ⟨by simp, trivial⟩

theorem c132 (a b : Int) : SC (fun _ => Try.prog) 132 [.int .i64 fun _ => a, .int .i64 fun _ => b] [] fun v h => v = .bool (fun _ => decide (a < b)) ∧ h = [] := by
  refine con Try.func132 (body := bodyOf Try.f132) rfl (by decide +kernel) ?_
  cbv
  refine call0 (c142 a) rfl fun r h₂ hp => ?_
  obtain ⟨rfl, rfl⟩ := hp
  cbv
  refine Br.isF rfl ?_
  cbv
  refine ⟨by simp [allc0, allc1, allcE, allcI, Cn.p], by simp, trivial⟩

theorem u8_bd (s : ByteArray) (n : Nat) : ((s[n]?).map UInt8.toNat).getD 0 ≤ 255 := by
  cases s[n]? with
  | none => simp
  | some b => have := b.toNat_lt; simp; omega

theorem u8_i (s : ByteArray) (n : Nat) : -9223372036854775808 ≤ ((((s[n]?).map UInt8.toNat).getD 0 : Nat) : Int) ∧ ((((s[n]?).map UInt8.toNat).getD 0 : Nat) : Int) ≤ 9223372036854775807 := by have := u8_bd s n; omega
theorem u8_j (s : ByteArray) (n : Nat) : -9223372036854775808 ≤ 0 + ((((s[n]?).map UInt8.toNat).getD 0 : Nat) : Int) ∧ 0 + ((((s[n]?).map UInt8.toNat).getD 0 : Nat) : Int) ≤ 9223372036854775807 := by have := u8_bd s n; omega
theorem u8_k (s : ByteArray) (n : Nat) : 0 ≤ 0 + ((((s[n]?).map UInt8.toNat).getD 0 : Nat) : Int) := by omega
theorem u8_l (s : ByteArray) (n : Nat) : 0 + ((((s[n]?).map UInt8.toNat).getD 0 : Nat) : Int) ≤ 255 := by have := u8_bd s n; omega

theorem c136 (n : Int) (h0 : 0 ≤ n) (h1 : n ≤ 255) : SC (fun _ => Try.prog) 136 [.int .u64 fun _ => n] [] fun v h => (∃ x : Int, 0 ≤ x ∧ x ≤ 255 ∧ v = .int .i64 fun _ => x) ∧ h = [] := by
  refine con Try.func136 (body := bodyOf Try.f136) rfl (by decide +kernel) ?_
  cbv
  refine Br.isF (by rw [decide_eq_false_iff_not]; omega) ?_
  cbv
  refine Br.isF (by rw [decide_eq_false_iff_not]; omega) ?_
  cbv
  refine Br.isF (by rw [decide_eq_false_iff_not]; omega) ?_
  cbv
  have hw : IntKind.u8.wrap n = n := by
    simp only [IntKind.wrap, IntKind.signed, IntKind.bits]
    simp
    omega
  refine ⟨?_, ⟨_, ?_, ?_, rfl⟩, trivial⟩
  · simp only [allc0, allc1, allcE, allcI, Cn.p, and_true]
    refine ⟨⟨by rw [hw]; exact h0, by rw [hw]; show n < ((256 : Nat) : Int); omega⟩, ?_, ?_⟩
    · exact u8_i _ _
    · exact u8_j _ _
  · exact u8_k _ _
  · exact u8_l _ _

theorem c124 (n : Int) (h0 : 0 ≤ n) (h1 : n ≤ 255) : SC (fun _ => Try.prog) 124 [.int .u64 fun _ => n] [] fun v h => (∃ x : Int, 0 ≤ x ∧ x ≤ 255 ∧ v = .int .i64 fun _ => x) ∧ h = [] := by
  refine con Try.func124 (body := bodyOf Try.f124) rfl (by decide +kernel) ?_
  cbv
  refine Br.isF rfl ?_
  cbv
  refine call0 (c136 n h0 h1) rfl fun r h₂ hp => ?_
  obtain ⟨⟨x, hx1, hx2, rfl⟩, rfl⟩ := hp
  cbv
  exact ⟨⟨x, hx1, hx2, rfl⟩, trivial⟩

theorem c126 (l : List Int) (c : Int) (h1 : 1 ≤ l.length) (h2 : l.length ≤ 12) : SC (fun _ => Try.prog) 126 [.msl 0 1 (fun _ => 0) (fun _ => (l.length : Int)) (fun _ => c), .int .i64 fun _ => 0, .int .i64 fun _ => (l.length : Int)] [.arr 1 (fun _ => (l.length : Int)) (lstR encI 0 l)]
    fun v h => v = .undef ∧ h = [.arr 1 (fun _ => (l.length : Int)) (lstR encI 0 (isort l))] := by
  obtain ⟨nt, hnt⟩ := nth_ex
  have hR : ∀ L : List Int, lstR encI 0 L = fun e => encI (nt Int 0 L (e ())) := fun L => by funext e; show encI _ = _; rw [hnt]
  rw [hR]
  refine SC.less (con Try.func126 (body := bodyOf Try.f126) rfl (by decide +kernel) ?_)
  cbv
  refine ⟨by (try simp only [nc, allc0, allc1, allcE, allcI, Cn.p, and_true, true_and, decide_eq_true_eq, imp_self, List.length_cons, List.length_nil]); all_goals ((repeat' (first | apply And.intro | intro _)) <;> first | omega | rfl | exact Or.inl rfl | assumption | exact nb1 (by assumption) | exact nb2 (by assumption) | exact nb3 (by assumption) | exact nb4 (by assumption) | decide | decide +kernel | (simp [*]; done)), ?_⟩
  refine loopA [0, 1, 2, 6] (fun (⟨i, L⟩ : Nat × List Int) => mkS 49 [(0, .msl 0 1 (fun _ => 0) (fun _ => (l.length : Int)) (fun _ => c)), (1, .int .i64 fun _ => 0), (2, .int .i64 fun _ => (l.length : Int)), (6, .int .i64 fun _ => (i : Int))])
    (fun ⟨i, L⟩ => [.arr 1 (fun _ => (l.length : Int)) fun e => encI (nt Int 0 L (e ()))])
    (fun ⟨i, L⟩ => 1 ≤ i ∧ i ≤ l.length ∧ L.length = l.length ∧ isort l = isortGo (l.length - i) i L) (fun i => l.length - i.1 + 0) (1, l) 1 (fun _ => rfl) ⟨by simp, h1, rfl, rfl⟩ (To.of [] ?_) ?_
  · cbv
    exact ⟨⟨.refl _, .refl _, .refl _, .int rfl, trivial⟩, .refl _, trivial⟩
  rintro ⟨i, L⟩ ⟨hi1, hi2, hL, hp⟩
  (cbv; try simp only [nc] at *)
  refine ⟨fun hb => ?_, fun hb => ?_⟩
  · simp only [decide_eq_true_eq] at hb
    obtain ⟨q, hq⟩ : ∃ q, l.length - i = q + 1 := ⟨l.length - i - 1, by omega⟩
    rw [hq, isortGo] at hp
    (cbv; try simp only [nc] at *)
    refine loopQ fun Q hQ => ?_
    refine loopA [0, 1, 2, 6, 7] (fun (⟨j, M⟩ : Nat × List Int) => mkS 49 [(0, .msl 0 1 (fun _ => 0) (fun _ => (l.length : Int)) (fun _ => c)), (1, .int .i64 fun _ => 0), (2, .int .i64 fun _ => (l.length : Int)), (6, .int .i64 fun _ => (i : Int)), (7, .int .i64 fun _ => (j : Int))])
      (fun ⟨j, M⟩ => [.arr 1 (fun _ => (l.length : Int)) fun e => encI (nt Int 0 M (e ()))])
      (fun ⟨j, M⟩ => j ≤ i ∧ M.length = l.length ∧ sink i L = sink j M) (fun j => j.1 + 0) (i, L) 1 (fun _ => rfl) ⟨Nat.le_refl _, hL, rfl⟩ (To.of [] ?_) ?_
    · cbv
      exact ⟨⟨.refl _, .refl _, .refl _, .refl _, .refl _, trivial⟩, .refl _, trivial⟩
    intro x hx
    obtain ⟨j, M⟩ := x
    have hj : j ≤ i := hx.1
    have hM : M.length = l.length := hx.2.1
    have hs : sink i L = sink j M := hx.2.2
    clear hx
    cases j with
    | zero =>
      (cbv; (try simp only [nc] at *); (try refine Chk.mk (by (try simp only [nc, allc0, allc1, allcE, allcI, Cn.p, and_true, true_and, decide_eq_true_eq, imp_self, List.length_cons, List.length_nil]); all_goals ((repeat' (first | apply And.intro | intro _)) <;> first | omega | rfl | exact Or.inl rfl | assumption | exact nb1 (by assumption) | exact nb2 (by assumption) | exact nb3 (by assumption) | exact nb4 (by assumption) | decide | decide +kernel | (simp [*]; done))) ?_))
      refine Br.isF (by decide) ?_
      (cbv; (try simp only [nc] at *); (try refine Chk.mk (by (try simp only [nc, allc0, allc1, allcE, allcI, Cn.p, and_true, true_and, decide_eq_true_eq, imp_self, List.length_cons, List.length_nil]); all_goals ((repeat' (first | apply And.intro | intro _)) <;> first | omega | rfl | exact Or.inl rfl | assumption | exact nb1 (by assumption) | exact nb2 (by assumption) | exact nb3 (by assumption) | exact nb4 (by assumption) | decide | decide +kernel | (simp [*]; done))) ?_))
      refine Br.isF (by decide) ?_
      (cbv; (try simp only [nc] at *); (try refine Chk.mk (by (try simp only [nc, allc0, allc1, allcE, allcI, Cn.p, and_true, true_and, decide_eq_true_eq, imp_self, List.length_cons, List.length_nil]); all_goals ((repeat' (first | apply And.intro | intro _)) <;> first | omega | rfl | exact Or.inl rfl | assumption | exact nb1 (by assumption) | exact nb2 (by assumption) | exact nb3 (by assumption) | exact nb4 (by assumption) | decide | decide +kernel | (simp [*]; done))) ?_))
      refine hQ _ _ _ ?_
      (cbv; (try simp only [nc] at *); (try refine Chk.mk (by (try simp only [nc, allc0, allc1, allcE, allcI, Cn.p, and_true, true_and, decide_eq_true_eq, imp_self, List.length_cons, List.length_nil]); all_goals ((repeat' (first | apply And.intro | intro _)) <;> first | omega | rfl | exact Or.inl rfl | assumption | exact nb1 (by assumption) | exact nb2 (by assumption) | exact nb3 (by assumption) | exact nb4 (by assumption) | decide | decide +kernel | (simp [*]; done))) ?_))
      refine ⟨(i + 1, M), ⟨by dsimp only; omega, by dsimp only; omega, hM, by dsimp only; rw [hp, hs, show l.length - (i + 1) = q by omega]; rfl⟩, by show l.length - (i + 1) + 0 < l.length - i + 0; omega, To.of [] ?_⟩
      cbv
      exact ⟨⟨.refl _, .refl _, .refl _, .int rfl, trivial⟩, .refl _, trivial⟩
    | succ j =>
      (cbv; (try simp only [nc] at *); (try refine Chk.mk (by (try simp only [nc, allc0, allc1, allcE, allcI, Cn.p, and_true, true_and, decide_eq_true_eq, imp_self, List.length_cons, List.length_nil]); all_goals ((repeat' (first | apply And.intro | intro _)) <;> first | omega | rfl | exact Or.inl rfl | assumption | exact nb1 (by assumption) | exact nb2 (by assumption) | exact nb3 (by assumption) | exact nb4 (by assumption) | decide | decide +kernel | (simp [*]; done))) ?_))
      refine Br.isT (by rw [decide_eq_true_eq]; omega) ?_
      (cbv; (try simp only [nc] at *); (try refine Chk.mk (by (try simp only [nc, allc0, allc1, allcE, allcI, Cn.p, and_true, true_and, decide_eq_true_eq, imp_self, List.length_cons, List.length_nil]); all_goals ((repeat' (first | apply And.intro | intro _)) <;> first | omega | rfl | exact Or.inl rfl | assumption | exact nb1 (by assumption) | exact nb2 (by assumption) | exact nb3 (by assumption) | exact nb4 (by assumption) | decide | decide +kernel | (simp [*]; done))) ?_))
      refine call0 (c132 _ _) rfl fun r h₂ hp' => ?_
      obtain ⟨rfl, rfl⟩ := hp'
      have e1 : nt Int 0 M (0 + ((j + 1 : Nat) : Int)) = M.getD (j + 1) 0 := by rw [hnt]; congr 1; omega
      have e2 : nt Int 0 M (0 + (((j + 1 : Nat) : Int) - 1)) = M.getD j 0 := by rw [hnt]; congr 1; omega
      (cbv; (try simp only [nc] at *); (try refine Chk.mk (by (try simp only [nc, allc0, allc1, allcE, allcI, Cn.p, and_true, true_and, decide_eq_true_eq, imp_self, List.length_cons, List.length_nil]); all_goals ((repeat' (first | apply And.intro | intro _)) <;> first | omega | rfl | exact Or.inl rfl | assumption | exact nb1 (by assumption) | exact nb2 (by assumption) | exact nb3 (by assumption) | exact nb4 (by assumption) | decide | decide +kernel | (simp [*]; done))) ?_))
      refine ⟨fun hb' => ?_, fun hb' => ?_⟩
      · have hlt : M.getD (j + 1) 0 < M.getD j 0 := by
          rw [← e1, ← e2]
          simpa using hb'
        rw [sink, if_pos hlt] at hs
        (cbv; (try simp only [nc] at *); (try refine Chk.mk (by (try simp only [nc, allc0, allc1, allcE, allcI, Cn.p, and_true, true_and, decide_eq_true_eq, imp_self, List.length_cons, List.length_nil]); all_goals ((repeat' (first | apply And.intro | intro _)) <;> first | omega | rfl | exact Or.inl rfl | assumption | exact nb1 (by assumption) | exact nb2 (by assumption) | exact nb3 (by assumption) | exact nb4 (by assumption) | decide | decide +kernel | (simp [*]; done))) ?_))
        refine ⟨(j, (M.set (j + 1) (M.getD j 0)).set j (M.getD (j + 1) 0)), ⟨by dsimp only; omega, by simpa using hM, hs⟩, by show j + 0 < j + 1 + 0; omega, To.of [] ?_⟩
        cbv
        refine ⟨⟨.refl _, .refl _, .refl _, .refl _, .int (by simp only [nc]; omega), trivial⟩, .arr rfl fun k hk => ?_, trivial⟩
        have key : (bif decide ((k : Int) = 0 + (((j + 1 : Nat) : Int) - 1)) then nt Int 0 M (0 + ((j + 1 : Nat) : Int)) else (bif decide ((k : Int) = 0 + ((j + 1 : Nat) : Int)) then nt Int 0 M (0 + (((j + 1 : Nat) : Int) - 1)) else nt Int 0 M (k : Int))) = nt Int 0 ((M.set (j + 1) (M.getD j 0)).set j (M.getD (j + 1) 0)) (k : Int) := by
          rw [e1, e2, hnt, hnt]
          simp only [Int.toNat_natCast, List.getD_eq_getElem?_getD, List.getElem?_set, List.length_set]
          by_cases h1 : k = j
          · subst h1
            rw [decide_eq_true (by omega)]
            simp
            rw [if_pos (by omega)]
            rfl
          · rw [decide_eq_false (by omega), if_neg (by omega)]
            by_cases h2 : k = j + 1
            · subst h2
              rw [decide_eq_true (by omega)]
              simp
              rw [if_pos (by omega)]
              rfl
            · rw [decide_eq_false (by omega), if_neg (by omega)]
              rfl
        show [AV.int .i64 fun _ => _] = [AV.int .i64 fun _ => _]
        exact congrArg (fun x : Int => [AV.int .i64 fun _ => x]) key
      · have hlt : ¬ M.getD (j + 1) 0 < M.getD j 0 := by
          rw [← e1, ← e2]
          simpa using hb'
        rw [sink, if_neg hlt] at hs
        (cbv; (try simp only [nc] at *); (try refine Chk.mk (by (try simp only [nc, allc0, allc1, allcE, allcI, Cn.p, and_true, true_and, decide_eq_true_eq, imp_self, List.length_cons, List.length_nil]); all_goals ((repeat' (first | apply And.intro | intro _)) <;> first | omega | rfl | exact Or.inl rfl | assumption | exact nb1 (by assumption) | exact nb2 (by assumption) | exact nb3 (by assumption) | exact nb4 (by assumption) | decide | decide +kernel | (simp [*]; done))) ?_))
        refine hQ _ _ _ ?_
        (cbv; (try simp only [nc] at *); (try refine Chk.mk (by (try simp only [nc, allc0, allc1, allcE, allcI, Cn.p, and_true, true_and, decide_eq_true_eq, imp_self, List.length_cons, List.length_nil]); all_goals ((repeat' (first | apply And.intro | intro _)) <;> first | omega | rfl | exact Or.inl rfl | assumption | exact nb1 (by assumption) | exact nb2 (by assumption) | exact nb3 (by assumption) | exact nb4 (by assumption) | decide | decide +kernel | (simp [*]; done))) ?_))
        refine ⟨(i + 1, M), ⟨by dsimp only; omega, by dsimp only; omega, hM, by dsimp only; rw [hp, hs, show l.length - (i + 1) = q by omega]⟩, by show l.length - (i + 1) + 0 < l.length - i + 0; omega, To.of [] ?_⟩
        cbv
        exact ⟨⟨.refl _, .refl _, .refl _, .int rfl, trivial⟩, .refl _, trivial⟩
  · simp only [decide_eq_false_iff_not] at hb
    have hz : l.length - i = 0 := by omega
    rw [hz, isortGo] at hp
    (cbv; try simp only [nc] at *)
    refine ⟨.undef, [.arr 1 (fun _ => (l.length : Int)) (lstR encI 0 (isort l))], To.of [] ⟨trivial, ?_, trivial⟩, rfl, rfl⟩
    rw [hR, hp]
    exact .refl _

theorem c123 (l : List Int) (c lim : Int) (h1 : 1 ≤ l.length) (h2 : l.length ≤ 12) : SC (fun _ => Try.prog) 123 [.msl 0 1 (fun _ => 0) (fun _ => (l.length : Int)) (fun _ => c), .int .i64 fun _ => 0, .int .i64 fun _ => (l.length : Int), .int .i64 fun _ => lim] [.arr 1 (fun _ => (l.length : Int)) (lstR encI 0 l)]
    fun v h => v = .tup [] ∧ h = [.arr 1 (fun _ => (l.length : Int)) (lstR encI 0 (isort l))] := by
  refine con Try.func123 (body := bodyOf Try.f123) rfl (by decide +kernel) ?_
  cbv
  refine loopQ fun Q hQ => ?_
  refine loopA [0, 1, 2, 3] (fun _ : Unit => mkS 134 [(0, .msl 0 1 (fun _ => 0) (fun _ => (l.length : Int)) (fun _ => c)), (1, .int .i64 fun _ => 0), (2, .int .i64 fun _ => (l.length : Int)), (3, .int .i64 fun _ => lim)])
    (fun _ => [.arr 1 (fun _ => (l.length : Int)) (lstR encI 0 l)]) (fun _ => True) (fun _ => 0) () 1 (fun _ => rfl) trivial (To.of [] ?_) ?_
  · cbv
    exact ⟨⟨.refl _, .refl _, .refl _, .refl _, trivial⟩, .refl _, trivial⟩
  intro _ _
  (cbv; (try simp only [nc] at *); (try refine Chk.mk (by (try simp only [nc, allc0, allc1, allcE, allcI, Cn.p, and_true, true_and, decide_eq_true_eq, imp_self, List.length_cons, List.length_nil]); all_goals ((repeat' (first | apply And.intro | intro _)) <;> first | omega | rfl | exact Or.inl rfl | assumption | exact nb1 (by assumption) | exact nb2 (by assumption) | exact nb3 (by assumption) | exact nb4 (by assumption) | decide | decide +kernel | (simp [*]; done))) ?_))
  refine Br.isT (by rw [decide_eq_true_eq]; omega) ?_
  (cbv; (try simp only [nc] at *); (try refine Chk.mk (by (try simp only [nc, allc0, allc1, allcE, allcI, Cn.p, and_true, true_and, decide_eq_true_eq, imp_self, List.length_cons, List.length_nil]); all_goals ((repeat' (first | apply And.intro | intro _)) <;> first | omega | rfl | exact Or.inl rfl | assumption | exact nb1 (by assumption) | exact nb2 (by assumption) | exact nb3 (by assumption) | exact nb4 (by assumption) | decide | decide +kernel | (simp [*]; done))) ?_))
  refine callL [0] (c126 l c h1 h2) (by decide) (by simp) rfl rfl fun r h₂ hp => ?_
  obtain ⟨rfl, rfl⟩ := hp
  cbv
  refine hQ _ _ _ ?_
  cbv

theorem c115m (l : List Int) (c : Int) (h1 : 1 ≤ l.length) (h2 : l.length ≤ 12) : SC (fun _ => Try.prog) 115 [.msl 0 1 (fun _ => 0) (fun _ => (l.length : Int)) (fun _ => c)] [.arr 1 (fun _ => (l.length : Int)) (lstR encI 0 l)]
    fun v h => v = .tup [] ∧ h = [.arr 1 (fun _ => (l.length : Int)) (lstR encI 0 (isort l))] := by
  refine con Try.func115 (body := bodyOf Try.f115) rfl (by decide +kernel) ?_
  (cbv; (try simp only [nc] at *); (try refine Chk.mk (by (try simp only [nc, allc0, allc1, allcE, allcI, Cn.p, and_true, true_and, decide_eq_true_eq, imp_self, List.length_cons, List.length_nil]); all_goals ((repeat' (first | apply And.intro | intro _)) <;> first | omega | rfl | exact Or.inl rfl | assumption | exact nb1 (by assumption) | exact nb2 (by assumption) | exact nb3 (by assumption) | exact nb4 (by assumption) | decide | decide +kernel | (simp [*]; done))) ?_))
  have hw : IntKind.u64.wrap (l.length : Int) = l.length := by
    simp only [IntKind.wrap, IntKind.signed, IntKind.bits]
    simp
    omega
  refine call0 (c124 (IntKind.u64.wrap (l.length : Int)) (by omega) (by omega)) rfl fun r h₂ hp => ?_
  obtain ⟨⟨x, _, _, rfl⟩, rfl⟩ := hp
  cbv
  refine callL [0] (c123 l c x h1 h2) (by decide) (by simp) rfl rfl fun r h₂ hp => ?_
  obtain ⟨rfl, rfl⟩ := hp
  cbv

/-- slices.Sort of an array that has grown. -/
theorem c115 (l : List Int) (n : Unit → Int) (hn : n () = (l.length : Int)) (h1 : 1 ≤ l.length) (h2 : l.length ≤ 12) : SC (fun _ => Try.prog) 115 [.gsl 0 n] [.gar 1 (fun _ => (l.length : Int)) (lstR encI 0 l)]
    fun v h => v = .tup [] ∧ h = [.fro 1 (fun _ => (l.length : Int)) (lstR encI 0 (isort l))] :=
  SC.inPlace hn (by show (0 : Int) < (l.length : Int); omega) rfl rfl fun c _ => (c115m l c h1 h2).mono fun r h hp => by
    obtain ⟨rfl, rfl⟩ := hp
    exact ⟨_, [], rfl, rfl, rfl, rfl⟩
end Go.Proofs.Ytlcgliadpalgfaa.Vm
