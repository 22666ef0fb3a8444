/- Contracts: lists of numbers; what a clock reads, in the statements' words. -/
import Derived.Test.YtlcgliadpalgfaaKb
set_option linter.unusedSimpArgs false
set_option linter.unusedVariables false
namespace Go.Proofs.Ytlcgliadpalgfaa.Vm
open Go Go.Proofs Sp
set_option maxRecDepth 100000
set_option maxHeartbeats 800000

theorem c45 (l : List Int) (n : Int) (hl : l.length ≤ 1000000) : SC (fun _ => Try.prog) 45 [lst 1 encI 0 l, .int .i64 fun _ => n] [] fun r h => r = .int .i64 (fun _ => indexFrom (fun x => decide (x = n)) 0 l) ∧ h = [] := by
  obtain ⟨nt, hnt⟩ := nth_ex
  rw [lst_nt hnt]
  refine con Try.func45 (body := bodyOf Try.f45) rfl (by decide +kernel) ?_
  (cbv; (try simp only [nc] at *); (try refine Chk.mk (by (try simp only [nc, allc0, allc1, allcE, allcI, Cn.p, and_true, true_and, decide_eq_true_eq, imp_self, List.length_cons, List.length_nil]); all_goals ((repeat' (first | apply And.intro | intro _)) <;> first | omega | rfl | exact Or.inl rfl | assumption | exact nb1 (by assumption) | exact nb2 (by assumption) | exact nb3 (by assumption) | exact nb4 (by assumption) | decide | decide +kernel | (simp [*]; done))) ?_))
  refine loopA [0, 1, 5] (fun i : Nat => mkS 19 [(0, .isl 1 (fun _ => (l.length : Int)) (fun e => encI (nt Int 0 l (e ()))) .none), (1, .int .i64 fun _ => n), (5, .int .i64 fun _ => (i : Int))]) (fun _ => [])
    (fun i => i ≤ l.length ∧ indexFrom (fun x => decide (x = n)) 0 l = indexFrom (fun x => decide (x = n)) i (l.drop i)) (fun i => l.length - i + 0) 0 0 (fun _ => rfl) ⟨Nat.zero_le _, by simp⟩ (To.of [] ?_) ?_
  · cbv
    exact ⟨⟨.refl _, .refl _, .int rfl, trivial⟩, trivial⟩
  rintro i ⟨hi, hp⟩
  (cbv; (try simp only [nc] at *); (try refine Chk.mk (by (try simp only [nc, allc0, allc1, allcE, allcI, Cn.p, and_true, true_and, decide_eq_true_eq, imp_self, List.length_cons, List.length_nil]); all_goals ((repeat' (first | apply And.intro | intro _)) <;> first | omega | rfl | exact Or.inl rfl | assumption | exact nb1 (by assumption) | exact nb2 (by assumption) | exact nb3 (by assumption) | exact nb4 (by assumption) | decide | decide +kernel | (simp [*]; done))) ?_))
  refine ⟨fun hb => ?_, fun hb => ?_⟩
  · simp only [decide_eq_true_eq] at hb
    have hil : i < l.length := by omega
    have hd := nt_drop (d := (0 : Int)) hnt hil
    (cbv; (try simp only [nc] at *); (try refine Chk.mk (by (try simp only [nc, allc0, allc1, allcE, allcI, Cn.p, and_true, true_and, decide_eq_true_eq, imp_self, List.length_cons, List.length_nil]); all_goals ((repeat' (first | apply And.intro | intro _)) <;> first | omega | rfl | exact Or.inl rfl | assumption | exact nb1 (by assumption) | exact nb2 (by assumption) | exact nb3 (by assumption) | exact nb4 (by assumption) | decide | decide +kernel | (simp [*]; done))) ?_))
    obtain ⟨p, hc⟩ : ∃ p, nt Int 0 l (i : Int) = p := ⟨_, rfl⟩
    rw [hc] at hd
    rw [hc]
    rw [hd, indexFrom] at hp
    refine ⟨fun hb => ?_, fun hb => ?_⟩
    · simp only [beq_iff_eq] at hb
      rw [if_pos (by simpa using hb)] at hp
      (cbv; (try simp only [nc] at *); (try refine Chk.mk (by (try simp only [nc, allc0, allc1, allcE, allcI, Cn.p, and_true, true_and, decide_eq_true_eq, imp_self, List.length_cons, List.length_nil]); all_goals ((repeat' (first | apply And.intro | intro _)) <;> first | omega | rfl | exact Or.inl rfl | assumption | exact nb1 (by assumption) | exact nb2 (by assumption) | exact nb3 (by assumption) | exact nb4 (by assumption) | decide | decide +kernel | (simp [*]; done))) ?_))
      exact ⟨by rw [hp], trivial⟩
    · simp only [beq_eq_false_iff_ne, ne_eq] at hb
      rw [if_neg (by simpa using hb)] at hp
      (cbv; (try simp only [nc] at *); (try refine Chk.mk (by (try simp only [nc, allc0, allc1, allcE, allcI, Cn.p, and_true, true_and, decide_eq_true_eq, imp_self, List.length_cons, List.length_nil]); all_goals ((repeat' (first | apply And.intro | intro _)) <;> first | omega | rfl | exact Or.inl rfl | assumption | exact nb1 (by assumption) | exact nb2 (by assumption) | exact nb3 (by assumption) | exact nb4 (by assumption) | decide | decide +kernel | (simp [*]; done))) ?_))
      refine ⟨i + 1, ⟨by omega, hp⟩, by show l.length - (i + 1) + 0 < l.length - i + 0; omega, To.of [] ?_⟩
      cbv
      exact ⟨⟨.refl _, .refl _, .int rfl, trivial⟩, trivial⟩
  · simp only [decide_eq_false_iff_not] at hb
    have : l.drop i = [] := List.drop_eq_nil_of_le (by omega)
    rw [this, indexFrom] at hp
    (cbv; (try simp only [nc] at *); (try refine Chk.mk (by (try simp only [nc, allc0, allc1, allcE, allcI, Cn.p, and_true, true_and, decide_eq_true_eq, imp_self, List.length_cons, List.length_nil]); all_goals ((repeat' (first | apply And.intro | intro _)) <;> first | omega | rfl | exact Or.inl rfl | assumption | exact nb1 (by assumption) | exact nb2 (by assumption) | exact nb3 (by assumption) | exact nb4 (by assumption) | decide | decide +kernel | (simp [*]; done))) ?_))
    exact ⟨by rw [hp], trivial⟩

theorem c39 (a b : List Int) (ha : a.length ≤ 1000000000) : SC (fun _ => Try.prog) 39 [lst 1 encI 0 a, lst 1 encI 0 b] [] fun r h => r = .bool (fun _ => decide (a = b)) ∧ h = [] := by
  obtain ⟨nt, hnt⟩ := nth_ex
  rw [lst_nt hnt, lst_nt hnt]
  refine con Try.func39 (body := bodyOf Try.f39) rfl (by decide +kernel) ?_
  (cbv; (try simp only [nc] at *); (try refine Chk.mk (by (try simp only [nc, allc0, allc1, allcE, allcI, Cn.p, and_true, true_and, decide_eq_true_eq, imp_self, List.length_cons, List.length_nil]); all_goals ((repeat' (first | apply And.intro | intro _)) <;> first | omega | rfl | exact Or.inl rfl | assumption | exact nb1 (by assumption) | exact nb2 (by assumption) | exact nb3 (by assumption) | exact nb4 (by assumption) | decide | decide +kernel | (simp [*]; done))) ?_))
  refine ⟨fun hb => ?_, fun hb => ?_⟩
  · simp only [bne_iff_ne, ne_eq] at hb
    (cbv; (try simp only [nc] at *); (try refine Chk.mk (by (try simp only [nc, allc0, allc1, allcE, allcI, Cn.p, and_true, true_and, decide_eq_true_eq, imp_self, List.length_cons, List.length_nil]); all_goals ((repeat' (first | apply And.intro | intro _)) <;> first | omega | rfl | exact Or.inl rfl | assumption | exact nb1 (by assumption) | exact nb2 (by assumption) | exact nb3 (by assumption) | exact nb4 (by assumption) | decide | decide +kernel | (simp [*]; done))) ?_))
    refine ⟨?_, trivial⟩
    rw [decide_eq_false (fun h => hb (by rw [h]))]
  simp only [bne_eq_false_iff_eq] at hb
  (cbv; (try simp only [nc] at *); (try refine Chk.mk (by (try simp only [nc, allc0, allc1, allcE, allcI, Cn.p, and_true, true_and, decide_eq_true_eq, imp_self, List.length_cons, List.length_nil]); all_goals ((repeat' (first | apply And.intro | intro _)) <;> first | omega | rfl | exact Or.inl rfl | assumption | exact nb1 (by assumption) | exact nb2 (by assumption) | exact nb3 (by assumption) | exact nb4 (by assumption) | decide | decide +kernel | (simp [*]; done))) ?_))
  refine loopA [0, 1, 5] (fun i : Nat => mkS 26 [(0, .isl 1 (fun _ => (a.length : Int)) (fun e => encI (nt Int 0 a (e ()))) .none), (1, .isl 1 (fun _ => (b.length : Int)) (fun e => encI (nt Int 0 b (e ()))) .none), (5, .int .i64 fun _ => (i : Int))]) (fun _ => [])
    (fun i => i ≤ a.length ∧ (a = b ↔ a.drop i = b.drop i)) (fun i => a.length - i + 0) 0 0 (fun _ => rfl) ⟨Nat.zero_le _, by simp⟩ (To.of [] ?_) ?_
  · cbv
    exact ⟨⟨.refl _, .refl _, .int rfl, trivial⟩, trivial⟩
  rintro i ⟨hi, hp⟩
  (cbv; (try simp only [nc] at *); (try refine Chk.mk (by (try simp only [nc, allc0, allc1, allcE, allcI, Cn.p, and_true, true_and, decide_eq_true_eq, imp_self, List.length_cons, List.length_nil]); all_goals ((repeat' (first | apply And.intro | intro _)) <;> first | omega | rfl | exact Or.inl rfl | assumption | exact nb1 (by assumption) | exact nb2 (by assumption) | exact nb3 (by assumption) | exact nb4 (by assumption) | decide | decide +kernel | (simp [*]; done))) ?_))
  refine ⟨fun hb' => ?_, fun hb' => ?_⟩
  · simp only [decide_eq_true_eq] at hb'
    have hd := nt_drop (d := (0 : Int)) hnt (l := a) (i := i) (by omega)
    have hd' := nt_drop (d := (0 : Int)) hnt (l := b) (i := i) (by omega)
    rw [hd, hd'] at hp
    (cbv; (try simp only [nc] at *); (try refine Chk.mk (by (try simp only [nc, allc0, allc1, allcE, allcI, Cn.p, and_true, true_and, decide_eq_true_eq, imp_self, List.length_cons, List.length_nil]); all_goals ((repeat' (first | apply And.intro | intro _)) <;> first | omega | rfl | exact Or.inl rfl | assumption | exact nb1 (by assumption) | exact nb2 (by assumption) | exact nb3 (by assumption) | exact nb4 (by assumption) | decide | decide +kernel | (simp [*]; done))) ?_))
    refine ⟨fun hb'' => ?_, fun hb'' => ?_⟩
    · simp only [bne_iff_ne, ne_eq] at hb''
      (cbv; (try simp only [nc] at *); (try refine Chk.mk (by (try simp only [nc, allc0, allc1, allcE, allcI, Cn.p, and_true, true_and, decide_eq_true_eq, imp_self, List.length_cons, List.length_nil]); all_goals ((repeat' (first | apply And.intro | intro _)) <;> first | omega | rfl | exact Or.inl rfl | assumption | exact nb1 (by assumption) | exact nb2 (by assumption) | exact nb3 (by assumption) | exact nb4 (by assumption) | decide | decide +kernel | (simp [*]; done))) ?_))
      exact ⟨by rw [decide_eq_false (fun h => hb'' (List.cons.inj (hp.1 h)).1)], trivial⟩
    · simp only [bne_eq_false_iff_eq] at hb''
      (cbv; (try simp only [nc] at *); (try refine Chk.mk (by (try simp only [nc, allc0, allc1, allcE, allcI, Cn.p, and_true, true_and, decide_eq_true_eq, imp_self, List.length_cons, List.length_nil]); all_goals ((repeat' (first | apply And.intro | intro _)) <;> first | omega | rfl | exact Or.inl rfl | assumption | exact nb1 (by assumption) | exact nb2 (by assumption) | exact nb3 (by assumption) | exact nb4 (by assumption) | decide | decide +kernel | (simp [*]; done))) ?_))
      refine ⟨i + 1, ⟨by omega, by rw [hp, hb'']; simp⟩, by show a.length - (i + 1) + 0 < a.length - i + 0; omega, To.of [] ?_⟩
      cbv
      exact ⟨⟨.refl _, .refl _, .int rfl, trivial⟩, trivial⟩
  · simp only [decide_eq_false_iff_not] at hb'
    have h1 : a.drop i = [] := List.drop_eq_nil_of_le (by omega)
    have h2 : b.drop i = [] := List.drop_eq_nil_of_le (by omega)
    rw [h1, h2] at hp
    have hp : a = b := hp.2 rfl
    subst hp
    (cbv; (try simp only [nc] at *); (try refine Chk.mk (by (try simp only [nc, allc0, allc1, allcE, allcI, Cn.p, and_true, true_and, decide_eq_true_eq, imp_self, List.length_cons, List.length_nil]); all_goals ((repeat' (first | apply And.intro | intro _)) <;> first | omega | rfl | exact Or.inl rfl | assumption | exact nb1 (by assumption) | exact nb2 (by assumption) | exact nb3 (by assumption) | exact nb4 (by assumption) | decide | decide +kernel | (simp [*]; done))) ?_))
    exact ⟨by simp, trivial⟩

theorem c43 (n : Int) (h0 : -1440 ≤ n) (h1 : n ≤ 1000000) : SC (fun _ => Try.prog) 43 [.int .i64 fun _ => n] [] fun r h => r = .tup [.int .i64 fun _ => (n + 1440) / 1440 - 1, .int .i64 fun _ => (n + 1440) % 1440] ∧ h = [] := by
  refine con Try.func43 (body := bodyOf Try.f43) rfl (by decide +kernel) ?_
  have e1 := (tdivE (n + 1440) 1440).1 (by omega)
  have e2 := (tmodE (n + 1440) 1440).1 (by omega)
  (cbv; try simp only [nc] at *)
  rw [e1, e2]
  refine Chk.mk (by (try simp only [nc, allc0, allc1, allcE, allcI, Cn.p, and_true, true_and, decide_eq_true_eq, imp_self, List.length_cons, List.length_nil]); all_goals ((repeat' (first | apply And.intro | intro _)) <;> first | omega | rfl | exact Or.inl rfl | assumption | exact nb1 (by assumption) | exact nb2 (by assumption) | exact nb3 (by assumption) | exact nb4 (by assumption) | decide | decide +kernel | (simp [*]; done))) ?_
  exact ⟨rfl, trivial⟩

theorem c42 (z : Zone) (t : Int) (hz : checkZone z = 0) (ht : 0 ≤ t ∧ t ≤ 43200) (ha : -1440 ≤ Sp.ahead z t ∧ Sp.ahead z t ≤ 90000) : SC (fun _ => Try.prog) 42 [zoneA z, .int .i64 fun _ => t] [] fun r h => r = .tup [.int .i64 fun _ => t + Sp.ahead z t, .bool fun _ => true] ∧ h = [] := by
  have hlen : z.chs.length ≤ 1000000 := by have := (small_of hz).many; omega
  have h53 := c53 z t hlen
  have hck : checkInstant z t = 0 := by
    unfold checkInstant
    rw [if_neg (by omega), if_neg (by simp [inB]; omega)]
  unfold Reads at h53
  rw [if_neg (by omega)] at h53
  unfold zoneA at h53 ⊢
  generalize Sp.ahead z t = a at *
  refine con Try.func42 (body := bodyOf Try.f42) rfl (by decide +kernel) ?_
  (cbv; (try simp only [nc] at *); (try refine Chk.mk (by (try simp only [nc, allc0, allc1, allcE, allcI, Cn.p, and_true, true_and, decide_eq_true_eq, imp_self, List.length_cons, List.length_nil]); all_goals ((repeat' (first | apply And.intro | intro _)) <;> first | omega | rfl | exact Or.inl rfl | assumption | exact nb1 (by assumption) | exact nb2 (by assumption) | exact nb3 (by assumption) | exact nb4 (by assumption) | decide | decide +kernel | (simp [*]; done))) ?_))
  refine call0 h53 rfl fun r h₂ hp => ?_
  obtain ⟨rfl, rfl⟩ := hp
  (cbv; (try simp only [nc] at *); (try refine Chk.mk (by (try simp only [nc, allc0, allc1, allcE, allcI, Cn.p, and_true, true_and, decide_eq_true_eq, imp_self, List.length_cons, List.length_nil]); all_goals ((repeat' (first | apply And.intro | intro _)) <;> first | omega | rfl | exact Or.inl rfl | assumption | exact nb1 (by assumption) | exact nb2 (by assumption) | exact nb3 (by assumption) | exact nb4 (by assumption) | decide | decide +kernel | (simp [*]; done))) ?_))
  refine ⟨?_, trivial⟩
  rw [decide_eq_true (show -1 ≤ (t + a) / 1440 by omega), decide_eq_true (show (t + a) / 1440 ≤ 99 by omega), decide_eq_true (show 0 ≤ (t + a) % 1440 by omega), decide_eq_true (show (t + a) % 1440 < 1440 by omega)]
  rw [show 1440 * ((t + a) / 1440) + (t + a) % 1440 = t + a by omega]
  rfl
end Go.Proofs.Ytlcgliadpalgfaa.Vm
