/- Contracts: the reference's zones: checks, and by how much a clock is ahead. -/
import Derived.Test.YtlcgliadpalgfaaKk
set_option linter.unusedSimpArgs false
set_option linter.unusedVariables false
namespace Go.Proofs.Ytlcgliadpalgfaa.Vm
open Go Go.Proofs Sp
set_option maxRecDepth 100000
set_option maxHeartbeats 1600000

theorem c72 (n a b : Int) : SC (fun _ => Try.prog) 72 [.int .i64 fun _ => n, .int .i64 fun _ => a, .int .i64 fun _ => b] [] fun r h => r = .bool (fun _ => inB n a b) ∧ h = [] := by
  refine con Try.func72 (body := bodyOf Try.f72) rfl (by decide +kernel) ?_
  cbv
  try simp only [nc] at *
  refine ⟨by simp [allc0, allc1, allcE, allcI, Cn.p], ?_, trivial⟩
  congr 1; funext _; unfold inB; cases decide (a ≤ n) <;> rfl

theorem c70 (z : Zone) (hlen : z.chs.length ≤ 1000) : SC (fun _ => Try.prog) 70 [zoneA z] [] fun v h => v = .int .i64 (fun _ => checkZone z) ∧ h = [] := by
  obtain ⟨nt, hnt⟩ := nth_ex
  unfold zoneA checkZone
  rw [lst_nt hnt]
  refine con Try.func70 (body := bodyOf Try.f70) rfl (by decide +kernel) ?_
  (cbv; (try simp only [nc] at *); (try refine Chk.mk (by (try simp only [nc, allc0, allc1, allcE, allcI, Cn.p, and_true, true_and, decide_eq_true_eq, imp_self, List.length_cons, List.length_nil]); all_goals ((repeat' (first | apply And.intro | intro _)) <;> first | omega | rfl | exact Or.inl rfl | assumption | exact nb1 (by assumption) | exact nb2 (by assumption) | exact nb3 (by assumption) | exact nb4 (by assumption) | decide | decide +kernel | (simp [*]; done))) ?_))
  refine call0 (c72 z.base (-720) 720) (by first | rfl | (simp only [zoneA, lst_nt hnt]; rfl)) fun r h₂ hp => ?_
  (try simp only [zoneA, lst_nt hnt] at hp)
  obtain ⟨rfl, rfl⟩ := hp
  (cbv; (try simp only [nc] at *); (try refine Chk.mk (by (try simp only [nc, allc0, allc1, allcE, allcI, Cn.p, and_true, true_and, decide_eq_true_eq, imp_self, List.length_cons, List.length_nil]); all_goals ((repeat' (first | apply And.intro | intro _)) <;> first | omega | rfl | exact Or.inl rfl | assumption | exact nb1 (by assumption) | exact nb2 (by assumption) | exact nb3 (by assumption) | exact nb4 (by assumption) | decide | decide +kernel | (simp [*]; done))) ?_))
  refine ⟨fun h1 => ?_, fun h1 => ?_⟩
  · rw [if_pos h1]
    (cbv; (try simp only [nc] at *); (try refine Chk.mk (by (try simp only [nc, allc0, allc1, allcE, allcI, Cn.p, and_true, true_and, decide_eq_true_eq, imp_self, List.length_cons, List.length_nil]); all_goals ((repeat' (first | apply And.intro | intro _)) <;> first | omega | rfl | exact Or.inl rfl | assumption | exact nb1 (by assumption) | exact nb2 (by assumption) | exact nb3 (by assumption) | exact nb4 (by assumption) | decide | decide +kernel | (simp [*]; done))) ?_))
    (try first | exact ⟨rfl, trivial⟩ | exact ⟨trivial, trivial⟩)
  rw [if_neg (by rw [h1]; exact Bool.false_ne_true)]
  refine ⟨fun h2 => ?_, fun h2 => ?_⟩
  · simp only [decide_eq_true_eq] at h2
    rw [if_pos (by omega)]
    (cbv; (try simp only [nc] at *); (try refine Chk.mk (by (try simp only [nc, allc0, allc1, allcE, allcI, Cn.p, and_true, true_and, decide_eq_true_eq, imp_self, List.length_cons, List.length_nil]); all_goals ((repeat' (first | apply And.intro | intro _)) <;> first | omega | rfl | exact Or.inl rfl | assumption | exact nb1 (by assumption) | exact nb2 (by assumption) | exact nb3 (by assumption) | exact nb4 (by assumption) | decide | decide +kernel | (simp [*]; done))) ?_))
    (try first | exact ⟨rfl, trivial⟩ | exact ⟨trivial, trivial⟩)
  simp only [decide_eq_false_iff_not] at h2
  rw [if_neg (by omega)]
  generalize hC : chkChs none z.chs = C at *
  (cbv; (try simp only [nc] at *); (try refine Chk.mk (by (try simp only [nc, allc0, allc1, allcE, allcI, Cn.p, and_true, true_and, decide_eq_true_eq, imp_self, List.length_cons, List.length_nil]); all_goals ((repeat' (first | apply And.intro | intro _)) <;> first | omega | rfl | exact Or.inl rfl | assumption | exact nb1 (by assumption) | exact nb2 (by assumption) | exact nb3 (by assumption) | exact nb4 (by assumption) | decide | decide +kernel | (simp [*]; done))) ?_))
  refine loopS false false [] [1, 3] [] (fun (i : Nat) => [(3, .int .i64 fun _ => (i : Int))]) (fun _ => []) (fun i => i ≤ z.chs.length ∧ chkChs (if i = 0 then none else some (nt Chg default z.chs ((i : Int) - 1)).at_) (z.chs.drop i) = C) (fun i => z.chs.length - i + 0) 0 ⟨Nat.zero_le _, by simpa using hC⟩ ?_ ?_
  · (refine To.of [] ?_; cbv; (try simp only [nc]); (repeat' (first | exact trivial | exact WkN.refl _ | exact WkB.refl _ | refine ⟨?_, ?_⟩ | refine WkB.cells ?_ | refine WkN.agg ?_ | refine WkN.tup ?_)); (all_goals (first | exact .int rfl | exact .int (by first | omega | (simp only [nc]; omega) | (simp; done)) | exact .bool rfl | exact .snoc hnt rfl rfl rfl | exact .snoc hnt rfl rfl (by simp only [encZone, encTrain, lst_nt hnt]; rfl) | exact lit_nt hnt _ _ _ _ rfl | exact take_nt hnt (by omega) | exact lstR_wk hnt | exact .tok rfl | exact .tok (by simp) | exact .lst hnt rfl | exact .gsl (by simp) | exact .empty rfl | exact .nilOwn (by decide) (by decide) rfl | exact .nilGar (by decide) (by decide) rfl | exact .gd (by first | assumption | decide | (simp [*]; done)) (.refl _) | skip)))
  rintro i ⟨hi, hp⟩
  (cbv; (try simp only [nc] at *); (try refine Chk.mk (by (try simp only [nc, allc0, allc1, allcE, allcI, Cn.p, and_true, true_and, decide_eq_true_eq, imp_self, List.length_cons, List.length_nil]); all_goals ((repeat' (first | apply And.intro | intro _)) <;> first | omega | rfl | exact Or.inl rfl | assumption | exact nb1 (by assumption) | exact nb2 (by assumption) | exact nb3 (by assumption) | exact nb4 (by assumption) | decide | decide +kernel | (simp [*]; done))) ?_))
  refine ⟨fun hb => ?_, fun hb => ?_⟩
  · simp only [decide_eq_true_eq] at hb
    have hil : i < z.chs.length := by omega
    rw [nt_drop (d := default) hnt hil, chkChs_cons] at hp
    have hnx : (if i + 1 = 0 then none else some (nt Chg default z.chs (((i + 1 : Nat) : Int) - 1)).at_) = some (nt Chg default z.chs (i : Int)).at_ := by
      rw [if_neg (by omega)]; congr 3; omega
    generalize hc : nt Chg default z.chs (i : Int) = c at *
    have hlow : (bif decide (0 < (i : Int)) then decide (c.at_ ≤ (nt Chg default z.chs ((i : Int) - 1)).at_) else false) = leP (if i = 0 then none else some (nt Chg default z.chs ((i : Int) - 1)).at_) c.at_ := by
      by_cases h0 : i = 0
      · subst h0; rfl
      · rw [if_neg h0, decide_eq_true (show 0 < (i : Int) by omega)]; rfl
    rw [← hlow] at hp
    have k1 := c72 c.at_ 0 43200
    have k2 := c72 c.by_ (-180) 180
    generalize inB c.at_ 0 43200 = b1 at *
    generalize inB c.by_ (-180) 180 = b2 at *
    (cbv; try simp only [nc] at *)
    simp only [hc]
    refine Chk.mk (by (try simp only [nc, allc0, allc1, allcE, allcI, Cn.p, and_true, true_and, decide_eq_true_eq, imp_self, List.length_cons, List.length_nil]); all_goals ((repeat' (first | apply And.intro | intro _)) <;> first | omega | rfl | exact Or.inl rfl | assumption | exact nb1 (by assumption) | exact nb2 (by assumption) | exact nb3 (by assumption) | exact nb4 (by assumption) | decide | decide +kernel | (simp [*]; done))) ?_
    refine call0 (k1) (by first | rfl | (simp only [zoneA, lst_nt hnt]; rfl)) fun r h₂ hp => ?_
    (try simp only [zoneA, lst_nt hnt] at hp)
    obtain ⟨rfl, rfl⟩ := hp
    (cbv; (try simp only [nc] at *); (try refine Chk.mk (by (try simp only [nc, allc0, allc1, allcE, allcI, Cn.p, and_true, true_and, decide_eq_true_eq, imp_self, List.length_cons, List.length_nil]); all_goals ((repeat' (first | apply And.intro | intro _)) <;> first | omega | rfl | exact Or.inl rfl | assumption | exact nb1 (by assumption) | exact nb2 (by assumption) | exact nb3 (by assumption) | exact nb4 (by assumption) | decide | decide +kernel | (simp [*]; done))) ?_))
    refine ⟨fun h3 => ?_, fun h3 => ?_⟩
    · rw [if_pos h3] at hp
      rw [← hp]
      (cbv; (try simp only [nc] at *); (try refine Chk.mk (by (try simp only [nc, allc0, allc1, allcE, allcI, Cn.p, and_true, true_and, decide_eq_true_eq, imp_self, List.length_cons, List.length_nil]); all_goals ((repeat' (first | apply And.intro | intro _)) <;> first | omega | rfl | exact Or.inl rfl | assumption | exact nb1 (by assumption) | exact nb2 (by assumption) | exact nb3 (by assumption) | exact nb4 (by assumption) | decide | decide +kernel | (simp [*]; done))) ?_))
      (try first | exact ⟨rfl, trivial⟩ | exact ⟨trivial, trivial⟩)
    rw [if_neg (by rw [h3]; exact Bool.false_ne_true)] at hp
    (cbv; (try simp only [nc] at *); (try refine Chk.mk (by (try simp only [nc, allc0, allc1, allcE, allcI, Cn.p, and_true, true_and, decide_eq_true_eq, imp_self, List.length_cons, List.length_nil]); all_goals ((repeat' (first | apply And.intro | intro _)) <;> first | omega | rfl | exact Or.inl rfl | assumption | exact nb1 (by assumption) | exact nb2 (by assumption) | exact nb3 (by assumption) | exact nb4 (by assumption) | decide | decide +kernel | (simp [*]; done))) ?_))
    refine ⟨fun h4 => ?_, fun h4 => ?_⟩
    · rw [if_pos h4] at hp
      rw [← hp]
      (cbv; (try simp only [nc] at *); (try refine Chk.mk (by (try simp only [nc, allc0, allc1, allcE, allcI, Cn.p, and_true, true_and, decide_eq_true_eq, imp_self, List.length_cons, List.length_nil]); all_goals ((repeat' (first | apply And.intro | intro _)) <;> first | omega | rfl | exact Or.inl rfl | assumption | exact nb1 (by assumption) | exact nb2 (by assumption) | exact nb3 (by assumption) | exact nb4 (by assumption) | decide | decide +kernel | (simp [*]; done))) ?_))
      (try first | exact ⟨rfl, trivial⟩ | exact ⟨trivial, trivial⟩)
    rw [if_neg (by rw [h4]; exact Bool.false_ne_true)] at hp
    (cbv; (try simp only [nc] at *); (try refine Chk.mk (by (try simp only [nc, allc0, allc1, allcE, allcI, Cn.p, and_true, true_and, decide_eq_true_eq, imp_self, List.length_cons, List.length_nil]); all_goals ((repeat' (first | apply And.intro | intro _)) <;> first | omega | rfl | exact Or.inl rfl | assumption | exact nb1 (by assumption) | exact nb2 (by assumption) | exact nb3 (by assumption) | exact nb4 (by assumption) | decide | decide +kernel | (simp [*]; done))) ?_))
    refine call0 (k2) (by first | rfl | (simp only [zoneA, lst_nt hnt]; rfl)) fun r h₂ hp => ?_
    (try simp only [zoneA, lst_nt hnt] at hp)
    obtain ⟨rfl, rfl⟩ := hp
    (cbv; (try simp only [nc] at *); (try refine Chk.mk (by (try simp only [nc, allc0, allc1, allcE, allcI, Cn.p, and_true, true_and, decide_eq_true_eq, imp_self, List.length_cons, List.length_nil]); all_goals ((repeat' (first | apply And.intro | intro _)) <;> first | omega | rfl | exact Or.inl rfl | assumption | exact nb1 (by assumption) | exact nb2 (by assumption) | exact nb3 (by assumption) | exact nb4 (by assumption) | decide | decide +kernel | (simp [*]; done))) ?_))
    refine ⟨fun h5 => ?_, fun h5 => ?_⟩
    · have h5' : (!b2 || decide (c.by_ = 0)) = true := by
        cases b2
        · rfl
        · simpa using h5
      rw [if_pos h5'] at hp
      rw [← hp]
      (cbv; (try simp only [nc] at *); (try refine Chk.mk (by (try simp only [nc, allc0, allc1, allcE, allcI, Cn.p, and_true, true_and, decide_eq_true_eq, imp_self, List.length_cons, List.length_nil]); all_goals ((repeat' (first | apply And.intro | intro _)) <;> first | omega | rfl | exact Or.inl rfl | assumption | exact nb1 (by assumption) | exact nb2 (by assumption) | exact nb3 (by assumption) | exact nb4 (by assumption) | decide | decide +kernel | (simp [*]; done))) ?_))
      (try first | exact ⟨rfl, trivial⟩ | exact ⟨trivial, trivial⟩)
    · have h5' : ¬ (!b2 || decide (c.by_ = 0)) = true := by
        cases b2
        · simp at h5
        · simpa using h5
      rw [if_neg h5'] at hp
      (cbv; (try simp only [nc] at *); (try refine Chk.mk (by (try simp only [nc, allc0, allc1, allcE, allcI, Cn.p, and_true, true_and, decide_eq_true_eq, imp_self, List.length_cons, List.length_nil]); all_goals ((repeat' (first | apply And.intro | intro _)) <;> first | omega | rfl | exact Or.inl rfl | assumption | exact nb1 (by assumption) | exact nb2 (by assumption) | exact nb3 (by assumption) | exact nb4 (by assumption) | decide | decide +kernel | (simp [*]; done))) ?_))
      refine ⟨i + 1, ⟨by omega, by rw [hnx]; exact hp⟩, by show z.chs.length - (i + 1) + 0 < z.chs.length - i + 0; omega, ?_⟩
      (refine To.of [] ?_; cbv; (try simp only [nc]); (repeat' (first | exact trivial | exact WkN.refl _ | exact WkB.refl _ | refine ⟨?_, ?_⟩ | refine WkB.cells ?_ | refine WkN.agg ?_ | refine WkN.tup ?_)); (all_goals (first | exact .int rfl | exact .int (by first | omega | (simp only [nc]; omega) | (simp; done)) | exact .bool rfl | exact .snoc hnt rfl rfl rfl | exact .snoc hnt rfl rfl (by simp only [encZone, encTrain, lst_nt hnt]; rfl) | exact lit_nt hnt _ _ _ _ rfl | exact take_nt hnt (by omega) | exact lstR_wk hnt | exact .tok rfl | exact .tok (by simp) | exact .lst hnt rfl | exact .gsl (by simp) | exact .empty rfl | exact .nilOwn (by decide) (by decide) rfl | exact .nilGar (by decide) (by decide) rfl | exact .gd (by first | assumption | decide | (simp [*]; done)) (.refl _) | skip)))
  · have hie : z.chs.length ≤ i := by simp only [decide_eq_false_iff_not] at hb; omega
    rw [List.drop_eq_nil_of_le hie, chkChs_nil] at hp
    rw [← hp]
    (cbv; (try simp only [nc] at *); (try refine Chk.mk (by (try simp only [nc, allc0, allc1, allcE, allcI, Cn.p, and_true, true_and, decide_eq_true_eq, imp_self, List.length_cons, List.length_nil]); all_goals ((repeat' (first | apply And.intro | intro _)) <;> first | omega | rfl | exact Or.inl rfl | assumption | exact nb1 (by assumption) | exact nb2 (by assumption) | exact nb3 (by assumption) | exact nb4 (by assumption) | decide | decide +kernel | (simp [*]; done))) ?_))
    (try first | exact ⟨rfl, trivial⟩ | exact ⟨trivial, trivial⟩)
end Go.Proofs.Ytlcgliadpalgfaa.Vm
