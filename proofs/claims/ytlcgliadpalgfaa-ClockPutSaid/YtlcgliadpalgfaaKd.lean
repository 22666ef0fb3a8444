/- The statement ClockFirst: before Hour a clock does not read so late an hour from after on, and at it it does. -/
import Derived.Test.YtlcgliadpalgfaaKc
import Derived.Test.YtlcgliadpalgfaaPz
import Derived.Test.YtlcgliadpalgfaaCl
set_option linter.unusedSimpArgs false
set_option linter.unusedVariables false
namespace Go.Proofs.Ytlcgliadpalgfaa.Vm
open Go Go.Proofs Sp
set_option maxRecDepth 100000
set_option maxHeartbeats 800000

theorem made_valid {k : Int} {z : Zone} (h : ZMade k z) (hk : k ≤ 3) : checkZone z = 0 := by
  have hb := h.base
  have hl := h.len
  unfold checkZone
  rw [if_neg (by simp [inB]; omega), if_neg (by omega)]
  have key : ∀ (l : List Chg) (p : Option Int), (∀ c ∈ l, 0 ≤ c.at_ ∧ c.at_ ≤ 43200 ∧ ByOk c.by_) → l.Pairwise (fun a b => a.at_ < b.at_) → (∀ a, p = some a → ∀ c ∈ l, a < c.at_) → chkChs p l = 0 := by
    intro l
    induction l with
    | nil => intro p _ _ _; exact chkChs_nil p
    | cons c l ih =>
      intro p h1 h2 h3
      obtain ⟨b1, b2, b3⟩ := h1 c (List.mem_cons_self ..)
      have hle : leP p c.at_ = false := by
        cases p with
        | none => rfl
        | some a => have := h3 a rfl c (List.mem_cons_self ..); simp [leP]; omega
      rw [chkChs_cons, if_neg (by simp [inB]; omega), hle]
      unfold ByOk at b3
      have h4 : (!inB c.by_ (-180) 180 || decide (c.by_ = 0)) = false := by
        have g1 : inB c.by_ (-180) 180 = true := by simp [inB]; omega
        have g2 : decide (c.by_ = 0) = false := by simp; omega
        rw [g1, g2]; rfl
      rw [h4]
      simp only [Bool.false_eq_true, if_false]
      exact ih _ (fun x hx => h1 x (List.mem_cons_of_mem _ hx)) (List.pairwise_cons.1 h2).2 (fun a ha x hx => by cases ha; exact (List.pairwise_cons.1 h2).1 x hx)
  refine key _ _ (fun c hc => ?_) h.asc (fun a ha => by cases ha)
  have := h.at_ c hc
  exact ⟨this.1, by omega, h.by_ c hc⟩

theorem made_af {k : Int} {z : Zone} (h : ZMade k z) (hk : k ≤ 3) (t : Int) : -390 ≤ af z.base z.chs t ∧ af z.base z.chs t ≤ 300 := by
  have hb := h.base
  have hl := h.len
  have := af_bd z.chs z.base t 90 60 (fun c hc => by have := h.by_ c hc; unfold ByOk at this; omega) (by omega) (by omega)
  omega

theorem Hour_eq {z : Zone} (hz : checkZone z = 0) {d m a : Int} (hd : -1 ≤ d ∧ d ≤ 31) (hm : 0 ≤ m ∧ m < 1440) (ha : 0 ≤ a ∧ a ≤ 43200) : Hour z d m a = (hour (pieces z) (1440 * d + m) a, 0) := by
  have h1 : checkHour z d m = 0 := by
    unfold checkHour
    rw [if_neg (by omega), if_neg (by simp [inB]; omega)]
  unfold Hour
  rw [if_neg (by omega), if_neg (by simp [inB]; omega)]
theorem When_eq {z : Zone} (hz : checkZone z = 0) {d m : Int} (hd : -1 ≤ d ∧ d ≤ 31) (hm : 0 ≤ m ∧ m < 1440) : When z d m = (when (pieces z) (1440 * d + m), 0) := by
  have h1 : checkHour z d m = 0 := by
    unfold checkHour
    rw [if_neg (by omega), if_neg (by simp [inB]; omega)]
  unfold When
  rw [if_neg (by omega)]

theorem c9 (l : List Int) (hl : (l.length : Int) ≤ 9223372036854775807) : SC (fun _ => Try.prog) 9 [lst 1 encI 0 l] [] fun r h => r = .bool (fun _ => true) := by
  refine con Try.func9 (body := bodyOf Try.f9) rfl (by decide +kernel) ?_
  (cbv; (try simp only [nc] at *); (try refine Chk.mk (by (try simp only [nc, allc0, allc1, allcE, allcI, Cn.p, and_true, true_and, decide_eq_true_eq, imp_self, List.length_cons, List.length_nil]); all_goals ((repeat' (first | apply And.intro | intro _)) <;> first | omega | rfl | exact Or.inl rfl | assumption | exact nb1 (by assumption) | exact nb2 (by assumption) | exact nb3 (by assumption) | exact nb4 (by assumption) | decide | decide +kernel | (simp [*]; done))) ?_))
  refine call0 (c14 l hl) rfl fun r h₂ hp => ?_
  obtain ⟨s, rfl, rfl⟩ := hp
  (cbv; (try simp only [nc] at *); (try refine Chk.mk (by (try simp only [nc, allc0, allc1, allcE, allcI, Cn.p, and_true, true_and, decide_eq_true_eq, imp_self, List.length_cons, List.length_nil]); all_goals ((repeat' (first | apply And.intro | intro _)) <;> first | omega | rfl | exact Or.inl rfl | assumption | exact nb1 (by assumption) | exact nb2 (by assumption) | exact nb3 (by assumption) | exact nb4 (by assumption) | decide | decide +kernel | (simp [*]; done))) ?_))
  refine callL [0] (c29 s 3 (by omega)) (by decide) (by simp) rfl rfl fun r h₂ hp => ?_
  obtain ⟨z, s1, hz, rfl, rfl⟩ := hp
  have hv := made_valid hz (by omega)
  have hbase := hz.base
  have haf := made_af hz (by omega)
  (cbv; (try simp only [nc] at *); (try refine Chk.mk (by (try simp only [nc, allc0, allc1, allcE, allcI, Cn.p, and_true, true_and, decide_eq_true_eq, imp_self, List.length_cons, List.length_nil]); all_goals ((repeat' (first | apply And.intro | intro _)) <;> first | omega | rfl | exact Or.inl rfl | assumption | exact nb1 (by assumption) | exact nb2 (by assumption) | exact nb3 (by assumption) | exact nb4 (by assumption) | decide | decide +kernel | (simp [*]; done))) ?_))
  refine callL [0] (c17 s1 5000 (by omega)) (by decide) (by simp) rfl rfl fun r h₂ hp => ?_
  obtain ⟨a, s2, ha, rfl, rfl⟩ := hp
  (cbv; (try simp only [nc] at *); (try refine Chk.mk (by (try simp only [nc, allc0, allc1, allcE, allcI, Cn.p, and_true, true_and, decide_eq_true_eq, imp_self, List.length_cons, List.length_nil]); all_goals ((repeat' (first | apply And.intro | intro _)) <;> first | omega | rfl | exact Or.inl rfl | assumption | exact nb1 (by assumption) | exact nb2 (by assumption) | exact nb3 (by assumption) | exact nb4 (by assumption) | decide | decide +kernel | (simp [*]; done))) ?_))
  refine callL [0] (c22 s2 (-200) 200 (by omega) (by omega)) (by decide) (by simp) rfl rfl fun r h₂ hp => ?_
  obtain ⟨x, s3, hx, rfl, rfl⟩ := hp
  (cbv; (try simp only [nc] at *); (try refine Chk.mk (by (try simp only [nc, allc0, allc1, allcE, allcI, Cn.p, and_true, true_and, decide_eq_true_eq, imp_self, List.length_cons, List.length_nil]); all_goals ((repeat' (first | apply And.intro | intro _)) <;> first | omega | rfl | exact Or.inl rfl | assumption | exact nb1 (by assumption) | exact nb2 (by assumption) | exact nb3 (by assumption) | exact nb4 (by assumption) | decide | decide +kernel | (simp [*]; done))) ?_))
  refine Br.isF (by simp; omega) ?_
  (cbv; (try simp only [nc] at *); (try refine Chk.mk (by (try simp only [nc, allc0, allc1, allcE, allcI, Cn.p, and_true, true_and, decide_eq_true_eq, imp_self, List.length_cons, List.length_nil]); all_goals ((repeat' (first | apply And.intro | intro _)) <;> first | omega | rfl | exact Or.inl rfl | assumption | exact nb1 (by assumption) | exact nb2 (by assumption) | exact nb3 (by assumption) | exact nb4 (by assumption) | decide | decide +kernel | (simp [*]; done))) ?_))
  refine call0 (c43 (a + z.base + x) (by omega) (by omega)) rfl fun r h₂ hp => ?_
  obtain ⟨rfl, rfl⟩ := hp
  (cbv; (try simp only [nc] at *); (try refine Chk.mk (by (try simp only [nc, allc0, allc1, allcE, allcI, Cn.p, and_true, true_and, decide_eq_true_eq, imp_self, List.length_cons, List.length_nil]); all_goals ((repeat' (first | apply And.intro | intro _)) <;> first | omega | rfl | exact Or.inl rfl | assumption | exact nb1 (by assumption) | exact nb2 (by assumption) | exact nb3 (by assumption) | exact nb4 (by assumption) | decide | decide +kernel | (simp [*]; done))) ?_))
  have hH := Hour_eq hv (d := (a + z.base + x + 1440) / 1440 - 1) (m := (a + z.base + x + 1440) % 1440) (a := a) (by omega) (by omega) (by omega)
  have h46 := c46 z ((a + z.base + x + 1440) / 1440 - 1) ((a + z.base + x + 1440) % 1440) a (by have := (asc_of hv).2.2.1; omega)
  rw [hH, show 1440 * ((a + z.base + x + 1440) / 1440 - 1) + (a + z.base + x + 1440) % 1440 = a + z.base + x by omega] at h46
  obtain ⟨g1, g2, g3⟩ := hour_eq hv (r := a + z.base + x) (after := a) (by omega) (by omega)
  generalize hour (pieces z) (a + z.base + x) a = t at *
  refine call0 h46 rfl fun r h₂ hp => ?_
  obtain ⟨rfl, rfl⟩ := hp
  have hle : t ≤ a + 2000 := by
    by_cases hc : t ≤ a + 2000
    · exact hc
    · have := g3 (a + 1000) (by omega) (by omega)
      have := haf (a + 1000)
      omega
  (cbv; (try simp only [nc] at *); (try refine Chk.mk (by (try simp only [nc, allc0, allc1, allcE, allcI, Cn.p, and_true, true_and, decide_eq_true_eq, imp_self, List.length_cons, List.length_nil]); all_goals ((repeat' (first | apply And.intro | intro _)) <;> first | omega | rfl | exact Or.inl rfl | assumption | exact nb1 (by assumption) | exact nb2 (by assumption) | exact nb3 (by assumption) | exact nb4 (by assumption) | decide | decide +kernel | (simp [*]; done))) ?_))
  refine Br.isF (by simp; omega) ?_
  (cbv; (try simp only [nc] at *); (try refine Chk.mk (by (try simp only [nc, allc0, allc1, allcE, allcI, Cn.p, and_true, true_and, decide_eq_true_eq, imp_self, List.length_cons, List.length_nil]); all_goals ((repeat' (first | apply And.intro | intro _)) <;> first | omega | rfl | exact Or.inl rfl | assumption | exact nb1 (by assumption) | exact nb2 (by assumption) | exact nb3 (by assumption) | exact nb4 (by assumption) | decide | decide +kernel | (simp [*]; done))) ?_))
  refine loopA [4, 5, 6, 9, 11] (fun k : Int => mkS 80 [(4, .ptr 1 0), (5, .int .i64 fun _ => a), (6, .int .i64 fun _ => a + z.base + x), (9, .int .i64 fun _ => t), (11, .int .i64 fun _ => k)])
    (fun k => [bagB s3, .cells [.int .i64 fun _ => z.base, lst 2 encChg default z.chs]]) (fun k => a ≤ k ∧ k ≤ t + 1) (fun k => (t + 1 - k).toNat + 0) a 2 (fun _ => rfl) ⟨by omega, by omega⟩ (To.of [] ?_) ?_
  · cbv
    exact ⟨⟨.refl _, .refl _, .refl _, .refl _, .refl _, trivial⟩, .refl _, .refl _, trivial⟩
  rintro k ⟨hk1, hk2⟩
  (cbv; (try simp only [nc] at *); (try refine Chk.mk (by (try simp only [nc, allc0, allc1, allcE, allcI, Cn.p, and_true, true_and, decide_eq_true_eq, imp_self, List.length_cons, List.length_nil]); all_goals ((repeat' (first | apply And.intro | intro _)) <;> first | omega | rfl | exact Or.inl rfl | assumption | exact nb1 (by assumption) | exact nb2 (by assumption) | exact nb3 (by assumption) | exact nb4 (by assumption) | decide | decide +kernel | (simp [*]; done))) ?_))
  refine ⟨fun hb => ?_, fun hb => ?_⟩
  · simp only [decide_eq_true_eq] at hb
    (cbv; (try simp only [nc] at *); (try refine Chk.mk (by (try simp only [nc, allc0, allc1, allcE, allcI, Cn.p, and_true, true_and, decide_eq_true_eq, imp_self, List.length_cons, List.length_nil]); all_goals ((repeat' (first | apply And.intro | intro _)) <;> first | omega | rfl | exact Or.inl rfl | assumption | exact nb1 (by assumption) | exact nb2 (by assumption) | exact nb3 (by assumption) | exact nb4 (by assumption) | decide | decide +kernel | (simp [*]; done))) ?_))
    have hak := ahead_eq hv (t := k) (by omega)
    have := haf k
    refine call0 (c42 z k hv (by omega) (by omega)) rfl fun r h₂ hp => ?_
    obtain ⟨rfl, rfl⟩ := hp
    rw [hak]
    generalize hA : af z.base z.chs k = A at *
    (cbv; (try simp only [nc] at *); (try refine Chk.mk (by (try simp only [nc, allc0, allc1, allcE, allcI, Cn.p, and_true, true_and, decide_eq_true_eq, imp_self, List.length_cons, List.length_nil]); all_goals ((repeat' (first | apply And.intro | intro _)) <;> first | omega | rfl | exact Or.inl rfl | assumption | exact nb1 (by assumption) | exact nb2 (by assumption) | exact nb3 (by assumption) | exact nb4 (by assumption) | decide | decide +kernel | (simp [*]; done))) ?_))
    refine Br.isF ?_ ?_
    · by_cases hkt : k = t
      · subst hkt
        rw [hA] at g2
        simp; omega
      · have h3 := g3 k hk1 (by omega)
        rw [hA] at h3
        have e1 : decide (a + z.base + x ≤ k + A) = false := decide_eq_false (by omega)
        have e2 : (k == t) = false := by simpa using hkt
        simp [e1, e2]
    · (cbv; (try simp only [nc] at *); (try refine Chk.mk (by (try simp only [nc, allc0, allc1, allcE, allcI, Cn.p, and_true, true_and, decide_eq_true_eq, imp_self, List.length_cons, List.length_nil]); all_goals ((repeat' (first | apply And.intro | intro _)) <;> first | omega | rfl | exact Or.inl rfl | assumption | exact nb1 (by assumption) | exact nb2 (by assumption) | exact nb3 (by assumption) | exact nb4 (by assumption) | decide | decide +kernel | (simp [*]; done))) ?_))
      refine ⟨k + 1, ⟨by omega, by omega⟩, by show (t + 1 - (k + 1)).toNat + 0 < (t + 1 - k).toNat + 0; omega, To.of [] ?_⟩
      cbv
      exact ⟨⟨.refl _, .refl _, .refl _, .refl _, .refl _, trivial⟩, .refl _, .refl _, trivial⟩
  · (cbv; (try simp only [nc] at *); (try refine Chk.mk (by (try simp only [nc, allc0, allc1, allcE, allcI, Cn.p, and_true, true_and, decide_eq_true_eq, imp_self, List.length_cons, List.length_nil]); all_goals ((repeat' (first | apply And.intro | intro _)) <;> first | omega | rfl | exact Or.inl rfl | assumption | exact nb1 (by assumption) | exact nb2 (by assumption) | exact nb3 (by assumption) | exact nb4 (by assumption) | decide | decide +kernel | (simp [*]; done))) ?_))
    refine call0 c18 rfl fun r h₂ hp => ?_
    obtain ⟨rfl, rfl⟩ := hp
    (cbv; (try simp only [nc] at *); (try refine Chk.mk (by (try simp only [nc, allc0, allc1, allcE, allcI, Cn.p, and_true, true_and, decide_eq_true_eq, imp_self, List.length_cons, List.length_nil]); all_goals ((repeat' (first | apply And.intro | intro _)) <;> first | omega | rfl | exact Or.inl rfl | assumption | exact nb1 (by assumption) | exact nb2 (by assumption) | exact nb3 (by assumption) | exact nb4 (by assumption) | decide | decide +kernel | (simp [*]; done))) ?_))
end Go.Proofs.Ytlcgliadpalgfaa.Vm
