/- Contracts: what a clock reads, and when. -/
import Derived.Test.YtlcgliadpalgfaaFa
set_option linter.unusedSimpArgs false
set_option linter.unusedVariables false
namespace Go.Proofs.Ytlcgliadpalgfaa.Vm
open Go Go.Proofs Sp
set_option maxRecDepth 100000
set_option maxHeartbeats 4000000

def encI (n : Int) : List AV := [.int .i64 fun _ => n]

/-- A valid zone is small. -/
theorem small_of {z : Zone} (h : checkZone z = 0) : Small z := by
  unfold checkZone at h
  split at h
  · cases h
  · rename_i h1
    split at h
    · cases h
    · rename_i h2
      have hb : -720 ≤ z.base ∧ z.base ≤ 720 := by
        simp only [inB, Bool.not_eq_true', Bool.not_eq_false] at h1
        simpa using h1
      refine ⟨by omega, by omega, ?_⟩
      have key : ∀ (l : List Chg) (p : Option Int), chkChs p l = 0 → ∀ c ∈ l, -1000 ≤ c.by_ ∧ c.by_ ≤ 1000 := by
        intro l
        induction l with
        | nil => intro p _ c hc; cases hc
        | cons a l ih =>
          intro p hp c hc
          rw [chkChs_cons] at hp
          split at hp
          · cases hp
          split at hp
          · cases hp
          split at hp
          · cases hp
          rename_i h3
          rcases List.mem_cons.1 hc with rfl | hc
          · simp [inB] at h3
            omega
          · exact ih _ hp c hc
      exact key _ _ h

theorem inst_of {z : Zone} {t : Int} (h : checkInstant z t = 0) : checkZone z = 0 ∧ 0 ≤ t ∧ t ≤ 43200 := by
  unfold checkInstant at h
  split at h
  · exact absurd h ‹_›
  · rename_i h1
    split at h
    · cases h
    · rename_i h2
      simp [inB] at h2
      exact ⟨by simpa using h1, by omega⟩
theorem hour_of {z : Zone} {d m : Int} (h : checkHour z d m = 0) : checkZone z = 0 ∧ -1 ≤ d ∧ d ≤ 31 ∧ 0 ≤ m ∧ m ≤ 1439 := by
  unfold checkHour at h
  split at h
  · exact absurd h ‹_›
  · rename_i h1
    split at h
    · cases h
    · rename_i h2
      simp [inB] at h2
      exact ⟨by simpa using h1, by omega⟩

theorem aheadGo_bd : ∀ (l : List Pc) (n t m : Int), -m ≤ n ∧ n ≤ m → (∀ p ∈ l, -m ≤ p.ahd ∧ p.ahd ≤ m) → -m ≤ aheadGo n l t ∧ aheadGo n l t ≤ m
  | [], n, t, m, h, _ => h
  | p :: r, n, t, m, h, hl => by
    simp only [aheadGo]
    refine aheadGo_bd r _ t m ?_ (fun q hq => hl q (List.mem_cons_of_mem _ hq))
    split
    · exact hl p (List.mem_cons_self ..)
    · exact h
theorem ahead_bd {z : Zone} (hz : Small z) (t : Int) : -101000 ≤ Sp.ahead z t ∧ Sp.ahead z t ≤ 101000 := by
  refine aheadGo_bd _ 0 t 101000 (by omega) fun p hp => ?_
  have := pcsGo_small z.chs 0 z.base 1000 hz.by_ hz.base p hp
  have := hz.many
  omega

theorem c51 (z : Zone) (t : Int) (hlen : z.chs.length ≤ 1000000) : SC (fun _ => Try.prog) 51 [zoneA z, .int .i64 fun _ => t] [] fun v h => v = .tup [.int .i64 fun _ => (Ahead z t).1, .int .i64 fun _ => (Ahead z t).2] ∧ h = [] := by
  refine con Try.func51 (body := bodyOf Try.f51) rfl (by decide +kernel) ?_
  unfold zoneA Ahead
  cbv
  refine call0 (c94 z t hlen) rfl fun r h₂ hp => ?_
  obtain ⟨rfl, rfl⟩ := hp
  have hof := @inst_of z t
  generalize checkInstant z t = e at *
  cbv
  refine ⟨fun hb => ?_, fun hb => ?_⟩
  · simp only [bne_iff_ne, ne_eq] at hb
    cbv
    refine ⟨?_, trivial⟩
    simp [hb]
  simp only [bne_eq_false_iff_eq] at hb
  subst hb
  cbv
  refine call0 (c95 z t (small_of (hof rfl).1)) rfl fun r h₂ hp => ?_
  obtain ⟨rfl, rfl⟩ := hp
  generalize Sp.ahead z t = a
  cbv
  exact ⟨by simp, trivial⟩

theorem c53 (z : Zone) (t : Int) (hlen : z.chs.length ≤ 1000000) : SC (fun _ => Try.prog) 53 [zoneA z, .int .i64 fun _ => t] [] fun v h => v = .tup [.int .i64 fun _ => (Reads z t).1, .int .i64 fun _ => (Reads z t).2.1, .int .i64 fun _ => (Reads z t).2.2] ∧ h = [] := by
  refine con Try.func53 (body := bodyOf Try.f53) rfl (by decide +kernel) ?_
  unfold zoneA Reads
  cbv
  refine call0 (c94 z t hlen) rfl fun r h₂ hp => ?_
  obtain ⟨rfl, rfl⟩ := hp
  have hof := @inst_of z t
  generalize checkInstant z t = e at *
  cbv
  refine ⟨fun hb => ?_, fun hb => ?_⟩
  · simp only [bne_iff_ne, ne_eq] at hb
    cbv
    refine ⟨?_, trivial⟩
    simp [hb]
  simp only [bne_eq_false_iff_eq] at hb
  subst hb
  obtain ⟨h1, h2, h3⟩ := hof rfl
  have hbd := ahead_bd (small_of h1) t
  cbv
  refine call0 (c95 z t (small_of h1)) rfl fun r h₂ hp => ?_
  obtain ⟨rfl, rfl⟩ := hp
  generalize Sp.ahead z t = a at *
  cbv
  refine ⟨by simp only [allc0, allc1, allcE, allcI, Cn.p, and_true]; omega, ?_⟩
  refine call0 (c98 (t + a) (by omega) (by omega)) rfl fun r h₂ hp => ?_
  obtain ⟨rfl, rfl⟩ := hp
  cbv
  refine call0 (c99 (t + a) (by omega) (by omega)) rfl fun r h₂ hp => ?_
  obtain ⟨rfl, rfl⟩ := hp
  cbv
  exact ⟨by simp, trivial⟩

theorem c46 (z : Zone) (d m a : Int) (hlen : z.chs.length ≤ 1000000) : SC (fun _ => Try.prog) 46 [zoneA z, .int .i64 fun _ => d, .int .i64 fun _ => m, .int .i64 fun _ => a] [] fun v h => v = .tup [.int .i64 fun _ => (Hour z d m a).1, .int .i64 fun _ => (Hour z d m a).2] ∧ h = [] := by
  refine con Try.func46 (body := bodyOf Try.f46) rfl (by decide +kernel) ?_
  unfold zoneA Hour
  cbv
  refine call0 (c89 z d m hlen) rfl fun r h₂ hp => ?_
  obtain ⟨rfl, rfl⟩ := hp
  have hof := @hour_of z d m
  generalize checkHour z d m = e at *
  cbv
  refine ⟨fun hb => ?_, fun hb => ?_⟩
  · simp only [bne_iff_ne, ne_eq] at hb
    cbv
    refine ⟨?_, trivial⟩
    simp [hb]
  simp only [bne_eq_false_iff_eq] at hb
  subst hb
  obtain ⟨h1, h2, h3, h4, h5⟩ := hof rfl
  cbv
  refine call0 (c67 _ _ _) rfl fun r h₂ hp => ?_
  obtain ⟨rfl, rfl⟩ := hp
  cbv
  refine ⟨fun hb => ?_, fun hb => ?_⟩
  · cbv
    refine ⟨?_, trivial⟩
    simp [hb]
  simp only [hb]
  cbv
  refine call0 (c90 z (small_of h1)) rfl fun r h₂ hp => ?_
  obtain ⟨rfl, rfl⟩ := hp
  obtain ⟨hl1, hl2, hl3⟩ := pieces_small (small_of h1)
  generalize pieces z = l at *
  cbv
  refine call0 (c91 d m (by omega) (by omega)) rfl fun r h₂ hp => ?_
  obtain ⟨rfl, rfl⟩ := hp
  cbv
  refine call0 (c92 l (1440 * d + m) a (by omega) hl3 (by omega)) rfl fun r h₂ hp => ?_
  obtain ⟨rfl, rfl⟩ := hp
  generalize hour l (1440 * d + m) a = x
  cbv
  exact ⟨by simp, trivial⟩

theorem c44 (z : Zone) (d m : Int) (hlen : z.chs.length ≤ 1000000) : SC (fun _ => Try.prog) 44 [zoneA z, .int .i64 fun _ => d, .int .i64 fun _ => m] [] fun v h => v = .tup [lst 1 encI 0 (When z d m).1, .int .i64 fun _ => (When z d m).2] ∧ h = [] := by
  obtain ⟨nt, hnt⟩ := nth_ex
  refine SC.less (con Try.func44 (body := bodyOf Try.f44) rfl (by decide +kernel) ?_)
  unfold zoneA When
  cbv
  refine call0 (c89 z d m hlen) rfl fun r h₂ hp => ?_
  obtain ⟨rfl, rfl⟩ := hp
  have hof := @hour_of z d m
  generalize checkHour z d m = e at *
  cbv
  refine ⟨fun hb => ?_, fun hb => ?_⟩
  · simp only [bne_iff_ne, ne_eq] at hb
    cbv
    refine ⟨.tup [lst 1 encI 0 [], .int .i64 fun _ => e], [], To.of [] ⟨⟨.tup ⟨.empty rfl, .refl _, trivial⟩, trivial⟩, trivial⟩, by simp [hb], rfl⟩
  simp only [bne_eq_false_iff_eq] at hb
  subst hb
  obtain ⟨h1, h2, h3, h4, h5⟩ := hof rfl
  cbv
  refine call0 (c90 z (small_of h1)) rfl fun r h₂ hp => ?_
  obtain ⟨rfl, rfl⟩ := hp
  obtain ⟨hl1, hl2, hl3⟩ := pieces_small (small_of h1)
  rw [lst_nt hnt]
  generalize pieces z = l at *
  cbv
  refine loopA [1, 2, 9, 21, 22, 23] (fun (⟨i, out⟩ : Nat × List Int) => mkS 49 [(1, .int .i64 fun _ => d), (2, .int .i64 fun _ => m), (9, .isl 1 (fun _ => (out.length : Int)) (fun e => encI (nt Int 0 out (e ()))) (.own 1)), (21, .isl 3 (fun _ => (l.length : Int)) (fun e => encPc (nt Pc default l (e ()))) .none), (22, .int .i64 fun _ => (l.length : Int)), (23, .int .i64 fun _ => (i : Int))])
    (fun ⟨i, out⟩ => [.cells [.undef, .undef], .tok 1 fun _ => (out.length : Int)])
    (fun ⟨i, out⟩ => i ≤ l.length ∧ when l (1440 * d + m) = out ++ when (l.drop i) (1440 * d + m) ∧ out.length ≤ i) (fun i => l.length - i.1 + 0) (0, []) 2 (fun _ => rfl) ⟨Nat.zero_le _, by simp, by simp⟩ (To.of [(1, false)] ?_) ?_
  · cbv
    exact ⟨⟨.refl _, .refl _, .nilOwn (by decide) (by decide) rfl, .refl _, .refl _, .int rfl, trivial⟩, .cells trivial, .tok rfl, trivial⟩
  rintro ⟨i, out⟩ ⟨hi, hp, ho⟩
  cbv
  try simp only [nc] at *
  refine ⟨fun hb => ?_, fun hb => ?_⟩
  · simp only [decide_eq_true_eq] at hb
    have hil : i < l.length := by omega
    have hd := nt_drop (d := default) hnt hil
    have hm := hl3 _ (nt_mem (d := default) hnt hil)
    cbv
    try simp only [nc] at *
    obtain ⟨p, hc⟩ : ∃ p, nt Pc default l (i : Int) = p := ⟨_, rfl⟩
    rw [hc] at hd hm
    rw [hc]
    rw [hd, when] at hp
    refine ⟨by (try simp only [nc, allc0, allc1, allcE, allcI, Cn.p, and_true, true_and, decide_eq_true_eq, imp_self, List.length_cons, List.length_nil]); all_goals ((repeat' (first | apply And.intro | intro _)) <;> first | omega | rfl | exact Or.inl rfl | assumption | exact nb1 (by assumption) | exact nb2 (by assumption) | exact nb3 (by assumption) | exact nb4 (by assumption) | decide | decide +kernel | (simp [*]; done)), ?_⟩
    refine call0 (c91 d m (by omega) (by omega)) rfl fun r h₂ hp' => ?_
    obtain ⟨rfl, rfl⟩ := hp'
    (cbv; try simp only [nc] at *)
    have hite : (bif decide (p.fr ≤ 1440 * d + m - p.ahd) then decide (1440 * d + m - p.ahd < p.bef) else false) = decide (p.fr ≤ 1440 * d + m - p.ahd ∧ 1440 * d + m - p.ahd < p.bef) := by
      simp only [Bool.cond_eq_ite, Bool.if_false_right, Bool.decide_and]; simp
    rw [hite]
    refine ⟨by (try simp only [nc, allc0, allc1, allcE, allcI, Cn.p, and_true, true_and, decide_eq_true_eq, imp_self, List.length_cons, List.length_nil]); all_goals ((repeat' (first | apply And.intro | intro _)) <;> first | omega | rfl | exact Or.inl rfl | assumption | exact nb1 (by assumption) | exact nb2 (by assumption) | exact nb3 (by assumption) | exact nb4 (by assumption) | decide | decide +kernel | (simp [*]; done)), fun hb => ?_, fun hb => ?_⟩
    · simp only [decide_eq_true_eq] at hb
      rw [if_pos hb] at hp
      (cbv; try simp only [nc] at *)
      refine ⟨by (try simp only [nc, allc0, allc1, allcE, allcI, Cn.p, and_true, true_and, decide_eq_true_eq, imp_self, List.length_cons, List.length_nil]); all_goals ((repeat' (first | apply And.intro | intro _)) <;> first | omega | rfl | exact Or.inl rfl | assumption | exact nb1 (by assumption) | exact nb2 (by assumption) | exact nb3 (by assumption) | exact nb4 (by assumption) | decide | decide +kernel | (simp [*]; done)), ⟨(i + 1, out ++ [1440 * d + m - p.ahd]), ⟨by omega, by rw [hp]; simp, by simp; omega⟩, by show l.length - (i + 1) + 0 < l.length - i + 0; omega, To.of [] ?_⟩⟩
      cbv
      exact ⟨⟨.refl _, .refl _, .snoc hnt rfl rfl rfl, .refl _, .refl _, .int rfl, trivial⟩, .refl _, .tok (by simp), trivial⟩
    · simp only [decide_eq_false_iff_not] at hb
      rw [if_neg hb] at hp
      (cbv; try simp only [nc] at *)
      refine ⟨by (try simp only [nc, allc0, allc1, allcE, allcI, Cn.p, and_true, true_and, decide_eq_true_eq, imp_self, List.length_cons, List.length_nil]); all_goals ((repeat' (first | apply And.intro | intro _)) <;> first | omega | rfl | exact Or.inl rfl | assumption | exact nb1 (by assumption) | exact nb2 (by assumption) | exact nb3 (by assumption) | exact nb4 (by assumption) | decide | decide +kernel | (simp [*]; done)), ⟨(i + 1, out), ⟨by omega, hp, by dsimp only; omega⟩, by show l.length - (i + 1) + 0 < l.length - i + 0; omega, To.of [] ?_⟩⟩
      cbv
      exact ⟨⟨.refl _, .refl _, .refl _, .refl _, .refl _, .int rfl, trivial⟩, .refl _, .refl _, trivial⟩
  · simp only [decide_eq_false_iff_not] at hb
    have : l.drop i = [] := List.drop_eq_nil_of_le (by omega)
    rw [this, when, List.append_nil] at hp
    rw [hp]
    cbv
    refine ⟨.tup [lst 1 encI 0 out, .int .i64 fun _ => 0], [], To.of [] ⟨⟨.tup ⟨.lst hnt rfl, .refl _, trivial⟩, trivial⟩, trivial⟩, by simp, rfl⟩
end Go.Proofs.Ytlcgliadpalgfaa.Vm
