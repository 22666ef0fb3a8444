/- The statement ClockSkips: hours that are skipped or doubled. -/
import Derived.Test.YtlcgliadpalgfaaPt
set_option linter.unusedSimpArgs false
set_option linter.unusedVariables false
namespace Go.Proofs.Ytlcgliadpalgfaa.Vm
open Go Go.Proofs Sp
set_option maxRecDepth 100000
set_option maxHeartbeats 1600000

theorem c104 (x : Sp.Span) (n : Int) : SC (fun _ => Try.prog) 104 [.agg (encSpan x), .int .i64 fun _ => n] [] fun r h => r = .bool (fun _ => decide (x.fr ≤ n) && decide (n ≤ x.to_)) ∧ h = [] := by
  refine con Try.func104 (body := bodyOf Try.f104) rfl (by decide +kernel) ?_
  unfold encSpan
  (cbv; (try simp only [nc] at *); (try refine Chk.mk (by (try simp only [nc, allc0, allc1, allcE, allcI, Cn.p, and_true, true_and, decide_eq_true_eq, imp_self, List.length_cons, List.length_nil]); all_goals ((repeat' (first | apply And.intro | intro _)) <;> first | omega | rfl | exact Or.inl rfl | assumption | exact nb1 (by assumption) | exact nb2 (by assumption) | exact nb3 (by assumption) | exact nb4 (by assumption) | decide | decide +kernel | (simp [*]; done))) ?_))
  refine ⟨?_, trivial⟩
  congr 1; funext _
  cases decide (x.fr ≤ n) <;> rfl

theorem c57 (l : List Sp.Span) (n : Int) (hl : l.length ≤ 1000000) : SC (fun _ => Try.prog) 57 [lst 2 encSpan default l, .int .i64 fun _ => n] [] fun r h => r = .bool (fun _ => inS l n) ∧ h = [] := by
  obtain ⟨nt, hnt⟩ := nth_ex
  rw [lst_nt hnt]
  refine con Try.func57 (body := bodyOf Try.f57) rfl (by decide +kernel) ?_
  (cbv; (try simp only [nc] at *); (try refine Chk.mk (by (try simp only [nc, allc0, allc1, allcE, allcI, Cn.p, and_true, true_and, decide_eq_true_eq, imp_self, List.length_cons, List.length_nil]); all_goals ((repeat' (first | apply And.intro | intro _)) <;> first | omega | rfl | exact Or.inl rfl | assumption | exact nb1 (by assumption) | exact nb2 (by assumption) | exact nb3 (by assumption) | exact nb4 (by assumption) | decide | decide +kernel | (simp [*]; done))) ?_))
  refine loopS false false [] [0, 1, 5] [] (fun (i : Nat) => [(5, .int .i64 fun _ => i)]) (fun _ => []) (fun i => i ≤ l.length ∧ inS l n = inS (l.drop i) n) (fun i => l.length - i + 0) 0 ⟨Nat.zero_le _, by simp⟩ ?_ ?_
  · (refine To.of [] ?_; cbv; (try simp only [nc]); (repeat' (first | exact trivial | exact WkN.refl _ | exact WkB.refl _ | refine ⟨?_, ?_⟩ | refine WkB.cells ?_ | refine WkN.agg ?_ | refine WkN.tup ?_)); (all_goals (first | exact .int rfl | exact .int (by first | omega | (simp only [nc]; omega) | (simp; done)) | exact .bool rfl | exact .snoc hnt rfl rfl rfl | exact .snoc hnt rfl rfl (by simp only [encZone, encTrain, lst_nt hnt]; rfl) | exact lit_nt hnt _ _ _ _ rfl | exact take_nt hnt (by omega) | exact lstR_wk hnt | exact .tok rfl | exact .tok (by simp) | exact .lst hnt rfl | exact .gsl (by simp) | exact .empty rfl | exact .nilOwn (by decide) (by decide) rfl | exact .nilGar (by decide) (by decide) rfl | exact .gd (by first | assumption | decide | (simp [*]; done)) (.refl _) | skip)))
  rintro i ⟨hi, hp⟩
  (cbv; (try simp only [nc] at *); (try refine Chk.mk (by (try simp only [nc, allc0, allc1, allcE, allcI, Cn.p, and_true, true_and, decide_eq_true_eq, imp_self, List.length_cons, List.length_nil]); all_goals ((repeat' (first | apply And.intro | intro _)) <;> first | omega | rfl | exact Or.inl rfl | assumption | exact nb1 (by assumption) | exact nb2 (by assumption) | exact nb3 (by assumption) | exact nb4 (by assumption) | decide | decide +kernel | (simp [*]; done))) ?_))
  refine ⟨fun hb => ?_, fun hb => ?_⟩
  · simp only [decide_eq_true_eq] at hb
    have hd := nt_drop (d := default) hnt (l := l) (i := i) (by omega)
    rw [hd] at hp
    (cbv; (try simp only [nc] at *); (try refine Chk.mk (by (try simp only [nc, allc0, allc1, allcE, allcI, Cn.p, and_true, true_and, decide_eq_true_eq, imp_self, List.length_cons, List.length_nil]); all_goals ((repeat' (first | apply And.intro | intro _)) <;> first | omega | rfl | exact Or.inl rfl | assumption | exact nb1 (by assumption) | exact nb2 (by assumption) | exact nb3 (by assumption) | exact nb4 (by assumption) | decide | decide +kernel | (simp [*]; done))) ?_))
    refine call0 (c104 (nt Sp.Span default l i) n) (by first | rfl | (simp only [zoneA, bookA, lst_nt hnt]; rfl)) fun r h₂ hp => ?_
    (try simp only [zoneA, bookA, lst_nt hnt] at hp)
    obtain ⟨rfl, rfl⟩ := hp
    have hp : inS l n = ((decide ((nt Sp.Span default l i).fr ≤ n) && decide (n ≤ (nt Sp.Span default l i).to_)) || inS (l.drop (i + 1)) n) := by rw [hp]; rfl
    (cbv; try simp only [nc] at *)
    refine ⟨fun hb' => ?_, fun hb' => ?_⟩
    · rw [hb'] at hp
      (cbv; (try simp only [nc] at *); (try refine Chk.mk (by (try simp only [nc, allc0, allc1, allcE, allcI, Cn.p, and_true, true_and, decide_eq_true_eq, imp_self, List.length_cons, List.length_nil]); all_goals ((repeat' (first | apply And.intro | intro _)) <;> first | omega | rfl | exact Or.inl rfl | assumption | exact nb1 (by assumption) | exact nb2 (by assumption) | exact nb3 (by assumption) | exact nb4 (by assumption) | decide | decide +kernel | (simp [*]; done))) ?_))
      exact ⟨by rw [hp]; rfl, trivial⟩
    · rw [hb', Bool.false_or] at hp
      (cbv; (try simp only [nc] at *); (try refine Chk.mk (by (try simp only [nc, allc0, allc1, allcE, allcI, Cn.p, and_true, true_and, decide_eq_true_eq, imp_self, List.length_cons, List.length_nil]); all_goals ((repeat' (first | apply And.intro | intro _)) <;> first | omega | rfl | exact Or.inl rfl | assumption | exact nb1 (by assumption) | exact nb2 (by assumption) | exact nb3 (by assumption) | exact nb4 (by assumption) | decide | decide +kernel | (simp [*]; done))) ?_))
      refine ⟨i + 1, ⟨by omega, hp⟩, by show l.length - (i + 1) + 0 < l.length - i + 0; omega, ?_⟩
      (refine To.of [] ?_; cbv; (try simp only [nc]); (repeat' (first | exact trivial | exact WkN.refl _ | exact WkB.refl _ | refine ⟨?_, ?_⟩ | refine WkB.cells ?_ | refine WkN.agg ?_ | refine WkN.tup ?_)); (all_goals (first | exact .int rfl | exact .int (by first | omega | (simp only [nc]; omega) | (simp; done)) | exact .bool rfl | exact .snoc hnt rfl rfl rfl | exact .snoc hnt rfl rfl (by simp only [encZone, encTrain, lst_nt hnt]; rfl) | exact lit_nt hnt _ _ _ _ rfl | exact take_nt hnt (by omega) | exact lstR_wk hnt | exact .tok rfl | exact .tok (by simp) | exact .lst hnt rfl | exact .gsl (by simp) | exact .empty rfl | exact .nilOwn (by decide) (by decide) rfl | exact .nilGar (by decide) (by decide) rfl | exact .gd (by first | assumption | decide | (simp [*]; done)) (.refl _) | skip)))
  · simp only [decide_eq_false_iff_not] at hb
    rw [List.drop_eq_nil_of_le (by omega)] at hp
    (cbv; (try simp only [nc] at *); (try refine Chk.mk (by (try simp only [nc, allc0, allc1, allcE, allcI, Cn.p, and_true, true_and, decide_eq_true_eq, imp_self, List.length_cons, List.length_nil]); all_goals ((repeat' (first | apply And.intro | intro _)) <;> first | omega | rfl | exact Or.inl rfl | assumption | exact nb1 (by assumption) | exact nb2 (by assumption) | exact nb3 (by assumption) | exact nb4 (by assumption) | decide | decide +kernel | (simp [*]; done))) ?_))
    exact ⟨by rw [hp]; rfl, trivial⟩

def countS (l : List Sp.Span) : Int := (l.map fun x => x.to_ - x.fr + 1).sum

theorem c58 (l : List Sp.Span) (hl : l.length ≤ 1000000) (hb : ∀ x ∈ l, -10000000000000 ≤ x.fr ∧ x.fr ≤ 10000000000000 ∧ -10000000000000 ≤ x.to_ ∧ x.to_ ≤ 10000000000000) (hl2 : l.length ≤ 1000) : SC (fun _ => Try.prog) 58 [lst 2 encSpan default l] [] fun r h => r = .int .i64 (fun _ => countS l) ∧ h = [] := by
  obtain ⟨nt, hnt⟩ := nth_ex
  rw [lst_nt hnt]
  refine con Try.func58 (body := bodyOf Try.f58) rfl (by decide +kernel) ?_
  (cbv; (try simp only [nc] at *); (try refine Chk.mk (by (try simp only [nc, allc0, allc1, allcE, allcI, Cn.p, and_true, true_and, decide_eq_true_eq, imp_self, List.length_cons, List.length_nil]); all_goals ((repeat' (first | apply And.intro | intro _)) <;> first | omega | rfl | exact Or.inl rfl | assumption | exact nb1 (by assumption) | exact nb2 (by assumption) | exact nb3 (by assumption) | exact nb4 (by assumption) | decide | decide +kernel | (simp [*]; done))) ?_))
  refine loopS false false [] [0, 3, 4] [] (fun (⟨i, n⟩ : Nat × Int) => [(3, .int .i64 fun _ => n), (4, .int .i64 fun _ => i)]) (fun _ => []) (fun ⟨i, n⟩ => i ≤ l.length ∧ countS l = n + countS (l.drop i) ∧ -20000000000001 * (i : Int) ≤ n ∧ n ≤ 20000000000001 * (i : Int)) (fun i => l.length - i.1 + 0) (0, 0) ⟨Nat.zero_le _, by simp, by simp, by simp⟩ ?_ ?_
  · (refine To.of [] ?_; cbv; (try simp only [nc]); (repeat' (first | exact trivial | exact WkN.refl _ | exact WkB.refl _ | refine ⟨?_, ?_⟩ | refine WkB.cells ?_ | refine WkN.agg ?_ | refine WkN.tup ?_)); (all_goals (first | exact .int rfl | exact .int (by first | omega | (simp only [nc]; omega) | (simp; done)) | exact .bool rfl | exact .snoc hnt rfl rfl rfl | exact .snoc hnt rfl rfl (by simp only [encZone, encTrain, lst_nt hnt]; rfl) | exact lit_nt hnt _ _ _ _ rfl | exact take_nt hnt (by omega) | exact lstR_wk hnt | exact .tok rfl | exact .tok (by simp) | exact .lst hnt rfl | exact .gsl (by simp) | exact .empty rfl | exact .nilOwn (by decide) (by decide) rfl | exact .nilGar (by decide) (by decide) rfl | exact .gd (by first | assumption | decide | (simp [*]; done)) (.refl _) | skip)))
  rintro ⟨i, n⟩ ⟨hi, hp, hn1, hn2⟩
  (cbv; (try simp only [nc] at *); (try refine Chk.mk (by (try simp only [nc, allc0, allc1, allcE, allcI, Cn.p, and_true, true_and, decide_eq_true_eq, imp_self, List.length_cons, List.length_nil]); all_goals ((repeat' (first | apply And.intro | intro _)) <;> first | omega | rfl | exact Or.inl rfl | assumption | exact nb1 (by assumption) | exact nb2 (by assumption) | exact nb3 (by assumption) | exact nb4 (by assumption) | decide | decide +kernel | (simp [*]; done))) ?_))
  refine ⟨fun hb' => ?_, fun hb' => ?_⟩
  · simp only [decide_eq_true_eq] at hb'
    have hd := nt_drop (d := default) hnt (l := l) (i := i) (by omega)
    have hm := hb _ (nt_mem (d := default) hnt (l := l) (i := i) (by omega))
    rw [hd] at hp
    have hp : countS l = n + ((nt Sp.Span default l i).to_ - (nt Sp.Span default l i).fr + 1 + countS (l.drop (i + 1))) := by rw [hp]; simp [countS]
    (cbv; (try simp only [nc] at *); (try refine Chk.mk (by (try simp only [nc, allc0, allc1, allcE, allcI, Cn.p, and_true, true_and, decide_eq_true_eq, imp_self, List.length_cons, List.length_nil]); all_goals ((repeat' (first | apply And.intro | intro _)) <;> first | omega | rfl | exact Or.inl rfl | assumption | exact nb1 (by assumption) | exact nb2 (by assumption) | exact nb3 (by assumption) | exact nb4 (by assumption) | decide | decide +kernel | (simp [*]; done))) ?_))
    refine ⟨(i + 1, n + (nt Sp.Span default l i).to_ - (nt Sp.Span default l i).fr + 1), ⟨by omega, by rw [hp]; dsimp only; generalize countS (List.drop (i + 1) l) = q; omega, by dsimp only; omega, by dsimp only; omega⟩, by show l.length - (i + 1) + 0 < l.length - i + 0; omega, ?_⟩
    (refine To.of [] ?_; cbv; (try simp only [nc]); (repeat' (first | exact trivial | exact WkN.refl _ | exact WkB.refl _ | refine ⟨?_, ?_⟩ | refine WkB.cells ?_ | refine WkN.agg ?_ | refine WkN.tup ?_)); (all_goals (first | exact .int rfl | exact .int (by first | omega | (simp only [nc]; omega) | (simp; done)) | exact .bool rfl | exact .snoc hnt rfl rfl rfl | exact .snoc hnt rfl rfl (by simp only [encZone, encTrain, lst_nt hnt]; rfl) | exact lit_nt hnt _ _ _ _ rfl | exact take_nt hnt (by omega) | exact lstR_wk hnt | exact .tok rfl | exact .tok (by simp) | exact .lst hnt rfl | exact .gsl (by simp) | exact .empty rfl | exact .nilOwn (by decide) (by decide) rfl | exact .nilGar (by decide) (by decide) rfl | exact .gd (by first | assumption | decide | (simp [*]; done)) (.refl _) | skip)))
  · simp only [decide_eq_false_iff_not] at hb'
    rw [List.drop_eq_nil_of_le (by omega)] at hp
    (cbv; (try simp only [nc] at *); (try refine Chk.mk (by (try simp only [nc, allc0, allc1, allcE, allcI, Cn.p, and_true, true_and, decide_eq_true_eq, imp_self, List.length_cons, List.length_nil]); all_goals ((repeat' (first | apply And.intro | intro _)) <;> first | omega | rfl | exact Or.inl rfl | assumption | exact nb1 (by assumption) | exact nb2 (by assumption) | exact nb3 (by assumption) | exact nb4 (by assumption) | decide | decide +kernel | (simp [*]; done))) ?_))
    exact ⟨by rw [hp]; simp [countS], trivial⟩

theorem no_change (b : Int) {q : Int → Bool} (h : q 1 = false) : spans ⟨b, []⟩ q = [] := by
  have hp : pieces ⟨b, []⟩ = [⟨0, openT, b⟩] := rfl
  have ho : openT = 1099511627776 := rfl
  have he : ends [⟨0, openT, b⟩] = [0 + b, openT + b] := rfl
  have e1 : ¬ openT + b < 0 + b := by omega
  have hs : isort [0 + b, openT + b] = [0 + b, openT + b] := by simp only [isort, isortGo, sink, List.length_cons, List.length_nil, List.getD_cons_succ, List.getD_cons_zero]; rw [if_neg e1]
  have t0 : times [⟨0, openT, b⟩] (0 + b) = 1 := by simp only [times]; rw [if_pos (by omega)]; rfl
  unfold spans
  rw [hp, he, hs]
  simp only [spansGo, spanStep, t0]
  rw [if_pos (.inr h)]

theorem when_le : ∀ (l : List Pc) (r : Int), (when l r).length ≤ l.length
  | [], r => Nat.le_refl _
  | p :: l, r => by
    have := when_le l r
    simp only [when]
    split
    · simp; omega
    · simp; omega

theorem c13 (l : List Int) (hl : (l.length : Int) ≤ 9223372036854775807) : SC (fun _ => Try.prog) 13 [lst 1 encI 0 l] [] fun r h => r = .bool (fun _ => true) := by
  obtain ⟨nt, hnt⟩ := nth_ex
  refine conX false false [10] Try.func13 (body := bodyOf Try.f13) rfl (by decide +kernel) ?_
  (cbv; (try simp only [nc] at *); (try refine Chk.mk (by (try simp only [nc, allc0, allc1, allcE, allcI, Cn.p, and_true, true_and, decide_eq_true_eq, imp_self, List.length_cons, List.length_nil]); all_goals ((repeat' (first | apply And.intro | intro _)) <;> first | omega | rfl | exact Or.inl rfl | assumption | exact nb1 (by assumption) | exact nb2 (by assumption) | exact nb3 (by assumption) | exact nb4 (by assumption) | decide | decide +kernel | (simp [*]; done))) ?_))
  refine call0 (c14 l hl) (by first | rfl | (simp only [zoneA, bookA, lst_nt hnt]; rfl)) fun r h₂ hp => ?_
  (try simp only [zoneA, bookA, lst_nt hnt] at hp)
  obtain ⟨s, rfl, rfl⟩ := hp
  (cbv; (try simp only [nc] at *); (try refine Chk.mk (by (try simp only [nc, allc0, allc1, allcE, allcI, Cn.p, and_true, true_and, decide_eq_true_eq, imp_self, List.length_cons, List.length_nil]); all_goals ((repeat' (first | apply And.intro | intro _)) <;> first | omega | rfl | exact Or.inl rfl | assumption | exact nb1 (by assumption) | exact nb2 (by assumption) | exact nb3 (by assumption) | exact nb4 (by assumption) | decide | decide +kernel | (simp [*]; done))) ?_))
  refine callL [0] (c29 s 2 (by omega)) (by decide) (by simp) (by first | rfl | (simp only [zoneA, bookA, lst_nt hnt]; rfl)) (by first | rfl | (simp only [zoneA, bookA, lst_nt hnt]; rfl)) fun r h₂ hp => ?_
  (try simp only [zoneA, bookA, lst_nt hnt] at hp)
  obtain ⟨z, s1, hz, rfl, rfl⟩ := hp
  have hv := made_valid hz (by omega)
  have haf := made_af hz (by omega)
  have hbase := hz.base
  have hzl := hz.len
  have hsk := fun {v} (h : Least z v) (m : Int) (hm : m ≤ 1000000) => skips_in hv h m hm
  have k31 := c31 z (by omega)
  have k33 := c33 z (by omega)
  unfold Skipped at k31
  unfold Doubled at k33
  rw [if_neg (fun h => h hv)] at k31 k33
  have hat := hz.at_
  have hAl := spans_len hv (fun n => decide (n = 0))
  have hBl := spans_len hv (fun n => decide (1 < n))
  have hsin := @single
  generalize hA : spans z (fun n => decide (n = 0)) = A at *
  generalize hB : spans z (fun n => decide (1 < n)) = B at *
  (cbv; (try simp only [nc] at *); (try refine Chk.mk (by (try simp only [nc, allc0, allc1, allcE, allcI, Cn.p, and_true, true_and, decide_eq_true_eq, imp_self, List.length_cons, List.length_nil]); all_goals ((repeat' (first | apply And.intro | intro _)) <;> first | omega | rfl | exact Or.inl rfl | assumption | exact nb1 (by assumption) | exact nb2 (by assumption) | exact nb3 (by assumption) | exact nb4 (by assumption) | decide | decide +kernel | (simp [*]; done))) ?_))
  refine call0 (k31) (by first | rfl | (simp only [zoneA, bookA, lst_nt hnt]; rfl)) fun r h₂ hp => ?_
  (try simp only [zoneA, bookA, lst_nt hnt] at hp)
  obtain ⟨rfl, rfl⟩ := hp
  (cbv; (try simp only [nc] at *); (try refine Chk.mk (by (try simp only [nc, allc0, allc1, allcE, allcI, Cn.p, and_true, true_and, decide_eq_true_eq, imp_self, List.length_cons, List.length_nil]); all_goals ((repeat' (first | apply And.intro | intro _)) <;> first | omega | rfl | exact Or.inl rfl | assumption | exact nb1 (by assumption) | exact nb2 (by assumption) | exact nb3 (by assumption) | exact nb4 (by assumption) | decide | decide +kernel | (simp [*]; done))) ?_))
  refine call0 (k33) (by first | rfl | (simp only [zoneA, bookA, lst_nt hnt]; rfl)) fun r h₂ hp => ?_
  (try simp only [zoneA, bookA, lst_nt hnt] at hp)
  obtain ⟨rfl, rfl⟩ := hp
  (cbv; (try simp only [nc] at *); (try refine Chk.mk (by (try simp only [nc, allc0, allc1, allcE, allcI, Cn.p, and_true, true_and, decide_eq_true_eq, imp_self, List.length_cons, List.length_nil]); all_goals ((repeat' (first | apply And.intro | intro _)) <;> first | omega | rfl | exact Or.inl rfl | assumption | exact nb1 (by assumption) | exact nb2 (by assumption) | exact nb3 (by assumption) | exact nb4 (by assumption) | decide | decide +kernel | (simp [*]; done))) ?_))
  refine Br.isF (by decide) ?_
  (cbv; (try simp only [nc] at *); (try refine Chk.mk (by (try simp only [nc, allc0, allc1, allcE, allcI, Cn.p, and_true, true_and, decide_eq_true_eq, imp_self, List.length_cons, List.length_nil]); all_goals ((repeat' (first | apply And.intro | intro _)) <;> first | omega | rfl | exact Or.inl rfl | assumption | exact nb1 (by assumption) | exact nb2 (by assumption) | exact nb3 (by assumption) | exact nb4 (by assumption) | decide | decide +kernel | (simp [*]; done))) ?_))
  have hN : ∀ j : Nat, j < z.chs.length → 0 ≤ (nt Chg default z.chs (j : Int)).at_ ∧ (nt Chg default z.chs (j : Int)).at_ ≤ 3500 := fun j hj => by have := hat _ (nt_mem (d := default) hnt (l := z.chs) (i := j) hj); omega
  have hasc : ∀ j : Nat, 0 < j → j < z.chs.length → 0 < (nt Chg default z.chs (j : Int)).at_ := fun j hj0 hj => by
    have h1 := List.pairwise_iff_getElem.1 hz.asc 0 j (by omega) hj hj0
    have h0 := hN 0 (by omega)
    rw [hnt, Int.toNat_natCast, List.getD_eq_getElem?_getD, List.getElem?_eq_getElem (by omega)] at h0
    rw [hnt, Int.toNat_natCast, List.getD_eq_getElem?_getD, List.getElem?_eq_getElem hj]
    have h0 := h0.1
    simp only [Option.getD_some] at h0 ⊢
    omega
  refine loopQ fun Q hQ => ?_
  refine loopS false false [] [4, 5, 7, 9, 10] [] (fun (⟨i, v⟩ : Nat × Int) => [(9, .int .i64 fun _ => v), (10, .int .i64 fun _ => i)]) (fun _ => [])
    (fun ⟨i, v⟩ => i ≤ z.chs.length ∧ (∀ j : Nat, j < i → v ≤ (nt Chg default z.chs (j : Int)).at_ + af z.base z.chs (nt Chg default z.chs (j : Int)).at_) ∧ ((i = 0 ∨ (nt Chg default z.chs ((0 : Nat) : Int)).at_ ≠ 0) → v ≤ z.base) ∧
      ((v = z.base ∧ (i = 0 ∨ (nt Chg default z.chs ((0 : Nat) : Int)).at_ ≠ 0)) ∨ ∃ j : Nat, j < i ∧ v = (nt Chg default z.chs (j : Int)).at_ + af z.base z.chs (nt Chg default z.chs (j : Int)).at_)) (fun i => z.chs.length - i.1 + 0) (0, z.base)
    ⟨Nat.zero_le _, (fun j hj => by omega), fun _ => Int.le_refl _, .inl ⟨rfl, .inl rfl⟩⟩ ?_ ?_
  · (refine To.of [] ?_; cbv; (try simp only [nc]); (repeat' (first | exact trivial | exact WkN.refl _ | exact WkB.refl _ | refine ⟨?_, ?_⟩ | refine WkB.cells ?_ | refine WkN.agg ?_ | refine WkN.tup ?_)); (all_goals (first | exact .int rfl | exact .int (by first | omega | (simp only [nc]; omega) | (simp; done)) | exact .bool rfl | exact .snoc hnt rfl rfl rfl | exact .snoc hnt rfl rfl (by simp only [encZone, encTrain, lst_nt hnt]; rfl) | exact lit_nt hnt _ _ _ _ rfl | exact take_nt hnt (by omega) | exact lstR_wk hnt | exact .tok rfl | exact .tok (by simp) | exact .lst hnt rfl | exact .gsl (by simp) | exact .empty rfl | exact .nilOwn (by decide) (by decide) rfl | exact .nilGar (by decide) (by decide) rfl | exact .gd (by first | assumption | decide | (simp [*]; done)) (.refl _) | skip)))
  rintro ⟨i, v⟩ ⟨hi, hv1, hv2, hv3⟩
  (cbv; (try simp only [nc] at *); (try refine Chk.mk (by (try simp only [nc, allc0, allc1, allcE, allcI, Cn.p, and_true, true_and, decide_eq_true_eq, imp_self, List.length_cons, List.length_nil]); all_goals ((repeat' (first | apply And.intro | intro _)) <;> first | omega | rfl | exact Or.inl rfl | assumption | exact nb1 (by assumption) | exact nb2 (by assumption) | exact nb3 (by assumption) | exact nb4 (by assumption) | decide | decide +kernel | (simp [*]; done))) ?_))
  refine ⟨fun hb => ?_, fun hb => ?_⟩
  · simp only [decide_eq_true_eq] at hb
    have hni := hN i (by omega)
    have hbi := haf (nt Chg default z.chs (i : Int)).at_
    have k42 := c42 z (nt Chg default z.chs (i : Int)).at_ hv (by omega) (by rw [ahead_eq hv (by omega)]; omega)
    rw [ahead_eq hv hni.1] at k42
    (cbv; (try simp only [nc] at *); (try refine Chk.mk (by (try simp only [nc, allc0, allc1, allcE, allcI, Cn.p, and_true, true_and, decide_eq_true_eq, imp_self, List.length_cons, List.length_nil]); all_goals ((repeat' (first | apply And.intro | intro _)) <;> first | omega | rfl | exact Or.inl rfl | assumption | exact nb1 (by assumption) | exact nb2 (by assumption) | exact nb3 (by assumption) | exact nb4 (by assumption) | decide | decide +kernel | (simp [*]; done))) ?_))
    refine call0 (k42) (by first | rfl | (simp only [zoneA, bookA, lst_nt hnt]; rfl)) fun r h₂ hp => ?_
    (try simp only [zoneA, bookA, lst_nt hnt] at hp)
    obtain ⟨rfl, rfl⟩ := hp
    (cbv; (try simp only [nc] at *); (try refine Chk.mk (by (try simp only [nc, allc0, allc1, allcE, allcI, Cn.p, and_true, true_and, decide_eq_true_eq, imp_self, List.length_cons, List.length_nil]); all_goals ((repeat' (first | apply And.intro | intro _)) <;> first | omega | rfl | exact Or.inl rfl | assumption | exact nb1 (by assumption) | exact nb2 (by assumption) | exact nb3 (by assumption) | exact nb4 (by assumption) | decide | decide +kernel | (simp [*]; done))) ?_))
    refine Br.isF rfl ?_
    (cbv; (try simp only [nc] at *); (try refine Chk.mk (by (try simp only [nc, allc0, allc1, allcE, allcI, Cn.p, and_true, true_and, decide_eq_true_eq, imp_self, List.length_cons, List.length_nil]); all_goals ((repeat' (first | apply And.intro | intro _)) <;> first | omega | rfl | exact Or.inl rfl | assumption | exact nb1 (by assumption) | exact nb2 (by assumption) | exact nb3 (by assumption) | exact nb4 (by assumption) | decide | decide +kernel | (simp [*]; done))) ?_))
    refine ⟨fun hb2 => ?_, fun hb2 => ?_⟩
    · have hb2 : (nt Chg default z.chs (i : Int)).at_ = 0 := by simpa using hb2
      have hi0 : i = 0 := by
        rcases Nat.eq_zero_or_pos i with h | h
        · exact h
        · have := hasc i h (by omega); omega
      (cbv; (try simp only [nc] at *); (try refine Chk.mk (by (try simp only [nc, allc0, allc1, allcE, allcI, Cn.p, and_true, true_and, decide_eq_true_eq, imp_self, List.length_cons, List.length_nil]); all_goals ((repeat' (first | apply And.intro | intro _)) <;> first | omega | rfl | exact Or.inl rfl | assumption | exact nb1 (by assumption) | exact nb2 (by assumption) | exact nb3 (by assumption) | exact nb4 (by assumption) | decide | decide +kernel | (simp [*]; done))) ?_))
      refine ⟨(i + 1, (nt Chg default z.chs (i : Int)).at_ + af z.base z.chs (nt Chg default z.chs (i : Int)).at_), ⟨by omega, fun j hj => ?_, fun h => ?_, .inr ⟨i, by omega, rfl⟩⟩, by show z.chs.length - (i + 1) + 0 < z.chs.length - i + 0; omega, ?_⟩
      · have : j = i := by omega
        subst this
        exact Int.le_refl _
      · rcases h with h | h
        · omega
        · rw [hi0] at hb2; exact absurd hb2 h
      · (refine To.of [] ?_; cbv; (try simp only [nc]); (repeat' (first | exact trivial | exact WkN.refl _ | exact WkB.refl _ | refine ⟨?_, ?_⟩ | refine WkB.cells ?_ | refine WkN.agg ?_ | refine WkN.tup ?_)); (all_goals (first | exact .int rfl | exact .int (by first | omega | (simp only [nc]; omega) | (simp; done)) | exact .bool rfl | exact .snoc hnt rfl rfl rfl | exact .snoc hnt rfl rfl (by simp only [encZone, encTrain, lst_nt hnt]; rfl) | exact lit_nt hnt _ _ _ _ rfl | exact take_nt hnt (by omega) | exact lstR_wk hnt | exact .tok rfl | exact .tok (by simp) | exact .lst hnt rfl | exact .gsl (by simp) | exact .empty rfl | exact .nilOwn (by decide) (by decide) rfl | exact .nilGar (by decide) (by decide) rfl | exact .gd (by first | assumption | decide | (simp [*]; done)) (.refl _) | skip)))
    · (cbv; (try simp only [nc] at *); (try refine Chk.mk (by (try simp only [nc, allc0, allc1, allcE, allcI, Cn.p, and_true, true_and, decide_eq_true_eq, imp_self, List.length_cons, List.length_nil]); all_goals ((repeat' (first | apply And.intro | intro _)) <;> first | omega | rfl | exact Or.inl rfl | assumption | exact nb1 (by assumption) | exact nb2 (by assumption) | exact nb3 (by assumption) | exact nb4 (by assumption) | decide | decide +kernel | (simp [*]; done))) ?_))
      have hb2 : (nt Chg default z.chs (i : Int)).at_ ≠ 0 := by simpa using hb2
      have hz0 : (nt Chg default z.chs ((0 : Nat) : Int)).at_ ≠ 0 ∨ (0 < i ∧ (nt Chg default z.chs ((0 : Nat) : Int)).at_ = 0) := by
        by_cases h : (nt Chg default z.chs ((0 : Nat) : Int)).at_ = 0
        · rcases Nat.eq_zero_or_pos i with h1 | h1
          · rw [h1] at hb2; exact absurd h hb2
          · exact .inr ⟨h1, h⟩
        · exact .inl h
      generalize hNi : (nt Chg default z.chs (i : Int)).at_ + af z.base z.chs (nt Chg default z.chs (i : Int)).at_ = N at *
      have hmn : ((if N < v then N else v) ≤ N ∧ (if N < v then N else v) ≤ v) ∧ ((if N < v then N else v) = N ∨ (if N < v then N else v) = v) := by split <;> omega
      generalize (if N < v then N else v) = w at *
      refine ⟨(i + 1, w), ⟨by omega, fun j hj => ?_, fun h => ?_, ?_⟩, by show z.chs.length - (i + 1) + 0 < z.chs.length - i + 0; omega, ?_⟩
      · by_cases hji : j = i
        · subst hji; rw [hNi]; exact hmn.1.1
        · have := hv1 j (by omega); omega
      · have := hv2 (by rcases h with h | h; omega; exact .inr h)
        omega
      · rcases hmn.2 with h | h
        · exact .inr ⟨i, by omega, by rw [h, hNi]⟩
        · rcases hv3 with ⟨h3, h4⟩ | ⟨j, h3, h4⟩
          · refine .inl ⟨by omega, .inr ?_⟩
            rcases hz0 with h5 | h5
            · exact h5
            · rcases h4 with h4 | h4
              · omega
              · exact absurd h5.2 h4
          · exact .inr ⟨j, by omega, by omega⟩
      · (refine To.of [] ?_; cbv; (try simp only [nc]); (repeat' (first | exact trivial | exact WkN.refl _ | exact WkB.refl _ | refine ⟨?_, ?_⟩ | refine WkB.cells ?_ | refine WkN.agg ?_ | refine WkN.tup ?_)); (all_goals (first | exact .int rfl | exact .int (by first | omega | (simp only [nc]; omega) | (simp; done)) | exact .bool rfl | exact .snoc hnt rfl rfl rfl | exact .snoc hnt rfl rfl (by simp only [encZone, encTrain, lst_nt hnt]; rfl) | exact lit_nt hnt _ _ _ _ rfl | exact take_nt hnt (by omega) | exact lstR_wk hnt | exact .tok rfl | exact .tok (by simp) | exact .lst hnt rfl | exact .gsl (by simp) | exact .empty rfl | exact .nilOwn (by decide) (by decide) rfl | exact .nilGar (by decide) (by decide) rfl | exact .gd (by first | assumption | decide | (simp [*]; done)) (.refl _) | skip)))
  · simp only [decide_eq_false_iff_not] at hb
    have hie : i = z.chs.length := by omega
    have hidx : ∀ c ∈ z.chs, ∃ j : Nat, j < z.chs.length ∧ nt Chg default z.chs (j : Int) = c := fun c hc => by
      obtain ⟨j, hj, rfl⟩ := mem_getD (d := default) hc
      exact ⟨j, hj, by rw [hnt]; rfl⟩
    have hL : Least z v := by
      refine ⟨⟨fun c hc => ?_, fun h => ?_⟩, ?_⟩
      · obtain ⟨j, hj, rfl⟩ := hidx c hc
        exact hv1 j (by omega)
      · refine hv2 ?_
        rcases Nat.eq_zero_or_pos z.chs.length with h0 | h0
        · exact .inl (by omega)
        · exact .inr (h _ (nt_mem (d := default) hnt (l := z.chs) (i := 0) h0))
      · rcases hv3 with ⟨h3, h4⟩ | ⟨j, h3, h4⟩
        · refine .inl ⟨h3, fun c hc => ?_⟩
          obtain ⟨j, hj, rfl⟩ := hidx c hc
          rcases Nat.eq_zero_or_pos j with h0 | h0
          · subst h0
            rcases h4 with h4 | h4
            · omega
            · exact h4
          · have := hasc j h0 hj; omega
        · exact .inr ⟨_, nt_mem (d := default) hnt (l := z.chs) (i := j) (by omega), h4⟩
    have hsk := hsk hL
    (cbv; (try simp only [nc] at *); (try refine Chk.mk (by (try simp only [nc, allc0, allc1, allcE, allcI, Cn.p, and_true, true_and, decide_eq_true_eq, imp_self, List.length_cons, List.length_nil]); all_goals ((repeat' (first | apply And.intro | intro _)) <;> first | omega | rfl | exact Or.inl rfl | assumption | exact nb1 (by assumption) | exact nb2 (by assumption) | exact nb3 (by assumption) | exact nb4 (by assumption) | decide | decide +kernel | (simp [*]; done))) ?_))
    refine hQ _ _ _ ?_
    clear hQ
    (cbv; (try simp only [nc] at *); (try refine Chk.mk (by (try simp only [nc, allc0, allc1, allcE, allcI, Cn.p, and_true, true_and, decide_eq_true_eq, imp_self, List.length_cons, List.length_nil]); all_goals ((repeat' (first | apply And.intro | intro _)) <;> first | omega | rfl | exact Or.inl rfl | assumption | exact nb1 (by assumption) | exact nb2 (by assumption) | exact nb3 (by assumption) | exact nb4 (by assumption) | decide | decide +kernel | (simp [*]; done))) ?_))
    clear hv1 hv2 hv3 hL hie hi hb
    refine loopQ fun Q hQ => ?_
    refine loopS false false [] [4, 5, 7, 9, 13] [] (fun (i : Nat) => [(13, .int .i64 fun _ => i)]) (fun _ => []) (fun i => i ≤ z.chs.length) (fun i => z.chs.length - i + 0) 0 (Nat.zero_le _) ?_ ?_
    · (refine To.of [] ?_; cbv; (try simp only [nc]); (repeat' (first | exact trivial | exact WkN.refl _ | exact WkB.refl _ | refine ⟨?_, ?_⟩ | refine WkB.cells ?_ | refine WkN.agg ?_ | refine WkN.tup ?_)); (all_goals (first | exact .int rfl | exact .int (by first | omega | (simp only [nc]; omega) | (simp; done)) | exact .bool rfl | exact .snoc hnt rfl rfl rfl | exact .snoc hnt rfl rfl (by simp only [encZone, encTrain, lst_nt hnt]; rfl) | exact lit_nt hnt _ _ _ _ rfl | exact take_nt hnt (by omega) | exact lstR_wk hnt | exact .tok rfl | exact .tok (by simp) | exact .lst hnt rfl | exact .gsl (by simp) | exact .empty rfl | exact .nilOwn (by decide) (by decide) rfl | exact .nilGar (by decide) (by decide) rfl | exact .gd (by first | assumption | decide | (simp [*]; done)) (.refl _) | skip)))
    intro i hi
    (cbv; (try simp only [nc] at *); (try refine Chk.mk (by (try simp only [nc, allc0, allc1, allcE, allcI, Cn.p, and_true, true_and, decide_eq_true_eq, imp_self, List.length_cons, List.length_nil]); all_goals ((repeat' (first | apply And.intro | intro _)) <;> first | omega | rfl | exact Or.inl rfl | assumption | exact nb1 (by assumption) | exact nb2 (by assumption) | exact nb3 (by assumption) | exact nb4 (by assumption) | decide | decide +kernel | (simp [*]; done))) ?_))
    refine ⟨fun hb => ?_, fun hb => ?_⟩
    · simp only [decide_eq_true_eq] at hb
      have hni := hN i (by omega)
      have hbi := haf (nt Chg default z.chs (i : Int)).at_
      have k42 := c42 z (nt Chg default z.chs (i : Int)).at_ hv (by omega) (by rw [ahead_eq hv (by omega)]; omega)
      rw [ahead_eq hv hni.1] at k42
      (cbv; (try simp only [nc] at *); (try refine Chk.mk (by (try simp only [nc, allc0, allc1, allcE, allcI, Cn.p, and_true, true_and, decide_eq_true_eq, imp_self, List.length_cons, List.length_nil]); all_goals ((repeat' (first | apply And.intro | intro _)) <;> first | omega | rfl | exact Or.inl rfl | assumption | exact nb1 (by assumption) | exact nb2 (by assumption) | exact nb3 (by assumption) | exact nb4 (by assumption) | decide | decide +kernel | (simp [*]; done))) ?_))
      refine call0 (k42) (by first | rfl | (simp only [zoneA, bookA, lst_nt hnt]; rfl)) fun r h₂ hp => ?_
      (try simp only [zoneA, bookA, lst_nt hnt] at hp)
      obtain ⟨rfl, rfl⟩ := hp
      (cbv; (try simp only [nc] at *); (try refine Chk.mk (by (try simp only [nc, allc0, allc1, allcE, allcI, Cn.p, and_true, true_and, decide_eq_true_eq, imp_self, List.length_cons, List.length_nil]); all_goals ((repeat' (first | apply And.intro | intro _)) <;> first | omega | rfl | exact Or.inl rfl | assumption | exact nb1 (by assumption) | exact nb2 (by assumption) | exact nb3 (by assumption) | exact nb4 (by assumption) | decide | decide +kernel | (simp [*]; done))) ?_))
      generalize hNi : (nt Chg default z.chs (i : Int)).at_ + af z.base z.chs (nt Chg default z.chs (i : Int)).at_ = N at *
      have hNb : -400 ≤ N ∧ N ≤ 4000 := by omega
      have hm0 : -1440 ≤ (if N - 100 < -1440 then -1440 else N - 100) ∧ (if N - 100 < -1440 then -1440 else N - 100) ≤ 5000 := by split <;> omega
      generalize (if N - 100 < -1440 then -1440 else N - 100) = m0 at *
      refine loopQ fun Q' hQ' => ?_
      refine loopS false false [] [4, 5, 7, 9, 13, 14, 16] [] (fun (m : Int) => [(16, .int .i64 fun _ => m)]) (fun _ => []) (fun m => -1440 ≤ m ∧ m ≤ 5000) (fun m => (5001 - m).toNat + 0) m0 hm0 ?_ ?_
      · (refine To.of [] ?_; cbv; (try simp only [nc]); (repeat' (first | exact trivial | exact WkN.refl _ | exact WkB.refl _ | refine ⟨?_, ?_⟩ | refine WkB.cells ?_ | refine WkN.agg ?_ | refine WkN.tup ?_)); (all_goals (first | exact .int rfl | exact .int (by first | omega | (simp only [nc]; omega) | (simp; done)) | exact .bool rfl | exact .snoc hnt rfl rfl rfl | exact .snoc hnt rfl rfl (by simp only [encZone, encTrain, lst_nt hnt]; rfl) | exact lit_nt hnt _ _ _ _ rfl | exact take_nt hnt (by omega) | exact lstR_wk hnt | exact .tok rfl | exact .tok (by simp) | exact .lst hnt rfl | exact .gsl (by simp) | exact .empty rfl | exact .nilOwn (by decide) (by decide) rfl | exact .nilGar (by decide) (by decide) rfl | exact .gd (by first | assumption | decide | (simp [*]; done)) (.refl _) | skip)))
      intro m hm
      (cbv; (try simp only [nc] at *); (try refine Chk.mk (by (try simp only [nc, allc0, allc1, allcE, allcI, Cn.p, and_true, true_and, decide_eq_true_eq, imp_self, List.length_cons, List.length_nil]); all_goals ((repeat' (first | apply And.intro | intro _)) <;> first | omega | rfl | exact Or.inl rfl | assumption | exact nb1 (by assumption) | exact nb2 (by assumption) | exact nb3 (by assumption) | exact nb4 (by assumption) | decide | decide +kernel | (simp [*]; done))) ?_))
      refine ⟨fun hb3 => ?_, fun hb3 => ?_⟩
      · simp only [decide_eq_true_eq] at hb3
        have hmm := hsk m (by omega)
        have k44 := c44 z ((m + 1440) / 1440 - 1) ((m + 1440) % 1440) (by omega)
        rw [When_eq hv (by omega) (by omega), show 1440 * ((m + 1440) / 1440 - 1) + (m + 1440) % 1440 = m by omega] at k44
        have hwt := when_times (pieces z) m
        have hwl : (when (pieces z) m).length ≤ 101 := by have := (pieces_small (small_of hv)).1; have := when_le (pieces z) m; omega
        generalize when (pieces z) m = w at *
        rw [← hwt] at hmm
        (cbv; (try simp only [nc] at *); (try refine Chk.mk (by (try simp only [nc, allc0, allc1, allcE, allcI, Cn.p, and_true, true_and, decide_eq_true_eq, imp_self, List.length_cons, List.length_nil]); all_goals ((repeat' (first | apply And.intro | intro _)) <;> first | omega | rfl | exact Or.inl rfl | assumption | exact nb1 (by assumption) | exact nb2 (by assumption) | exact nb3 (by assumption) | exact nb4 (by assumption) | decide | decide +kernel | (simp [*]; done))) ?_))
        refine call0 (c43 m (by omega) (by omega)) (by first | rfl | (simp only [zoneA, bookA, lst_nt hnt]; rfl)) fun r h₂ hp => ?_
        (try simp only [zoneA, bookA, lst_nt hnt] at hp)
        obtain ⟨rfl, rfl⟩ := hp
        (cbv; (try simp only [nc] at *); (try refine Chk.mk (by (try simp only [nc, allc0, allc1, allcE, allcI, Cn.p, and_true, true_and, decide_eq_true_eq, imp_self, List.length_cons, List.length_nil]); all_goals ((repeat' (first | apply And.intro | intro _)) <;> first | omega | rfl | exact Or.inl rfl | assumption | exact nb1 (by assumption) | exact nb2 (by assumption) | exact nb3 (by assumption) | exact nb4 (by assumption) | decide | decide +kernel | (simp [*]; done))) ?_))
        refine call0 (k44) (by first | rfl | (simp only [zoneA, bookA, lst_nt hnt]; rfl)) fun r h₂ hp => ?_
        (try simp only [zoneA, bookA, lst_nt hnt] at hp)
        obtain ⟨rfl, rfl⟩ := hp
        (cbv; (try simp only [nc] at *); (try refine Chk.mk (by (try simp only [nc, allc0, allc1, allcE, allcI, Cn.p, and_true, true_and, decide_eq_true_eq, imp_self, List.length_cons, List.length_nil]); all_goals ((repeat' (first | apply And.intro | intro _)) <;> first | omega | rfl | exact Or.inl rfl | assumption | exact nb1 (by assumption) | exact nb2 (by assumption) | exact nb3 (by assumption) | exact nb4 (by assumption) | decide | decide +kernel | (simp [*]; done))) ?_))
        refine Br.isT (by decide) ?_
        (cbv; (try simp only [nc] at *); (try refine Chk.mk (by (try simp only [nc, allc0, allc1, allcE, allcI, Cn.p, and_true, true_and, decide_eq_true_eq, imp_self, List.length_cons, List.length_nil]); all_goals ((repeat' (first | apply And.intro | intro _)) <;> first | omega | rfl | exact Or.inl rfl | assumption | exact nb1 (by assumption) | exact nb2 (by assumption) | exact nb3 (by assumption) | exact nb4 (by assumption) | decide | decide +kernel | (simp [*]; done))) ?_))
        refine call0 (c57 A m (by omega)) (by first | rfl | (simp only [zoneA, bookA, lst_nt hnt]; rfl)) fun r h₂ hp => ?_
        (try simp only [zoneA, bookA, lst_nt hnt] at hp)
        obtain ⟨rfl, rfl⟩ := hp
        have q1 : (inS A m != (bif ((w.length : Int) == 0) then decide (v < m) else false)) = false := by
          rw [hmm.1]
          by_cases h : w.length = 0 <;> simp [h]
        have q2 : (inS B m != decide (1 < (w.length : Int))) = false := by rw [hmm.2]; simp
        (cbv; try simp only [nc] at *)
        refine Chk.mk (by (try simp only [nc, allc0, allc1, allcE, allcI, Cn.p, and_true, true_and, decide_eq_true_eq, imp_self, List.length_cons, List.length_nil]); all_goals ((repeat' (first | apply And.intro | intro _)) <;> first | omega | rfl | exact Or.inl rfl | assumption | exact nb1 (by assumption) | exact nb2 (by assumption) | exact nb3 (by assumption) | exact nb4 (by assumption) | exact nb5 (by assumption) (by assumption) | exact nb6 (by assumption) (by assumption) | (rename_i h; have h2 := eq_of_beq h; omega) | exact decide_eq_false (by omega) | exact decide_eq_true (by omega) | decide | decide +kernel | (simp [*]; done))) ?_
        refine Br.isT (by rw [q1]; rfl) ?_
        (cbv; (try simp only [nc] at *); (try refine Chk.mk (by (try simp only [nc, allc0, allc1, allcE, allcI, Cn.p, and_true, true_and, decide_eq_true_eq, imp_self, List.length_cons, List.length_nil]); all_goals ((repeat' (first | apply And.intro | intro _)) <;> first | omega | rfl | exact Or.inl rfl | assumption | exact nb1 (by assumption) | exact nb2 (by assumption) | exact nb3 (by assumption) | exact nb4 (by assumption) | decide | decide +kernel | (simp [*]; done))) ?_))
        refine call0 (c57 B m (by omega)) (by first | rfl | (simp only [zoneA, bookA, lst_nt hnt]; rfl)) fun r h₂ hp => ?_
        (try simp only [zoneA, bookA, lst_nt hnt] at hp)
        obtain ⟨rfl, rfl⟩ := hp
        (cbv; try simp only [nc] at *)
        refine Chk.mk (by (try simp only [nc, allc0, allc1, allcE, allcI, Cn.p, and_true, true_and, decide_eq_true_eq, imp_self, List.length_cons, List.length_nil]); all_goals ((repeat' (first | apply And.intro | intro _)) <;> first | omega | rfl | exact Or.inl rfl | assumption | exact nb1 (by assumption) | exact nb2 (by assumption) | exact nb3 (by assumption) | exact nb4 (by assumption) | exact nb5 (by assumption) (by assumption) | exact nb6 (by assumption) (by assumption) | (rename_i h; have h2 := eq_of_beq h; omega) | exact decide_eq_false (by omega) | exact decide_eq_true (by omega) | decide | decide +kernel | (simp [*]; done))) ?_
        refine Br.isF (by rw [q1, q2]; rfl) ?_
        (cbv; (try simp only [nc] at *); (try refine Chk.mk (by (try simp only [nc, allc0, allc1, allcE, allcI, Cn.p, and_true, true_and, decide_eq_true_eq, imp_self, List.length_cons, List.length_nil]); all_goals ((repeat' (first | apply And.intro | intro _)) <;> first | omega | rfl | exact Or.inl rfl | assumption | exact nb1 (by assumption) | exact nb2 (by assumption) | exact nb3 (by assumption) | exact nb4 (by assumption) | decide | decide +kernel | (simp [*]; done))) ?_))
        refine ⟨m + 1, ⟨by omega, by omega⟩, by show (5001 - (m + 1)).toNat + 0 < (5001 - m).toNat + 0; omega, ?_⟩
        (refine To.of [] ?_; cbv; (try simp only [nc]); (repeat' (first | exact trivial | exact WkN.refl _ | exact WkB.refl _ | refine ⟨?_, ?_⟩ | refine WkB.cells ?_ | refine WkN.agg ?_ | refine WkN.tup ?_)); (all_goals (first | exact .int rfl | exact .int (by first | omega | (simp only [nc]; omega) | (simp; done)) | exact .bool rfl | exact .snoc hnt rfl rfl rfl | exact .snoc hnt rfl rfl (by simp only [encZone, encTrain, lst_nt hnt]; rfl) | exact lit_nt hnt _ _ _ _ rfl | exact take_nt hnt (by omega) | exact lstR_wk hnt | exact .tok rfl | exact .tok (by simp) | exact .lst hnt rfl | exact .gsl (by simp) | exact .empty rfl | exact .nilOwn (by decide) (by decide) rfl | exact .nilGar (by decide) (by decide) rfl | exact .gd (by first | assumption | decide | (simp [*]; done)) (.refl _) | skip)))
      · (cbv; (try simp only [nc] at *); (try refine Chk.mk (by (try simp only [nc, allc0, allc1, allcE, allcI, Cn.p, and_true, true_and, decide_eq_true_eq, imp_self, List.length_cons, List.length_nil]); all_goals ((repeat' (first | apply And.intro | intro _)) <;> first | omega | rfl | exact Or.inl rfl | assumption | exact nb1 (by assumption) | exact nb2 (by assumption) | exact nb3 (by assumption) | exact nb4 (by assumption) | decide | decide +kernel | (simp [*]; done))) ?_))
        refine hQ' _ _ _ ?_
        clear hQ'
        (cbv; (try simp only [nc] at *); (try refine Chk.mk (by (try simp only [nc, allc0, allc1, allcE, allcI, Cn.p, and_true, true_and, decide_eq_true_eq, imp_self, List.length_cons, List.length_nil]); all_goals ((repeat' (first | apply And.intro | intro _)) <;> first | omega | rfl | exact Or.inl rfl | assumption | exact nb1 (by assumption) | exact nb2 (by assumption) | exact nb3 (by assumption) | exact nb4 (by assumption) | decide | decide +kernel | (simp [*]; done))) ?_))
        refine ⟨i + 1, by omega, by show z.chs.length - (i + 1) + 0 < z.chs.length - i + 0; omega, ?_⟩
        (refine To.of [] ?_; cbv; (try simp only [nc]); (repeat' (first | exact trivial | exact WkN.refl _ | exact WkB.refl _ | refine ⟨?_, ?_⟩ | refine WkB.cells ?_ | refine WkN.agg ?_ | refine WkN.tup ?_)); (all_goals (first | exact .int rfl | exact .int (by first | omega | (simp only [nc]; omega) | (simp; done)) | exact .bool rfl | exact .snoc hnt rfl rfl rfl | exact .snoc hnt rfl rfl (by simp only [encZone, encTrain, lst_nt hnt]; rfl) | exact lit_nt hnt _ _ _ _ rfl | exact take_nt hnt (by omega) | exact lstR_wk hnt | exact .tok rfl | exact .tok (by simp) | exact .lst hnt rfl | exact .gsl (by simp) | exact .empty rfl | exact .nilOwn (by decide) (by decide) rfl | exact .nilGar (by decide) (by decide) rfl | exact .gd (by first | assumption | decide | (simp [*]; done)) (.refl _) | skip)))
    · (cbv; (try simp only [nc] at *); (try refine Chk.mk (by (try simp only [nc, allc0, allc1, allcE, allcI, Cn.p, and_true, true_and, decide_eq_true_eq, imp_self, List.length_cons, List.length_nil]); all_goals ((repeat' (first | apply And.intro | intro _)) <;> first | omega | rfl | exact Or.inl rfl | assumption | exact nb1 (by assumption) | exact nb2 (by assumption) | exact nb3 (by assumption) | exact nb4 (by assumption) | decide | decide +kernel | (simp [*]; done))) ?_))
      refine hQ _ _ _ ?_
      clear hQ
      (cbv; try simp only [nc] at *)
      refine Chk.mk (by (try simp only [nc, allc0, allc1, allcE, allcI, Cn.p, and_true, true_and, decide_eq_true_eq, imp_self, List.length_cons, List.length_nil]); all_goals ((repeat' (first | apply And.intro | intro _)) <;> first | omega | rfl | exact Or.inl rfl | assumption | exact nb1 (by assumption) | exact nb2 (by assumption) | exact nb3 (by assumption) | exact nb4 (by assumption) | exact nb5 (by assumption) (by assumption) | exact nb6 (by assumption) (by assumption) | (rename_i h; have h2 := eq_of_beq h; omega) | exact decide_eq_false (by omega) | exact decide_eq_true (by omega) | decide | decide +kernel | (simp [*]; done))) ?_
      have hone : z.chs.length = 1 → 100 ≤ (nt Chg default z.chs 0).at_ → A = (if 0 < (nt Chg default z.chs 0).by_ then [⟨(nt Chg default z.chs 0).at_ + z.base, (nt Chg default z.chs 0).at_ + (z.base + (nt Chg default z.chs 0).by_) - 1⟩] else []) ∧ B = (if 0 < (nt Chg default z.chs 0).by_ then [] else [⟨(nt Chg default z.chs 0).at_ + (z.base + (nt Chg default z.chs 0).by_), (nt Chg default z.chs 0).at_ + z.base - 1⟩]) ∧ (-90 ≤ (nt Chg default z.chs 0).by_ ∧ (nt Chg default z.chs 0).by_ ≤ 90 ∧ (nt Chg default z.chs 0).by_ ≠ 0) ∧ (nt Chg default z.chs 0).at_ ≤ 3500 := fun h1 h2 => by
        have hb := hz.by_ _ (nt_mem (d := default) hnt (l := z.chs) (i := 0) (by omega))
        have ha := hN 0 (by omega)
        change ByOk (nt Chg default z.chs 0).by_ at hb
        change 0 ≤ (nt Chg default z.chs 0).at_ ∧ (nt Chg default z.chs 0).at_ ≤ 3500 at ha
        have hzz : z = ⟨z.base, [⟨(nt Chg default z.chs 0).at_, (nt Chg default z.chs 0).by_⟩]⟩ := by
          obtain ⟨zb, zc⟩ := z
          obtain ⟨c, rfl⟩ := List.length_eq_one_iff.1 h1
          rw [hnt]
          rfl
        have hs := hsin (b := z.base) (at_ := (nt Chg default z.chs 0).at_) (by_ := (nt Chg default z.chs 0).by_) (by omega) hbase (by unfold ByOk at hb; omega)
        rw [← hzz, hA, hB] at hs
        exact ⟨hs.1, hs.2, by unfold ByOk at hb; omega, by omega⟩
      have hnone : z.chs.length = 0 → A.length = 0 ∧ B.length = 0 := fun h => by
        have hzz : z = ⟨z.base, []⟩ := by
          obtain ⟨zb, zc⟩ := z
          have h : zc = [] := List.eq_nil_of_length_eq_zero h
          subst h
          rfl
        rw [← hA, ← hB, hzz]
        exact ⟨by rw [no_change _ rfl]; rfl, by rw [no_change _ rfl]; rfl⟩
      refine ⟨fun hb => ?_, fun hb => ?_⟩
      · have hb1 : z.chs.length = 1 ∧ 100 ≤ (nt Chg default z.chs 0).at_ := by
          by_cases h : z.chs.length = 1
          · rw [h] at hb; exact ⟨h, by simpa using hb⟩
          · have h' : ((z.chs.length : Int) == 1) = false := by simp; omega
            rw [h'] at hb; cases hb
        obtain ⟨hA1, hB1, hby, hat1⟩ := hone hb1.1 hb1.2
        have hcA : countS A = (if 0 < (nt Chg default z.chs 0).by_ then (nt Chg default z.chs 0).by_ else 0) := by
          rw [hA1]
          split <;> simp [countS]
          omega
        have hcB : countS B = (if 0 < (nt Chg default z.chs 0).by_ then 0 else - (nt Chg default z.chs 0).by_) := by
          rw [hB1]
          split <;> simp [countS]
          omega
        have hbA : ∀ x ∈ A, -10000000000000 ≤ x.fr ∧ x.fr ≤ 10000000000000 ∧ -10000000000000 ≤ x.to_ ∧ x.to_ ≤ 10000000000000 := by
          rw [hA1]; intro x hx; split at hx
          · simp only [List.mem_singleton] at hx; subst hx; dsimp only; omega
          · cases hx
        have hbB : ∀ x ∈ B, -10000000000000 ≤ x.fr ∧ x.fr ≤ 10000000000000 ∧ -10000000000000 ≤ x.to_ ∧ x.to_ ≤ 10000000000000 := by
          rw [hB1]; intro x hx; split at hx
          · cases hx
          · simp only [List.mem_singleton] at hx; subst hx; dsimp only; omega
        have k58A := c58 A (by omega) hbA (by omega)
        have k58B := c58 B (by omega) hbB (by omega)
        rw [hcA] at k58A
        rw [hcB] at k58B
        clear hA1 hB1 hcA hcB hone hnone hbA hbB
        (cbv; (try simp only [nc] at *); (try refine Chk.mk (by (try simp only [nc, allc0, allc1, allcE, allcI, Cn.p, and_true, true_and, decide_eq_true_eq, imp_self, List.length_cons, List.length_nil]); all_goals ((repeat' (first | apply And.intro | intro _)) <;> first | omega | rfl | exact Or.inl rfl | assumption | exact nb1 (by assumption) | exact nb2 (by assumption) | exact nb3 (by assumption) | exact nb4 (by assumption) | decide | decide +kernel | (simp [*]; done))) ?_))
        refine call0 (k58A) (by first | rfl | (simp only [zoneA, bookA, lst_nt hnt]; rfl)) fun r h₂ hp => ?_
        (try simp only [zoneA, bookA, lst_nt hnt] at hp)
        obtain ⟨rfl, rfl⟩ := hp
        (cbv; (try simp only [nc] at *); (try refine Chk.mk (by (try simp only [nc, allc0, allc1, allcE, allcI, Cn.p, and_true, true_and, decide_eq_true_eq, imp_self, List.length_cons, List.length_nil]); all_goals ((repeat' (first | apply And.intro | intro _)) <;> first | omega | rfl | exact Or.inl rfl | assumption | exact nb1 (by assumption) | exact nb2 (by assumption) | exact nb3 (by assumption) | exact nb4 (by assumption) | decide | decide +kernel | (simp [*]; done))) ?_))
        refine Br.isT (by simp) ?_
        (cbv; (try simp only [nc] at *); (try refine Chk.mk (by (try simp only [nc, allc0, allc1, allcE, allcI, Cn.p, and_true, true_and, decide_eq_true_eq, imp_self, List.length_cons, List.length_nil]); all_goals ((repeat' (first | apply And.intro | intro _)) <;> first | omega | rfl | exact Or.inl rfl | assumption | exact nb1 (by assumption) | exact nb2 (by assumption) | exact nb3 (by assumption) | exact nb4 (by assumption) | decide | decide +kernel | (simp [*]; done))) ?_))
        refine call0 (k58B) (by first | rfl | (simp only [zoneA, bookA, lst_nt hnt]; rfl)) fun r h₂ hp => ?_
        (try simp only [zoneA, bookA, lst_nt hnt] at hp)
        obtain ⟨rfl, rfl⟩ := hp
        (cbv; try simp only [nc] at *)
        refine Chk.mk (by (try simp only [nc, allc0, allc1, allcE, allcI, Cn.p, and_true, true_and, decide_eq_true_eq, imp_self, List.length_cons, List.length_nil]); all_goals ((repeat' (first | apply And.intro | intro _)) <;> first | omega | rfl | exact Or.inl rfl | assumption | exact nb1 (by assumption) | exact nb2 (by assumption) | exact nb3 (by assumption) | exact nb4 (by assumption) | exact nb5 (by assumption) (by assumption) | exact nb6 (by assumption) (by assumption) | (rename_i h; have h2 := eq_of_beq h; omega) | exact decide_eq_false (by omega) | exact decide_eq_true (by omega) | decide | decide +kernel | (simp [*]; done))) (Br.isT ?_ ?_)
        · by_cases hpos : 0 < (nt Chg default z.chs 0).by_
          · simp [hpos]; omega
          · simp [hpos]; omega
        · (cbv; (try simp only [nc] at *); (try refine Chk.mk (by (try simp only [nc, allc0, allc1, allcE, allcI, Cn.p, and_true, true_and, decide_eq_true_eq, imp_self, List.length_cons, List.length_nil]); all_goals ((repeat' (first | apply And.intro | intro _)) <;> first | omega | rfl | exact Or.inl rfl | assumption | exact nb1 (by assumption) | exact nb2 (by assumption) | exact nb3 (by assumption) | exact nb4 (by assumption) | decide | decide +kernel | (simp [*]; done))) ?_))
          refine call0 (c18) (by first | rfl | (simp only [zoneA, bookA, lst_nt hnt]; rfl)) fun r h₂ hp => ?_
          (try simp only [zoneA, bookA, lst_nt hnt] at hp)
          obtain ⟨rfl, rfl⟩ := hp
          (cbv; try simp only [nc] at *)
          congr 1
          funext _
          have h1 : (if 0 < (nt Chg default z.chs 0).by_ then (0:Int) else - (nt Chg default z.chs 0).by_) = (if 0 < 0 - (nt Chg default z.chs 0).by_ then 0 - (nt Chg default z.chs 0).by_ else 0) := by
            by_cases hpos : 0 < (nt Chg default z.chs 0).by_
            · rw [if_pos hpos, if_neg (by omega)]
            · rw [if_neg hpos]
              by_cases hz : 0 < 0 - (nt Chg default z.chs 0).by_
              · rw [if_pos hz]; omega
              · rw [if_neg hz]; omega
          simp only [h1, beq_self_eq_true, Bool.cond_true, Bool.cond_self]
      · have hlast : (bif decide (0 < (z.chs.length : Int)) then true else ((A.length : Int) + (B.length : Int) == 0)) = true := by
          by_cases h : z.chs.length = 0
          · have := hnone h; simp [h, this.1, this.2]
          · rw [decide_eq_true (by omega)]; rfl
        (cbv; try simp only [nc] at *)
        refine Chk.mk (by (try simp only [nc, allc0, allc1, allcE, allcI, Cn.p, and_true, true_and, decide_eq_true_eq, imp_self, List.length_cons, List.length_nil]); all_goals ((repeat' (first | apply And.intro | intro _)) <;> first | omega | rfl | exact Or.inl rfl | assumption | exact nb1 (by assumption) | exact nb2 (by assumption) | exact nb3 (by assumption) | exact nb4 (by assumption) | exact nb5 (by assumption) (by assumption) | exact nb6 (by assumption) (by assumption) | (rename_i h; have h2 := eq_of_beq h; omega) | exact decide_eq_false (by omega) | exact decide_eq_true (by omega) | decide | decide +kernel | (simp [*]; done))) ?_
        refine Br.isT hlast ?_
        (cbv; (try simp only [nc] at *); (try refine Chk.mk (by (try simp only [nc, allc0, allc1, allcE, allcI, Cn.p, and_true, true_and, decide_eq_true_eq, imp_self, List.length_cons, List.length_nil]); all_goals ((repeat' (first | apply And.intro | intro _)) <;> first | omega | rfl | exact Or.inl rfl | assumption | exact nb1 (by assumption) | exact nb2 (by assumption) | exact nb3 (by assumption) | exact nb4 (by assumption) | decide | decide +kernel | (simp [*]; done))) ?_))
        refine call0 (c18) (by first | rfl | (simp only [zoneA, bookA, lst_nt hnt]; rfl)) fun r h₂ hp => ?_
        (try simp only [zoneA, bookA, lst_nt hnt] at hp)
        obtain ⟨rfl, rfl⟩ := hp
        (cbv; try simp only [nc] at *)
        congr 1
        funext _
        rw [hlast]
        rfl
end Go.Proofs.Ytlcgliadpalgfaa.Vm
