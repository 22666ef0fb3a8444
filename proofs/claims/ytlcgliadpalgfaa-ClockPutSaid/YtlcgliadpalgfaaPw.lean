/- Plain: the reference's spans are the program's. -/
import Derived.Test.YtlcgliadpalgfaaPv
import Derived.Test.YtlcgliadpalgfaaZg
set_option linter.unusedSimpArgs false
set_option linter.unusedVariables false
namespace Go.Proofs.Ytlcgliadpalgfaa.Vm
open Go Go.Proofs Sp

/-- Which readings a clock skips, or doubles. -/
theorem spans_in2 {z : Zone} {q : Int → Bool} (n : Int) : Sp.Can (spans z q) ∧ ∃ lo hi : Int, (lo ∈ ends (pieces z)) ∧ hi ∈ ends (pieces z) ∧ (∀ e ∈ ends (pieces z), lo ≤ e ∧ e ≤ hi) ∧ inS (spans z q) n = (decide (lo ≤ n) && decide (n < hi) && q (times (pieces z) n)) := by
  have hpl := (pcsGo_len z.chs 0 z.base).1
  have hel : 1 ≤ (ends (pieces z)).length := by
    unfold pieces
    generalize pcsGo 0 z.base z.chs = P at *
    cases P with
    | nil => simp at hpl
    | cons p P => simp [ends]
  obtain ⟨s1, s2⟩ := isort_ok hel
  have hlen := isort_length (ends (pieces z))
  have hmem := isort_mem hel
  have hpw : (isort (ends (pieces z))).Pairwise (· ≤ ·) := List.pairwise_iff_getElem.2 fun i j hi hj hij => by
    have := s1 i j hij (by omega)
    rw [List.getD_eq_getElem?_getD, List.getD_eq_getElem?_getD, List.getElem?_eq_getElem hi, List.getElem?_eq_getElem hj] at this
    exact this
  have hin : ∀ e ∈ ends (pieces z), e ∈ isort (ends (pieces z)) := fun e he => by
    obtain ⟨k, hk, rfl⟩ := s2 e he
    rw [List.getD_eq_getElem?_getD, List.getElem?_eq_getElem (by omega)]
    exact List.getElem_mem _
  have hE : ∀ p ∈ pieces z, p.fr + p.ahd ∈ isort (ends (pieces z)) ∧ p.bef + p.ahd ∈ isort (ends (pieces z)) := fun p hp =>
    ⟨hin _ (List.mem_flatMap.2 ⟨p, hp, by simp⟩), hin _ (List.mem_flatMap.2 ⟨p, hp, by simp⟩)⟩
  unfold spans
  generalize isort (ends (pieces z)) = S at *
  cases S with
  | nil => simp at hlen; omega
  | cons a r =>
    obtain ⟨g1, g2⟩ := List.pairwise_cons.1 hpw
    have hlast : ∀ e ∈ a :: r, e ≤ (a :: r).getLastD 0 := fun e he => by
      have hne : (a :: r) ≠ [] := by simp
      rw [List.getLastD_eq_getLast?, List.getLast?_eq_some_getLast hne, Option.getD_some]
      have hs : a :: r = (a :: r).dropLast ++ [(a :: r).getLast hne] := (last_split (List.getLast?_eq_some_getLast hne)).symm
      rw [hs] at hpw he
      rcases List.mem_append.1 he with he | he
      · have := (List.pairwise_append.1 hpw).2.2 e he _ (List.mem_singleton.2 rfl)
        exact this
      · simp only [List.mem_singleton] at he
        omega
    refine ⟨go_can _ _ hpw ⟨by simp, .nil⟩ (by simp), a, (a :: r).getLastD 0, hmem a (List.mem_cons_self ..), hmem _ (by rw [List.getLastD_eq_getLast?, List.getLast?_eq_some_getLast (by simp), Option.getD_some]; exact List.getLast_mem _), fun e he => ⟨?_, hlast e (hin e he)⟩, ?_⟩
    · rcases List.mem_cons.1 (hin e he) with rfl | h
      · exact Int.le_refl _
      · exact g1 e h
    · rw [spansGo_in hpw hE n r a [] [] rfl (fun x hx => by cases hx)]
      simp [inS]

theorem times_cnt {n : Int} : ∀ {l : List Pc}, (∀ p ∈ l, (p.bef = openT → n < openT + p.ahd) ∧ (p.bef ≠ openT → 0 ≤ p.bef)) → times l n = (cnt (l.map cl) n : Int)
  | [], _ => rfl
  | p :: l, h => by
    have ih := times_cnt (l := l) fun x hx => h x (List.mem_cons_of_mem _ hx)
    obtain ⟨h1, h2⟩ := h p (List.mem_cons_self ..)
    have e : hasP n (cl p) = decide (p.fr + p.ahd ≤ n ∧ n < p.bef + p.ahd) := by
      unfold hasP cl
      by_cases hb : p.bef = openT
      · rw [if_pos hb]
        have := h1 hb
        by_cases hf : p.fr + p.ahd ≤ n
        · rw [decide_eq_true (show p.fr + p.ahd ≤ n ∧ n < p.bef + p.ahd from ⟨hf, by omega⟩), decide_eq_true (show p.fr ≤ n - p.ahd by omega)]
          rfl
        · rw [decide_eq_false (show ¬ (p.fr + p.ahd ≤ n ∧ n < p.bef + p.ahd) by omega), decide_eq_false (show ¬ p.fr ≤ n - p.ahd by omega)]
          rfl
      · rw [if_neg hb]
        have := h2 hb
        rw [decide_eq_false (show ¬ p.bef < 0 by omega), Bool.false_or]
        by_cases hf : p.fr + p.ahd ≤ n
        · by_cases hg : n < p.bef + p.ahd
          · rw [decide_eq_true (show p.fr + p.ahd ≤ n ∧ n < p.bef + p.ahd from ⟨hf, hg⟩), decide_eq_true (show p.fr ≤ n - p.ahd by omega), decide_eq_true (show n - p.ahd < p.bef by omega)]
            rfl
          · rw [decide_eq_false (show ¬ (p.fr + p.ahd ≤ n ∧ n < p.bef + p.ahd) by omega), decide_eq_false (show ¬ n - p.ahd < p.bef by omega), Bool.and_false]
        · rw [decide_eq_false (show ¬ (p.fr + p.ahd ≤ n ∧ n < p.bef + p.ahd) by omega), decide_eq_false (show ¬ p.fr ≤ n - p.ahd by omega), Bool.false_and]
    show (if p.fr + p.ahd ≤ n ∧ n < p.bef + p.ahd then 1 else 0) + times l n = _
    rw [ih, List.map_cons]
    unfold cnt
    rw [List.filter_cons, e]
    by_cases hc : p.fr + p.ahd ≤ n ∧ n < p.bef + p.ahd
    · rw [if_pos hc, decide_eq_true hc, if_pos rfl, List.length_cons]; omega
    · rw [if_neg hc, decide_eq_false hc, if_neg Bool.false_ne_true]; omega

/-- Behind all ends but the open one, one instant alone reads a number. -/
theorem times_one {n : Int} : ∀ {l : List Pc} {k : Nat}, k < l.length → (∀ i (h : i < l.length), l[i].fr + l[i].ahd ≤ n ∧ (n < l[i].bef + l[i].ahd ↔ i = k)) → times l n = 1
  | [], k, hk, _ => by simp at hk
  | p :: l, k, hk, h => by
    have h0 := h 0 (by simp)
    simp only [List.getElem_cons_zero] at h0
    show (if p.fr + p.ahd ≤ n ∧ n < p.bef + p.ahd then 1 else 0) + times l n = _
    have none : ∀ {m : List Pc}, (∀ i (h : i < m.length), ¬ n < m[i].bef + m[i].ahd) → times m n = 0 := fun {m} => by
      induction m with
      | nil => intro _; rfl
      | cons a m ih =>
        intro hm
        have ha := hm 0 (by simp)
        simp only [List.getElem_cons_zero] at ha
        show (if a.fr + a.ahd ≤ n ∧ n < a.bef + a.ahd then 1 else 0) + times m n = 0
        rw [if_neg (by omega), ih fun i hi => by have := hm (i + 1) (by simpa using hi); simp only [List.getElem_cons_succ] at this; exact this]
        rfl
    cases k with
    | zero =>
      rw [if_pos ⟨h0.1, h0.2.2 rfl⟩, none fun i hi hc => by
        have := (h (i + 1) (by simpa using hi)).2.1 (by simpa using hc)
        omega]
      rfl
    | succ k =>
      rw [if_neg (fun hc => by have := h0.2.1 hc.2; omega), times_one (l := l) (k := k) (by simpa using hk) fun i hi => by
        have := h (i + 1) (by simpa using hi)
        simpa using this]
      rfl

/-- Where the reference begins and ends its search. -/
def lowF : Int → List Pc → Int
  | a, [] => a
  | a, p :: l => lowF (min a (p.fr + p.ahd)) l
def highF : Int → List Pc → Int
  | a, [] => a
  | a, p :: l => highF (max (max a (p.fr + p.ahd)) (p.bef + p.ahd)) l

theorem lowF_ok : ∀ (l : List Pc) (a : Int), lowF a l ≤ a ∧ (∀ p ∈ l, lowF a l ≤ p.fr + p.ahd) ∧ (lowF a l = a ∨ ∃ p ∈ l, lowF a l = p.fr + p.ahd)
  | [], a => ⟨Int.le_refl _, by simp, .inl rfl⟩
  | p :: l, a => by
    obtain ⟨h1, h2, h3⟩ := lowF_ok l (min a (p.fr + p.ahd))
    show lowF (min a (p.fr + p.ahd)) l ≤ a ∧ (∀ q ∈ p :: l, lowF (min a (p.fr + p.ahd)) l ≤ q.fr + q.ahd) ∧ (lowF (min a (p.fr + p.ahd)) l = a ∨ ∃ q ∈ p :: l, lowF (min a (p.fr + p.ahd)) l = q.fr + q.ahd)
    generalize lowF (min a (p.fr + p.ahd)) l = L at *
    refine ⟨by omega, fun q hq => ?_, ?_⟩
    · rcases List.mem_cons.1 hq with rfl | hq
      · omega
      · exact h2 q hq
    · rcases h3 with h3 | ⟨q, hq, h3⟩
      · by_cases h : a ≤ p.fr + p.ahd
        · exact .inl (by omega)
        · exact .inr ⟨p, List.mem_cons_self .., by omega⟩
      · exact .inr ⟨q, List.mem_cons_of_mem _ hq, h3⟩
theorem highF_ok : ∀ (l : List Pc) (a : Int), a ≤ highF a l ∧ (∀ p ∈ l, p.fr + p.ahd ≤ highF a l ∧ p.bef + p.ahd ≤ highF a l) ∧ (highF a l = a ∨ ∃ p ∈ l, highF a l = p.fr + p.ahd ∨ highF a l = p.bef + p.ahd)
  | [], a => ⟨Int.le_refl _, by simp, .inl rfl⟩
  | p :: l, a => by
    obtain ⟨h1, h2, h3⟩ := highF_ok l (max (max a (p.fr + p.ahd)) (p.bef + p.ahd))
    have e : highF a (p :: l) = highF (max (max a (p.fr + p.ahd)) (p.bef + p.ahd)) l := rfl
    rw [e]
    generalize highF (max (max a (p.fr + p.ahd)) (p.bef + p.ahd)) l = L at *
    refine ⟨Int.le_trans (Int.le_trans (Int.le_max_left ..) (Int.le_max_left ..)) h1, fun q hq => ?_, ?_⟩
    · clear h3 e
      rcases List.mem_cons.1 hq with rfl | hq
      · exact ⟨Int.le_trans (Int.le_trans (Int.le_max_right ..) (Int.le_max_left ..)) h1, Int.le_trans (Int.le_max_right ..) h1⟩
      · exact h2 q hq
    · rcases h3 with h3 | ⟨q, hq, h3⟩
      · by_cases h : p.fr + p.ahd ≤ a ∧ p.bef + p.ahd ≤ a
        · exact .inl (by omega)
        · refine .inr ⟨p, List.mem_cons_self .., ?_⟩
          omega
      · exact .inr ⟨q, List.mem_cons_of_mem _ hq, h3⟩

end Go.Proofs.Ytlcgliadpalgfaa.Vm
