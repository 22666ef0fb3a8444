/- Plain: hours that are skipped or doubled. -/
import Derived.Test.YtlcgliadpalgfaaKk
import Derived.Test.YtlcgliadpalgfaaFd
set_option linter.unusedSimpArgs false
set_option linter.unusedVariables false
namespace Go.Proofs.Ytlcgliadpalgfaa.Vm
open Sp

/-- Sorted up to a place, but for the element at j. -/
structure SortB (k j : Nat) (M : List Int) : Prop where
  a : ∀ x y, x < y → y ≤ k → x ≠ j → y ≠ j → M.getD x 0 ≤ M.getD y 0
  b : ∀ y, j < y → y ≤ k → M.getD j 0 ≤ M.getD y 0

theorem sink_sorted {k : Nat} : ∀ (j : Nat) (M : List Int), j ≤ k → k < M.length → SortB k j M → ∀ x y, x < y → y ≤ k → (sink j M).getD x 0 ≤ (sink j M).getD y 0
  | 0, M, _, _, h, x, y, hxy, hy => by
    show M.getD x 0 ≤ M.getD y 0
    by_cases hx : x = 0
    · subst hx; exact h.b y hxy hy
    · exact h.a x y hxy hy hx (by omega)
  | j + 1, M, hj, hk, h, x, y, hxy, hy => by
    unfold sink
    split
    · rename_i hlt
      refine sink_sorted j _ (by omega) (by simpa using hk) ⟨fun x y hxy hy hx hy' => ?_, fun y hy hyk => ?_⟩ x y hxy hy
      · rw [swap_getD (by omega) (by omega), swap_getD (by omega) (by omega), if_neg hx, if_neg hy']
        by_cases hx1 : x = j + 1
        · rw [if_pos hx1, if_neg (by omega)]
          exact h.a j y (by omega) hy (by omega) (by omega)
        · rw [if_neg hx1]
          by_cases hy1 : y = j + 1
          · rw [if_pos hy1]
            exact h.a x j (by omega) (by omega) (by omega) (by omega)
          · rw [if_neg hy1]
            exact h.a x y hxy hy (by omega) (by omega)
      · rw [swap_getD (by omega) (by omega), swap_getD (by omega) (by omega), if_pos rfl, if_neg (by omega)]
        by_cases hy1 : y = j + 1
        · rw [if_pos hy1]; omega
        · rw [if_neg hy1]
          exact h.b y (by omega) hyk
    · rename_i hge
      by_cases hx : x = j + 1
      · subst hx; exact h.b y hxy hy
      · by_cases hy1 : y = j + 1
        · subst hy1
          have : M.getD j 0 ≤ M.getD (j + 1) 0 := by omega
          by_cases hxj : x = j
          · subst hxj; exact this
          · have := h.a x j (by omega) (by omega) hx (by omega)
            omega
        · exact h.a x y hxy hy hx hy1

theorem sink_has {e : Int} : ∀ (j : Nat) (M : List Int), j < M.length → (∃ i, i < M.length ∧ M.getD i 0 = e) → ∃ i, i < (sink j M).length ∧ (sink j M).getD i 0 = e
  | 0, M, _, h => h
  | j + 1, M, hj, ⟨i, hi, he⟩ => by
    unfold sink
    split
    · refine sink_has j _ (by simp; omega) ⟨if i = j then j + 1 else if i = j + 1 then j else i, by simp only [List.length_set]; split <;> (try split) <;> omega, ?_⟩
      rw [swap_getD (by omega) (by omega)]
      by_cases h1 : i = j
      · rw [if_pos h1, if_neg (by omega), if_pos rfl, ← h1]; exact he
      · rw [if_neg h1]
        by_cases h2 : i = j + 1
        · rw [if_pos h2, if_pos rfl, ← h2]; exact he
        · rw [if_neg h2, if_neg h1, if_neg h2]; exact he
    · exact ⟨i, hi, he⟩

theorem isortGo_ok : ∀ (q i : Nat) (M : List Int), 1 ≤ i → i + q = M.length → (∀ x y, x < y → y < i → M.getD x 0 ≤ M.getD y 0) →
    (∀ x y, x < y → y < M.length → (isortGo q i M).getD x 0 ≤ (isortGo q i M).getD y 0) ∧ ∀ e, (∃ k, k < M.length ∧ M.getD k 0 = e) → ∃ k, k < M.length ∧ (isortGo q i M).getD k 0 = e
  | 0, i, M, _, hq, h => ⟨fun x y hxy hy => h x y hxy (by omega), fun e he => he⟩
  | q + 1, i, M, hi, hq, h => by
    have hs := sink_sorted (k := i) i M (Nat.le_refl _) (by omega) ⟨fun x y hxy hy hx hy' => h x y hxy (by omega), fun y hy hyk => by omega⟩
    have hl := sink_length i M
    obtain ⟨i1, i2⟩ := isortGo_ok q (i + 1) (sink i M) (by omega) (by omega) (fun x y hxy hy => hs x y hxy (by omega))
    rw [hl] at i1 i2
    refine ⟨i1, fun e he => i2 e ?_⟩
    obtain ⟨k, hk1, hk2⟩ := sink_has i M (by omega) he
    exact ⟨k, by omega, hk2⟩

/-- Sorting. -/
theorem isort_ok {M : List Int} (h : 1 ≤ M.length) : (∀ x y, x < y → y < M.length → (isort M).getD x 0 ≤ (isort M).getD y 0) ∧ ∀ e ∈ M, ∃ k, k < M.length ∧ (isort M).getD k 0 = e := by
  obtain ⟨a, b⟩ := isortGo_ok (M.length - 1) 1 M (by omega) (by omega) (fun x y hxy hy => by omega)
  refine ⟨a, fun e he => b e ?_⟩
  obtain ⟨i, hi, rfl⟩ := List.mem_iff_getElem.1 he
  exact ⟨i, hi, by rw [List.getD_eq_getElem?_getD, List.getElem?_eq_getElem hi]; rfl⟩

theorem last_split {α : Type} {out : List α} {x : α} (h : out.getLast? = some x) : out.dropLast ++ [x] = out := by
  obtain ⟨ys, rfl⟩ := List.getLast?_eq_some_iff.1 h
  simp

theorem sink_from : ∀ (j : Nat) (M : List Int), j < M.length → ∀ k, k < M.length → ∃ k', k' < M.length ∧ (sink j M).getD k 0 = M.getD k' 0
  | 0, M, _, k, hk => ⟨k, hk, rfl⟩
  | j + 1, M, hj, k, hk => by
    unfold sink
    split
    · obtain ⟨k', h1, h2⟩ := sink_from j ((M.set (j + 1) (M.getD j 0)).set j (M.getD (j + 1) 0)) (by simp; omega) k (by simpa using hk)
      rw [swap_getD (by omega) (by omega)] at h2
      exact ⟨_, by simp only [List.length_set] at h1; split <;> (try split) <;> omega, h2⟩
    · exact ⟨k, hk, rfl⟩
theorem isortGo_from : ∀ (q i : Nat) (M : List Int), i + q = M.length → ∀ k, k < M.length → ∃ k', k' < M.length ∧ (isortGo q i M).getD k 0 = M.getD k' 0
  | 0, i, M, _, k, hk => ⟨k, hk, rfl⟩
  | q + 1, i, M, hq, k, hk => by
    have hl := sink_length i M
    obtain ⟨k', h1, h2⟩ := isortGo_from q (i + 1) (sink i M) (by omega) k (by omega)
    obtain ⟨k'', h3, h4⟩ := sink_from i M (by omega) k' (by omega)
    exact ⟨k'', h3, by rw [isortGo, h2, h4]⟩
theorem isort_mem {M : List Int} (h : 1 ≤ M.length) : ∀ x ∈ isort M, x ∈ M := fun x hx => by
  obtain ⟨k, hk, rfl⟩ := mem_getD (d := (0 : Int)) hx
  rw [isort_length] at hk
  obtain ⟨k', h1, h2⟩ := isortGo_from (M.length - 1) 1 M (by omega) k hk
  show (isortGo (M.length - 1) 1 M).getD k 0 ∈ M
  rw [h2, List.getD_eq_getElem?_getD, List.getElem?_eq_getElem h1]
  exact List.getElem_mem _

def inS (l : List Sp.Span) (n : Int) : Bool := l.any fun x => decide (x.fr ≤ n) && decide (n ≤ x.to_)

theorem inS_app (l l' : List Sp.Span) (n : Int) : inS (l ++ l') n = (inS l n || inS l' n) := by simp [inS]

theorem spanStep_in {l : List Pc} {q : Int → Bool} {out : List Sp.Span} {lo hi : Int} (hle : lo ≤ hi) (hf : ∀ x ∈ out, x.fr ≤ x.to_) (n : Int) :
    inS (spanStep l q out lo hi) n = (inS out n || (decide (lo ≤ n) && decide (n < hi) && q (times l lo))) := by
  unfold spanStep
  split
  · rename_i h
    have : (decide (lo ≤ n) && decide (n < hi) && q (times l lo)) = false := by
      rcases h with h | h
      · by_cases h1 : lo ≤ n
        · rw [decide_eq_false (show ¬ n < hi by omega)]; simp
        · rw [decide_eq_false h1]; simp
      · rw [h]; simp
    rw [this, Bool.or_false]
  · rename_i h
    simp only [not_or, Bool.not_eq_false] at h
    rw [h.2, Bool.and_true]
    have key : ∀ x : Sp.Span, x.fr = lo → x.to_ = hi - 1 → inS [x] n = (decide (lo ≤ n) && decide (n < hi)) := fun x h1 h2 => by
      simp only [inS, List.any_cons, List.any_nil, Bool.or_false, h1, h2]
      congr 1
      rw [decide_eq_decide]
      omega
    split
    · rename_i x hx
      split
      · rename_i hto
        have ho : out = out.dropLast ++ [x] := (last_split hx).symm
        have hfx := hf x (by rw [ho]; simp)
        rw [inS_app]
        conv => rhs; rw [ho, inS_app]
        rw [Bool.or_assoc]
        congr 1
        simp only [inS, List.any_cons, List.any_nil, Bool.or_false]
        rw [Bool.eq_iff_iff]
        simp
        omega
      · rw [inS_app, key _ rfl rfl]
    · rw [inS_app, key _ rfl rfl]

theorem spanStep_ok {l : List Pc} {q : Int → Bool} {out : List Sp.Span} {lo hi : Int} (hle : lo ≤ hi) (hf : ∀ x ∈ out, x.fr ≤ x.to_) : ∀ x ∈ spanStep l q out lo hi, x.fr ≤ x.to_ := by
  unfold spanStep
  split
  · exact hf
  · rename_i h
    simp only [not_or, Bool.not_eq_false] at h
    split
    · rename_i y hy
      split
      · rename_i hto
        have ho : out = out.dropLast ++ [y] := (last_split hy).symm
        intro x hx
        rcases List.mem_append.1 hx with hx | hx
        · exact hf x (by rw [ho]; exact List.mem_append_left _ hx)
        · simp only [List.mem_singleton] at hx
          subst hx
          have := hf y (by rw [ho]; simp)
          dsimp only
          omega
      · intro x hx
        rcases List.mem_append.1 hx with hx | hx
        · exact hf x hx
        · simp only [List.mem_singleton] at hx
          subst hx
          dsimp only
          omega
    · intro x hx
      rcases List.mem_append.1 hx with hx | hx
      · exact hf x hx
      · simp only [List.mem_singleton] at hx
        subst hx
        dsimp only
        omega

theorem times_const {S : List Int} : ∀ {l : List Pc}, (∀ p ∈ l, p.fr + p.ahd ∈ S ∧ p.bef + p.ahd ∈ S) → ∀ {a b n : Int}, (∀ e ∈ S, e ≤ a ∨ b ≤ e) → a ≤ n → n < b → times l n = times l a
  | [], _, _, _, _, _, _, _ => rfl
  | p :: l, h, a, b, n, hs, h1, h2 => by
    have hp := h p (List.mem_cons_self ..)
    have e1 := hs _ hp.1
    have e2 := hs _ hp.2
    simp only [times]
    rw [times_const (fun p hp => h p (List.mem_cons_of_mem _ hp)) hs h1 h2]
    congr 1
    by_cases hc : p.fr + p.ahd ≤ a ∧ a < p.bef + p.ahd
    · rw [if_pos hc, if_pos (by omega)]
    · rw [if_neg hc, if_neg (by omega)]

theorem spansGo_in {l : List Pc} {q : Int → Bool} {S : List Int} (hS : S.Pairwise (· ≤ ·)) (hE : ∀ p ∈ l, p.fr + p.ahd ∈ S ∧ p.bef + p.ahd ∈ S) (n : Int) : ∀ (r : List Int) (a : Int) (pre : List Int) (out : List Sp.Span), S = pre ++ a :: r → (∀ x ∈ out, x.fr ≤ x.to_) →
    inS (spansGo l q out (a :: r)) n = (inS out n || (decide (a ≤ n) && decide (n < (a :: r).getLastD 0) && q (times l n)))
  | [], a, pre, out, _, _ => by
    rw [spansGo_one]
    have : (decide (a ≤ n) && decide (n < [a].getLastD 0) && q (times l n)) = false := by
      show (decide (a ≤ n) && decide (n < a) && q (times l n)) = false
      by_cases h : a ≤ n
      · rw [decide_eq_false (show ¬ n < a by omega)]; simp
      · rw [decide_eq_false h]; simp
    rw [this, Bool.or_false]
  | b :: r, a, pre, out, he, hf => by
    have hpw := hS
    rw [he] at hpw
    obtain ⟨g1, g2, g3⟩ := List.pairwise_append.1 hpw
    obtain ⟨g4, g5⟩ := List.pairwise_cons.1 g2
    obtain ⟨g6, g7⟩ := List.pairwise_cons.1 g5
    have hab : a ≤ b := g4 b (List.mem_cons_self ..)
    have hlast : b ≤ (b :: r).getLastD 0 := by
      have hm : (b :: r).getLastD 0 ∈ b :: r := by
        rw [List.getLastD_eq_getLast?, List.getLast?_eq_some_getLast (by simp)]
        exact List.getLast_mem _
      rcases List.mem_cons.1 hm with h | h
      · omega
      · exact g6 _ h
    have hsplit : ∀ e ∈ S, e ≤ a ∨ b ≤ e := fun e hm => by
      rw [he] at hm
      rcases List.mem_append.1 hm with hm | hm
      · exact .inl (g3 e hm a (List.mem_cons_self ..))
      · rcases List.mem_cons.1 hm with rfl | hm
        · exact .inl (Int.le_refl _)
        · rcases List.mem_cons.1 hm with rfl | hm
          · exact .inr (Int.le_refl _)
          · exact .inr (g6 e hm)
    show inS (spansGo l q (spanStep l q out a b) (b :: r)) n = _
    rw [spansGo_in hS hE n r b (pre ++ [a]) _ (by rw [he]; simp) (spanStep_ok hab hf), spanStep_in hab hf, Bool.or_assoc]
    congr 1
    have hl2 : (a :: b :: r).getLastD 0 = (b :: r).getLastD 0 := by simp [List.getLastD]
    rw [hl2]
    by_cases h1 : a ≤ n
    · by_cases h2 : n < b
      · rw [times_const hE hsplit h1 h2, decide_eq_true h1, decide_eq_true h2, decide_eq_false (show ¬ b ≤ n by omega), decide_eq_true (show n < (b :: r).getLastD 0 by omega)]
        simp
      · rw [decide_eq_true h1, decide_eq_false h2, decide_eq_true (show b ≤ n by omega)]
        simp
    · rw [decide_eq_false h1, decide_eq_false (show ¬ b ≤ n by omega)]
      simp

/-- Which readings a clock skips, or doubles. -/
theorem spans_in {z : Zone} {q : Int → Bool} (n : Int) : ∃ lo hi : Int, (lo ∈ ends (pieces z)) ∧ (∀ e ∈ ends (pieces z), lo ≤ e ∧ e ≤ hi) ∧ inS (spans z q) n = (decide (lo ≤ n) && decide (n < hi) && q (times (pieces z) n)) := by
  have hpl := (pcsGo_len z.chs 0 z.base).1
  have hel : 1 ≤ (ends (pieces z)).length := by
    unfold pieces
    generalize pcsGo 0 z.base z.chs = P at *
    cases P with
    | nil => simp at hpl
    | cons p P => simp [ends]
  obtain ⟨s1, s2⟩ := isort_ok hel
  have hlen := isort_length (ends (pieces z))
  have hmem := isort_mem hel
  have hpw : (isort (ends (pieces z))).Pairwise (· ≤ ·) := List.pairwise_iff_getElem.2 fun i j hi hj hij => by
    have := s1 i j hij (by omega)
    rw [List.getD_eq_getElem?_getD, List.getD_eq_getElem?_getD, List.getElem?_eq_getElem hi, List.getElem?_eq_getElem hj] at this
    exact this
  have hin : ∀ e ∈ ends (pieces z), e ∈ isort (ends (pieces z)) := fun e he => by
    obtain ⟨k, hk, rfl⟩ := s2 e he
    rw [List.getD_eq_getElem?_getD, List.getElem?_eq_getElem (by omega)]
    exact List.getElem_mem _
  have hE : ∀ p ∈ pieces z, p.fr + p.ahd ∈ isort (ends (pieces z)) ∧ p.bef + p.ahd ∈ isort (ends (pieces z)) := fun p hp =>
    ⟨hin _ (List.mem_flatMap.2 ⟨p, hp, by simp⟩), hin _ (List.mem_flatMap.2 ⟨p, hp, by simp⟩)⟩
  unfold spans
  generalize isort (ends (pieces z)) = S at *
  cases S with
  | nil => simp at hlen; omega
  | cons a r =>
    obtain ⟨g1, g2⟩ := List.pairwise_cons.1 hpw
    have hlast : ∀ e ∈ a :: r, e ≤ (a :: r).getLastD 0 := fun e he => by
      have hne : (a :: r) ≠ [] := by simp
      rw [List.getLastD_eq_getLast?, List.getLast?_eq_some_getLast hne, Option.getD_some]
      have hs : a :: r = (a :: r).dropLast ++ [(a :: r).getLast hne] := (last_split (List.getLast?_eq_some_getLast hne)).symm
      rw [hs] at hpw he
      rcases List.mem_append.1 he with he | he
      · have := (List.pairwise_append.1 hpw).2.2 e he _ (List.mem_singleton.2 rfl)
        exact this
      · simp only [List.mem_singleton] at he
        omega
    refine ⟨a, (a :: r).getLastD 0, hmem a (List.mem_cons_self ..), fun e he => ⟨?_, hlast e (hin e he)⟩, ?_⟩
    · rcases List.mem_cons.1 (hin e he) with rfl | h
      · exact Int.le_refl _
      · exact g1 e h
    · rw [spansGo_in hpw hE n r a [] [] rfl (fun x hx => by cases hx)]
      simp [inS]
end Go.Proofs.Ytlcgliadpalgfaa.Vm
