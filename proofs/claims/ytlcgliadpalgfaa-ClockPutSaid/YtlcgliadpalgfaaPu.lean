/- Plain: a set of numbers is one list of spans alone, if the spans are in order and apart. -/
import Derived.Test.YtlcgliadpalgfaaPs
set_option linter.unusedSimpArgs false
set_option linter.unusedVariables false
namespace Go.Proofs.Ytlcgliadpalgfaa.Sp

structure Can (l : List Span) : Prop where
  ok : ∀ x ∈ l, x.fr ≤ x.to_
  apart : l.Pairwise fun a b => a.to_ + 1 < b.fr

def InS (l : List Span) (n : Int) : Prop := ∃ x ∈ l, x.fr ≤ n ∧ n ≤ x.to_

theorem Can.tail {x : Span} {l : List Span} (h : Can (x :: l)) : Can l := ⟨fun y hy => h.ok y (List.mem_cons_of_mem _ hy), (List.pairwise_cons.1 h.apart).2⟩
theorem Can.behind {x : Span} {l : List Span} (h : Can (x :: l)) {n : Int} (hn : InS l n) : x.to_ + 1 < n := by
  obtain ⟨y, hy, h1, h2⟩ := hn
  have := (List.pairwise_cons.1 h.apart).1 y hy
  omega
theorem inS_cons {x : Span} {l : List Span} {n : Int} : InS (x :: l) n ↔ (x.fr ≤ n ∧ n ≤ x.to_) ∨ InS l n := by
  constructor
  · rintro ⟨y, hy, h⟩
    rcases List.mem_cons.1 hy with rfl | hy
    · exact .inl h
    · exact .inr ⟨y, hy, h⟩
  · rintro (h | ⟨y, hy, h⟩)
    · exact ⟨x, List.mem_cons_self .., h⟩
    · exact ⟨y, List.mem_cons_of_mem _ hy, h⟩

theorem can_eq : ∀ (l m : List Span), Can l → Can m → (∀ n, InS l n ↔ InS m n) → l = m
  | [], [], _, _, _ => rfl
  | [], y :: m, _, hm, h => by
    have h1 := hm.ok y (List.mem_cons_self ..)
    have h2 := (h y.fr).2 (inS_cons.2 (.inl ⟨by omega, h1⟩))
    obtain ⟨z, hz, _⟩ := h2
    cases hz
  | x :: l, [], hl, _, h => by
    have h1 := hl.ok x (List.mem_cons_self ..)
    have h2 := (h x.fr).1 (inS_cons.2 (.inl ⟨by omega, h1⟩))
    obtain ⟨z, hz, _⟩ := h2
    cases hz
  | x :: l, y :: m, hl, hm, h => by
    have hx := hl.ok x (List.mem_cons_self ..)
    have hy := hm.ok y (List.mem_cons_self ..)
    have lo : ∀ {a : Span} {k : List Span}, Can (a :: k) → ∀ n, InS (a :: k) n → a.fr ≤ n := fun ha n hn => by
      have := ha.ok _ (List.mem_cons_self ..)
      rcases inS_cons.1 hn with h | h
      · exact h.1
      · have := ha.behind h; omega
    have e1 : x.fr = y.fr := by
      have a1 := lo hm _ ((h x.fr).1 (inS_cons.2 (.inl ⟨by omega, hx⟩)))
      have a2 := lo hl _ ((h y.fr).2 (inS_cons.2 (.inl ⟨by omega, hy⟩)))
      omega
    have e2 : x.to_ = y.to_ := by
      rcases Int.lt_trichotomy x.to_ y.to_ with hlt | heq | hgt
      · have a1 := (h (x.to_ + 1)).2 (inS_cons.2 (.inl ⟨by omega, by omega⟩))
        rcases inS_cons.1 a1 with a | a
        · omega
        · have := hl.behind a; omega
      · exact heq
      · have a1 := (h (y.to_ + 1)).1 (inS_cons.2 (.inl ⟨by omega, by omega⟩))
        rcases inS_cons.1 a1 with a | a
        · omega
        · have := hm.behind a; omega
    have e3 : l = m := can_eq l m hl.tail hm.tail fun n => by
      constructor
      · intro hn
        have b := hl.behind hn
        rcases inS_cons.1 ((h n).1 (inS_cons.2 (.inr hn))) with a | a
        · omega
        · exact a
      · intro hn
        have b := hm.behind hn
        rcases inS_cons.1 ((h n).2 (inS_cons.2 (.inr hn))) with a | a
        · omega
        · exact a
    obtain ⟨x1, x2⟩ := x
    obtain ⟨y1, y2⟩ := y
    simp only at e1 e2
    rw [e1, e2, e3]

/-- The reference's step: n is or is not a number that counts. -/
def refStep (q : Int → Bool) (out : List Span) (n : Int) : List Span :=
  if q n = false then out
  else match out.getLast? with
    | some x => if x.to_ = n - 1 then out.dropLast ++ [⟨x.fr, n⟩] else out ++ [⟨n, n⟩]
    | none => out ++ [⟨n, n⟩]
def refGo (q : Int → Bool) : Nat → Int → List Span → List Span
  | 0, _, out => out
  | k + 1, n, out => refGo q k (n + 1) (refStep q out n)

theorem inS_app {l m : List Span} {n : Int} : InS (l ++ m) n ↔ InS l n ∨ InS m n := by
  unfold InS
  simp only [List.mem_append, or_and_right, exists_or]

/-- What stands after the numbers below n. -/
structure RefAt (q : Int → Bool) (lo n : Int) (out : List Span) : Prop where
  can : Can out
  lt : ∀ x ∈ out, x.to_ < n
  eq : ∀ k, InS out k ↔ lo ≤ k ∧ k < n ∧ q k = true

theorem RefAt.step {q : Int → Bool} {lo n : Int} {out : List Span} (h : RefAt q lo n out) (hn : lo ≤ n) : RefAt q lo (n + 1) (refStep q out n) := by
  unfold refStep
  split
  · rename_i hq
    refine ⟨h.can, fun x hx => by have := h.lt x hx; omega, fun k => ?_⟩
    rw [h.eq k]
    constructor
    · rintro ⟨a, b, c⟩; exact ⟨a, by omega, c⟩
    · rintro ⟨a, b, c⟩
      refine ⟨a, ?_, c⟩
      by_cases hk : k = n
      · subst hk; rw [hq] at c; cases c
      · omega
  rename_i hq
  have hq : q n = true := by cases hh : q n; exact absurd hh hq; rfl
  have add : ∀ (hno : ∀ x ∈ out, x.to_ + 1 < n), RefAt q lo (n + 1) (out ++ [⟨n, n⟩]) := fun hno => by
    refine ⟨⟨fun x hx => ?_, ?_⟩, fun x hx => ?_, fun k => ?_⟩
    · rcases List.mem_append.1 hx with hx | hx
      · exact h.can.ok x hx
      · simp only [List.mem_singleton] at hx; subst hx; exact Int.le_refl _
    · refine List.pairwise_append.2 ⟨h.can.apart, List.pairwise_singleton _ _, fun a ha b hb => ?_⟩
      simp only [List.mem_singleton] at hb; subst hb; exact hno a ha
    · rcases List.mem_append.1 hx with hx | hx
      · have := h.lt x hx; omega
      · simp only [List.mem_singleton] at hx; subst hx; show n < n + 1; omega
    · rw [inS_app, h.eq k]
      constructor
      · rintro (⟨a, b, c⟩ | ⟨x, hx, a, b⟩)
        · exact ⟨a, by omega, c⟩
        · simp only [List.mem_singleton] at hx; subst hx
          have : k = n := Int.le_antisymm b a
          subst this; exact ⟨hn, by omega, hq⟩
      · rintro ⟨a, b, c⟩
        by_cases hk : k = n
        · subst hk; exact .inr ⟨⟨k, k⟩, List.mem_singleton.2 rfl, Int.le_refl _, Int.le_refl _⟩
        · exact .inl ⟨a, by omega, c⟩
  split
  · rename_i x hx
    obtain ⟨o, rfl⟩ : ∃ o, out = o ++ [x] := by
      obtain ⟨o, ho⟩ := List.getLast?_eq_some_iff.1 hx
      exact ⟨o, ho⟩
    have hap := List.pairwise_append.1 h.can.apart
    split
    · rename_i ht
      rw [List.dropLast_concat]
      have hxo := h.can.ok x (List.mem_append_right _ (List.mem_singleton.2 rfl))
      refine ⟨⟨fun y hy => ?_, ?_⟩, fun y hy => ?_, fun k => ?_⟩
      · rcases List.mem_append.1 hy with hy | hy
        · exact h.can.ok y (List.mem_append_left _ hy)
        · simp only [List.mem_singleton] at hy; subst hy; show x.fr ≤ n; omega
      · refine List.pairwise_append.2 ⟨hap.1, List.pairwise_singleton _ _, fun a ha b hb => ?_⟩
        simp only [List.mem_singleton] at hb; subst hb
        exact hap.2.2 a ha x (List.mem_singleton.2 rfl)
      · rcases List.mem_append.1 hy with hy | hy
        · have := h.lt y (List.mem_append_left _ hy); omega
        · simp only [List.mem_singleton] at hy; subst hy; show n < n + 1; omega
      · have hk := h.eq k
        rw [inS_app] at hk ⊢
        constructor
        · rintro (a | ⟨y, hy, a, b⟩)
          · have := hk.1 (.inl a); exact ⟨this.1, by omega, this.2.2⟩
          · simp only [List.mem_singleton] at hy; subst hy
            by_cases hkn : k = n
            · subst hkn; exact ⟨hn, by omega, hq⟩
            · have b : k ≤ n := b
              have := hk.1 (.inr ⟨x, List.mem_singleton.2 rfl, a, by omega⟩)
              exact ⟨this.1, by omega, this.2.2⟩
        · rintro ⟨a, b, c⟩
          by_cases hkn : k = n
          · subst hkn; exact .inr ⟨⟨x.fr, k⟩, List.mem_singleton.2 rfl, by show x.fr ≤ k; omega, Int.le_refl _⟩
          · rcases hk.2 ⟨a, by omega, c⟩ with d | ⟨y, hy, d, e⟩
            · exact .inl d
            · simp only [List.mem_singleton] at hy; subst hy
              exact .inr ⟨⟨y.fr, n⟩, List.mem_singleton.2 rfl, d, by show k ≤ n; omega⟩
    · rename_i ht
      refine add fun y hy => ?_
      rcases List.mem_append.1 hy with hy1 | hy1
      · have := hap.2.2 y hy1 x (List.mem_singleton.2 rfl)
        have := h.can.ok x (List.mem_append_right _ (List.mem_singleton.2 rfl))
        have := h.lt x (List.mem_append_right _ (List.mem_singleton.2 rfl))
        omega
      · simp only [List.mem_singleton] at hy1; subst hy1
        have := h.lt y hy
        omega
  · rename_i hx
    have : out = [] := List.getLast?_eq_none_iff.1 hx
    subst this
    exact add fun y hy => by cases hy

theorem refGo_at {q : Int → Bool} {lo : Int} : ∀ (k : Nat) (n : Int) (out : List Span), lo ≤ n → RefAt q lo n out → RefAt q lo (n + k) (refGo q k n out)
  | 0, n, out, _, h => by simpa [refGo] using h
  | k + 1, n, out, hn, h => by
    have := refGo_at k (n + 1) _ (by omega) (h.step hn)
    unfold refGo
    rwa [show n + ((k + 1 : Nat) : Int) = n + 1 + (k : Int) by omega]
theorem ref_start (q : Int → Bool) (lo : Int) : RefAt q lo lo [] := ⟨⟨by simp, .nil⟩, by simp, fun k => by
  constructor
  · rintro ⟨x, hx, _⟩; cases hx
  · rintro ⟨a, b, _⟩; omega⟩
end Go.Proofs.Ytlcgliadpalgfaa.Sp
