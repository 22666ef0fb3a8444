/- Plain: the program's spans are in order and apart. -/
import Derived.Test.YtlcgliadpalgfaaPu
set_option linter.unusedSimpArgs false
set_option linter.unusedVariables false
namespace Go.Proofs.Ytlcgliadpalgfaa.Sp

theorem inS_iff {l : List Span} {n : Int} : Vm.inS l n = true ↔ InS l n := by
  unfold Vm.inS InS
  simp [List.any_eq_true]

/-- One more span behind. -/
theorem Can.add {out : List Span} {a b : Int} (h : Can out) (hab : a ≤ b) (hno : ∀ x ∈ out, x.to_ + 1 < a) : Can (out ++ [⟨a, b⟩]) := by
  refine ⟨fun x hx => ?_, ?_⟩
  · rcases List.mem_append.1 hx with hx | hx
    · exact h.ok x hx
    · simp only [List.mem_singleton] at hx; subst hx; exact hab
  · refine List.pairwise_append.2 ⟨h.apart, List.pairwise_singleton _ _, fun x hx y hy => ?_⟩
    simp only [List.mem_singleton] at hy; subst hy; exact hno x hx

theorem step_can {l : List Pc} {q : Int → Bool} {out : List Span} {lo hi : Int} (hle : lo ≤ hi) (h : Can out) (hlt : ∀ x ∈ out, x.to_ < lo) : Can (spanStep l q out lo hi) ∧ ∀ x ∈ spanStep l q out lo hi, x.to_ < hi := by
  unfold spanStep
  split
  · exact ⟨h, fun x hx => by have := hlt x hx; omega⟩
  rename_i hq
  have hne : lo < hi := by
    rcases Int.lt_or_eq_of_le hle with h1 | h1
    · exact h1
    · exact absurd (Or.inl h1.symm) hq
  have add : (∀ x ∈ out, x.to_ + 1 < lo) → Can (out ++ [⟨lo, hi - 1⟩]) ∧ ∀ x ∈ out ++ [⟨lo, hi - 1⟩], x.to_ < hi := fun hno => by
    refine ⟨h.add (by omega) hno, fun x hx => ?_⟩
    rcases List.mem_append.1 hx with hx | hx
    · have := hlt x hx; omega
    · simp only [List.mem_singleton] at hx; subst hx; show hi - 1 < hi; omega
  split
  · rename_i x hx
    obtain ⟨o, rfl⟩ : ∃ o, out = o ++ [x] := List.getLast?_eq_some_iff.1 hx
    have hap := List.pairwise_append.1 h.apart
    have hxo := h.ok x (List.mem_append_right _ (List.mem_singleton.2 rfl))
    have hxl := hlt x (List.mem_append_right _ (List.mem_singleton.2 rfl))
    split
    · rename_i ht
      rw [List.dropLast_concat]
      have ho : Can o := ⟨fun y hy => h.ok y (List.mem_append_left _ hy), hap.1⟩
      refine ⟨ho.add (by omega) fun y hy => hap.2.2 y hy x (List.mem_singleton.2 rfl), fun y hy => ?_⟩
      rcases List.mem_append.1 hy with hy | hy
      · have := hlt y (List.mem_append_left _ hy); omega
      · simp only [List.mem_singleton] at hy; subst hy; show hi - 1 < hi; omega
    · rename_i ht
      refine add fun y hy => ?_
      rcases List.mem_append.1 hy with hy1 | hy1
      · have := hap.2.2 y hy1 x (List.mem_singleton.2 rfl)
        omega
      · simp only [List.mem_singleton] at hy1; subst hy1
        omega
  · rename_i hx
    have : out = [] := List.getLast?_eq_none_iff.1 hx
    subst this
    exact add fun y hy => by cases hy

theorem go_can {l : List Pc} {q : Int → Bool} : ∀ (S : List Int) (out : List Span), S.Pairwise (· ≤ ·) → Can out → (∀ x ∈ out, ∀ s ∈ S.head?, x.to_ < s) → Can (spansGo l q out S)
  | [], out, _, h, _ => by unfold spansGo; exact h
  | [a], out, _, h, _ => by rw [spansGo_one]; exact h
  | a :: b :: r, out, hs, h, hlt => by
    have h1 := List.pairwise_cons.1 hs
    obtain ⟨g1, g2⟩ := step_can (l := l) (q := q) (h1.1 b (List.mem_cons_self ..)) h (fun x hx => hlt x hx a rfl)
    rw [spansGo]
    exact go_can (b :: r) _ h1.2 g1 fun x hx s hs => by
      simp only [List.head?_cons, Option.mem_def, Option.some.injEq] at hs
      subst hs; exact g2 x hx
end Go.Proofs.Ytlcgliadpalgfaa.Sp
