/- Plain: who takes the next run of each leg comes no later than anybody else, if no run overtakes another one. -/
import Derived.Test.YtlcgliadpalgfaaRf
set_option linter.unusedSimpArgs false
set_option linter.unusedVariables false
namespace Go.Proofs.Ytlcgliadpalgfaa.Vm
open Sp

theorem leastGo_le2 : ∀ (l : List Sp.Ride) (i : Nat) (best : Sp.Ride), (∀ y ∈ l, (leastGo i best l).depart ≤ y.depart) ∧ (0 < i → (leastGo i best l).depart ≤ best.depart)
  | [], i, best => ⟨fun y hy => (by cases hy), fun _ => Int.le_refl _⟩
  | x :: r, i, best => by
    unfold leastGo
    obtain ⟨h1, h2⟩ := leastGo_le2 r (i + 1) (if i = 0 ∨ x.depart < best.depart then x else best)
    have h2 := h2 (by omega)
    have h3 : (if i = 0 ∨ x.depart < best.depart then x else best).depart ≤ x.depart ∧ (0 < i → (if i = 0 ∨ x.depart < best.depart then x else best).depart ≤ best.depart) := by
      split
      · exact ⟨Int.le_refl _, fun h => by omega⟩
      · exact ⟨by omega, fun _ => Int.le_refl _⟩
    refine ⟨fun y hy => ?_, fun h => by have := h3.2 h; omega⟩
    rcases List.mem_cons.1 hy with rfl | hy
    · omega
    · exact h1 y hy

/-- What is taken stands ahead of whatever else goes then. -/
theorem leastGo_first : ∀ (l : List Sp.Ride) (i : Nat) (best : Sp.Ride), leastGo i best l = best ∨ ∃ A B, l = A ++ leastGo i best l :: B ∧ ∀ y ∈ A, (leastGo i best l).depart < y.depart
  | [], i, best => .inl rfl
  | x :: r, i, best => by
    have e : leastGo i best (x :: r) = leastGo (i + 1) (if i = 0 ∨ x.depart < best.depart then x else best) r := rfl
    rw [e]
    by_cases hc : i = 0 ∨ x.depart < best.depart
    · rw [if_pos hc]
      rcases leastGo_first r (i + 1) x with h | ⟨A, B, h1, h2⟩
      · rw [h]
        exact .inr ⟨[], r, rfl, fun y hy => by cases hy⟩
      · refine .inr ?_
        by_cases hx : leastGo (i + 1) x r = x
        · rw [hx]
          exact ⟨[], r, rfl, fun y hy => by cases hy⟩
        · refine ⟨x :: A, B, by rw [List.cons_append, ← h1], fun y hy => ?_⟩
          rcases List.mem_cons.1 hy with rfl | hy
          · have hle := (leastGo_le2 r (i + 1) y).2 (by omega)
            rcases Int.lt_or_eq_of_le hle with h | h
            · exact h
            · exfalso
              exact hx (leastGo_keep r i y h)
          · exact h2 y hy
    · rw [if_neg hc]
      rcases leastGo_first r (i + 1) best with h | ⟨A, B, h1, h2⟩
      · exact .inl h
      · by_cases hb : leastGo (i + 1) best r = best
        · exact .inl hb
        · refine .inr ⟨x :: A, B, by rw [List.cons_append, ← h1], fun y hy => ?_⟩
          rcases List.mem_cons.1 hy with rfl | hy
          · have hle := (leastGo_le2 r (i + 1) best).2 (by omega)
            rcases Int.lt_or_eq_of_le hle with h | h
            · omega
            · exact absurd (leastGo_keep r i best h) hb
          · exact h2 y hy
where
  leastGo_keep : ∀ (r : List Sp.Ride) (i : Nat) (y : Sp.Ride), (leastGo (i + 1) y r).depart = y.depart → leastGo (i + 1) y r = y
  | [], i, y, _ => rfl
  | x :: r, i, y, h => by
    have e : leastGo (i + 1) y (x :: r) = leastGo (i + 1 + 1) (if i + 1 = 0 ∨ x.depart < y.depart then x else y) r := rfl
    rw [e] at h ⊢
    by_cases hc : i + 1 = 0 ∨ x.depart < y.depart
    · rw [if_pos hc] at h
      have := (leastGo_le2 r (i + 1 + 1) x).2 (by omega)
      omega
    · rw [if_neg hc] at h ⊢
      exact leastGo_keep r (i + 1) y h

/-- No ride overtakes another one. -/
def NoOver (R : List Sp.Ride) : Prop := ∀ k m, k < R.length → m < R.length → ((R.getD k default).depart < (R.getD m default).depart ∨ (R.getD k default).depart = (R.getD m default).depart ∧ k < m) → (R.getD k default).arrive ≤ (R.getD m default).arrive

theorem noOver_cons {x : Sp.Ride} {R : List Sp.Ride} (h : NoOver (x :: R)) : NoOver R := fun k m hk hm hc => by
  have := h (k + 1) (m + 1) (by simpa using hk) (by simpa using hm) (by simpa using hc)
  simpa using this

/-- What is taken comes first. -/
theorem least_arrive {R : List Sp.Ride} (h : NoOver R) {a : Int} (hne : (since a R).length ≠ 0) {y : Sp.Ride} (hy : y ∈ R) (hya : a ≤ y.depart) : (least (since a R)).arrive ≤ y.arrive := by
  have hys : y ∈ since a R := by unfold since; rw [List.mem_filter]; exact ⟨hy, by simp; omega⟩
  have hxm := least_mem (l := since a R) (by omega)
  have hle := (leastGo_le2 (since a R) 0 ⟨0, 0, 0⟩).1
  have hf : ∃ A B, since a R = A ++ least (since a R) :: B ∧ ∀ y ∈ A, (least (since a R)).depart < y.depart := by
    cases hS : since a R with
    | nil => rw [hS] at hne; exact absurd rfl hne
    | cons z r =>
      have e : least (z :: r) = leastGo 1 z r := rfl
      rw [e]
      rcases leastGo_first r 1 z with h1 | ⟨A, B, h1, h2⟩
      · rw [h1]; exact ⟨[], r, rfl, fun y hy => by cases hy⟩
      · by_cases hz : leastGo 1 z r = z
        · rw [hz]; exact ⟨[], r, rfl, fun y hy => by cases hy⟩
        · refine ⟨z :: A, B, by rw [List.cons_append, ← h1], fun y hy => ?_⟩
          rcases List.mem_cons.1 hy with rfl | hy
          · have hle := (leastGo_le2 r 1 y).2 (by omega)
            rcases Int.lt_or_eq_of_le hle with h | h
            · exact h
            · exact absurd (leastGo_first.leastGo_keep r 0 y h) hz
          · exact h2 y hy
  have hle := hle y hys
  change (least (since a R)).depart ≤ y.depart at hle
  obtain ⟨A, B, hAB, hA⟩ := hf
  generalize least (since a R) = x at *
  by_cases hxy : x = y
  · rw [hxy]; exact Int.le_refl _
  -- places of the two
  suffices H : ∃ k m, k < R.length ∧ m < R.length ∧ R.getD k default = x ∧ R.getD m default = y ∧ (x.depart < y.depart ∨ x.depart = y.depart ∧ k < m) by
    obtain ⟨k, m, h1, h2, rfl, rfl, h5⟩ := H
    exact h k m h1 h2 h5
  have hpl : ∀ z ∈ R, ∃ k, k < R.length ∧ R.getD k default = z := fun z hz => by
    obtain ⟨k, hk, rfl⟩ := List.mem_iff_getElem.1 hz
    exact ⟨k, hk, by rw [List.getD_eq_getElem?_getD, List.getElem?_eq_getElem hk]; rfl⟩
  have hxR : x ∈ R := (List.mem_filter.1 hxm).1
  rcases Int.lt_or_eq_of_le hle with hlt | heq
  · obtain ⟨k, hk, e1⟩ := hpl x hxR
    obtain ⟨m, hm, e2⟩ := hpl y hy
    exact ⟨k, m, hk, hm, e1, e2, .inl hlt⟩
  · -- y is behind x in what is left, so it is behind x in all
    have hyB : y ∈ B := by
      rw [hAB] at hys
      rcases List.mem_append.1 hys with h1 | h1
      · have := hA y h1; omega
      · rcases List.mem_cons.1 h1 with h1 | h1
        · exact absurd h1.symm hxy
        · exact h1
    have hsub : List.Sublist [x, y] R := by
      have h1 : List.Sublist [x, y] (since a R) := by
        rw [hAB]
        refine List.Sublist.trans ?_ (List.sublist_append_right A _)
        exact List.Sublist.cons_cons x (List.singleton_sublist.2 hyB)
      exact h1.trans List.filter_sublist
    obtain ⟨k, m, hkm, hm, e1, e2⟩ : ∃ k m, k < m ∧ m < R.length ∧ R.getD k default = x ∧ R.getD m default = y := pair_sub hsub
    exact ⟨k, m, by omega, hm, e1, e2, .inr ⟨heq, hkm⟩⟩
where
  pair_sub : ∀ {R : List Sp.Ride} {x y : Sp.Ride}, List.Sublist [x, y] R → ∃ k m, k < m ∧ m < R.length ∧ R.getD k default = x ∧ R.getD m default = y
  | z :: R, x, y, h => by
    cases h with
    | cons _ h =>
      obtain ⟨k, m, h1, h2, h3, h4⟩ := pair_sub h
      exact ⟨k + 1, m + 1, by omega, by simpa using h2, by simpa using h3, by simpa using h4⟩
    | cons_cons _ h =>
      have hy := List.singleton_sublist.1 h
      obtain ⟨m, hm, e⟩ := List.mem_iff_getElem.1 hy
      exact ⟨0, m + 1, by omega, by simpa using hm, rfl, by simp [List.getD_eq_getElem?_getD, List.getElem?_eq_getElem hm, e]⟩

/-- One more ride to choose. -/
def eStep (f : Int → Int) (a best : Int) (x : Sp.Ride) : Int := if a ≤ x.depart ∧ x.depart ≤ x.arrive then (if 0 ≤ f x.arrive ∧ (best < 0 ∨ f x.arrive < best) then f x.arrive else best) else best
/-- When somebody comes at the earliest, of all choices. -/
def early : List (List Sp.Ride) → Int → Int
  | [], a => a
  | R :: rest, a => R.foldl (eStep (early rest) a) (-1)
/-- When somebody comes who takes what goes next. -/
def greedy : List (List Sp.Ride) → Int → Option Int
  | [], a => some a
  | R :: rest, a => if (since a R).length = 0 then none else greedy rest (least (since a R)).arrive

theorem eFold_spec {f : Int → Int} {a : Int} : ∀ (R : List Sp.Ride) (w : Int), (0 ≤ w → 0 ≤ R.foldl (eStep f a) w ∧ R.foldl (eStep f a) w ≤ w) ∧ (∀ y ∈ R, a ≤ y.depart → y.depart ≤ y.arrive → 0 ≤ f y.arrive → 0 ≤ R.foldl (eStep f a) w ∧ R.foldl (eStep f a) w ≤ f y.arrive) ∧ (R.foldl (eStep f a) w = w ∨ ∃ y ∈ R, a ≤ y.depart ∧ 0 ≤ f y.arrive ∧ R.foldl (eStep f a) w = f y.arrive)
  | [], w => ⟨fun h => ⟨h, Int.le_refl _⟩, (fun y hy => by cases hy), .inl rfl⟩
  | x :: r, w => by
    rw [List.foldl_cons]
    obtain ⟨h1, h2, h3⟩ := eFold_spec (f := f) (a := a) r (eStep f a w x)
    have hs : eStep f a w x = w ∧ ¬ (a ≤ x.depart ∧ x.depart ≤ x.arrive ∧ 0 ≤ f x.arrive ∧ (w < 0 ∨ f x.arrive < w)) ∨ eStep f a w x = f x.arrive ∧ a ≤ x.depart ∧ x.depart ≤ x.arrive ∧ 0 ≤ f x.arrive ∧ (w < 0 ∨ f x.arrive < w) := by
      unfold eStep
      by_cases c1 : a ≤ x.depart ∧ x.depart ≤ x.arrive
      · rw [if_pos c1]
        by_cases c2 : 0 ≤ f x.arrive ∧ (w < 0 ∨ f x.arrive < w)
        · rw [if_pos c2]; exact .inr ⟨rfl, c1.1, c1.2, c2.1, c2.2⟩
        · rw [if_neg c2]; exact .inl ⟨rfl, fun h => c2 ⟨h.2.2.1, h.2.2.2⟩⟩
      · rw [if_neg c1]; exact .inl ⟨rfl, fun h => c1 ⟨h.1, h.2.1⟩⟩
    generalize eStep f a w x = v at *
    refine ⟨fun h => ?_, fun y hy y1 y2 y3 => ?_, ?_⟩
    · rcases hs with ⟨rfl, _⟩ | ⟨rfl, q⟩
      · exact h1 h
      · have := h1 (by omega); omega
    · rcases List.mem_cons.1 hy with rfl | hy
      · rcases hs with ⟨rfl, q⟩ | ⟨rfl, q⟩
        · have hw : 0 ≤ v ∧ v ≤ f y.arrive := by
            have : ¬ (v < 0 ∨ f y.arrive < v) := fun h => q ⟨y1, y2, y3, h⟩
            omega
          have := h1 hw.1; omega
        · exact h1 q.2.2.1
      · exact h2 y hy y1 y2 y3
    · rcases h3 with h3 | ⟨y, hy, h3⟩
      · rcases hs with ⟨rfl, _⟩ | ⟨rfl, q⟩
        · exact .inl h3
        · exact .inr ⟨x, List.mem_cons_self .., q.1, q.2.2.1, h3⟩
      · exact .inr ⟨y, List.mem_cons_of_mem _ hy, h3⟩

def Fine (R : List Sp.Ride) : Prop := NoOver R ∧ ∀ y ∈ R, 0 ≤ y.depart ∧ y.depart ≤ y.arrive

theorem greedy_mono : ∀ {all : List (List Sp.Ride)} {a a' : Int}, (∀ R ∈ all, Fine R) → a ≤ a' → (∀ n', greedy all a' = some n' → ∃ n, greedy all a = some n ∧ n ≤ n')
  | [], a, a', _, h, n', hn => by
    simp only [greedy, Option.some.injEq] at hn ⊢
    exact ⟨a, rfl, by omega⟩
  | R :: rest, a, a', hf, h, n', hn => by
    unfold greedy at hn ⊢
    by_cases h0 : (since a' R).length = 0
    · rw [if_pos h0] at hn; cases hn
    · rw [if_neg h0] at hn
      have hx' := List.mem_filter.1 (least_mem (l := since a' R) (by omega))
      have hd : a' ≤ (least (since a' R)).depart := by have := hx'.2; simp at this; exact this
      have h1 : (since a R).length ≠ 0 := by
        intro e
        have : (least (since a' R)) ∈ since a R := List.mem_filter.2 ⟨hx'.1, by simp; omega⟩
        rw [List.length_eq_zero_iff] at e
        rw [e] at this; cases this
      rw [if_neg h1]
      exact greedy_mono (fun Q hQ => hf Q (List.mem_cons_of_mem _ hQ)) (least_arrive (hf R (List.mem_cons_self ..)).1 h1 hx'.1 (by omega)) n' hn

theorem early_greedy : ∀ {all : List (List Sp.Ride)} {a : Int}, (∀ R ∈ all, Fine R) → 0 ≤ a → early all a = (greedy all a).getD (-1) ∧ ∀ n, greedy all a = some n → 0 ≤ n
  | [], a, _, h => ⟨rfl, fun n hn => by simp only [greedy, Option.some.injEq] at hn; omega⟩
  | R :: rest, a, hf, h => by
    have hfr : ∀ Q ∈ rest, Fine Q := fun Q hQ => hf Q (List.mem_cons_of_mem _ hQ)
    have hR := hf R (List.mem_cons_self ..)
    have ih := fun (t : Int) (ht : 0 ≤ t) => early_greedy (all := rest) (a := t) hfr ht
    obtain ⟨_, s2, s3⟩ := eFold_spec (f := early rest) (a := a) R (-1)
    have e : early (R :: rest) a = R.foldl (eStep (early rest) a) (-1) := rfl
    rw [e]
    unfold greedy
    by_cases h0 : (since a R).length = 0
    · rw [if_pos h0]
      refine ⟨?_, fun n hn => by cases hn⟩
      rcases s3 with s3 | ⟨y, hy, h1, _⟩
      · exact s3
      · exfalso
        have : y ∈ since a R := List.mem_filter.2 ⟨hy, by simp; omega⟩
        rw [List.length_eq_zero_iff] at h0
        rw [h0] at this; cases this
    · rw [if_neg h0]
      have hx := List.mem_filter.1 (least_mem (l := since a R) (by omega))
      have hxd : a ≤ (least (since a R)).depart := by have := hx.2; simp at this; exact this
      have hxa := hR.2 _ hx.1
      have hmin := fun y hy hya => least_arrive (y := y) hR.1 h0 hy hya
      generalize least (since a R) = x at *
      have ihx := ih x.arrive (by omega)
      refine ⟨?_, ihx.2⟩
      cases hg : greedy rest x.arrive with
      | some n =>
        have hn := ihx.2 n hg
        have hex : early rest x.arrive = n := by rw [ihx.1, hg]; rfl
        have hb := s2 x hx.1 hxd hxa.2 (by rw [hex]; exact hn)
        rw [hex] at hb
        show _ = n
        rcases s3 with s3 | ⟨y, hy, h1, h2, h3⟩
        · omega
        · have hya := hR.2 y hy
          have ihy := ih y.arrive (by omega)
          cases hgy : greedy rest y.arrive with
          | some n' =>
            obtain ⟨n2, g1, g2⟩ := greedy_mono hfr (hmin y hy h1) n' hgy
            rw [hg, Option.some.injEq] at g1
            rw [ihy.1, hgy] at h3
            change _ = n' at h3
            omega
          | none =>
            rw [ihy.1, hgy] at h2
            change (0 : Int) ≤ -1 at h2
            omega
      | none =>
        show _ = -1
        rcases s3 with s3 | ⟨y, hy, h1, h2, h3⟩
        · exact s3
        · exfalso
          have hya := hR.2 y hy
          have ihy := ih y.arrive (by omega)
          cases hgy : greedy rest y.arrive with
          | some n' =>
            obtain ⟨n2, g1, g2⟩ := greedy_mono hfr (hmin y hy h1) n' hgy
            rw [hg] at g1; cases g1
          | none =>
            rw [ihy.1, hgy] at h2
            change (0 : Int) ≤ -1 at h2
            omega
end Go.Proofs.Ytlcgliadpalgfaa.Vm
