/- Plain: who is lost between two trains, and waits. -/
import Derived.Test.YtlcgliadpalgfaaRg
set_option linter.unusedSimpArgs false
set_option linter.unusedVariables false
namespace Go.Proofs.Ytlcgliadpalgfaa.Vm
open Sp

theorem leastGo_le : ∀ (l : List Sp.Ride) (i : Nat) (best : Sp.Ride), (∀ y ∈ l, (leastGo i best l).depart ≤ y.depart) ∧ (0 < i → (leastGo i best l).depart ≤ best.depart)
  | [], i, best => ⟨fun y hy => (by cases hy), fun _ => Int.le_refl _⟩
  | x :: r, i, best => by
    unfold leastGo
    obtain ⟨h1, h2⟩ := leastGo_le r (i + 1) (if i = 0 ∨ x.depart < best.depart then x else best)
    have h2 := h2 (by omega)
    have h3 : (if i = 0 ∨ x.depart < best.depart then x else best).depart ≤ x.depart ∧ (0 < i → (if i = 0 ∨ x.depart < best.depart then x else best).depart ≤ best.depart) := by
      split
      · exact ⟨Int.le_refl _, fun h => by omega⟩
      · exact ⟨by omega, fun _ => Int.le_refl _⟩
    refine ⟨fun y hy => ?_, fun h => by have := h3.2 h; omega⟩
    rcases List.mem_cons.1 hy with rfl | hy
    · omega
    · exact h1 y hy
theorem least_le {l : List Sp.Ride} {y : Sp.Ride} (h : y ∈ l) : (least l).depart ≤ y.depart := (leastGo_le l 0 _).1 y h

theorem since_nil {a : Int} {R : List Sp.Ride} : (since a R).length = 0 ↔ ∀ y ∈ R, y.depart < a := by
  unfold since
  rw [List.length_eq_zero_iff, List.filter_eq_nil_iff]
  constructor
  · intro h y hy
    have := h y hy
    simpa using this
  · intro h y hy
    have := h y hy
    simpa using this
theorem since_mem {a : Int} {R : List Sp.Ride} {y : Sp.Ride} : y ∈ since a R ↔ y ∈ R ∧ a ≤ y.depart := by
  unfold since
  rw [List.mem_filter]
  simp

theorem trip_one (b : Book) (g : Sp.Leg) (a : Int) : trip b [g] a [] = if (since a (rides b g)).length = 0 then ([], false) else ([least (since a (rides b g))], true) := rfl

/-- When the last one goes. -/
def lastGo (m : Int) (R : List Sp.Ride) : Int := R.foldl (fun m y => if m < y.depart then y.depart else m) m
theorem lastGo_lt {a : Int} : ∀ {R : List Sp.Ride} {m : Int}, lastGo m R < a ↔ m < a ∧ ∀ y ∈ R, y.depart < a
  | [], m => by simp [lastGo]
  | x :: r, m => by
    have ih := lastGo_lt (a := a) (R := r) (m := if m < x.depart then x.depart else m)
    unfold lastGo at ih ⊢
    rw [List.foldl_cons, ih]
    simp only [List.mem_cons, forall_eq_or_imp]
    constructor
    · rintro ⟨h1, h2⟩
      refine ⟨?_, ?_, h2⟩ <;> (split at h1 <;> omega)
    · rintro ⟨h1, h2, h3⟩
      exact ⟨by split <;> omega, h3⟩
theorem lastGo_bd {R : List Sp.Ride} {m : Int} (hm : -1 ≤ m ∧ m ≤ 1099511627776) (hR : ∀ y ∈ R, RideB y) : -1 ≤ lastGo m R ∧ lastGo m R ≤ 1099511627776 := by
  induction R generalizing m with
  | nil => exact hm
  | cons x r ih =>
    unfold lastGo
    rw [List.foldl_cons]
    refine ih (m := if m < x.depart then x.depart else m) ?_ fun y hy => hR y (List.mem_cons_of_mem _ hy)
    have := (hR x (List.mem_cons_self ..)).1
    unfold InT at this
    split <;> omega

/-- The least wait. -/
def wGo (a : Int) (w : Int) (R : List Sp.Ride) : Int := R.foldl (fun w y => if 0 ≤ y.depart - a ∧ (w < 0 ∨ y.depart - a < w) then y.depart - a else w) w
theorem wGo_spec {a : Int} : ∀ (R : List Sp.Ride) (w : Int), (0 ≤ w → 0 ≤ wGo a w R ∧ wGo a w R ≤ w) ∧ (∀ y ∈ R, a ≤ y.depart → 0 ≤ wGo a w R ∧ wGo a w R ≤ y.depart - a) ∧ (wGo a w R = w ∨ ∃ y ∈ R, a ≤ y.depart ∧ wGo a w R = y.depart - a)
  | [], w => ⟨fun h => ⟨h, Int.le_refl _⟩, (fun y hy => by cases hy), .inl rfl⟩
  | x :: r, w => by
    have e : wGo a w (x :: r) = wGo a (if 0 ≤ x.depart - a ∧ (w < 0 ∨ x.depart - a < w) then x.depart - a else w) r := rfl
    rw [e]
    by_cases hc : 0 ≤ x.depart - a ∧ (w < 0 ∨ x.depart - a < w)
    · rw [if_pos hc]
      obtain ⟨h1, h2, h3⟩ := wGo_spec (a := a) r (x.depart - a)
      have h1 := h1 hc.1
      refine ⟨fun h => ⟨h1.1, by omega⟩, fun y hy hy2 => ?_, ?_⟩
      · rcases List.mem_cons.1 hy with rfl | hy
        · exact h1
        · exact h2 y hy hy2
      · rcases h3 with h3 | ⟨y, hy, h3⟩
        · exact .inr ⟨x, List.mem_cons_self .., by omega, h3⟩
        · exact .inr ⟨y, List.mem_cons_of_mem _ hy, h3⟩
    · rw [if_neg hc]
      obtain ⟨h1, h2, h3⟩ := wGo_spec (a := a) r w
      refine ⟨h1, fun y hy hy2 => ?_, ?_⟩
      · rcases List.mem_cons.1 hy with rfl | hy
        · have := h1 (by omega)
          omega
        · exact h2 y hy hy2
      · rcases h3 with h3 | ⟨y, hy, h3⟩
        · exact .inl h3
        · exact .inr ⟨y, List.mem_cons_of_mem _ hy, h3⟩

theorem wGo_least {a : Int} {R : List Sp.Ride} (h : (since a R).length ≠ 0) : wGo a (-1) R = (least (since a R)).depart - a := by
  obtain ⟨_, h2, h3⟩ := wGo_spec (a := a) R (-1)
  have hm := least_mem (l := since a R) (by omega)
  have hm' := since_mem.1 hm
  have h4 := h2 _ hm'.1 hm'.2
  rcases h3 with h3 | ⟨y, hy, h5, h6⟩
  · omega
  · have := least_le (since_mem.2 ⟨hy, h5⟩)
    omega

/-- Who is lost. -/
theorem lost_iff (b : Book) (g : Sp.Leg) {a : Int} (ha : 0 ≤ a) : (trip b [g] a []).2 = false ↔ lastGo (-1) (rides b g) < a := by
  rw [trip_one, lastGo_lt]
  by_cases h : (since a (rides b g)).length = 0
  · rw [if_pos h]
    exact ⟨fun _ => ⟨by omega, since_nil.1 h⟩, fun _ => rfl⟩
  · rw [if_neg h]
    exact ⟨(fun h => by cases h), fun h' => absurd (since_nil.2 h'.2) h⟩

/-- The walk's step of the waits. -/
def wtStep (R2 : List Sp.Ride) (last : Int) (o : Sp.Span × Bool) (x : Sp.Ride) : Sp.Span × Bool :=
  if last < x.arrive then o
  else (⟨if wGo x.arrive (-1) R2 < (if o.2 = false then (⟨wGo x.arrive (-1) R2, wGo x.arrive (-1) R2⟩ : Sp.Span) else o.1).fr then wGo x.arrive (-1) R2 else (if o.2 = false then (⟨wGo x.arrive (-1) R2, wGo x.arrive (-1) R2⟩ : Sp.Span) else o.1).fr,
    if (if o.2 = false then (⟨wGo x.arrive (-1) R2, wGo x.arrive (-1) R2⟩ : Sp.Span) else o.1).to_ < wGo x.arrive (-1) R2 then wGo x.arrive (-1) R2 else (if o.2 = false then (⟨wGo x.arrive (-1) R2, wGo x.arrive (-1) R2⟩ : Sp.Span) else o.1).to_⟩, true)

theorem waitStep_eq {b : Book} {l : List Sp.Leg} {g : Sp.Leg} (hl : l.drop 1 = [g]) {o : Sp.Span × Bool} {x : Sp.Ride} (hx : 0 ≤ x.arrive) : waitStep b l o x = wtStep (rides b g) (lastGo (-1) (rides b g)) o x := by
  unfold waitStep wtStep
  rw [hl]
  by_cases h : (trip b [g] x.arrive []).2 = false
  · rw [if_pos h, if_pos ((lost_iff b g hx).1 h)]
  · rw [if_neg h, if_neg (fun h' => h ((lost_iff b g hx).2 h'))]
    have hs : (since x.arrive (rides b g)).length ≠ 0 := fun h' => h (by rw [trip_one, if_pos h'])
    have e : ((trip b [g] x.arrive []).1.getD 0 default).depart - x.arrive = wGo x.arrive (-1) (rides b g) := by
      rw [wGo_least hs, trip_one, if_neg hs]
      rfl
    simp only [e]
end Go.Proofs.Ytlcgliadpalgfaa.Vm
