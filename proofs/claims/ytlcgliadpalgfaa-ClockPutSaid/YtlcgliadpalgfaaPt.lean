/- Plain: where the pieces of a zone begin; how often an hour is read. -/
import Derived.Test.YtlcgliadpalgfaaPs
set_option linter.unusedSimpArgs false
set_option linter.unusedVariables false
namespace Go.Proofs.Ytlcgliadpalgfaa.Vm
open Sp

theorem when_times : ∀ (l : List Pc) (r : Int), ((when l r).length : Int) = times l r
  | [], r => rfl
  | p :: l, r => by
    have ih := when_times l r
    simp only [when, times]
    by_cases h : p.fr ≤ r - p.ahd ∧ r - p.ahd < p.bef
    · rw [if_pos h, if_pos (by omega)]
      simp only [List.length_cons]
      omega
    · rw [if_neg h, if_neg (by omega)]
      omega

theorem af_ge {a k : Int} {c : Chg} {l : List Chg} (h : c.at_ ≤ k) : af a (c :: l) k = af (a + c.by_) l k := by
  show (if c.at_ ≤ k then af (a + c.by_) l k else a) = _
  rw [if_pos h]

/-- Where pieces begin. -/
theorem pcs_start : ∀ (l : List Chg) (fr a : Int), Asc fr l → fr < openT → (∀ c ∈ l, c.at_ < openT) →
    (∀ p ∈ pcsGo fr a l, p.fr < p.bef ∧ ((p.fr = fr ∧ p.ahd = a ∧ ∀ c ∈ l, c.at_ ≠ fr) ∨ ∃ c ∈ l, p.fr = c.at_ ∧ p.ahd = af a l c.at_)) ∧
    ((∀ c ∈ l, c.at_ ≠ fr) → ∃ p ∈ pcsGo fr a l, p.fr = fr ∧ p.ahd = a) ∧ ∀ c ∈ l, ∃ p ∈ pcsGo fr a l, p.fr = c.at_ ∧ p.ahd = af a l c.at_
  | [], fr, a, _, hf, _ => by
    refine ⟨fun p hp => ?_, fun _ => ⟨⟨fr, openT, a⟩, by simp [pcsGo], rfl, rfl⟩, fun c hc => by cases hc⟩
    simp only [pcsGo, List.mem_singleton] at hp
    subst hp
    exact ⟨hf, .inl ⟨rfl, rfl, fun c hc => by cases hc⟩⟩
  | c :: l, fr, a, h, hf, hl => by
    have h1 := h.1
    have hc := hl c (List.mem_cons_self ..)
    have hgt : ∀ d ∈ l, c.at_ < d.at_ := by
      have key : ∀ (l : List Chg) (lo : Int), Asc lo l → ∀ d ∈ l, lo ≤ d.at_ := by
        intro l
        induction l with
        | nil => intro lo _ d hd; cases hd
        | cons e l ih =>
          intro lo h d hd
          have := h.1
          rcases List.mem_cons.1 hd with rfl | hd
          · exact h.1
          · have := ih _ h.2 d hd; omega
      intro d hd
      have := key l _ h.2 d hd
      omega
    obtain ⟨i1, i2, i3⟩ := pcs_start l c.at_ (a + c.by_) (h.2.mono (by omega)) hc (fun d hd => hl d (List.mem_cons_of_mem _ hd))
    have hne : ∀ d ∈ l, d.at_ ≠ c.at_ := fun d hd => by have := hgt d hd; omega
    have e1 : af a (c :: l) c.at_ = a + c.by_ := by
      rw [af_ge (Int.le_refl _), af_lt h.2 (by omega)]
    have e2 : ∀ d ∈ l, af a (c :: l) d.at_ = af (a + c.by_) l d.at_ := fun d hd => af_ge (by have := hgt d hd; omega)
    have hP : ∀ p, p ∈ pcsGo fr a (c :: l) ↔ (fr < c.at_ ∧ p = ⟨fr, c.at_, a⟩) ∨ p ∈ pcsGo c.at_ (a + c.by_) l := fun p => by
      simp only [pcsGo]
      split
      · rename_i hlt; simp [hlt]
      · rename_i hlt; simp [hlt]
    refine ⟨fun p hp => ?_, fun hno => ?_, fun d hd => ?_⟩
    · rcases (hP p).1 hp with ⟨hlt, rfl⟩ | hp
      · refine ⟨hlt, .inl ⟨rfl, rfl, fun d hd => ?_⟩⟩
        rcases List.mem_cons.1 hd with rfl | hd
        · omega
        · have := hgt d hd; omega
      · obtain ⟨j1, j2⟩ := i1 p hp
        refine ⟨j1, .inr ?_⟩
        rcases j2 with ⟨k1, k2, _⟩ | ⟨d, hd, k1, k2⟩
        · exact ⟨c, List.mem_cons_self .., k1, by rw [k2, e1]⟩
        · exact ⟨d, List.mem_cons_of_mem _ hd, k1, by rw [k2, e2 d hd]⟩
    · have := hno c (List.mem_cons_self ..)
      exact ⟨⟨fr, c.at_, a⟩, (hP _).2 (.inl ⟨by omega, rfl⟩), rfl, rfl⟩
    · rcases List.mem_cons.1 hd with rfl | hd
      · obtain ⟨p, k1, k2, k3⟩ := i2 hne
        exact ⟨p, (hP p).2 (.inr k1), k2, by rw [k3, e1]⟩
      · obtain ⟨p, k1, k2, k3⟩ := i3 d hd
        exact ⟨p, (hP p).2 (.inr k1), k2, by rw [k3, e2 d hd]⟩

/-- The least reading of a clock. -/
structure Least (z : Zone) (v : Int) : Prop where
  le : (∀ c ∈ z.chs, v ≤ c.at_ + af z.base z.chs c.at_) ∧ ((∀ c ∈ z.chs, c.at_ ≠ 0) → v ≤ z.base)
  is : (v = z.base ∧ ∀ c ∈ z.chs, c.at_ ≠ 0) ∨ ∃ c ∈ z.chs, v = c.at_ + af z.base z.chs c.at_

theorem times_pos : ∀ {l : List Pc} {p : Pc} {n : Int}, p ∈ l → p.fr + p.ahd ≤ n → n < p.bef + p.ahd → 1 ≤ times l n
  | q :: l, p, n, hp, h1, h2 => by
    have hn : ∀ (l : List Pc), 0 ≤ times l n := by
      intro l
      induction l with
      | nil => exact Int.le_refl _
      | cons p l ih => simp only [times]; split <;> omega
    simp only [times]
    rcases List.mem_cons.1 hp with rfl | hp
    · rw [if_pos ⟨h1, h2⟩]; have := hn l; omega
    · have := times_pos hp h1 h2
      split <;> omega
theorem times_in : ∀ {l : List Pc} {n : Int}, 1 ≤ times l n → ∃ p ∈ l, p.fr + p.ahd ≤ n ∧ n < p.bef + p.ahd
  | [], n, h => by simp [times] at h
  | p :: l, n, h => by
    simp only [times] at h
    by_cases hc : p.fr + p.ahd ≤ n ∧ n < p.bef + p.ahd
    · exact ⟨p, List.mem_cons_self .., hc⟩
    · rw [if_neg hc] at h
      obtain ⟨q, h1, h2⟩ := times_in (l := l) (n := n) (by omega)
      exact ⟨q, List.mem_cons_of_mem _ h1, h2⟩

theorem skips_in {z : Zone} (hz : checkZone z = 0) {v : Int} (hv : Least z v) (m : Int) (hm : m ≤ 1000000) :
    inS (spans z fun n => decide (n = 0)) m = (decide (times (pieces z) m = 0) && decide (v < m)) ∧ inS (spans z fun n => decide (1 < n)) m = decide (1 < times (pieces z) m) := by
  obtain ⟨ha, hc, _, _⟩ := asc_of hz
  obtain ⟨p1, p2, p3⟩ := pcs_start z.chs 0 z.base ha (by decide) (fun c h => by have := hc c h; unfold openT; omega)
  have hsm := (pieces_small (small_of hz)).2.2
  have hbd := (pieces_bd hz).2
  change ∀ p ∈ pieces z, _ at p1
  -- the piece that begins at the least reading
  have hvp : ∃ p ∈ pieces z, p.fr + p.ahd = v := by
    rcases hv.is with ⟨h1, h2⟩ | ⟨c, h1, h2⟩
    · obtain ⟨p, k1, k2, k3⟩ := p2 h2
      exact ⟨p, k1, by omega⟩
    · obtain ⟨p, k1, k2, k3⟩ := p3 c h1
      exact ⟨p, k1, by omega⟩
  have hvle : ∀ p ∈ pieces z, v ≤ p.fr + p.ahd := fun p hp => by
    rcases (p1 p hp).2 with ⟨k1, k2, k3⟩ | ⟨c, k0, k1, k2⟩
    · have := hv.le.2 k3; omega
    · have := hv.le.1 c k0; omega
  obtain ⟨pv, hpv, epv⟩ := hvp
  have hmem : ∀ p ∈ pieces z, p.fr + p.ahd ∈ ends (pieces z) ∧ p.bef + p.ahd ∈ ends (pieces z) := fun p hp => ⟨List.mem_flatMap.2 ⟨p, hp, by simp⟩, List.mem_flatMap.2 ⟨p, hp, by simp⟩⟩
  -- the last piece is open
  have hopen : ∃ p ∈ pieces z, p.bef = openT := by
    have key : ∀ (l : List Chg) (fr a : Int), ∃ p ∈ pcsGo fr a l, p.bef = openT := by
      intro l
      induction l with
      | nil => intro fr a; exact ⟨⟨fr, openT, a⟩, by simp [pcsGo], rfl⟩
      | cons c l ih =>
        intro fr a
        obtain ⟨p, h1, h2⟩ := ih c.at_ (a + c.by_)
        simp only [pcsGo]
        split
        · exact ⟨p, List.mem_cons_of_mem _ h1, h2⟩
        · exact ⟨p, h1, h2⟩
    exact key _ _ _
  obtain ⟨po, hpo, epo⟩ := hopen
  have hpo2 := hsm po hpo
  have lim : ∀ {lo hi : Int}, lo ∈ ends (pieces z) → (∀ e ∈ ends (pieces z), lo ≤ e ∧ e ≤ hi) → lo = v ∧ m < hi ∧ ∀ p ∈ pieces z, p.bef + p.ahd ≤ hi := fun {lo hi} h1 h2 => by
    have g1 := (h2 _ (hmem pv hpv).1).1
    have g2 := (h2 _ (hmem po hpo).2).2
    refine ⟨?_, by unfold openT at epo; omega, fun p hp => (h2 _ (hmem p hp).2).2⟩
    obtain ⟨p, hp, he⟩ := List.mem_flatMap.1 h1
    have := (p1 p hp).1
    have := hvle p hp
    simp at he
    omega
  constructor
  · obtain ⟨lo, hi, h1, h2, h3⟩ := spans_in (z := z) (q := fun n => decide (n = 0)) m
    obtain ⟨e1, e2, _⟩ := lim h1 h2
    rw [h3, decide_eq_true e2, e1]
    by_cases ht : times (pieces z) m = 0
    · have hne : v ≠ m := fun e => by
        have hb := hbd pv hpv
        have := (p1 pv hpv).1
        have := times_pos (n := m) hpv (by omega) (by omega)
        omega
      rw [decide_eq_true ht]
      simp
      omega
    · rw [decide_eq_false ht]
      simp
  · obtain ⟨lo, hi, h1, h2, h3⟩ := spans_in (z := z) (q := fun n => decide (1 < n)) m
    obtain ⟨e1, e2, _⟩ := lim h1 h2
    rw [h3, decide_eq_true e2, e1]
    by_cases ht : 1 < times (pieces z) m
    · obtain ⟨p, hp, k1, k2⟩ := times_in (n := m) (show 1 ≤ times (pieces z) m by omega)
      have := hvle p hp
      rw [decide_eq_true ht, decide_eq_true (show v ≤ m by omega)]
      rfl
    · rw [decide_eq_false ht]
      simp

theorem spanStep_len (l : List Pc) (q : Int → Bool) (out : List Sp.Span) (lo hi : Int) : (spanStep l q out lo hi).length ≤ out.length + 1 := by
  unfold spanStep
  split
  · omega
  · split
    · split
      · simp
      · simp
    · simp
theorem spansGo_len (l : List Pc) (q : Int → Bool) : ∀ (r : List Int) (a : Int) (out : List Sp.Span), (spansGo l q out (a :: r)).length ≤ out.length + r.length
  | [], a, out => by rw [spansGo_one]; simp
  | b :: r, a, out => by
    have h1 := spansGo_len l q r b (spanStep l q out a b)
    have h2 := spanStep_len l q out a b
    show (spansGo l q (spanStep l q out a b) (b :: r)).length ≤ _
    simp only [List.length_cons]
    omega
theorem spans_len {z : Zone} (hz : checkZone z = 0) (q : Int → Bool) : (spans z q).length ≤ 8 := by
  have h1 := (pieces_bd hz).1
  have h2 : (ends (pieces z)).length ≤ 2 * (pieces z).length := by
    unfold ends
    generalize pieces z = P
    induction P with
    | nil => simp
    | cons p P ih => simp only [List.flatMap_cons, List.length_append, List.length_cons, List.length_nil]; omega
  have h3 := isort_length (ends (pieces z))
  unfold spans
  generalize isort (ends (pieces z)) = S at *
  cases S with
  | nil => simp [spansGo]
  | cons a r =>
    have := spansGo_len (pieces z) q r a []
    simp at this h3
    omega

theorem isort4a {a b c d : Int} (h1 : a ≤ b) (h2 : b ≤ c) (h3 : c ≤ d) : isort [a, b, c, d] = [a, b, c, d] := by
  have e1 : ¬ b < a := by omega
  have e2 : ¬ c < b := by omega
  have e3 : ¬ d < c := by omega
  simp [isort, isortGo, sink, e1, e2, e3]
theorem isort4b {a b c d : Int} (h1 : a ≤ c) (h2 : c < b) (h3 : b ≤ d) : isort [a, b, c, d] = [a, c, b, d] := by
  have e1 : ¬ b < a := by omega
  have e2 : ¬ c < a := by omega
  have e3 : ¬ d < b := by omega
  simp [isort, isortGo, sink, e1, e2, e3, h2]

/-- A single change, not at once. -/
theorem single {b at_ by_ : Int} (ha : 100 ≤ at_ ∧ at_ ≤ 100000) (hb : -120 ≤ b ∧ b ≤ 120) (hy : -90 ≤ by_ ∧ by_ ≤ 90 ∧ by_ ≠ 0) :
    spans ⟨b, [⟨at_, by_⟩]⟩ (fun n => decide (n = 0)) = (if 0 < by_ then [⟨at_ + b, at_ + (b + by_) - 1⟩] else []) ∧ spans ⟨b, [⟨at_, by_⟩]⟩ (fun n => decide (1 < n)) = (if 0 < by_ then [] else [⟨at_ + (b + by_), at_ + b - 1⟩]) := by
  have hp : pieces ⟨b, [⟨at_, by_⟩]⟩ = [⟨0, at_, b⟩, ⟨at_, openT, b + by_⟩] := by
    simp only [pieces, pcsGo]
    rw [if_pos (by omega)]
  have ho : openT = 1099511627776 := rfl
  have he : ends [⟨0, at_, b⟩, ⟨at_, openT, b + by_⟩] = [0 + b, at_ + b, at_ + (b + by_), openT + (b + by_)] := rfl
  unfold spans
  rw [hp, he]
  by_cases h : 0 < by_
  · rw [isort4a (by omega) (by omega) (by omega), if_pos h, if_pos h]
    have t0 : times [⟨0, at_, b⟩, ⟨at_, openT, b + by_⟩] (0 + b) = 1 := by simp only [times]; rw [if_pos (by omega), if_neg (by omega)]; rfl
    have t1 : times [⟨0, at_, b⟩, ⟨at_, openT, b + by_⟩] (at_ + b) = 0 := by simp only [times]; rw [if_neg (by omega), if_neg (by omega)]; rfl
    have t2 : times [⟨0, at_, b⟩, ⟨at_, openT, b + by_⟩] (at_ + (b + by_)) = 1 := by simp only [times]; rw [if_neg (by omega), if_pos (by omega)]; rfl
    constructor
    · simp only [spansGo, spanStep, t0, t1, t2]
      rw [if_pos (.inr (by decide)), if_neg (by simp; omega), if_pos (.inr (by decide))]
      rfl
    · simp only [spansGo, spanStep, t0, t1, t2]
      rw [if_pos (.inr (by decide)), if_pos (.inr (by decide)), if_pos (.inr (by decide))]
  · rw [isort4b (by omega) (by omega) (by omega), if_neg h, if_neg h]
    have t0 : times [⟨0, at_, b⟩, ⟨at_, openT, b + by_⟩] (0 + b) = 1 := by simp only [times]; rw [if_pos (by omega), if_neg (by omega)]; rfl
    have t1 : times [⟨0, at_, b⟩, ⟨at_, openT, b + by_⟩] (at_ + (b + by_)) = 2 := by simp only [times]; rw [if_pos (by omega), if_pos (by omega)]; rfl
    have t2 : times [⟨0, at_, b⟩, ⟨at_, openT, b + by_⟩] (at_ + b) = 1 := by simp only [times]; rw [if_neg (by omega), if_pos (by omega)]; rfl
    constructor
    · simp only [spansGo, spanStep, t0, t1, t2]
      rw [if_pos (.inr (by decide)), if_pos (.inr (by decide)), if_pos (.inr (by decide))]
    · simp only [spansGo, spanStep, t0, t1, t2]
      rw [if_pos (.inr (by decide)), if_neg (by simp; omega), if_pos (.inr (by decide))]
      rfl
end Go.Proofs.Ytlcgliadpalgfaa.Vm
