/- Plain: by how much a clock is ahead, and when it reads an hour. -/
import Derived.Test.YtlcgliadpalgfaaFb
set_option linter.unusedSimpArgs false
set_option linter.unusedVariables false
namespace Go.Proofs.Ytlcgliadpalgfaa.Vm
open Sp

/-- Changes ascend, from an instant on. -/
def Asc : Int → List Chg → Prop
  | _, [] => True
  | lo, c :: r => lo ≤ c.at_ ∧ Asc (c.at_ + 1) r
theorem Asc.mono {lo lo' : Int} : ∀ {l : List Chg}, Asc lo l → lo' ≤ lo → Asc lo' l
  | [], _, _ => trivial
  | c :: r, h, hl => ⟨by have := h.1; omega, h.2⟩

/-- By how much a clock is ahead. -/
def af : Int → List Chg → Int → Int
  | a, [], _ => a
  | a, c :: r, k => if c.at_ ≤ k then af (a + c.by_) r k else a

theorem af_lt {a lo k : Int} {l : List Chg} (h : Asc lo l) (hk : k < lo) : af a l k = a := by
  cases l with
  | nil => rfl
  | cons c r => unfold af; rw [if_neg (by have := h.1; omega)]

theorem aheadGo_no : ∀ {l : List Pc} {n k : Int}, (∀ p ∈ l, k < p.fr) → aheadGo n l k = n
  | [], _, _, _ => rfl
  | p :: r, n, k, h => by
    unfold aheadGo
    rw [if_neg (by have := h p (List.mem_cons_self ..); omega)]
    exact aheadGo_no fun q hq => h q (List.mem_cons_of_mem _ hq)

theorem pcsGo_fr : ∀ (l : List Chg) (fr a : Int), Asc fr l → ∀ p ∈ pcsGo fr a l, fr ≤ p.fr
  | [], fr, a, _, p, hp => by simp [pcsGo] at hp; subst hp; simp
  | c :: r, fr, a, h, p, hp => by
    have h1 := h.1
    simp only [pcsGo] at hp
    split at hp
    · rcases List.mem_cons.1 hp with rfl | hp
      · exact Int.le_refl _
      · have := pcsGo_fr r c.at_ (a + c.by_) (h.2.mono (by omega)) p hp
        omega
    · have := pcsGo_fr r c.at_ (a + c.by_) (h.2.mono (by omega)) p hp
      omega

theorem ahead_af : ∀ (l : List Chg) (fr a n k : Int), Asc fr l → fr ≤ k → aheadGo n (pcsGo fr a l) k = af a l k
  | [], fr, a, n, k, _, hk => by simp [pcsGo, aheadGo, af, hk]
  | c :: r, fr, a, n, k, h, hk => by
    have h1 := h.1
    have h2 : Asc c.at_ r := h.2.mono (by omega)
    simp only [pcsGo, af]
    by_cases hc : fr < c.at_
    · rw [if_pos hc, aheadGo, if_pos hk]
      by_cases hk' : c.at_ ≤ k
      · rw [if_pos hk']
        exact ahead_af r c.at_ _ _ k h2 hk'
      · rw [if_neg hk']
        exact aheadGo_no fun p hp => by have := pcsGo_fr r c.at_ (a + c.by_) h2 p hp; omega
    · rw [if_neg hc, if_pos (by omega)]
      exact ahead_af r c.at_ _ _ k h2 (by omega)

/-- The first instant at which a clock reads so late an hour. -/
theorem hour_af : ∀ (l : List Chg) (fr a r after : Int), Asc fr l → (∀ p ∈ pcsGo fr a l, r - p.ahd < openT) → fr < openT → after < openT → (∀ c ∈ l, c.at_ < openT) →
    fr ≤ hour (pcsGo fr a l) r after ∧ after ≤ hour (pcsGo fr a l) r after ∧ hour (pcsGo fr a l) r after < openT ∧ r ≤ hour (pcsGo fr a l) r after + af a l (hour (pcsGo fr a l) r after) ∧
      ∀ k, fr ≤ k → after ≤ k → k < hour (pcsGo fr a l) r after → k + af a l k < r
  | [], fr, a, r, after, _, hp, hf, ha, _ => by
    have h1 := hp ⟨fr, openT, a⟩ (by simp [pcsGo])
    simp only at h1
    simp only [pcsGo, hour, af]
    rw [if_pos (by omega)]
    exact ⟨by omega, by omega, by omega, by omega, fun k _ _ _ => by omega⟩
  | c :: l, fr, a, r, after, h, hp, hf, ha, hl => by
    have h1 := h.1
    have h2 : Asc c.at_ l := h.2.mono (by omega)
    have hc := hl c (List.mem_cons_self ..)
    by_cases hlt : fr < c.at_
    · have hP : pcsGo fr a (c :: l) = ⟨fr, c.at_, a⟩ :: pcsGo c.at_ (a + c.by_) l := by simp only [pcsGo]; rw [if_pos hlt]
      rw [hP] at hp ⊢
      obtain ⟨i1, i2, i3, i4, i5⟩ := hour_af l c.at_ (a + c.by_) r after h2 (fun p h => hp p (List.mem_cons_of_mem _ h)) hc ha (fun c h => hl c (List.mem_cons_of_mem _ h))
      simp only [hour]
      by_cases ht : max fr (max after (r - a)) < c.at_
      · rw [if_pos ht]
        have hk : ∀ k, k < c.at_ → af a (c :: l) k = a := fun k hk => by unfold af; rw [if_neg (by omega)]
        refine ⟨by omega, by omega, by omega, ?_, fun k k1 k2 k3 => ?_⟩
        · rw [hk _ ht]; omega
        · rw [hk _ (by omega)]; omega
      · rw [if_neg ht]
        have hk : ∀ k, c.at_ ≤ k → af a (c :: l) k = af (a + c.by_) l k := fun k hk => by unfold af; rw [if_pos hk]; cases l <;> rfl
        refine ⟨by omega, i2, i3, ?_, fun k k1 k2 k3 => ?_⟩
        · rw [hk _ i1]; exact i4
        · by_cases hkc : c.at_ ≤ k
          · rw [hk _ hkc]; exact i5 k hkc k2 k3
          · unfold af; rw [if_neg hkc]; omega
    · have hP : pcsGo fr a (c :: l) = pcsGo c.at_ (a + c.by_) l := by simp only [pcsGo]; rw [if_neg hlt]
      rw [hP] at hp ⊢
      obtain ⟨i1, i2, i3, i4, i5⟩ := hour_af l c.at_ (a + c.by_) r after h2 hp hc ha (fun c h => hl c (List.mem_cons_of_mem _ h))
      have hk : ∀ k, c.at_ ≤ k → af a (c :: l) k = af (a + c.by_) l k := fun k hk => by unfold af; rw [if_pos hk]; cases l <;> rfl
      refine ⟨by omega, i2, i3, ?_, fun k k1 k2 k3 => ?_⟩
      · rw [hk _ i1]; exact i4
      · rw [hk _ (by omega)]; exact i5 k (by omega) k2 k3

theorem when_app (l l' : List Pc) (r : Int) : when (l ++ l') r = when l r ++ when l' r := by
  induction l with
  | nil => rfl
  | cons p l ih =>
    simp only [List.cons_append, when]
    split
    · rw [ih]; rfl
    · exact ih

/-- All instants at which a clock reads an hour. -/
theorem when_af : ∀ (l : List Chg) (fr a r t : Int), Asc fr l → (∀ c ∈ l, c.at_ < openT) → (t ∈ when (pcsGo fr a l) r ↔ fr ≤ t ∧ t < openT ∧ t + af a l t = r)
  | [], fr, a, r, t, _, _ => by
    simp only [pcsGo, when, af]
    by_cases hc : fr ≤ r - a ∧ r - a < openT
    · rw [if_pos hc]; simp only [List.mem_singleton]; omega
    · rw [if_neg hc]; simp only [List.not_mem_nil]; exact ⟨fun h => h.elim, fun h => hc (by omega)⟩
  | c :: l, fr, a, r, t, h, hl => by
    have h1 := h.1
    have h2 : Asc c.at_ l := h.2.mono (by omega)
    have hc := hl c (List.mem_cons_self ..)
    have ih := when_af l c.at_ (a + c.by_) r t h2 (fun c h => hl c (List.mem_cons_of_mem _ h))
    have hk : ∀ k, c.at_ ≤ k → af a (c :: l) k = af (a + c.by_) l k := fun k hk => by unfold af; rw [if_pos hk]; cases l <;> rfl
    have hk' : ∀ k, k < c.at_ → af a (c :: l) k = a := fun k hk => by unfold af; rw [if_neg (by omega)]
    by_cases hlt : fr < c.at_
    · have hP : pcsGo fr a (c :: l) = ⟨fr, c.at_, a⟩ :: pcsGo c.at_ (a + c.by_) l := by simp only [pcsGo]; rw [if_pos hlt]
      rw [hP]
      simp only [when]
      by_cases htc : c.at_ ≤ t
      · rw [hk t htc]
        split
        · simp only [List.mem_cons]; rw [ih]; omega
        · rw [ih]; omega
      · rw [hk' t (by omega)]
        split
        · simp only [List.mem_cons]; rw [ih]; omega
        · rw [ih]; omega
    · have hP : pcsGo fr a (c :: l) = pcsGo c.at_ (a + c.by_) l := by simp only [pcsGo]; rw [if_neg hlt]
      rw [hP, ih]
      constructor
      · rintro ⟨q1, q2, q3⟩; exact ⟨by omega, q2, by rw [hk t q1]; exact q3⟩
      · rintro ⟨q1, q2, q3⟩; exact ⟨by omega, q2, by rw [hk t (by omega)] at q3; exact q3⟩

theorem when_asc : ∀ (l : List Chg) (fr a r : Int), Asc fr l → (∀ c ∈ l, c.at_ < openT) → (when (pcsGo fr a l) r).Pairwise (· < ·)
  | [], fr, a, r, _, _ => by
    simp only [pcsGo, when]
    split
    · exact List.pairwise_singleton _ _
    · exact .nil
  | c :: l, fr, a, r, h, hl => by
    have h1 := h.1
    have h2 : Asc c.at_ l := h.2.mono (by omega)
    have ih := when_asc l c.at_ (a + c.by_) r h2 (fun c h => hl c (List.mem_cons_of_mem _ h))
    simp only [pcsGo]
    split
    · simp only [when]
      split
      · refine List.pairwise_cons.2 ⟨fun t ht => ?_, ih⟩
        have := (when_af l c.at_ (a + c.by_) r t h2 (fun c h => hl c (List.mem_cons_of_mem _ h))).1 ht
        omega
      · exact ih
    · exact ih

theorem af_bd : ∀ (l : List Chg) (a k lo hi : Int), (∀ c ∈ l, -lo ≤ c.by_ ∧ c.by_ ≤ hi) → 0 ≤ lo → 0 ≤ hi → a - lo * l.length ≤ af a l k ∧ af a l k ≤ a + hi * l.length
  | [], a, k, lo, hi, _, _, _ => by simp [af]
  | c :: l, a, k, lo, hi, h, h1, h2 => by
    have hc := h c (List.mem_cons_self ..)
    have ih := af_bd l (a + c.by_) k lo hi (fun c hc => h c (List.mem_cons_of_mem _ hc)) h1 h2
    have e1 : lo * ((l.length : Int) + 1) = lo * l.length + lo := by rw [Int.mul_add, Int.mul_one]
    have e2 : hi * ((l.length : Int) + 1) = hi * l.length + hi := by rw [Int.mul_add, Int.mul_one]
    have e3 : 0 ≤ lo * (l.length : Int) := Int.mul_nonneg h1 (by omega)
    have e4 : 0 ≤ hi * (l.length : Int) := Int.mul_nonneg h2 (by omega)
    simp only [af, List.length_cons]
    rw [Int.natCast_succ, e1, e2]
    split <;> omega

/-- A valid zone's changes ascend. -/
theorem asc_of {z : Zone} (h : checkZone z = 0) : Asc 0 z.chs ∧ (∀ c ∈ z.chs, 0 ≤ c.at_ ∧ c.at_ ≤ 43200 ∧ -180 ≤ c.by_ ∧ c.by_ ≤ 180) ∧ z.chs.length ≤ 3 ∧ -720 ≤ z.base ∧ z.base ≤ 720 := by
  unfold checkZone at h
  split at h
  · cases h
  rename_i h1
  split at h
  · cases h
  rename_i h2
  have key : ∀ (l : List Chg) (p : Option Int), chkChs p l = 0 → (Asc (match p with | none => 0 | some a => a + 1) l) ∧ ∀ c ∈ l, 0 ≤ c.at_ ∧ c.at_ ≤ 43200 ∧ -180 ≤ c.by_ ∧ c.by_ ≤ 180 := by
    intro l
    induction l with
    | nil => intro p _; exact ⟨trivial, fun c hc => by cases hc⟩
    | cons a l ih =>
      intro p hp
      rw [chkChs_cons] at hp
      split at hp
      · cases hp
      rename_i g1
      split at hp
      · cases hp
      rename_i g2
      split at hp
      · cases hp
      rename_i g3
      simp [inB] at g1 g3
      obtain ⟨i1, i2⟩ := ih _ hp
      refine ⟨⟨?_, i1⟩, fun c hc => ?_⟩
      · cases p with
        | none => simp only; omega
        | some q => simp [leP] at g2; simp only; omega
      · rcases List.mem_cons.1 hc with rfl | hc
        · omega
        · exact i2 c hc
  obtain ⟨k1, k2⟩ := key _ _ h
  simp [inB] at h1
  exact ⟨k1, k2, by omega, by omega, by omega⟩

theorem ahead_eq {z : Zone} (h : checkZone z = 0) {t : Int} (ht : 0 ≤ t) : Sp.ahead z t = af z.base z.chs t := ahead_af _ _ _ _ _ (asc_of h).1 ht

/-- An hour's first instant. -/
theorem hour_eq {z : Zone} (h : checkZone z = 0) {r after : Int} (hr : r ≤ 1000000) (ha : 0 ≤ after ∧ after ≤ 1000000) : 
    after ≤ hour (pieces z) r after ∧ r ≤ hour (pieces z) r after + af z.base z.chs (hour (pieces z) r after) ∧ ∀ k, after ≤ k → k < hour (pieces z) r after → k + af z.base z.chs k < r := by
  obtain ⟨h1, h2, h3, h4⟩ := asc_of h
  have hp := (pieces_small (small_of h)).2.2
  obtain ⟨i1, i2, i3, i4, i5⟩ := hour_af z.chs 0 z.base r after h1 (fun p hp' => by have := hp p hp'; unfold openT; omega) (by decide) (by unfold openT; omega) (fun c hc => by have := h2 c hc; unfold openT; omega)
  exact ⟨i2, i4, fun k k1 k2 => i5 k (by omega) k1 k2⟩
theorem when_eq {z : Zone} (h : checkZone z = 0) {r t : Int} : t ∈ when (pieces z) r ↔ 0 ≤ t ∧ t < openT ∧ t + af z.base z.chs t = r :=
  when_af _ _ _ _ _ (asc_of h).1 fun c hc => by have := (asc_of h).2.1 c hc; unfold openT; omega
theorem when_asc' {z : Zone} (h : checkZone z = 0) (r : Int) : (when (pieces z) r).Pairwise (· < ·) :=
  when_asc _ _ _ _ (asc_of h).1 fun c hc => by have := (asc_of h).2.1 c hc; unfold openT; omega
end Go.Proofs.Ytlcgliadpalgfaa.Vm
