/- Plain: the rides of a leg, day by day. -/
import Derived.Test.YtlcgliadpalgfaaRe
set_option linter.unusedSimpArgs false
set_option linter.unusedVariables false
namespace Go.Proofs.Ytlcgliadpalgfaa.Vm
open Sp

/-- Calls at stations of which none is met twice. -/
def Dist (C : List Sp.Call) : Prop := ∀ i j, i < C.length → j < C.length → (C.getD i default).station = (C.getD j default).station → i = j

theorem callAt_iff {C : List Sp.Call} (hd : Dist C) {st : Int} {k i : Nat} (hk : k ≤ i) (hi : i < C.length) : (C.getD i default).station = st ↔ callAt C st k = i := by
  constructor
  · intro h
    unfold callAt
    rw [indexFrom_at (d := default) (i := i - k) (by rw [List.length_drop]; omega)]
    · omega
    · simp only [List.getD_eq_getElem?_getD, List.getElem?_drop, show k + (i - k) = i by omega] at h ⊢
      simp [h]
    · intro j hj
      have e : (C.drop k).getD j default = C.getD (k + j) default := by simp [List.getD_eq_getElem?_getD, List.getElem?_drop]
      rw [e]
      refine decide_eq_false fun h2 => ?_
      have := hd (k + j) i (by omega) hi (h2.trans h.symm)
      omega
  · intro h
    unfold callAt at h
    obtain ⟨h1, h2, h3, h4⟩ := indexFrom_some h
    have e : (C.drop k)[i - k]? = some (C.getD i default) := by
      rw [List.getElem?_drop, show k + (i - k) = i by omega, List.getD_eq_getElem?_getD, List.getElem?_eq_getElem hi]; rfl
    simpa using h4 _ e

/-- The ride by a leg that calls are. -/
def rideC (C : List Sp.Call) (g : Sp.Leg) (d : Int) : List Sp.Ride :=
  if 0 ≤ callAt C g.from_ 0 ∧ 0 ≤ callAt C g.to_ ((callAt C g.from_ 0).toNat + 1) then [⟨d, (C.getD (callAt C g.from_ 0).toNat default).depart, (C.getD (callAt C g.to_ ((callAt C g.from_ 0).toNat + 1)).toNat default).arrive⟩] else []

theorem rideOf_C {b : Book} {g : Sp.Leg} {t : Train} {d : Int} (h : t.number = g.number) : (rideOf b g (t, d)).toList = rideC (calls b.zones t d) g d := by
  unfold rideOf rideC
  dsimp only
  rw [if_neg (fun hn => hn h)]
  split
  · rename_i h1
    rw [if_neg (fun hn => by omega)]; rfl
  · rename_i h1
    split
    · rename_i h2
      rw [if_neg (fun hn => by omega)]; rfl
    · rename_i h2
      rw [if_pos ⟨by omega, by omega⟩]; rfl
theorem rideOf_none {b : Book} {g : Sp.Leg} {t : Train} {d : Int} (h : t.number ≠ g.number) : rideOf b g (t, d) = none := by
  unfold rideOf
  rw [if_pos h]

theorem callsGo_station {zs : List Zone} {day : Int} {many : Nat} : ∀ (S : List Stop) (i : Nat) (now : Int) (k : Nat), k < S.length → ((callsGo zs day many i now S).getD k default).station = (S.getD k default).station
  | [], _, _, k, h => by simp at h
  | s :: r, i, now, 0, h => by unfold callsGo; split <;> rfl
  | s :: r, i, now, k + 1, h => by
    have h' : k < r.length := by simpa using h
    unfold callsGo
    split
    · simpa using callsGo_station r _ _ k h'
    · simpa using callsGo_station r _ _ k h'

theorem calls_dist {zones n : Int} {st : Nat} {zs : List Zone} {t : Train} (h : TMade zones st n t) (d : Int) : Dist (calls zs t d) := by
  intro i j hi hj e
  rw [calls_len] at hi hj
  unfold calls at e
  rw [callsGo_station _ _ _ _ hi, callsGo_station _ _ _ _ hj] at e
  have hp := List.pairwise_iff_getElem.1 h.nodup
  simp only [List.getD_eq_getElem?_getD, List.getElem?_eq_getElem hi, List.getElem?_eq_getElem hj, Option.getD_some] at e
  rcases Nat.lt_trichotomy i j with h1 | h1 | h1
  · exact absurd e (hp i j hi hj h1)
  · exact h1
  · exact absurd e.symm (hp j i hj hi h1)

theorem found_rides {b : Book} {g : Sp.Leg} {d : Int} {s : Train → Bool} : ∀ {l : List Train} {k : Int}, 0 ≤ k → l.Pairwise (fun a c => a.number ≠ c.number) →
    ((l.filter s).map fun t => (t, d)).filterMap (rideOf b g) = if indexFrom (fun t : Train => decide (t.number = g.number)) k l < 0 then [] else
      if s (l.getD (indexFrom (fun t : Train => decide (t.number = g.number)) k l - k).toNat default) then rideC (calls b.zones (l.getD (indexFrom (fun t : Train => decide (t.number = g.number)) k l - k).toNat default) d) g d else []
  | [], k, _, _ => by simp [indexFrom]
  | a :: l, k, hk, hp => by
    have hp' := List.pairwise_cons.1 hp
    by_cases hn : a.number = g.number
    · have e1 : indexFrom (fun t : Train => decide (t.number = g.number)) k (a :: l) = k := by unfold indexFrom; rw [if_pos (by simpa using hn)]
      rw [e1, if_neg (by omega)]
      have hrest : ((l.filter s).map fun t => (t, d)).filterMap (rideOf b g) = [] := by
        rw [List.filterMap_eq_nil_iff]
        intro x hx
        rw [List.mem_map] at hx
        obtain ⟨t, ht, rfl⟩ := hx
        exact rideOf_none fun e => hp'.1 t (List.mem_filter.1 ht).1 (hn.trans e.symm)
      simp only [Int.sub_self, Int.toNat_zero, List.getD_cons_zero]
      by_cases hs : s a = true
      · rw [if_pos hs, List.filter_cons, if_pos hs, List.map_cons, List.filterMap_cons, ← rideOf_C hn, hrest]
        cases rideOf b g (a, d) <;> rfl
      · rw [if_neg hs, List.filter_cons, if_neg hs, hrest]
    · have e1 : indexFrom (fun t : Train => decide (t.number = g.number)) k (a :: l) = indexFrom (fun t : Train => decide (t.number = g.number)) (k + 1) l := by rw [indexFrom.eq_def]; dsimp only; rw [if_neg (by simpa using hn)]
      rw [e1]
      have ih := found_rides (b := b) (g := g) (d := d) (s := s) (l := l) (k := k + 1) (by omega) hp'.2
      have he : (((a :: l).filter s).map fun t => (t, d)).filterMap (rideOf b g) = ((l.filter s).map fun t => (t, d)).filterMap (rideOf b g) := by
        rw [List.filter_cons]
        split
        · rw [List.map_cons, List.filterMap_cons, rideOf_none hn]
        · rfl
      rw [he, ih]
      by_cases hI : indexFrom (fun t : Train => decide (t.number = g.number)) (k + 1) l < 0
      · rw [if_pos hI, if_pos hI]
      · rw [if_neg hI, if_neg hI]
        have := indexFrom_lt (q := fun t : Train => decide (t.number = g.number)) (l := l) (i := k + 1) (by omega)
        have e : (indexFrom (fun t : Train => decide (t.number = g.number)) (k + 1) l - k).toNat = (indexFrom (fun t : Train => decide (t.number = g.number)) (k + 1) l - (k + 1)).toNat + 1 := by omega
        rw [e, List.getD_cons_succ]

theorem made_pairwise {zones n : Int} {l : List Train} (h : LMade zones n l) : l.Pairwise (fun a c => a.number ≠ c.number) := by
  rw [List.pairwise_iff_getElem]
  intro i j hi hj hij
  rw [(h.all i _ (List.getElem?_eq_getElem hi)).number, (h.all j _ (List.getElem?_eq_getElem hj)).number]
  omega

/-- What the law's rides find on a day. -/
theorem run_rides {tr days : Int} {b : Book} (hb : BMade tr days b) (hchk : Check b = 0) (g : Sp.Leg) {d : Nat} (hd : (d : Int) ≤ b.last) :
    ((Run b g.number d).2 = 0 ∨ (Run b g.number d).2 = 3 ∨ (Run b g.number d).2 = 11) ∧ (runsIn b d (table b d).length).filterMap (rideOf b g) = rideC (Run b g.number d).1 g d ∧ Dist (Run b g.number d).1 := by
  obtain ⟨n, hn⟩ := table_made hb (d : Int)
  have hrc : rideC [] g d = [] := by unfold rideC callAt; simp [indexFrom]
  have hdn : Dist [] := fun i j h => by simp at h
  have hf : (((table b d).filter fun t => starts t d).map fun t => (t, (d : Int))).filterMap (rideOf b g) = if place (table b d) g.number < 0 then [] else if starts ((table b d).getD (place (table b d) g.number).toNat default) d = true then rideC (calls b.zones ((table b d).getD (place (table b d) g.number).toNat default) d) g d else [] := by
    have := found_rides (b := b) (g := g) (d := (d : Int)) (s := fun t => starts t d) (l := table b d) (k := 0) (Int.le_refl _) (made_pairwise hn)
    simp only [Int.sub_zero] at this
    exact this
  have hr : runsIn b d (table b d).length = ((table b d).filter fun t => starts t d).map fun t => (t, (d : Int)) := by unfold runsIn; rw [List.take_length]
  rw [← hr] at hf
  rw [hf]
  unfold Run
  rw [hchk, if_neg (fun h => h rfl), inB_of (by omega) hd, if_neg (by simp)]
  by_cases hp : place (table b d) g.number < 0
  · rw [if_pos hp, if_pos hp]
    exact ⟨.inr (.inl rfl), hrc.symm, hdn⟩
  · rw [if_neg hp, if_neg hp]
    cases hs : starts ((table b d).getD (place (table b d) g.number).toNat default) d
    · simp only [Bool.not_false, if_true, Bool.false_eq_true, if_false]
      exact ⟨.inr (.inr trivial), hrc.symm, hdn⟩
    · simp only [Bool.not_true, if_true, Bool.false_eq_true, if_false]
      refine ⟨.inl trivial, trivial, ?_⟩
      have hl : place (table b d) g.number < (table b d).length := by
        rcases Nat.eq_zero_or_pos (table b d).length with h | h
        · have e : table b d = [] := List.eq_nil_of_length_eq_zero h
          rw [e] at hp
          exact absurd (show (-1 : Int) < 0 by decide) hp
        · have := indexFrom_lt (q := fun t : Train => decide (t.number = g.number)) (l := table b d) (i := 0) (by omega)
          unfold place
          omega
      have hx := hn.all (place (table b d) g.number).toNat ((table b d).getD (place (table b d) g.number).toNat default) (by rw [List.getD_eq_getElem?_getD, List.getElem?_eq_getElem (by omega)]; rfl)
      exact calls_dist hx d
end Go.Proofs.Ytlcgliadpalgfaa.Vm
