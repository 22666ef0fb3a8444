/- Plain: books that are made of numbers are valid. -/
import Derived.Test.YtlcgliadpalgfaaGf
import Derived.Test.YtlcgliadpalgfaaKd
set_option linter.unusedSimpArgs false
set_option linter.unusedVariables false
namespace Go.Proofs.Ytlcgliadpalgfaa.Vm
open Sp

theorem firstErr_zero {f : Nat → Int} : ∀ {k i : Nat}, (∀ j, i ≤ j → j < i + k → f j = 0) → firstErr f i k = 0
  | 0, _, _ => rfl
  | k + 1, i, h => by
    unfold firstErr
    rw [if_neg (fun hne => hne (h i (Nat.le_refl _) (by omega)))]
    exact firstErr_zero fun j h1 h2 => h j (by omega) (by omega)

theorem inB_of {n a b : Int} (h1 : a ≤ n) (h2 : n ≤ b) : inB n a b = true := by simp [inB, h1, h2]
theorem counted_of {n a b : Int} (h1 : a ≤ n) (h2 : n ≤ b) : counted n a b = 0 := by
  unfold counted
  rw [if_neg (by omega), if_neg (by omega)]

theorem made_stops {zones number : Int} {t : Train} (h : TMade zones 4 number t) : chkStops zones t.stops = 0 := by
  refine firstErr_zero fun j _ hj => ?_
  have hj : j < t.stops.length := by omega
  have hm : t.stops.getD j default ∈ t.stops := by rw [List.getD_eq_getElem?_getD, List.getElem?_eq_getElem hj]; exact List.getElem_mem _
  obtain ⟨h1, h2, h3, h4, h5⟩ := h.stop _ hm
  unfold chkStopAt checkStop
  rw [inB_of h1.1 (by omega)]
  have hany : (t.stops.take j).any (fun x => decide (x.station = (t.stops.getD j default).station)) = false := by
    rw [List.any_eq_false]
    intro x hx
    obtain ⟨i, hi, rfl⟩ := List.mem_iff_getElem.1 hx
    have hi' : i < j := by simp at hi; omega
    have := List.pairwise_iff_getElem.1 h.nodup i j (by omega) hj hi'
    rw [List.getD_eq_getElem?_getD, List.getElem?_eq_getElem hj]
    simpa using this
  rw [hany, inB_of h2.1 (by omega), inB_of h3 (by omega), inB_of (by omega : (0 : Int) ≤ _) h5]
  have hd : decide ((t.stops.getD j default).depart < (t.stops.getD j default).arrive) = false := decide_eq_false (by omega)
  rw [hd]
  simp

theorem made_trains {zones n : Int} {l : List Train} (h : LMade zones n l) (hn : n = l.length) (hl : l.length ≤ 4) : chkTrains zones l = 0 := by
  unfold chkTrains
  have e : counted l.length 0 4 = 0 := counted_of (by omega) (by omega)
  rw [e, if_neg (fun h => h rfl)]
  refine firstErr_zero fun j _ hj => ?_
  have hj : j < l.length := by omega
  have hg : l[j]? = some (l.getD j default) := by rw [List.getD_eq_getElem?_getD, List.getElem?_eq_getElem hj]; rfl
  have ht := h.all j _ hg
  have hlen := ht.len
  unfold chkTrainAt
  rw [inB_of (by rw [ht.number]; omega) (by rw [ht.number]; omega)]
  have hany : (l.take j).any (fun x => decide (x.number = (l.getD j default).number)) = false := by
    rw [List.any_eq_false]
    intro x hx
    obtain ⟨i, hi, rfl⟩ := List.mem_iff_getElem.1 hx
    have hi' : i < j := by simp at hi; omega
    have hx := h.all i _ (List.getElem?_eq_getElem (by omega))
    rw [ht.number, List.getElem_take, hx.number]
    simp
    omega
  rw [hany, inB_of ht.days.1 ht.days.2, counted_of (by omega) (by omega)]
  simp only [Bool.not_true, Bool.false_eq_true, if_false, ne_eq, not_true_eq_false]
  exact made_stops ht

theorem made_check {trains days : Int} {b : Book} (h : BMade trains days b) (ht : trains ≤ 4) (hd : days ≤ 13) : Check b = 0 := by
  obtain ⟨h1, h2, h3, h4, h5, h6, h7, h8⟩ := h
  unfold Check
  rw [counted_of (by omega) (by omega), firstErr_zero (fun j _ hj => made_valid (h2 _ (by rw [List.getD_eq_getElem?_getD, List.getElem?_eq_getElem (by omega)]; exact List.getElem_mem _)) (by omega)), made_trains h5 rfl (by omega), made_trains h6 rfl (by omega), inB_of h7.1 (by omega), inB_of h8.1 h8.2]
  simp

theorem made_fit {trains days : Int} {b : Book} (h : BMade trains days b) (ht : trains ≤ 4) (hd : days ≤ 13) : BookFit b := by
  have hc := book_ok (made_check h ht hd)
  exact ⟨by have := hc.zlen; omega, by have := hc.olen; omega, by have := hc.nlen; omega, fun z hz => by have := (asc_of (hc.zones z hz)).2.2.1; omega, ⟨fun t ht => by have := (hc.old t ht).len; omega, fun t ht => by have := (hc.new t ht).len; omega⟩, by have := hc.last; omega⟩

/-- An hour's instant is not late. -/
theorem hour_le {z : Zone} (hz : checkZone z = 0) (haf : ∀ t, -390 ≤ af z.base z.chs t ∧ af z.base z.chs t ≤ 300) {r after : Int} (hr : r ≤ 1000000) (ha : 0 ≤ after ∧ after ≤ 1000000) :
    hour (pieces z) r after ≤ max after (r + 391) := by
  obtain ⟨g1, g2, g3⟩ := hour_eq hz hr ha
  by_cases h : hour (pieces z) r after ≤ max after (r + 391)
  · exact h
  · have := g3 (hour (pieces z) r after - 1) (by omega) (by omega)
    have := haf (hour (pieces z) r after - 1)
    omega
end Go.Proofs.Ytlcgliadpalgfaa.Vm
