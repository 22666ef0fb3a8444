/- Plain: the rides of a leg, day by day. -/
import Derived.Calls
import Derived.Laws.Entries
import Derived.Laws.Cells
import Derived.Laws.BitsLemmas
import Derived.Laws.Slices
import Derived.Laws.StructEq
import Derived.ChangeKeysEq
import Derived.Laws.CopyRow
import Derived.Laws.AppendOwn
import Derived.Orders
import Derived.Test.YtlcgliadpalgfaaGreatRows
import Derived.RangeFuncIn
import Derived.RangeFuncRecord
import Derived.WalkKit
import Derived.ProofKit
import Derived.OpenShut
import Derived.ShutString
import Derived.ChangeOld
import Derived.Below
import Derived.Deep.Slices
import Derived.KernelRfl
import Derived.Test.YtlcgliadpalgfaaGreatB0
import Derived.Test.YtlcgliadpalgfaaGreatB1
import Derived.Test.YtlcgliadpalgfaaGreatB2
import Derived.Test.YtlcgliadpalgfaaGreatB3
import Derived.Test.YtlcgliadpalgfaaGreatB4
import Derived.Test.YtlcgliadpalgfaaGreatB5
import Derived.Test.YtlcgliadpalgfaaGreatB6
import Derived.Test.YtlcgliadpalgfaaGreatB7
import Derived.Test.YtlcgliadpalgfaaGreatB8
import Derived.Test.YtlcgliadpalgfaaGreatB9
set_option linter.unusedSimpArgs false
set_option linter.unusedVariables false
namespace Go.Proofs.YtlcgliadpalgfaaGreat.Vm
open Sp

/-- Calls at stations of which none is met twice. -/
def Dist (C : List Sp.Call) : Prop := ∀ i j, i < C.length → j < C.length → (C.getD i default).station = (C.getD j default).station → i = j

theorem callAt_iff {C : List Sp.Call} (hd : Dist C) {st : Int} {k i : Nat} (hk : k ≤ i) (hi : i < C.length) : (C.getD i default).station = st ↔ callAt C st k = i := by
  constructor
  · intro h
    unfold callAt
    rw [indexFrom_at (d := default) (i := i - k) (by rw [List.length_drop]; omega)]
    · omega
    · simp only [List.getD_eq_getElem?_getD, List.getElem?_drop, show k + (i - k) = i by omega] at h ⊢
      simp [h]
    · intro j hj
      have e : (C.drop k).getD j default = C.getD (k + j) default := by simp [List.getD_eq_getElem?_getD, List.getElem?_drop]
      rw [e]
      refine decide_eq_false fun h2 => ?_
      have := hd (k + j) i (by omega) hi (h2.trans h.symm)
      omega
  · intro h
    unfold callAt at h
    obtain ⟨h1, h2, h3, h4⟩ := indexFrom_some h
    have e : (C.drop k)[i - k]? = some (C.getD i default) := by
      rw [List.getElem?_drop, show k + (i - k) = i by omega, List.getD_eq_getElem?_getD, List.getElem?_eq_getElem hi]; rfl
    simpa using h4 _ e

/-- The ride by a leg that calls are. -/
def rideC (C : List Sp.Call) (g : Sp.Leg) (d : Int) : List Sp.Ride :=
  if 0 ≤ callAt C g.from_ 0 ∧ 0 ≤ callAt C g.to_ ((callAt C g.from_ 0).toNat + 1) then [⟨d, (C.getD (callAt C g.from_ 0).toNat default).depart, (C.getD (callAt C g.to_ ((callAt C g.from_ 0).toNat + 1)).toNat default).arrive⟩] else []

theorem rideOf_C {b : Book} {g : Sp.Leg} {t : Train} {d : Int} (h : t.number = g.number) : (rideOf b g (t, d)).toList = rideC (calls b.zones t d) g d := by
  unfold rideOf rideC
  dsimp only
  rw [if_neg (fun hn => hn h)]
  split
  · rename_i h1
    rw [if_neg (fun hn => by omega)]; rfl
  · rename_i h1
    split
    · rename_i h2
      rw [if_neg (fun hn => by omega)]; rfl
    · rename_i h2
      rw [if_pos ⟨by omega, by omega⟩]; rfl
theorem rideOf_none {b : Book} {g : Sp.Leg} {t : Train} {d : Int} (h : t.number ≠ g.number) : rideOf b g (t, d) = none := by
  unfold rideOf
  rw [if_pos h]

theorem callsGo_station {zs : List Zone} {day : Int} {many : Nat} : ∀ (S : List Stop) (i : Nat) (now : Int) (k : Nat), k < S.length → ((callsGo zs day many i now S).getD k default).station = (S.getD k default).station
  | [], _, _, k, h => by simp at h
  | s :: r, i, now, 0, h => by unfold callsGo; split <;> rfl
  | s :: r, i, now, k + 1, h => by
    have h' : k < r.length := by simpa using h
    unfold callsGo
    split
    · simpa using callsGo_station r _ _ k h'
    · simpa using callsGo_station r _ _ k h'

theorem calls_dist {zones n : Int} {st : Nat} {zs : List Zone} {t : Train} (h : TMade zones st n t) (d : Int) : Dist (calls zs t d) := by
  intro i j hi hj e
  rw [calls_len] at hi hj
  unfold calls at e
  rw [callsGo_station _ _ _ _ hi, callsGo_station _ _ _ _ hj] at e
  have hp := List.pairwise_iff_getElem.1 h.nodup
  simp only [List.getD_eq_getElem?_getD, List.getElem?_eq_getElem hi, List.getElem?_eq_getElem hj, Option.getD_some] at e
  rcases Nat.lt_trichotomy i j with h1 | h1 | h1
  · exact absurd e (hp i j hi hj h1)
  · exact h1
  · exact absurd e.symm (hp j i hj hi h1)

theorem found_rides {b : Book} {g : Sp.Leg} {d : Int} {s : Train → Bool} : ∀ {l : List Train} {k : Int}, 0 ≤ k → l.Pairwise (fun a c => a.number ≠ c.number) →
    ((l.filter s).map fun t => (t, d)).filterMap (rideOf b g) = if indexFrom (fun t : Train => decide (t.number = g.number)) k l < 0 then [] else
      if s (l.getD (indexFrom (fun t : Train => decide (t.number = g.number)) k l - k).toNat default) then rideC (calls b.zones (l.getD (indexFrom (fun t : Train => decide (t.number = g.number)) k l - k).toNat default) d) g d else []
  | [], k, _, _ => by simp [indexFrom]
  | a :: l, k, hk, hp => by
    have hp' := List.pairwise_cons.1 hp
    by_cases hn : a.number = g.number
    · have e1 : indexFrom (fun t : Train => decide (t.number = g.number)) k (a :: l) = k := by unfold indexFrom; rw [if_pos (by simpa using hn)]
      rw [e1, if_neg (by omega)]
      have hrest : ((l.filter s).map fun t => (t, d)).filterMap (rideOf b g) = [] := by
        rw [List.filterMap_eq_nil_iff]
        intro x hx
        rw [List.mem_map] at hx
        obtain ⟨t, ht, rfl⟩ := hx
        exact rideOf_none fun e => hp'.1 t (List.mem_filter.1 ht).1 (hn.trans e.symm)
      simp only [Int.sub_self, Int.toNat_zero, List.getD_cons_zero]
      by_cases hs : s a = true
      · rw [if_pos hs, List.filter_cons, if_pos hs, List.map_cons, List.filterMap_cons, ← rideOf_C hn, hrest]
        cases rideOf b g (a, d) <;> rfl
      · rw [if_neg hs, List.filter_cons, if_neg hs, hrest]
    · have e1 : indexFrom (fun t : Train => decide (t.number = g.number)) k (a :: l) = indexFrom (fun t : Train => decide (t.number = g.number)) (k + 1) l := by rw [indexFrom.eq_def]; dsimp only; rw [if_neg (by simpa using hn)]
      rw [e1]
      have ih := found_rides (b := b) (g := g) (d := d) (s := s) (l := l) (k := k + 1) (by omega) hp'.2
      have he : (((a :: l).filter s).map fun t => (t, d)).filterMap (rideOf b g) = ((l.filter s).map fun t => (t, d)).filterMap (rideOf b g) := by
        rw [List.filter_cons]
        split
        · rw [List.map_cons, List.filterMap_cons, rideOf_none hn]
        · rfl
      rw [he, ih]
      by_cases hI : indexFrom (fun t : Train => decide (t.number = g.number)) (k + 1) l < 0
      · rw [if_pos hI, if_pos hI]
      · rw [if_neg hI, if_neg hI]
        have := indexFrom_lt (q := fun t : Train => decide (t.number = g.number)) (l := l) (i := k + 1) (by omega)
        have e : (indexFrom (fun t : Train => decide (t.number = g.number)) (k + 1) l - k).toNat = (indexFrom (fun t : Train => decide (t.number = g.number)) (k + 1) l - (k + 1)).toNat + 1 := by omega
        rw [e, List.getD_cons_succ]

theorem made_pairwise {zones n : Int} {l : List Train} (h : LMade zones n l) : l.Pairwise (fun a c => a.number ≠ c.number) := by
  rw [List.pairwise_iff_getElem]
  intro i j hi hj hij
  rw [(h.all i _ (List.getElem?_eq_getElem hi)).number, (h.all j _ (List.getElem?_eq_getElem hj)).number]
  omega

/-- What the law's rides find on a day. -/
theorem run_rides {tr days : Int} {b : Book} (hb : BMade tr days b) (hchk : Check b = 0) (g : Sp.Leg) {d : Nat} (hd : (d : Int) ≤ b.last) :
    ((Run b g.number d).2 = 0 ∨ (Run b g.number d).2 = 3 ∨ (Run b g.number d).2 = 11) ∧ (runsIn b d (table b d).length).filterMap (rideOf b g) = rideC (Run b g.number d).1 g d ∧ Dist (Run b g.number d).1 := by
  obtain ⟨n, hn⟩ := table_made hb (d : Int)
  have hrc : rideC [] g d = [] := by unfold rideC callAt; simp [indexFrom]
  have hdn : Dist [] := fun i j h => by simp at h
  have hf : (((table b d).filter fun t => starts t d).map fun t => (t, (d : Int))).filterMap (rideOf b g) = if place (table b d) g.number < 0 then [] else if starts ((table b d).getD (place (table b d) g.number).toNat default) d = true then rideC (calls b.zones ((table b d).getD (place (table b d) g.number).toNat default) d) g d else [] := by
    have := found_rides (b := b) (g := g) (d := (d : Int)) (s := fun t => starts t d) (l := table b d) (k := 0) (Int.le_refl _) (made_pairwise hn)
    simp only [Int.sub_zero] at this
    exact this
  have hr : runsIn b d (table b d).length = ((table b d).filter fun t => starts t d).map fun t => (t, (d : Int)) := by unfold runsIn; rw [List.take_length]
  rw [← hr] at hf
  rw [hf]
  unfold Run
  rw [hchk, if_neg (fun h => h rfl), inB_of (by omega) hd, if_neg (by simp)]
  by_cases hp : place (table b d) g.number < 0
  · rw [if_pos hp, if_pos hp]
    exact ⟨.inr (.inl rfl), hrc.symm, hdn⟩
  · rw [if_neg hp, if_neg hp]
    cases hs : starts ((table b d).getD (place (table b d) g.number).toNat default) d
    · simp only [Bool.not_false, if_true, Bool.false_eq_true, if_false]
      exact ⟨.inr (.inr trivial), hrc.symm, hdn⟩
    · simp only [Bool.not_true, if_true, Bool.false_eq_true, if_false]
      refine ⟨.inl trivial, trivial, ?_⟩
      have hl : place (table b d) g.number < (table b d).length := by
        rcases Nat.eq_zero_or_pos (table b d).length with h | h
        · have e : table b d = [] := List.eq_nil_of_length_eq_zero h
          rw [e] at hp
          exact absurd (show (-1 : Int) < 0 by decide) hp
        · have := indexFrom_lt (q := fun t : Train => decide (t.number = g.number)) (l := table b d) (i := 0) (by omega)
          unfold place
          omega
      have hx := hn.all (place (table b d) g.number).toNat ((table b d).getD (place (table b d) g.number).toNat default) (by rw [List.getD_eq_getElem?_getD, List.getElem?_eq_getElem (by omega)]; rfl)
      exact calls_dist hx d
end Go.Proofs.YtlcgliadpalgfaaGreat.Vm

/- Contracts: the rides of a leg, as the law finds them. -/
namespace Go.Proofs.YtlcgliadpalgfaaGreat.Vm
open Go Go.Proofs Sp
set_option maxRecDepth 100000
set_option maxHeartbeats 1600000

theorem ridesL_app (b : Book) (g : Sp.Leg) (l m : List (Train × Int)) : ridesL b g (l ++ m) = ridesL b g l ++ m.filterMap (rideOf b g) := List.filterMap_append ..

theorem bif_and {a b : Bool} (h : (bif a then b else false) = true) : a = true ∧ b = true := by cases a; cases h; exact ⟨rfl, h⟩

end Go.Proofs.YtlcgliadpalgfaaGreat.Vm

/- Contracts: legs made of numbers. -/
namespace Go.Proofs.YtlcgliadpalgfaaGreat.Vm
open Go Go.Proofs Sp
set_option maxRecDepth 100000
set_option maxHeartbeats 1600000

/-- Legs that are made of numbers. -/
structure LegsMade (n : Int) (L : List Sp.Leg) : Prop where
  len : (L.length : Int) ≤ n
  ne : ∀ g ∈ L, g.from_ ≠ g.to_
  chain : ∀ i, i + 1 < L.length → (L.getD (i + 1) default).from_ = (L.getD i default).to_

theorem app_nt {nt : (α : Type) → α → List α → Int → α} (hnt : ∀ (α : Type) (d : α) (l : List α) (i : Int), nt α d l i = l.getD i.toNat d) {α : Type} {n k sz : Nat} {enc : α → List AV} {d : α} {l m : List α} {n0 n1 m' : Unit → Int} {f0 : (Unit → Int) → List AV} {tk : Tk} (h0 : n0 () = 0) (h1 : n1 () = (l.length : Int)) (hm : m' () = ((l ++ m).length : Int)) :
    WkN n k (.isl sz m' (snocF n1 (snocF n0 f0 fun e => enc (nt α d l (e ()))) fun e => enc (nt α d m (e ()))) tk) (.isl sz (fun _ => ((l ++ m).length : Int)) (fun e => enc (nt α d (l ++ m) (e ()))) .none) :=
  .none hm fun i hi => by
    show (if (i : Int) < n1 () then (if (i : Int) < n0 () then f0 (fun _ => (i : Int)) else enc (nt α d l ((i : Int) - n0 ()))) else enc (nt α d m ((i : Int) - n1 ()))) = enc (nt α d (l ++ m) (i : Int))
    simp only [hnt, List.getD_eq_getElem?_getD, Int.toNat_natCast]
    by_cases h : i < l.length
    · rw [if_pos (by omega), if_neg (by omega), h0, Int.sub_zero, Int.toNat_natCast, List.getElem?_append_left h]
    · rw [if_neg (by omega), h1, List.getElem?_append_right (by omega)]
      congr 3
      omega

theorem encTrain_nt {nt : (α : Type) → α → List α → Int → α} (hnt : ∀ (α : Type) (d : α) (l : List α) (i : Int), nt α d l i = l.getD i.toNat d) (t : Train) : encTrain t = [.int .i64 fun _ => t.number, .int .i64 fun _ => t.days, .isl 4 (fun _ => (t.stops.length : Int)) (fun e => encStop (nt Stop default t.stops (e ()))) .none] := by
  unfold encTrain
  rw [lst_nt hnt]

theorem LegsMade.snoc {n : Int} {L : List Sp.Leg} {g : Sp.Leg} (h : LegsMade n L) (hl : (L.length : Int) + 1 ≤ n) (hg : g.from_ ≠ g.to_) (hc : L = [] ∨ ∃ L' x, L = L' ++ [x] ∧ g.from_ = x.to_) : LegsMade n (L ++ [g]) := by
  refine ⟨by simp; omega, fun x hx => ?_, fun i hi => ?_⟩
  · rcases List.mem_append.1 hx with hx | hx
    · exact h.ne x hx
    · simp at hx; subst hx; exact hg
  · simp at hi
    by_cases h1 : i + 1 < L.length
    · have := h.chain i h1
      simp only [List.getD_eq_getElem?_getD] at this ⊢
      rw [List.getElem?_append_left h1, List.getElem?_append_left (by omega)]
      exact this
    · rcases hc with rfl | ⟨L', x, rfl, e⟩
      · simp at hi
      · simp at h1 hi
        have hi' : i = L'.length := by omega
        subst hi'
        simp only [List.getD_eq_getElem?_getD]
        simp [e]

theorem c16 (s most : Int) {tr days : Int} (b : Book) (hb : BMade tr days b) (htr : tr ≤ 4) (hm : 1 ≤ most ∧ most ≤ 100) : SC (fun _ => Tryz.prog) 22 [.ptr 0 0, bookA b, .int .i64 fun _ => most] [bagB s] fun v h => ∃ (L : List Sp.Leg) (s' : Int), LegsMade most L ∧ v = lst 3 encLeg default L ∧ h = [bagB s'] := by
  obtain ⟨nt, hnt⟩ := nth_ex
  have ho := hb.olen
  have hn := hb.nlen
  refine SC.less (conX false false [] Tryz.func22 (body := bodyOf Tryz.f22) rfl (by decide +kernel) ?_)
  unfold bookA
  simp only [lst_nt hnt]
  (cbv; (try simp only [nc] at *); (try refine Chk.mk (okc) ?_))
  refine callL [0] (c22 s 1 most (by omega) (by omega)) (by decide) (by simp) (by first | rfl | (simp only [zoneA, bookA, lst_nt hnt]; rfl)) (by first | rfl | (simp only [zoneA, bookA, lst_nt hnt]; rfl)) fun r h₂ hp => ?_
  (try simp only [zoneA, bookA, lst_nt hnt] at hp)
  obtain ⟨n0, s1, hn0, rfl, rfl⟩ := hp
  (cbv; (try simp only [nc] at *); (try refine Chk.mk (okc) ?_))
  have hA : ∀ t ∈ b.old ++ b.new, ∃ n, TMade b.zones.length 4 n t := fun t ht => by
    rcases List.mem_append.1 ht with ht | ht
    · obtain ⟨i, hi, rfl⟩ := List.mem_iff_getElem.1 ht
      exact ⟨_, hb.old.all i _ (List.getElem?_eq_getElem hi)⟩
    · obtain ⟨i, hi, rfl⟩ := List.mem_iff_getElem.1 ht
      exact ⟨_, hb.new.all i _ (List.getElem?_eq_getElem hi)⟩
  have hAl : 2 ≤ (b.old ++ b.new).length ∧ (b.old ++ b.new).length ≤ 8 := by rw [List.length_append]; omega
  refine loopS false false [] [0, 7, 8, 9, 10] [.tok 3 fun _ => 0] (fun (⟨n, a, L, s⟩ : Int × Int × List Sp.Leg × Int) => [(7, .isl 3 (fun _ => ((b.old ++ b.new).length : Int)) (fun e => encTrain (nt Train default (b.old ++ b.new) (e ()))) .none), (8, .isl 3 (fun _ => (L.length : Int)) (fun e => encLeg (nt Sp.Leg default L (e ()))) (.own 3)), (9, .int .i64 fun _ => a), (10, .int .i64 fun _ => n)])
    (fun ⟨n, a, L, s⟩ => [(0, bagB s), (3, .tok 3 fun _ => (L.length : Int))]) (fun ⟨n, a, L, s⟩ => 0 ≤ n ∧ (L.length : Int) + n ≤ most ∧ LegsMade most L ∧ ((L = [] ∧ a = -1) ∨ ∃ L' x, L = L' ++ [x] ∧ a = x.to_ ∧ 0 ≤ a)) (fun i => i.1.toNat + 0) (n0, -1, [], s1) ⟨by omega, by show (([] : List Sp.Leg).length : Int) + n0 ≤ most; simp; omega, ⟨by simp; omega, by simp, by simp⟩, .inl ⟨rfl, rfl⟩⟩ ?_ ?_
  · (refine To.of [(3,false)] ?_; cbv; (try simp only [nc]); (repeat' (first | exact trivial | exact WkN.refl _ | exact WkB.refl _ | refine ⟨?_, ?_⟩ | refine WkB.cells ?_ | refine WkN.agg ?_ | refine WkN.tup ?_)); (all_goals (first | exact okt | skip)))
    exact app_nt hnt rfl (by simp) (by simp)
  rintro ⟨n, a, L, s⟩ ⟨h1, h2, h3, h4⟩
  have h2 : (L.length : Int) + n ≤ most := h2
  have h1 : 0 ≤ n := h1
  generalize b.old ++ b.new = A at *
  simp only [encTrain_nt hnt]
  (cbv; (try simp only [nc] at *); (try refine Chk.mk (okc) ?_))
  refine ⟨fun hb1 => ?_, fun hb1 => ?_⟩
  · simp only [decide_eq_true_eq] at hb1
    (cbv; (try simp only [nc] at *); (try refine Chk.mk (okc) ?_))
    refine callL [0] (c17 s ((A.length : Int) - 1) (by omega)) (by decide) (by simp) (by first | rfl | (simp only [zoneA, bookA, lst_nt hnt]; rfl)) (by first | rfl | (simp only [zoneA, bookA, lst_nt hnt]; rfl)) fun r h₂ hp => ?_
    (try simp only [zoneA, bookA, lst_nt hnt] at hp)
    obtain ⟨x, s2, hx, rfl, rfl⟩ := hp
    (cbv; try simp only [nc] at *)
    obtain ⟨x, rfl⟩ : ∃ k : Nat, x = k := ⟨x.toNat, by omega⟩
    obtain ⟨num, hT⟩ := hA _ (nt_mem (d := default) hnt (l := A) (i := x) (by omega))
    have hTl := hT.len
    have hTs := hT.stop
    generalize nt Train default A (x : Int) = t at *
    refine Chk.mk (okc) ?_
    refine callL [0] (c17 s2 ((t.stops.length : Int) - 2) (by omega)) (by decide) (by simp) (by first | rfl | (simp only [zoneA, bookA, lst_nt hnt]; rfl)) (by first | rfl | (simp only [zoneA, bookA, lst_nt hnt]; rfl)) fun r h₂ hp => ?_
    (try simp only [zoneA, bookA, lst_nt hnt] at hp)
    obtain ⟨f0, s3, hf0, rfl, rfl⟩ := hp
    (cbv; (try simp only [nc] at *); (try refine Chk.mk (okc) ?_))
    refine loopQ fun Q hQ => ?_
    refine loopS false false [] [0, 7, 8, 9, 10, 11, 12, 13, 14] [] (fun (⟨k, f⟩ : Int × Int) => [(12, .int .i64 fun _ => f), (14, .int .i64 fun _ => k)]) (fun _ => []) (fun ⟨k, f⟩ => (0 ≤ k ∧ k ≤ (t.stops.length : Int) - 1) ∧ 0 ≤ f ∧ f ≤ (t.stops.length : Int) - 2) (fun i => ((t.stops.length : Int) - 1 - i.1).toNat + 0) (0, f0) ⟨⟨by omega, by omega⟩, by omega, by omega⟩ ?_ ?_
    · (refine To.of [] ?_; cbv; (try simp only [nc]); (repeat' (first | exact trivial | exact WkN.refl _ | exact WkB.refl _ | refine ⟨?_, ?_⟩ | refine WkB.cells ?_ | refine WkN.agg ?_ | refine WkN.tup ?_)); (all_goals (first | exact okt | skip)))
    rintro ⟨k, f⟩ ⟨hk, hf⟩
    have hk : 0 ≤ k ∧ k ≤ (t.stops.length : Int) - 1 := hk
    have hf : 0 ≤ f ∧ f ≤ (t.stops.length : Int) - 2 := hf
    (cbv; (try simp only [nc] at *); (try refine Chk.mk (okc) ?_))
    refine ⟨fun hb2 => ?_, fun hb2 => ?_⟩
    · simp only [decide_eq_true_eq] at hb2
      (cbv; (try simp only [nc] at *); (try refine Chk.mk (okc) ?_))
      refine ⟨fun hb3 => ?_, fun hb3 => ?_⟩
      · (cbv; (try simp only [nc] at *); (try refine Chk.mk (okc) ?_))
        refine ⟨(k + 1, k), ⟨⟨by show 0 ≤ k + 1; omega, by show k + 1 ≤ _; omega⟩, hk.1, by show k ≤ _; omega⟩, by show ((t.stops.length : Int) - 1 - (k + 1)).toNat + 0 < ((t.stops.length : Int) - 1 - k).toNat + 0; omega, ?_⟩
        (refine To.of [] ?_; cbv; (try simp only [nc]); (repeat' (first | exact trivial | exact WkN.refl _ | exact WkB.refl _ | refine ⟨?_, ?_⟩ | refine WkB.cells ?_ | refine WkN.agg ?_ | refine WkN.tup ?_)); (all_goals (first | exact okt | skip)))
      · (cbv; (try simp only [nc] at *); (try refine Chk.mk (okc) ?_))
        refine ⟨(k + 1, f), ⟨⟨by show 0 ≤ k + 1; omega, by show k + 1 ≤ _; omega⟩, hf⟩, by show ((t.stops.length : Int) - 1 - (k + 1)).toNat + 0 < ((t.stops.length : Int) - 1 - k).toNat + 0; omega, ?_⟩
        (refine To.of [] ?_; cbv; (try simp only [nc]); (repeat' (first | exact trivial | exact WkN.refl _ | exact WkB.refl _ | refine ⟨?_, ?_⟩ | refine WkB.cells ?_ | refine WkN.agg ?_ | refine WkN.tup ?_)); (all_goals (first | exact okt | skip)))
    · (cbv; (try simp only [nc] at *); (try refine Chk.mk (okc) ?_))
      refine hQ _ _ _ ?_
      clear hQ
      (cbv; (try simp only [nc] at *); (try refine Chk.mk (okc) ?_))
      refine callL [0] (c22 s3 (f + 1) ((t.stops.length : Int) - 1) (by omega) (by omega)) (by decide) (by simp) (by first | rfl | (simp only [zoneA, bookA, lst_nt hnt]; rfl)) (by first | rfl | (simp only [zoneA, bookA, lst_nt hnt]; rfl)) fun r h₂ hp => ?_
      (try simp only [zoneA, bookA, lst_nt hnt] at hp)
      obtain ⟨q, s4, hq, rfl, rfl⟩ := hp
      (cbv; try simp only [nc] at *)
      obtain ⟨f, rfl⟩ : ∃ k : Nat, f = k := ⟨f.toNat, by omega⟩
      obtain ⟨q, rfl⟩ : ∃ k : Nat, q = k := ⟨q.toNat, by omega⟩
      have hs1 := (hTs _ (nt_mem (d := default) hnt (l := t.stops) (i := f) (by omega))).1
      have hs2 := (hTs _ (nt_mem (d := default) hnt (l := t.stops) (i := q) (by omega))).1
      generalize nt Stop default t.stops (f : Int) = x1 at *
      generalize nt Stop default t.stops (q : Int) = x2 at *
      refine Chk.mk (okc) ?_
      refine ⟨fun hb3 => ?_, fun hb3 => ?_⟩
      · simp only [decide_eq_true_eq] at hb3
        (cbv; (try simp only [nc] at *); (try refine Chk.mk (okc) ?_))
        refine ⟨fun hb4 => ?_, fun hb4 => ?_⟩
        · have hne : a ≠ x2.station := by simpa using hb4
          (cbv; (try simp only [nc] at *); (try refine Chk.mk (okc) ?_))
          refine ⟨(n - 1, x2.station, L ++ [⟨t.number, a, x2.station⟩], s4), ⟨by show 0 ≤ n - 1; omega, by dsimp only; rw [List.length_append]; simp only [List.length_cons, List.length_nil]; omega, h3.snoc (by omega) hne ?_, .inr ⟨L, _, rfl, rfl, hs2.1⟩⟩, by show (n - 1).toNat + 0 < n.toNat + 0; omega, ?_⟩
          · rcases h4 with h4 | ⟨L', x, e1, e2, _⟩
            · exact .inl h4.1
            · exact .inr ⟨L', x, e1, e2⟩
          · (refine To.of [] ?_; cbv; (try simp only [nc]); (repeat' (first | exact trivial | exact WkN.refl _ | exact WkB.refl _ | refine ⟨?_, ?_⟩ | refine WkB.cells ?_ | refine WkN.agg ?_ | refine WkN.tup ?_)); (all_goals (first | exact okt | skip)))
        · (cbv; (try simp only [nc] at *); (try refine Chk.mk (okc) ?_))
          refine ⟨(n - 1, a, L, s4), ⟨by show 0 ≤ n - 1; omega, by show (L.length : Int) + (n - 1) ≤ most; omega, h3, h4⟩, by show (n - 1).toNat + 0 < n.toNat + 0; omega, ?_⟩
          (refine To.of [] ?_; cbv; (try simp only [nc]); (repeat' (first | exact trivial | exact WkN.refl _ | exact WkB.refl _ | refine ⟨?_, ?_⟩ | refine WkB.cells ?_ | refine WkN.agg ?_ | refine WkN.tup ?_)); (all_goals (first | exact okt | skip)))
      · simp only [decide_eq_false_iff_not] at hb3
        have hL : L = [] := by
          rcases h4 with h4 | ⟨L', x, e1, e2, h5⟩
          · exact h4.1
          · exact absurd h5 hb3
        (cbv; (try simp only [nc] at *); (try refine Chk.mk (okc) ?_))
        refine ⟨fun hb4 => ?_, fun hb4 => ?_⟩
        · have hne : x1.station ≠ x2.station := by simpa using hb4
          (cbv; (try simp only [nc] at *); (try refine Chk.mk (okc) ?_))
          refine ⟨(n - 1, x2.station, L ++ [⟨t.number, x1.station, x2.station⟩], s4), ⟨by show 0 ≤ n - 1; omega, by dsimp only; rw [List.length_append]; simp only [List.length_cons, List.length_nil]; omega, h3.snoc (by omega) hne (.inl hL), .inr ⟨L, _, rfl, rfl, hs2.1⟩⟩, by show (n - 1).toNat + 0 < n.toNat + 0; omega, ?_⟩
          (refine To.of [] ?_; cbv; (try simp only [nc]); (repeat' (first | exact trivial | exact WkN.refl _ | exact WkB.refl _ | refine ⟨?_, ?_⟩ | refine WkB.cells ?_ | refine WkN.agg ?_ | refine WkN.tup ?_)); (all_goals (first | exact okt | skip)))
        · (cbv; (try simp only [nc] at *); (try refine Chk.mk (okc) ?_))
          refine ⟨(n - 1, a, L, s4), ⟨by show 0 ≤ n - 1; omega, by show (L.length : Int) + (n - 1) ≤ most; omega, h3, h4⟩, by show (n - 1).toNat + 0 < n.toNat + 0; omega, ?_⟩
          (refine To.of [] ?_; cbv; (try simp only [nc]); (repeat' (first | exact trivial | exact WkN.refl _ | exact WkB.refl _ | refine ⟨?_, ?_⟩ | refine WkB.cells ?_ | refine WkN.agg ?_ | refine WkN.tup ?_)); (all_goals (first | exact okt | skip)))
  · simp only [decide_eq_false_iff_not] at hb1
    (cbv; (try simp only [nc] at *); (try refine Chk.mk (okc) ?_))
    refine ⟨_, [bagB s], ?_, L, s, h3, rfl, rfl⟩
    (refine To.of [] ?_; cbv; (try simp only [nc]); (repeat' (first | exact trivial | exact WkN.refl _ | exact WkB.refl _ | refine ⟨?_, ?_⟩ | refine WkB.cells ?_ | refine WkN.agg ?_ | refine WkN.tup ?_)); (all_goals (first | exact okt | skip)))
end Go.Proofs.YtlcgliadpalgfaaGreat.Vm

/- Arguments that are books, trains and legs. -/
namespace Go.Proofs.YtlcgliadpalgfaaGreat.Vm
open Go Go.Proofs Sp
open Go.ChangeShapes Go.WideShapes Go.ChangeAt Go.RowKit
section
variable {H : Type} {he : TypeId × Value → H} {w : World}

theorem opn_3 {P : Program} {t : TypeId} {f0 f1 f2 : Field} {α β γ : Type} {v0 : α → AV} {v1 : β → AV} {v2 : γ → AV} {Q0 : α → Prop} {Q1 : β → Prop} {Q2 : γ → Prop} {δ : Type} {enc : δ → List AV} (mk : α → β → γ → δ) (ht : P.underlying t = some (.struct #[f0, f1, f2])) (hc : P.cellsOf t = 3)
    (h0 : OpnF he P w f0 0 v0 Q0) (h1 : OpnF he P w f1 1 v1 Q1) (h2 : OpnF he P w f2 2 v2 Q2) (he2 : ∀ a b c, enc (mk a b c) = [v0 a, v1 b, v2 c]) : Opn he P w t 3 enc (fun z => ∃ a b c, z = mk a b c ∧ Q0 a ∧ Q1 b ∧ Q2 c) := fun fuel cs x h => by
  obtain ⟨xs, m, _, _, hlen, hxl, hf⟩ := DataW.trod_struct ht h
  obtain ⟨a, qa, pa⟩ := opn_field (i := 0) rfl h0 hf hxl
  obtain ⟨b, qb, pb⟩ := opn_field (i := 1) rfl h1 hf hxl
  obtain ⟨c, qc, pc⟩ := opn_field (i := 2) rfl h2 hf hxl
  refine ⟨hlen.trans hc, mk a b c, ⟨a, b, c, rfl, qa, qb, qc⟩, by rw [he2]; rfl, ?_⟩
  rw [he2]
  have := cells_cons (k := 0) pa (cells_cons (k := 1) pb (cells_cons (k := 2) pc cells_nil))
  simpa using this
theorem opn_4 {P : Program} {t : TypeId} {f0 f1 f2 f3 : Field} {α β γ ε : Type} {v0 : α → AV} {v1 : β → AV} {v2 : γ → AV} {v3 : ε → AV} {Q0 : α → Prop} {Q1 : β → Prop} {Q2 : γ → Prop} {Q3 : ε → Prop} {δ : Type} {enc : δ → List AV} (mk : α → β → γ → ε → δ) (ht : P.underlying t = some (.struct #[f0, f1, f2, f3])) (hc : P.cellsOf t = 4)
    (h0 : OpnF he P w f0 0 v0 Q0) (h1 : OpnF he P w f1 1 v1 Q1) (h2 : OpnF he P w f2 2 v2 Q2) (h3 : OpnF he P w f3 3 v3 Q3) (he2 : ∀ a b c d, enc (mk a b c d) = [v0 a, v1 b, v2 c, v3 d]) : Opn he P w t 4 enc (fun z => ∃ a b c d, z = mk a b c d ∧ Q0 a ∧ Q1 b ∧ Q2 c ∧ Q3 d) := fun fuel cs x h => by
  obtain ⟨xs, m, _, _, hlen, hxl, hf⟩ := DataW.trod_struct ht h
  obtain ⟨a, qa, pa⟩ := opn_field (i := 0) rfl h0 hf hxl
  obtain ⟨b, qb, pb⟩ := opn_field (i := 1) rfl h1 hf hxl
  obtain ⟨c, qc, pc⟩ := opn_field (i := 2) rfl h2 hf hxl
  obtain ⟨d, qd, pd⟩ := opn_field (i := 3) rfl h3 hf hxl
  refine ⟨hlen.trans hc, mk a b c d, ⟨a, b, c, d, rfl, qa, qb, qc, qd⟩, by rw [he2]; rfl, ?_⟩
  rw [he2]
  have := cells_cons (k := 0) pa (cells_cons (k := 1) pb (cells_cons (k := 2) pc (cells_cons (k := 3) pd cells_nil)))
  simpa using this
theorem opn_5 {P : Program} {t : TypeId} {f0 f1 f2 f3 f4 : Field} {α β γ ε ζ : Type} {v0 : α → AV} {v1 : β → AV} {v2 : γ → AV} {v3 : ε → AV} {v4 : ζ → AV} {Q0 : α → Prop} {Q1 : β → Prop} {Q2 : γ → Prop} {Q3 : ε → Prop} {Q4 : ζ → Prop} {δ : Type} {enc : δ → List AV} (mk : α → β → γ → ε → ζ → δ) (ht : P.underlying t = some (.struct #[f0, f1, f2, f3, f4])) (hc : P.cellsOf t = 5)
    (h0 : OpnF he P w f0 0 v0 Q0) (h1 : OpnF he P w f1 1 v1 Q1) (h2 : OpnF he P w f2 2 v2 Q2) (h3 : OpnF he P w f3 3 v3 Q3) (h4 : OpnF he P w f4 4 v4 Q4) (he2 : ∀ a b c d e, enc (mk a b c d e) = [v0 a, v1 b, v2 c, v3 d, v4 e]) : Opn he P w t 5 enc (fun z => ∃ a b c d e, z = mk a b c d e ∧ Q0 a ∧ Q1 b ∧ Q2 c ∧ Q3 d ∧ Q4 e) := fun fuel cs x h => by
  obtain ⟨xs, m, _, _, hlen, hxl, hf⟩ := DataW.trod_struct ht h
  obtain ⟨a, qa, pa⟩ := opn_field (i := 0) rfl h0 hf hxl
  obtain ⟨b, qb, pb⟩ := opn_field (i := 1) rfl h1 hf hxl
  obtain ⟨c, qc, pc⟩ := opn_field (i := 2) rfl h2 hf hxl
  obtain ⟨d, qd, pd⟩ := opn_field (i := 3) rfl h3 hf hxl
  obtain ⟨e, qe, pe⟩ := opn_field (i := 4) rfl h4 hf hxl
  refine ⟨hlen.trans hc, mk a b c d e, ⟨a, b, c, d, e, rfl, qa, qb, qc, qd, qe⟩, by rw [he2]; rfl, ?_⟩
  rw [he2]
  have := cells_cons (k := 0) pa (cells_cons (k := 1) pb (cells_cons (k := 2) pc (cells_cons (k := 3) pd (cells_cons (k := 4) pe cells_nil))))
  simpa using this

def StopI (s : Stop) : Prop := I64 s.station ∧ I64 s.zone ∧ I64 s.arrive ∧ I64 s.depart
def TrainI (t : Train) : Prop := I64 t.number ∧ I64 t.days ∧ (∀ s ∈ t.stops, StopI s) ∧ (t.stops.length : Int) ≤ 9223372036854775807
def LegI (g : Sp.Leg) : Prop := I64 g.number ∧ I64 g.from_ ∧ I64 g.to_
structure BookJ (b : Book) : Prop where
  zs : (∀ z ∈ b.zones, ZoneI z) ∧ (b.zones.length : Int) ≤ 9223372036854775807
  os : (∀ t ∈ b.old, TrainI t) ∧ (b.old.length : Int) ≤ 9223372036854775807
  ns : (∀ t ∈ b.new, TrainI t) ∧ (b.new.length : Int) ≤ 9223372036854775807
  night : I64 b.night
  last : I64 b.last
def encLegO (g : Sp.Leg) : List AV := [.int .i64 fun _ => g.number, .int .i64 fun _ => g.from_, .int .i64 fun _ => g.to_]
def encBookO (b : Book) : List AV := [lst 2 encZone default b.zones, lst 3 encTrain default b.old, lst 3 encTrain default b.new, .int .i64 fun _ => b.night, .int .i64 fun _ => b.last]

theorem ost : Opn he Tryz.prog w 123 4 encStop StopI := (opn_4 (enc := encStop) Stop.mk Tryz.underlying123 (by decide +kernel) ⟨rfl, by decide +kernel, on⟩ ⟨rfl, by decide +kernel, on⟩ ⟨rfl, by decide +kernel, on⟩ ⟨rfl, by decide +kernel, on⟩ fun _ _ _ _ => rfl).mono fun _ ⟨_, _, _, _, e, h1, h2, h3, h4⟩ => by subst e; exact ⟨h1, h2, h3, h4⟩
theorem otr : Opn he Tryz.prog w 28 3 encTrain TrainI := (opn_3 (enc := encTrain) Train.mk Tryz.underlying28 (by decide +kernel) ⟨rfl, by decide +kernel, on⟩ ⟨rfl, by decide +kernel, on⟩ ⟨rfl, by decide +kernel, opn_slice (d := default) Tryz.underlying26 (by decide +kernel) (by decide) ost⟩ fun _ _ _ => rfl).mono fun _ ⟨_, _, _, e, h1, h2, h3⟩ => by subst e; exact ⟨h1, h2, h3⟩
theorem oleg : Opn he Tryz.prog w 52 3 encLegO LegI := (opn_3 (enc := encLegO) Sp.Leg.mk Tryz.underlying52 (by decide +kernel) ⟨rfl, by decide +kernel, on⟩ ⟨rfl, by decide +kernel, on⟩ ⟨rfl, by decide +kernel, on⟩ fun _ _ _ => rfl).mono fun _ ⟨_, _, _, e, h1, h2, h3⟩ => by subst e; exact ⟨h1, h2, h3⟩
theorem olegs : Opn he Tryz.prog w 50 1 (fun l : List Sp.Leg => [lst 3 encLegO default l]) (fun l => (∀ g ∈ l, LegI g) ∧ (l.length : Int) ≤ 9223372036854775807) := opn_slice (d := default) Tryz.underlying50 (by decide +kernel) (by decide) oleg
theorem obook : Opn he Tryz.prog w 25 5 encBookO BookJ := (opn_5 (enc := encBookO) Book.mk Tryz.underlying25 (by decide +kernel) ⟨rfl, by decide +kernel, opn_slice (d := default) Tryz.underlying22 (by decide +kernel) (by decide) oz⟩ ⟨rfl, by decide +kernel, opn_slice (d := default) Tryz.underlying23 (by decide +kernel) (by decide) otr⟩ ⟨rfl, by decide +kernel, opn_slice (d := default) Tryz.underlying23 (by decide +kernel) (by decide) otr⟩ ⟨rfl, by decide +kernel, on⟩ ⟨rfl, by decide +kernel, on⟩ fun _ _ _ _ _ => rfl).mono fun _ ⟨_, _, _, _, _, e, h1, h2, h3, h4, h5⟩ => by subst e; exact ⟨h1, h2, h3, h4, h5⟩
end
end Go.Proofs.YtlcgliadpalgfaaGreat.Vm

/- Contracts: numbers of trains, and on which days they start. -/
namespace Go.Proofs.YtlcgliadpalgfaaGreat.Vm
open Go Go.Proofs Sp
set_option maxRecDepth 100000
set_option maxHeartbeats 1600000

def checkNumber (b : Book) (n : Int) : Int := if Check b ≠ 0 then Check b else if place b.old n < 0 ∧ place b.new n < 0 then 3 else 0
/-- The day of a run of a train. -/
def dayOf (n : Int) (x : Train × Int) : Option Int := if x.1.number = n then some x.2 else none
def startsL (n : Int) (l : List (Train × Int)) : List Int := l.filterMap (dayOf n)
theorem startsL_snoc (n : Int) (l : List (Train × Int)) (x : Train × Int) : startsL n (l ++ [x]) = startsL n l ++ (if x.1.number = n then [x.2] else []) := by
  unfold startsL
  rw [List.filterMap_append]
  congr 1
  by_cases h : x.1.number = n <;> simp [dayOf, h]
def Starts (b : Book) (n : Int) : List Int × Int := if checkNumber b n ≠ 0 then ([], checkNumber b n) else (startsL n (runsTo b (b.last + 1).toNat), 0)

theorem c118 (l : List Train) (n : Int) (hl : l.length ≤ 1000000) : SC (fun _ => Tryz.prog) 90 [lst 3 encTrain default l, .fn 92 [] [.iptr [.int .i64 fun _ => n] 0]] [] fun v h => v = .bool (fun _ => decide (0 ≤ place l n)) ∧ h = [] := by
  obtain ⟨nt, hnt⟩ := nth_ex
  have k := c74 l n hl
  simp only [lst_nt hnt] at k ⊢
  refine con Tryz.func90 (body := bodyOf Tryz.f90) rfl (by decide +kernel) ?_
  (cbv; (try simp only [nc] at *); (try refine Chk.mk (okc) ?_))
  refine call0 (k) (by first | rfl | (simp only [zoneA, bookA, lst_nt hnt]; rfl)) fun r h₂ hp => ?_
  (try simp only [zoneA, bookA, lst_nt hnt] at hp)
  obtain ⟨rfl, rfl⟩ := hp
  (cbv; (try simp only [nc] at *); (try refine Chk.mk (okc) ?_))
  (try first | exact ⟨rfl, trivial⟩ | exact ⟨trivial, trivial⟩)

theorem c88 (b : Book) (n : Int) (hf : BookFit b) : SC (fun _ => Tryz.prog) 51 [bookA b, .int .i64 fun _ => n] [] fun v h => v = .int .i64 (fun _ => checkNumber b n) ∧ h = [] := by
  obtain ⟨nt, hnt⟩ := nth_ex
  have k28 := c28 b hf
  have k1 := c118 b.old n hf.old
  have k2 := c118 b.new n hf.new
  unfold checkNumber
  generalize Check b = C at *
  generalize place b.old n = p1 at *
  generalize place b.new n = p2 at *
  generalize hE : (if C ≠ 0 then C else if p1 < 0 ∧ p2 < 0 then 3 else 0 : Int) = E
  unfold bookA at *
  simp only [lst_nt hnt] at *
  refine con Tryz.func51 (body := bodyOf Tryz.f51) rfl (by decide +kernel) ?_
  (cbv; (try simp only [nc] at *); (try refine Chk.mk (okc) ?_))
  refine call0 (k28) (by first | rfl | (simp only [zoneA, bookA, lst_nt hnt]; rfl)) fun r h₂ hp => ?_
  (try simp only [zoneA, bookA, lst_nt hnt] at hp)
  obtain ⟨rfl, rfl⟩ := hp
  (cbv; (try simp only [nc] at *); (try refine Chk.mk (okc) ?_))
  refine ⟨fun hb => ?_, fun hb => ?_⟩
  · simp only [bne_iff_ne, ne_eq] at hb
    rw [if_pos hb] at hE
    subst hE
    (cbv; (try simp only [nc] at *); (try refine Chk.mk (okc) ?_))
    (try first | exact ⟨rfl, trivial⟩ | exact ⟨trivial, trivial⟩)
  have hC : C = 0 := by simpa using hb
  rw [if_neg (fun h => h hC)] at hE
  (cbv; (try simp only [nc] at *); (try refine Chk.mk (okc) ?_))
  refine call0 (c75 n) (by first | rfl | (simp only [zoneA, bookA, lst_nt hnt]; rfl)) fun r h₂ hp => ?_
  (try simp only [zoneA, bookA, lst_nt hnt] at hp)
  obtain ⟨rfl, rfl⟩ := hp
  (cbv; (try simp only [nc] at *); (try refine Chk.mk (okc) ?_))
  refine call0 (k1) (by first | rfl | (simp only [zoneA, bookA, lst_nt hnt]; rfl)) fun r h₂ hp => ?_
  (try simp only [zoneA, bookA, lst_nt hnt] at hp)
  obtain ⟨rfl, rfl⟩ := hp
  (cbv; (try simp only [nc] at *); (try refine Chk.mk (okc) ?_))
  refine ⟨fun h1 => ?_, fun h1 => ?_⟩
  · have h1 : p1 < 0 := by simpa using h1
    (cbv; (try simp only [nc] at *); (try refine Chk.mk (okc) ?_))
    refine call0 (c75 n) (by first | rfl | (simp only [zoneA, bookA, lst_nt hnt]; rfl)) fun r h₂ hp => ?_
    (try simp only [zoneA, bookA, lst_nt hnt] at hp)
    obtain ⟨rfl, rfl⟩ := hp
    (cbv; (try simp only [nc] at *); (try refine Chk.mk (okc) ?_))
    refine Br.isT (by simp; omega) ?_
    (cbv; (try simp only [nc] at *); (try refine Chk.mk (okc) ?_))
    refine call0 (k2) (by first | rfl | (simp only [zoneA, bookA, lst_nt hnt]; rfl)) fun r h₂ hp => ?_
    (try simp only [zoneA, bookA, lst_nt hnt] at hp)
    obtain ⟨rfl, rfl⟩ := hp
    (cbv; (try simp only [nc] at *); (try refine Chk.mk (okc) ?_))
    refine ⟨fun h2 => ?_, fun h2 => ?_⟩
    · have h2 : p2 < 0 := by simpa [h1] using h2
      rw [if_pos ⟨h1, h2⟩] at hE
      subst hE
      (cbv; (try simp only [nc] at *); (try refine Chk.mk (okc) ?_))
      (try first | exact ⟨rfl, trivial⟩ | exact ⟨trivial, trivial⟩)
    · have h2 : ¬ p2 < 0 := by simpa [h1] using h2
      rw [if_neg (fun h => h2 h.2)] at hE
      subst hE
      (cbv; (try simp only [nc] at *); (try refine Chk.mk (okc) ?_))
      (try first | exact ⟨rfl, trivial⟩ | exact ⟨trivial, trivial⟩)
  · have h1 : ¬ p1 < 0 := by simpa using h1
    rw [if_neg (fun h => h1 h.1)] at hE
    subst hE
    (cbv; (try simp only [nc] at *); (try refine Chk.mk (okc) ?_))
    refine Br.isF (by simp; omega) ?_
    (cbv; (try simp only [nc] at *); (try refine Chk.mk (okc) ?_))
    refine Br.isF (by first | rfl | (simp; done)) ?_
    (cbv; (try simp only [nc] at *); (try refine Chk.mk (okc) ?_))
    (try first | exact ⟨rfl, trivial⟩ | exact ⟨trivial, trivial⟩)

theorem c41 (b : Book) (n : Int) (hb : BookFit b) : SC (fun _ => Tryz.prog) 13 [bookA b, .int .i64 fun _ => n] [] fun v h => v = .tup [lst 1 encI 0 (Starts b n).1, .int .i64 fun _ => (Starts b n).2] ∧ h = [] := by
  obtain ⟨nt, hnt⟩ := nth_ex
  have k88 := c88 b n hb
  have k86 := c86 b
  have hok0 : checkNumber b n = 0 → BookOk b := fun h => by
    unfold checkNumber at h
    split at h
    · rename_i hne; exact absurd h hne
    · rename_i hne; exact book_ok (Decidable.of_not_not hne)
  unfold Starts
  generalize checkNumber b n = C at *
  refine SC.less (conX false false [] Tryz.func13 (body := bodyOf Tryz.f13) rfl (by decide +kernel) ?_)
  unfold bookA bookI at *
  (cbv; (try simp only [nc] at *); (try refine Chk.mk (okc) ?_))
  refine call0 (k88) (by first | rfl | (simp only [zoneA, bookA, lst_nt hnt]; rfl)) fun r h₂ hp => ?_
  (try simp only [zoneA, bookA, lst_nt hnt] at hp)
  obtain ⟨rfl, rfl⟩ := hp
  (cbv; (try simp only [nc] at *); (try refine Chk.mk (okc) ?_))
  refine ⟨fun hb => ?_, fun hb => ?_⟩
  · simp only [bne_iff_ne, ne_eq] at hb
    rw [if_pos hb]
    (cbv; (try simp only [nc] at *); (try refine Chk.mk (okc) ?_))
    refine ⟨_, [], ?_, rfl, rfl⟩
    (refine To.of [] ?_; cbv; (try simp only [nc]); (repeat' (first | exact trivial | exact WkN.refl _ | exact WkB.refl _ | refine ⟨?_, ?_⟩ | refine WkB.cells ?_ | refine WkN.agg ?_ | refine WkN.tup ?_)); (all_goals (first | exact okt | skip)))
  have hC : C = 0 := by simpa using hb
  have hok := hok0 hC
  rw [if_neg (fun h => h hC)]
  (cbv; (try simp only [nc] at *); (try refine Chk.mk (okc) ?_))
  refine call0 (k86) (by first | rfl | (simp only [zoneA, bookA, lst_nt hnt]; rfl)) fun r h₂ hp => ?_
  (try simp only [zoneA, bookA, lst_nt hnt] at hp)
  obtain ⟨rfl, rfl⟩ := hp
  (cbv; (try simp only [nc] at *); (try refine Chk.mk (okc) ?_))
  refine rangeT [2, 3, 7, 16] [.tok 1 fun _ => 0] [(2, .cells [.isl 1 (fun _ => 0) (fun e => encI (nt Int 0 [] (e ()))) (.own 3)])] (fid := 91) (first := []) ?_ rfl ?_ ?_
  · (refine To.of [(1,false)] ?_; cbv; (try simp only [nc]); (repeat' (first | exact trivial | exact WkN.refl _ | exact WkB.refl _ | refine ⟨?_, ?_⟩ | refine WkB.cells ?_ | refine WkN.agg ?_ | refine WkN.tup ?_)); (all_goals (first | exact okt | skip)))
  · exact allc_nil
  have k117 := fun s ps a x => c117_4 b (by have := hok.last; omega) hok s ps a x (fun _ => .cells (bookC b)) (fun _ => .cells [.int .i64 fun _ => n]) (fun acc => .cells [.isl 1 (fun _ => ((startsL n acc).length : Int)) (fun e => encI (nt Int 0 (startsL n acc) (e ()))) (.own 3)]) (fun acc => .tok 1 fun _ => ((startsL n acc).length : Int))
  unfold bookI bookC at k117
  simp only [lst_nt hnt] at k117
  simp only [lstR_nt hnt]
  refine SC.mono (k117 _ _ _ _ ?_ ?_ ?_) ?_
  · intro acc; cbv
  · intro acc t; cbv
  · intro acc t day ha hm hs hd
    simp only [startsL_snoc]
    have hO : (startsL n acc).length ≤ 1000 := Nat.le_trans (List.length_filterMap_le _ _) ha
    generalize startsL n acc = O at *
    generalize calls b.zones t day = C at *
    unfold runV encTrain
    simp only [lst_nt hnt]
    refine YC.less (yieldR false false [] rfl rfl ?_)
    (cbv; (try simp only [nc] at *); (try refine Chk.mk (okc) ?_))
    refine ⟨fun h1 => ?_, fun h1 => ?_⟩
    · have h1 : t.number = n := by simpa using h1
      rw [if_pos h1]
      (cbv; (try simp only [nc] at *); (try refine Chk.mk (okc) ?_))
      refine ⟨_, _, ?_, rfl, rfl⟩
      (refine To.of [] ?_; cbv; (try simp only [nc]); (repeat' (first | exact trivial | exact WkN.refl _ | exact WkB.refl _ | refine ⟨?_, ?_⟩ | refine WkB.cells ?_ | refine WkN.agg ?_ | refine WkN.tup ?_)); (all_goals (first | exact okt | skip)))
    · have h1 : ¬ t.number = n := by simpa using h1
      rw [if_neg h1]
      (cbv; (try simp only [nc] at *); (try refine Chk.mk (okc) ?_))
      refine ⟨_, _, ?_, rfl, rfl⟩
      simp only [List.append_nil]
      (refine To.of [] ?_; cbv; (try simp only [nc]); (repeat' (first | exact trivial | exact WkN.refl _ | exact WkB.refl _ | refine ⟨?_, ?_⟩ | refine WkB.cells ?_ | refine WkN.agg ?_ | refine WkN.tup ?_)); (all_goals (first | exact okt | skip)))
  · intro r h hh
    subst hh
    (cbv; (try simp only [nc] at *); (try refine Chk.mk (okc) ?_))
    refine ⟨.tup [lst 1 encI 0 (startsL n (runsTo b (b.last + 1).toNat)), .int .i64 fun _ => 0], [], ?_, rfl, rfl⟩
    simp only [lst_nt hnt]
    (refine To.of [] ?_; cbv; (try simp only [nc]); (repeat' (first | exact trivial | exact WkN.refl _ | exact WkB.refl _ | refine ⟨?_, ?_⟩ | refine WkB.cells ?_ | refine WkN.agg ?_ | refine WkN.tup ?_)); (all_goals (first | exact okt | skip)))
end Go.Proofs.YtlcgliadpalgfaaGreat.Vm

/- Plain: what a valid book is; runs of one train, day by day. -/
namespace Go.Proofs.YtlcgliadpalgfaaGreat.Vm
open Sp

theorem pair_of {α : Type} [Inhabited α] {f : α → Int} {l : List α} (h : ∀ i, i < l.length → (l.take i).any (fun x => decide (f x = f (l.getD i default))) = false) : l.Pairwise (fun a c => f a ≠ f c) := by
  rw [List.pairwise_iff_getElem]
  intro i j hi hj hij e
  have := h j hj
  rw [List.any_eq_false] at this
  refine this l[i] (List.mem_iff_getElem.2 ⟨i, by rw [List.length_take]; omega, by simp⟩) ?_
  simp [List.getD_eq_getElem?_getD, List.getElem?_eq_getElem hj, e]

theorem stop_new {zones : Int} {l : List Stop} {i : Nat} (h : chkStopAt zones l i = 0) : (l.take i).any (fun x => decide (x.station = (l.getD i default).station)) = false := by
  unfold chkStopAt checkStop at h
  split at h
  · cases h
  split at h
  · cases h
  · rename_i h2; simpa using h2
theorem stops_pair {zones : Int} {l : List Stop} (h : chkStops zones l = 0) : l.Pairwise (fun a c => a.station ≠ c.station) :=
  pair_of (f := Stop.station) fun i hi => stop_new (firstErr_ok h i (by omega) (by omega))
theorem train_new {zones : Int} {l : List Train} {i : Nat} (h : chkTrainAt zones l i = 0) : (l.take i).any (fun x => decide (x.number = (l.getD i default).number)) = false ∧ chkStops zones (l.getD i default).stops = 0 := by
  unfold chkTrainAt at h
  split at h
  · cases h
  split at h
  · cases h
  rename_i h2
  split at h
  · cases h
  split at h
  · rename_i h4; exact absurd h h4
  · exact ⟨by simpa using h2, h⟩
theorem trains_new {zones : Int} {l : List Train} (h : chkTrains zones l = 0) : l.Pairwise (fun a c => a.number ≠ c.number) ∧ ∀ t ∈ l, t.stops.Pairwise (fun a c => a.station ≠ c.station) := by
  unfold chkTrains at h
  split at h
  · rename_i hne; exact absurd h hne
  refine ⟨pair_of (f := Train.number) fun i hi => (train_new (firstErr_ok h i (by omega) (by omega))).1, fun t ht => ?_⟩
  obtain ⟨i, hi, rfl⟩ := mem_getD (d := default) ht
  exact stops_pair (train_new (firstErr_ok h i (by omega) (by omega))).2
theorem check_new {b : Book} (h : Check b = 0) (d : Int) : (table b d).Pairwise (fun a c => a.number ≠ c.number) ∧ ∀ t ∈ table b d, t.stops.Pairwise (fun a c => a.station ≠ c.station) := by
  unfold Check at h
  split at h
  · rename_i hne; exact absurd h hne
  split at h
  · rename_i hne; exact absurd h hne
  split at h
  · rename_i hne; exact absurd h hne
  rename_i h3
  split at h
  · rename_i hne; exact absurd h hne
  rename_i h4
  unfold table
  split
  · exact trains_new (Decidable.of_not_not h3)
  · exact trains_new (Decidable.of_not_not h4)

/-- The one train of a number. -/
theorem found_gen {α : Type} {n d : Int} {s : Train → Bool} {f : Train × Int → Option α} (hf : ∀ t : Train, t.number ≠ n → f (t, d) = none) : ∀ {l : List Train} {k : Int}, 0 ≤ k → l.Pairwise (fun a c => a.number ≠ c.number) →
    ((l.filter s).map fun t => (t, d)).filterMap f = if indexFrom (fun t : Train => decide (t.number = n)) k l < 0 then [] else
      if s (l.getD (indexFrom (fun t : Train => decide (t.number = n)) k l - k).toNat default) then (f (l.getD (indexFrom (fun t : Train => decide (t.number = n)) k l - k).toNat default, d)).toList else []
  | [], k, _, _ => by simp [indexFrom]
  | a :: l, k, hk, hp => by
    have hp' := List.pairwise_cons.1 hp
    by_cases hn : a.number = n
    · have e1 : indexFrom (fun t : Train => decide (t.number = n)) k (a :: l) = k := by unfold indexFrom; rw [if_pos (by simpa using hn)]
      rw [e1, if_neg (by omega)]
      have hrest : ((l.filter s).map fun t => (t, d)).filterMap f = [] := by
        rw [List.filterMap_eq_nil_iff]
        intro x hx
        rw [List.mem_map] at hx
        obtain ⟨t, ht, rfl⟩ := hx
        exact hf t fun e => hp'.1 t (List.mem_filter.1 ht).1 (hn.trans e.symm)
      simp only [Int.sub_self, Int.toNat_zero, List.getD_cons_zero]
      by_cases hs : s a = true
      · rw [if_pos hs, List.filter_cons, if_pos hs, List.map_cons, List.filterMap_cons, hrest]
        cases f (a, d) <;> rfl
      · rw [if_neg hs, List.filter_cons, if_neg hs, hrest]
    · have e1 : indexFrom (fun t : Train => decide (t.number = n)) k (a :: l) = indexFrom (fun t : Train => decide (t.number = n)) (k + 1) l := by rw [indexFrom.eq_def]; dsimp only; rw [if_neg (by simpa using hn)]
      rw [e1]
      have ih := found_gen hf (s := s) (l := l) (k := k + 1) (by omega) hp'.2
      have he : (((a :: l).filter s).map fun t => (t, d)).filterMap f = ((l.filter s).map fun t => (t, d)).filterMap f := by
        rw [List.filter_cons]
        split
        · rw [List.map_cons, List.filterMap_cons, hf a hn]
        · rfl
      rw [he, ih]
      by_cases hI : indexFrom (fun t : Train => decide (t.number = n)) (k + 1) l < 0
      · rw [if_pos hI, if_pos hI]
      · rw [if_neg hI, if_neg hI]
        have := indexFrom_lt (q := fun t : Train => decide (t.number = n)) (l := l) (i := k + 1) (by omega)
        have e : (indexFrom (fun t : Train => decide (t.number = n)) (k + 1) l - k).toNat = (indexFrom (fun t : Train => decide (t.number = n)) (k + 1) l - (k + 1)).toNat + 1 := by omega
        rw [e, List.getD_cons_succ]

/-- What the runs of one day give. -/
theorem day_gen {α : Type} {b : Book} (h : Check b = 0) {n : Int} {f : Train × Int → Option α} (hf : ∀ (t : Train) (d : Int), t.number ≠ n → f (t, d) = none) (d : Nat) :
    (runsTo b (d + 1)).filterMap f = (runsTo b d).filterMap f ++ (if place (table b d) n < 0 then [] else if starts ((table b d).getD (place (table b d) n).toNat default) d then (f ((table b d).getD (place (table b d) n).toNat default, (d : Int))).toList else []) := by
  rw [runsTo_succ, List.filterMap_append]
  congr 1
  have := found_gen (n := n) (d := (d : Int)) (s := fun t => starts t d) (f := f) (fun t ht => hf t d ht) (l := table b d) (k := 0) (Int.le_refl _) (check_new h d).1
  simp only [Int.sub_zero] at this
  unfold runsIn
  rw [List.take_length]
  exact this
end Go.Proofs.YtlcgliadpalgfaaGreat.Vm

/- Contracts: what hands out the runs, in a heap of 6 blocks. -/
namespace Go.Proofs.YtlcgliadpalgfaaGreat.Vm
open Go Go.Proofs Sp
set_option maxRecDepth 100000
set_option maxHeartbeats 1600000

/-- What hands out the runs, in a caller's heap of 6 blocks. -/
theorem c117_6 (b : Book) (hlast : 0 ≤ b.last ∧ b.last ≤ 100) (hok : BookOk b) (s : List AV) (ps : Array Tmp) (a x : Code) (B0 B1 B2 B3 B4 B5 : List (Train × Int) → Blk)
    (hs : ∀ acc, sel true [0, 1, 2, 3, 4, 5, 6] [B0 acc, B1 acc, B2 acc, B3 acc, B4 acc, B5 acc, .loop s ⟨ps, a, x, .ready, none⟩] = [B0 acc, B1 acc, B2 acc, B3 acc, B4 acc, B5 acc, .loop s ⟨ps, a, x, .ready, none⟩])
    (hs5 : ∀ acc t, sel true [0, 1, 2, 3, 4, 5, 6] [B0 acc, B1 acc, B2 acc, B3 acc, B4 acc, B5 acc, .loop s ⟨ps, a, x, .ready, none⟩, .cells (encTrain t)] = [B0 acc, B1 acc, B2 acc, B3 acc, B4 acc, B5 acc, .loop s ⟨ps, a, x, .ready, none⟩])
    (hy : ∀ acc t (day : Int), acc.length ≤ 1000 → t ∈ table b day → starts t day = true → 0 ≤ day ∧ day ≤ b.last → YC (fun _ => Tryz.prog) 6 [runV t day (calls b.zones t day)] [B0 acc, B1 acc, B2 acc, B3 acc, B4 acc, B5 acc, .loop s ⟨ps, a, x, .ready, none⟩, .cells (encTrain t)] fun v h => v = .bool (fun _ => true) ∧ h = [B0 (acc ++ [(t, day)]), B1 (acc ++ [(t, day)]), B2 (acc ++ [(t, day)]), B3 (acc ++ [(t, day)]), B4 (acc ++ [(t, day)]), B5 (acc ++ [(t, day)]), .loop s ⟨ps, a, x, .ready, none⟩, .cells (encTrain t)]) :
    SC (fun _ => Tryz.prog) 91 [.yld 6, bookI b] [B0 [], B1 [], B2 [], B3 [], B4 [], B5 [], .loop s ⟨ps, a, x, .ready, none⟩] fun v h => h = [B0 (runsTo b (b.last + 1).toNat), B1 (runsTo b (b.last + 1).toNat), B2 (runsTo b (b.last + 1).toNat), B3 (runsTo b (b.last + 1).toNat), B4 (runsTo b (b.last + 1).toNat), B5 (runsTo b (b.last + 1).toNat), .loop s ⟨ps, a, x, .ready, none⟩] := by
  obtain ⟨nt, hnt⟩ := nth_ex
  unfold bookI
  refine con Tryz.func91 (body := bodyOf Tryz.f91) rfl (by decide +kernel) ?_
  (cbv; (try simp only [nc] at *); (try refine Chk.mk (okc) ?_))
  refine loopS false false [] [0, 1, 8, 9] [] (fun (i : Nat) => [(9, .int .i64 fun _ => (i : Int))]) (fun i => [(0, B0 (runsTo b i)), (1, B1 (runsTo b i)), (2, B2 (runsTo b i)), (3, B3 (runsTo b i)), (4, B4 (runsTo b i)), (5, B5 (runsTo b i))]) (fun i => (i : Int) ≤ b.last + 1) (fun i => (b.last + 1).toNat - i + 0) 0 (by omega) ?_ ?_
  · (refine To.of [] ?_; cbv; (try simp only [nc]); (repeat' (first | exact trivial | exact WkN.refl _ | exact WkB.refl _ | refine ⟨?_, ?_⟩ | refine WkB.cells ?_ | refine WkN.agg ?_ | refine WkN.tup ?_)); (all_goals (first | exact okt | skip)))
  rintro i hi
  (cbv; (try simp only [nc] at *); (try refine Chk.mk (okc) ?_))
  refine ⟨fun hb => ?_, fun hb => ?_⟩
  · simp only [decide_eq_true_eq] at hb
    (cbv; (try simp only [nc] at *); (try refine Chk.mk (okc) ?_))
    have k73 := c73 b i
    simp only [lst_nt hnt] at k73
    refine call0 (k73) (by first | rfl | (simp only [zoneA, bookA, lst_nt hnt]; rfl)) fun r h₂ hp => ?_
    (try simp only [zoneA, bookA, lst_nt hnt] at hp)
    obtain ⟨rfl, rfl⟩ := hp
    (cbv; (try simp only [nc] at *); (try refine Chk.mk (okc) ?_))
    refine loopQ fun Q hQ => ?_
    refine loopS false false [] [0, 1, 3, 8, 9, 14, 15, 16] [] (fun (j : Nat) => [(16, .int .i64 fun _ => (j : Int))]) (fun j => [(0, B0 (runsTo b i ++ runsIn b i j)), (1, B1 (runsTo b i ++ runsIn b i j)), (2, B2 (runsTo b i ++ runsIn b i j)), (3, B3 (runsTo b i ++ runsIn b i j)), (4, B4 (runsTo b i ++ runsIn b i j)), (5, B5 (runsTo b i ++ runsIn b i j))]) (fun j => j ≤ (table b i).length) (fun j => (table b i).length - j + 0) 0 (by omega) ?_ ?_
    · simp only [runsIn_zero, List.append_nil]
      (refine To.of [] ?_; cbv; (try simp only [nc]); (repeat' (first | exact trivial | exact WkN.refl _ | exact WkB.refl _ | refine ⟨?_, ?_⟩ | refine WkB.cells ?_ | refine WkN.agg ?_ | refine WkN.tup ?_)); (all_goals (first | exact okt | skip)))
    rintro j hj
    (cbv; (try simp only [nc] at *); (try refine Chk.mk (okc) ?_))
    refine ⟨fun hb => ?_, fun hb => ?_⟩
    · simp only [decide_eq_true_eq, Int.ofNat_lt] at hb
      rename_i hbi
      have hmem : nt Train default (table b i) j ∈ table b i := nt_mem hnt hb
      have htk := tabOk hok hmem
      have htl := (table_ok hok (i : Int)).1
      have hl := htk.len
      have hd := htk.days
      have hnx : runsIn b i (j + 1) = runsIn b i j ++ (if starts (nt Train default (table b i) j) i then [(nt Train default (table b i) j, (i : Int))] else []) := by
        unfold runsIn
        rw [nt_take (d := default) hnt hb, List.filter_append, List.map_append]
        congr 1
        by_cases h : starts (nt Train default (table b i) j) i = true
        · simp [h]
        · simp [h]
      have k76 := c76 (nt Train default (table b i) j) i (by omega) (by omega)
      have hy' := hy (runsTo b i ++ runsIn b i j) _ (i : Int) (by have h1 := runsTo_len hok i; have h2 := runsIn_len b i j; rw [List.length_append]; omega) hmem
      have k77 := c77 b (nt Train default (table b i) j) i hok.zones htk.fit (by omega) (by omega)
      generalize calls b.zones (nt Train default (table b i) j) i = C at k77 hy'
      cases hst : starts (nt Train default (table b i) j) i
      rotate_left
      · rw [hst] at hnx k76
        (cbv; (try simp only [nc] at *); (try refine Chk.mk (okc) ?_))
        refine call0 (k76) (by first | rfl | (simp only [zoneA, bookA, lst_nt hnt]; rfl)) fun r h₂ hp => ?_
        (try simp only [zoneA, bookA, lst_nt hnt] at hp)
        obtain ⟨rfl, rfl⟩ := hp
        refine Br.isT rfl ?_
        (cbv; (try simp only [nc] at *); (try refine Chk.mk (okc) ?_))
        refine call0 (k77) (by first | rfl | (simp only [zoneA, bookA, lst_nt hnt]; rfl)) fun r h₂ hp => ?_
        (try simp only [zoneA, bookA, lst_nt hnt] at hp)
        obtain ⟨rfl, rfl⟩ := hp
        (cbv; (try simp only [nc] at *); (try refine Chk.mk (okc) ?_))
        refine Br.isT rfl ?_
        (cbv; (try simp only [nc] at *); (try refine Chk.mk (okc) ?_))
        refine YC.mono (hy' hst ⟨by omega, by omega⟩) ?_
        rintro v h ⟨rfl, rfl⟩
        (cbv; (try simp only [nc] at *); (try refine Chk.mk (okc) ?_))
        refine Br.isF rfl ?_
        (cbv; (try simp only [nc] at *); (try refine Chk.mk (okc) ?_))
        refine ⟨j + 1, by omega, by omega, ?_⟩
        rw [hnx]
        simp only [if_true, ← List.append_assoc]
        have hs' := hs5 (runsTo b i ++ runsIn b i j ++ [(nt Train default (table b i) j, (i : Int))]) (nt Train default (table b i) j)
        cbv at hs'
        simp only [List.cons.injEq, and_true] at hs'
        obtain ⟨e0, e1, e2, e3, e4, e5, e6⟩ := hs'
        (refine To.of [] ?_; cbv; (try simp only [nc]); (repeat' (first | exact trivial | exact WkN.refl _ | exact WkB.refl _ | refine ⟨?_, ?_⟩ | refine WkB.cells ?_ | refine WkN.agg ?_ | refine WkN.tup ?_)); (all_goals (first | exact okt | skip)))
        all_goals first | (rw [e0]; exact WkB.refl _) | (rw [e1]; exact WkB.refl _) | (rw [e2]; exact WkB.refl _) | (rw [e3]; exact WkB.refl _) | (rw [e4]; exact WkB.refl _) | (rw [e5]; exact WkB.refl _) | (rw [e6]; exact WkB.refl _)
      · rw [hst] at hnx k76
        (cbv; (try simp only [nc] at *); (try refine Chk.mk (okc) ?_))
        refine call0 (k76) (by first | rfl | (simp only [zoneA, bookA, lst_nt hnt]; rfl)) fun r h₂ hp => ?_
        (try simp only [zoneA, bookA, lst_nt hnt] at hp)
        obtain ⟨rfl, rfl⟩ := hp
        refine Br.isF rfl ?_
        (cbv; (try simp only [nc] at *); (try refine Chk.mk (okc) ?_))
        refine Br.isF rfl ?_
        (cbv; (try simp only [nc] at *); (try refine Chk.mk (okc) ?_))
        refine Br.isF rfl ?_
        (cbv; (try simp only [nc] at *); (try refine Chk.mk (okc) ?_))
        refine ⟨j + 1, by omega, by omega, ?_⟩
        rw [hnx]
        simp only [Bool.false_eq_true, if_false, List.append_nil]
        have hs' := hs5 (runsTo b i ++ runsIn b i j) (nt Train default (table b i) j)
        cbv at hs'
        simp only [List.cons.injEq, and_true] at hs'
        obtain ⟨e0, e1, e2, e3, e4, e5, e6⟩ := hs'
        (refine To.of [] ?_; cbv; (try simp only [nc]); (repeat' (first | exact trivial | exact WkN.refl _ | exact WkB.refl _ | refine ⟨?_, ?_⟩ | refine WkB.cells ?_ | refine WkN.agg ?_ | refine WkN.tup ?_)); (all_goals (first | exact okt | skip)))
        all_goals first | (rw [e0]; exact WkB.refl _) | (rw [e1]; exact WkB.refl _) | (rw [e2]; exact WkB.refl _) | (rw [e3]; exact WkB.refl _) | (rw [e4]; exact WkB.refl _) | (rw [e5]; exact WkB.refl _) | (rw [e6]; exact WkB.refl _)
    · have hje : j = (table b i).length := by simp only [decide_eq_false_iff_not, Int.ofNat_lt] at hb; omega
      subst hje
      refine hQ _ _ _ ?_
      rw [← runsTo_succ]
      have hs' := hs (runsTo b (i + 1))
      cbv at hs'
      simp only [List.cons.injEq, and_true] at hs'
      obtain ⟨e0, e1, e2, e3, e4, e5, e6⟩ := hs'
      (cbv; (try simp only [nc] at *); (try refine Chk.mk (okc) ?_))
      refine ⟨i + 1, by omega, by omega, ?_⟩
      (refine To.of [] ?_; cbv; (try simp only [nc]); (repeat' (first | exact trivial | exact WkN.refl _ | exact WkB.refl _ | refine ⟨?_, ?_⟩ | refine WkB.cells ?_ | refine WkN.agg ?_ | refine WkN.tup ?_)); (all_goals (first | exact okt | skip)))
      all_goals first | (rw [e0]; exact WkB.refl _) | (rw [e1]; exact WkB.refl _) | (rw [e2]; exact WkB.refl _) | (rw [e3]; exact WkB.refl _) | (rw [e4]; exact WkB.refl _) | (rw [e5]; exact WkB.refl _) | (rw [e6]; exact WkB.refl _)
  · have hi' : i = (b.last + 1).toNat := by simp only [decide_eq_false_iff_not] at hb; omega
    subst hi'
    have hs' := hs (runsTo b (b.last + 1).toNat)
    cbv at hs'
    (cbv; (try simp only [nc] at *); (try refine Chk.mk (okc) ?_))
    exact hs'

end Go.Proofs.YtlcgliadpalgfaaGreat.Vm

/- Contracts: when a train goes next. -/
namespace Go.Proofs.YtlcgliadpalgfaaGreat.Vm
open Go Go.Proofs Sp
set_option maxRecDepth 100000
set_option maxHeartbeats 1600000

theorem c224 (x : Sp.Ride) : SC (fun _ => Tryz.prog) 80 [.agg (encRide x)] [] fun v h => v = .int .i64 (fun _ => x.depart) ∧ h = [] := by
  refine con Tryz.func80 (body := bodyOf Tryz.f80) rfl (by decide +kernel) ?_
  (cbv; (try simp only [nc] at *); (try refine Chk.mk (okc) ?_))
  (try first | exact ⟨rfl, trivial⟩ | exact ⟨trivial, trivial⟩)
theorem c108n (l : List Sp.Ride) (hl : l.length ≤ 1000) : SC (fun _ => Tryz.prog) 79 [lst 3 encRide default l, .fn 80 [] []] [] fun v h => v = .tup [.agg (encRide (least l)), .bool fun _ => decide (0 < l.length)] ∧ h = [] := c108g _ c224 l hl

/-- When a run of a train goes from a station, if not too early. -/
def nextC (n st a : Int) (t : Train) (d : Int) (C : List Sp.Call) : Option Sp.Ride :=
  if t.number = n then (if 0 ≤ callAt C st 0 then (if callAt C st 0 < C.length - 1 then (if a ≤ (C.getD (callAt C st 0).toNat default).depart then some ⟨d, (C.getD (callAt C st 0).toNat default).depart, 0⟩ else none) else none) else none) else none
def nextOf (b : Book) (n st a : Int) (x : Train × Int) : Option Sp.Ride := nextC n st a x.1 x.2 (calls b.zones x.1 x.2)
def nextL (b : Book) (n st a : Int) (l : List (Train × Int)) : List Sp.Ride := l.filterMap (nextOf b n st a)
theorem nextL_snoc (b : Book) (n st a : Int) (l : List (Train × Int)) (x : Train × Int) : nextL b n st a (l ++ [x]) = nextL b n st a l ++ (match nextOf b n st a x with | some r => [r] | none => []) := by
  unfold nextL
  rw [List.filterMap_append]
  congr 1
  cases h : nextOf b n st a x <;> simp [h]
def Next (b : Book) (n st a : Int) : Int × Int × Int :=
  if checkNumber b n ≠ 0 then (0, 0, checkNumber b n) else if !inB st 0 9 || !inB a 0 43200 then (0, 0, 1)
  else if (nextL b n st a (runsTo b (b.last + 1).toNat)).length = 0 then (0, 0, 11)
  else ((least (nextL b n st a (runsTo b (b.last + 1).toNat))).day, (least (nextL b n st a (runsTo b (b.last + 1).toNat))).depart, 0)

theorem c212 (b : Book) (n st a : Int) (hb : BookFit b) : SC (fun _ => Tryz.prog) 34 [bookA b, .int .i64 fun _ => n, .int .i64 fun _ => st, .int .i64 fun _ => a] [] fun v h => v = .tup [.int .i64 fun _ => (Next b n st a).1, .int .i64 fun _ => (Next b n st a).2.1, .int .i64 fun _ => (Next b n st a).2.2] ∧ h = [] := by
  obtain ⟨nt, hnt⟩ := nth_ex
  have k88 := c88 b n hb
  have k86 := c86 b
  have hok0 : checkNumber b n = 0 → BookOk b := fun h => by
    unfold checkNumber at h
    split at h
    · rename_i hne; exact absurd h hne
    · rename_i hne; exact book_ok (Decidable.of_not_not hne)
  unfold Next
  generalize checkNumber b n = C at *
  refine SC.less (conX false false [] Tryz.func34 (body := bodyOf Tryz.f34) rfl (by decide +kernel) ?_)
  unfold bookA bookI at *
  (cbv; (try simp only [nc] at *); (try refine Chk.mk (okc) ?_))
  refine call0 (k88) (by first | rfl | (simp only [zoneA, bookA, lst_nt hnt]; rfl)) fun r h₂ hp => ?_
  (try simp only [zoneA, bookA, lst_nt hnt] at hp)
  obtain ⟨rfl, rfl⟩ := hp
  (cbv; (try simp only [nc] at *); (try refine Chk.mk (okc) ?_))
  refine ⟨fun hb => ?_, fun hb => ?_⟩
  · simp only [bne_iff_ne, ne_eq] at hb
    rw [if_pos hb]
    (cbv; (try simp only [nc] at *); (try refine Chk.mk (okc) ?_))
    refine ⟨_, [], ?_, rfl, rfl⟩
    (refine To.of [] ?_; cbv; (try simp only [nc]); (repeat' (first | exact trivial | exact WkN.refl _ | exact WkB.refl _ | refine ⟨?_, ?_⟩ | refine WkB.cells ?_ | refine WkN.agg ?_ | refine WkN.tup ?_)); (all_goals (first | exact okt | skip)))
  have hC : C = 0 := by simpa using hb
  have hok := hok0 hC
  have hlast := hok.last
  rw [if_neg (fun h => h hC)]
  (cbv; (try simp only [nc] at *); (try refine Chk.mk (okc) ?_))
  refine call0 (c67 st 0 9) (by first | rfl | (simp only [zoneA, bookA, lst_nt hnt]; rfl)) fun r h₂ hp => ?_
  (try simp only [zoneA, bookA, lst_nt hnt] at hp)
  obtain ⟨rfl, rfl⟩ := hp
  (cbv; (try simp only [nc] at *); (try refine Chk.mk (okc) ?_))
  refine ⟨fun h1 => ?_, fun h1 => ?_⟩
  rotate_left
  · have h1 : inB st 0 9 = false := by simpa using h1
    rw [h1]
    simp only [Bool.not_false, Bool.true_or, if_true]
    (cbv; (try simp only [nc] at *); (try refine Chk.mk (okc) ?_))
    refine Br.isT (by rfl) ?_
    (cbv; (try simp only [nc] at *); (try refine Chk.mk (okc) ?_))
    refine ⟨_, [], ?_, rfl, rfl⟩
    (refine To.of [] ?_; cbv; (try simp only [nc]); (repeat' (first | exact trivial | exact WkN.refl _ | exact WkB.refl _ | refine ⟨?_, ?_⟩ | refine WkB.cells ?_ | refine WkN.agg ?_ | refine WkN.tup ?_)); (all_goals (first | exact okt | skip)))
  have h1 : inB st 0 9 = true := by simpa using h1
  rw [h1]
  simp only [Bool.not_true, Bool.false_or]
  (cbv; (try simp only [nc] at *); (try refine Chk.mk (okc) ?_))
  refine call0 (c67 a 0 43200) (by first | rfl | (simp only [zoneA, bookA, lst_nt hnt]; rfl)) fun r h₂ hp => ?_
  (try simp only [zoneA, bookA, lst_nt hnt] at hp)
  obtain ⟨rfl, rfl⟩ := hp
  (cbv; (try simp only [nc] at *); (try refine Chk.mk (okc) ?_))
  refine ⟨fun h2 => ?_, fun h2 => ?_⟩
  · have h2 : inB a 0 43200 = false := by simpa [h1] using h2
    rw [h2]
    simp only [Bool.not_false, if_true]
    (cbv; (try simp only [nc] at *); (try refine Chk.mk (okc) ?_))
    refine ⟨_, [], ?_, rfl, rfl⟩
    (refine To.of [] ?_; cbv; (try simp only [nc]); (repeat' (first | exact trivial | exact WkN.refl _ | exact WkB.refl _ | refine ⟨?_, ?_⟩ | refine WkB.cells ?_ | refine WkN.agg ?_ | refine WkN.tup ?_)); (all_goals (first | exact okt | skip)))
  have h2 : inB a 0 43200 = true := by simpa [h1] using h2
  rw [h2]
  simp only [Bool.not_true, Bool.false_eq_true, if_false]
  (cbv; (try simp only [nc] at *); (try refine Chk.mk (okc) ?_))
  refine call0 (k86) (by first | rfl | (simp only [zoneA, bookA, lst_nt hnt]; rfl)) fun r h₂ hp => ?_
  (try simp only [zoneA, bookA, lst_nt hnt] at hp)
  obtain ⟨rfl, rfl⟩ := hp
  (cbv; (try simp only [nc] at *); (try refine Chk.mk (okc) ?_))
  refine rangeT [4, 5, 6, 7, 12, 32] [.tok 3 fun _ => 0] [(4, .cells [.isl 3 (fun _ => 0) (fun e => encRide (nt Sp.Ride default [] (e ()))) (.own 5)])] (fid := 91) (first := []) ?_ rfl ?_ ?_
  · (refine To.of [(3,false)] ?_; cbv; (try simp only [nc]); (repeat' (first | exact trivial | exact WkN.refl _ | exact WkB.refl _ | refine ⟨?_, ?_⟩ | refine WkB.cells ?_ | refine WkN.agg ?_ | refine WkN.tup ?_)); (all_goals (first | exact okt | skip)))
  · exact allc_nil
  have k117 := fun s ps aa x => c117_6 b (by have := hok.last; omega) hok s ps aa x (fun _ => .cells (bookC b)) (fun _ => .cells [.int .i64 fun _ => n]) (fun _ => .cells [.int .i64 fun _ => st]) (fun _ => .cells [.int .i64 fun _ => a]) (fun acc => .cells [.isl 3 (fun _ => ((nextL b n st a acc).length : Int)) (fun e => encRide (nt Sp.Ride default (nextL b n st a acc) (e ()))) (.own 5)]) (fun acc => .tok 3 fun _ => ((nextL b n st a acc).length : Int))
  unfold bookI bookC at k117
  simp only [lst_nt hnt] at k117
  simp only [lstR_nt hnt]
  refine SC.mono (k117 _ _ _ _ ?_ ?_ ?_) ?_
  · intro acc; cbv
  · intro acc t; cbv
  · intro acc t day ha hm hs hd
    have hlen : 2 ≤ (calls b.zones t day).length := by rw [calls_len]; exact (tabOk hok hm).len.1
    have hlen4 : (calls b.zones t day).length ≤ 4 := by rw [calls_len]; exact (tabOk hok hm).len.2
    simp only [nextL_snoc]
    have hnx : nextOf b n st a (t, day) = nextC n st a t day (calls b.zones t day) := rfl
    generalize nextOf b n st a (t, day) = rd at *
    have hO : (nextL b n st a acc).length ≤ 1000 := Nat.le_trans (List.length_filterMap_le _ _) ha
    generalize nextL b n st a acc = O at *
    generalize calls b.zones t day = C at *
    have k0 := c119 t day C st 0 (by omega) (by omega)
    have b0 := callAt_lt (C := C) (st := st) (k := 0) (by omega)
    unfold runV encTrain at *
    simp only [lst_nt hnt] at *
    unfold nextC at hnx
    refine YC.less (yieldR false false [] rfl rfl ?_)
    (cbv; (try simp only [nc] at *); (try refine Chk.mk (okc) ?_))
    refine call0 (k0) (by first | rfl | (simp only [zoneA, bookA, lst_nt hnt]; rfl)) fun r h₂ hp => ?_
    (try simp only [zoneA, bookA, lst_nt hnt] at hp)
    obtain ⟨rfl, rfl⟩ := hp
    generalize hf : callAt C st 0 = f at *
    have hG : (bif bif t.number == n then decide (0 ≤ f) else false then decide (f < (C.length : Int) - 1) else false) = true → t.number = n ∧ 0 ≤ f ∧ f < (C.length : Int) - 1 := fun h => by
      by_cases g1 : t.number = n <;> by_cases g2 : 0 ≤ f <;> by_cases g3 : f < (C.length : Int) - 1 <;> simp [g1, g2, g3] at h ⊢
    (cbv; try simp only [nc] at *)
    refine Chk.mk (by (try simp only [nc, allc0, allc1, allcE, allcI, Cn.p, and_true, true_and, decide_eq_true_eq, imp_self, List.length_cons, List.length_nil]); (repeat' (first | apply And.intro | intro _)) <;> first | omega | rfl | assumption | (have := hG (by assumption); omega) | decide +kernel) ?_
    have e1 : C.getD f.toNat default = nt Sp.Call default C f := by rw [hnt]
    rw [e1] at hnx
    refine ⟨fun h3 => ?_, fun h3 => ?_⟩
    · have hc : t.number = n ∧ 0 ≤ f ∧ f < (C.length : Int) - 1 ∧ a ≤ (nt Sp.Call default C f).depart := by
        by_cases g1 : t.number = n <;> by_cases g2 : 0 ≤ f <;> by_cases g3 : f < (C.length : Int) - 1 <;> by_cases g4 : a ≤ (nt Sp.Call default C f).depart <;> simp [g1, g2, g3, g4] at h3 ⊢
      have g1 := hc.1
      have g2 := hc.2.1
      have g3 := hc.2.2.1
      have g4 := hc.2.2.2
      rw [if_pos g1, if_pos g2, if_pos g3, if_pos g4] at hnx
      rw [hnx]
      clear hnx e1
      (cbv; (try simp only [nc] at *); (try refine Chk.mk (okc) ?_))
      refine ⟨_, _, ?_, rfl, rfl⟩
      (refine To.of [] ?_; cbv; (try simp only [nc]); (repeat' (first | exact trivial | exact WkN.refl _ | exact WkB.refl _ | refine ⟨?_, ?_⟩ | refine WkB.cells ?_ | refine WkN.agg ?_ | refine WkN.tup ?_)); (all_goals (first | exact okt | skip)))
    · have hr : rd = none := by
        rw [hnx]
        by_cases g1 : t.number = n <;> by_cases g2 : 0 ≤ f <;> by_cases g3 : f < (C.length : Int) - 1 <;> by_cases g4 : a ≤ (nt Sp.Call default C f).depart <;> simp [g1, g2, g3, g4] at h3 ⊢
      rw [hr]
      (cbv; (try simp only [nc] at *); (try refine Chk.mk (okc) ?_))
      refine ⟨_, _, ?_, rfl, rfl⟩
      simp only [List.append_nil]
      (refine To.of [] ?_; cbv; (try simp only [nc]); (repeat' (first | exact trivial | exact WkN.refl _ | exact WkB.refl _ | refine ⟨?_, ?_⟩ | refine WkB.cells ?_ | refine WkN.agg ?_ | refine WkN.tup ?_)); (all_goals (first | exact okt | skip)))
  · intro r h hh
    subst hh
    have hRl : (nextL b n st a (runsTo b (b.last + 1).toNat)).length ≤ 1000 := Nat.le_trans (List.length_filterMap_le _ _) (by have := runsTo_len hok (b.last + 1).toNat; omega)
    generalize nextL b n st a (runsTo b (b.last + 1).toNat) = R at *
    (cbv; (try simp only [nc] at *); (try refine Chk.mk (okc) ?_))
    refine call0 (c108n R (by omega)) (by first | rfl | (simp only [zoneA, bookA, lst_nt hnt]; rfl)) fun r h₂ hp => ?_
    (try simp only [zoneA, bookA, lst_nt hnt] at hp)
    obtain ⟨rfl, rfl⟩ := hp
    generalize least R = X at *
    (cbv; (try simp only [nc] at *); (try refine Chk.mk (okc) ?_))
    refine ⟨fun h3 => ?_, fun h3 => ?_⟩
    · have h3 : R.length = 0 := by simpa using h3
      rw [if_pos h3]
      (cbv; (try simp only [nc] at *); (try refine Chk.mk (okc) ?_))
      refine ⟨_, [], ?_, rfl, rfl⟩
      (refine To.of [] ?_; cbv; (try simp only [nc]); (repeat' (first | exact trivial | exact WkN.refl _ | exact WkB.refl _ | refine ⟨?_, ?_⟩ | refine WkB.cells ?_ | refine WkN.agg ?_ | refine WkN.tup ?_)); (all_goals (first | exact okt | skip)))
    · have h3 : ¬ R.length = 0 := by have h4 : decide (0 < R.length) = true := by simpa using h3
                                     have := of_decide_eq_true h4; omega
      rw [if_neg h3]
      (cbv; (try simp only [nc] at *); (try refine Chk.mk (okc) ?_))
      refine ⟨_, [], ?_, rfl, rfl⟩
      (refine To.of [] ?_; cbv; (try simp only [nc]); (repeat' (first | exact trivial | exact WkN.refl _ | exact WkB.refl _ | refine ⟨?_, ?_⟩ | refine WkB.cells ?_ | refine WkN.agg ?_ | refine WkN.tup ?_)); (all_goals (first | exact okt | skip)))
end Go.Proofs.YtlcgliadpalgfaaGreat.Vm

/- Plain: the reference's rides. -/
namespace Go.Proofs.YtlcgliadpalgfaaGreat.Vm
open Sp

/-- The rides from a call on to the calls of a station. -/
def goM (g : Sp.Leg) (d dep : Int) : List Sp.Call → List Sp.Ride
  | [] => []
  | c :: r => (if c.station = g.to_ then [⟨d, dep, c.arrive⟩] else []) ++ goM g d dep r
def rowK (C : List Sp.Call) (g : Sp.Leg) (d : Int) (k : Nat) : List Sp.Ride :=
  if (C.getD k default).station ≠ g.from_ then [] else (if g.to_ < 0 then [⟨d, (C.getD k default).depart, 0⟩] else []) ++ goM g d (C.getD k default).depart (C.drop (k + 1))
def goK (C : List Sp.Call) (g : Sp.Leg) (d : Int) : Nat → Nat → List Sp.Ride
  | 0, _ => []
  | n + 1, k => rowK C g d k ++ goK C g d n (k + 1)

/-- The rides that calls are. -/
def rideN (C : List Sp.Call) (g : Sp.Leg) (d : Int) : List Sp.Ride :=
  if g.to_ < 0 then (if 0 ≤ callAt C g.from_ 0 ∧ callAt C g.from_ 0 < C.length - 1 then [⟨d, (C.getD (callAt C g.from_ 0).toNat default).depart, 0⟩] else []) else rideC C g d

theorem goM_none {g : Sp.Leg} {d dep : Int} : ∀ {L : List Sp.Call}, (∀ c ∈ L, c.station ≠ g.to_) → goM g d dep L = []
  | [], _ => rfl
  | c :: r, h => by
    unfold goM
    rw [if_neg (h c (List.mem_cons_self ..)), goM_none fun x hx => h x (List.mem_cons_of_mem _ hx)]
    rfl
theorem goM_eq {g : Sp.Leg} {d dep : Int} : ∀ {L : List Sp.Call} {k : Int}, 0 ≤ k → L.Pairwise (fun a c => a.station ≠ c.station) →
    goM g d dep L = if indexFrom (fun c => decide (c.station = g.to_)) k L < 0 then [] else [⟨d, dep, (L.getD (indexFrom (fun c => decide (c.station = g.to_)) k L - k).toNat default).arrive⟩]
  | [], k, _, _ => by simp [goM, indexFrom]
  | c :: r, k, hk, hp => by
    have hp' := List.pairwise_cons.1 hp
    by_cases hc : c.station = g.to_
    · have e1 : indexFrom (fun c : Sp.Call => decide (c.station = g.to_)) k (c :: r) = k := by unfold indexFrom; rw [if_pos (by simpa using hc)]
      rw [e1, if_neg (by omega)]
      unfold goM
      rw [if_pos hc, goM_none fun x hx => by have := hp'.1 x hx; rw [hc] at this; exact Ne.symm this]
      simp
    · have e1 : indexFrom (fun c : Sp.Call => decide (c.station = g.to_)) k (c :: r) = indexFrom (fun c : Sp.Call => decide (c.station = g.to_)) (k + 1) r := by rw [indexFrom.eq_def]; dsimp only; rw [if_neg (by simpa using hc)]
      rw [e1]
      unfold goM
      rw [if_neg hc, List.nil_append, goM_eq (k := k + 1) (by omega) hp'.2]
      by_cases hI : indexFrom (fun c : Sp.Call => decide (c.station = g.to_)) (k + 1) r < 0
      · rw [if_pos hI, if_pos hI]
      · rw [if_neg hI, if_neg hI]
        have := indexFrom_lt (q := fun c : Sp.Call => decide (c.station = g.to_)) (l := r) (i := k + 1) (by omega)
        have e : (indexFrom (fun c : Sp.Call => decide (c.station = g.to_)) (k + 1) r - k).toNat = (indexFrom (fun c : Sp.Call => decide (c.station = g.to_)) (k + 1) r - (k + 1)).toNat + 1 := by omega
        rw [e, List.getD_cons_succ]

theorem dist_of {C : List Sp.Call} (h : C.Pairwise (fun a c => a.station ≠ c.station)) : Dist C := fun i j hi hj e => by
  have hp := List.pairwise_iff_getElem.1 h
  simp only [List.getD_eq_getElem?_getD, List.getElem?_eq_getElem hi, List.getElem?_eq_getElem hj, Option.getD_some] at e
  rcases Nat.lt_trichotomy i j with h1 | h1 | h1
  · exact absurd e (hp i j hi hj h1)
  · exact h1
  · exact absurd e.symm (hp j i hj hi h1)

theorem goK_at {C : List Sp.Call} {g : Sp.Leg} {d : Int} (hd : Dist C) : ∀ (n k : Nat), k + n ≤ C.length → goK C g d n k = if (k : Int) ≤ callAt C g.from_ 0 ∧ callAt C g.from_ 0 < k + n then rowK C g d (callAt C g.from_ 0).toNat else []
  | 0, k, _ => by rw [if_neg (by omega)]; rfl
  | n + 1, k, h => by
    unfold goK
    rw [goK_at hd n (k + 1) (by omega)]
    by_cases hs : (C.getD k default).station = g.from_
    · have hi := (callAt_iff hd (k := 0) (Nat.zero_le _) (show k < C.length by omega)).1 hs
      rw [if_neg (by omega), if_pos (by omega), List.append_nil, hi]
      simp
    · have hi : callAt C g.from_ 0 ≠ k := fun e => hs ((callAt_iff hd (k := 0) (Nat.zero_le _) (show k < C.length by omega)).2 e)
      have e : rowK C g d k = [] := by unfold rowK; rw [if_pos hs]
      rw [e, List.nil_append]
      by_cases hc : ((k + 1 : Nat) : Int) ≤ callAt C g.from_ 0 ∧ callAt C g.from_ 0 < ((k + 1 : Nat) : Int) + n
      · rw [if_pos hc, if_pos (by omega)]
      · rw [if_neg hc, if_neg (by omega)]

theorem callAt_rng (C : List Sp.Call) (st : Int) (k : Nat) : callAt C st k = -1 ∨ (k : Int) ≤ callAt C st k ∧ callAt C st k < C.length := by
  unfold callAt
  have := indexFrom_lt (q := fun c : Sp.Call => decide (c.station = st)) (l := C.drop k) (i := (k : Int)) (by omega)
  rcases Nat.lt_or_ge k C.length with h | h
  · rw [List.length_drop] at this
    omega
  · rw [List.drop_eq_nil_of_le h]; exact .inl rfl

theorem goK_eq {C : List Sp.Call} {g : Sp.Leg} {d : Int} (hp : C.Pairwise (fun a c => a.station ≠ c.station)) (h0 : ∀ c ∈ C, 0 ≤ c.station) : goK C g d (C.length - 1) 0 = rideN C g d := by
  have hd := dist_of hp
  rw [goK_at hd _ _ (by omega)]
  have hr := callAt_rng C g.from_ 0
  unfold rideN
  by_cases hi : 0 ≤ callAt C g.from_ 0 ∧ callAt C g.from_ 0 < C.length - 1
  · rw [if_pos (by omega)]
    have hst : (C.getD (callAt C g.from_ 0).toNat default).station = g.from_ := (callAt_iff hd (k := 0) (Nat.zero_le _) (by omega)).2 (by omega)
    unfold rowK
    rw [if_neg (fun h => h hst)]
    by_cases ht : g.to_ < 0
    · rw [if_pos ht, if_pos ht, if_pos hi, goM_none fun c hc => by have := h0 c (List.mem_of_mem_drop hc); omega]
      rfl
    · rw [if_neg ht, if_neg ht, List.nil_append, goM_eq (k := ((callAt C g.from_ 0).toNat + 1 : Nat)) (by omega) (hp.drop)]
      change (if callAt C g.to_ ((callAt C g.from_ 0).toNat + 1) < 0 then _ else _) = _
      have hr2 := callAt_rng C g.to_ ((callAt C g.from_ 0).toNat + 1)
      unfold rideC
      by_cases hm : callAt C g.to_ ((callAt C g.from_ 0).toNat + 1) < 0
      · rw [if_pos hm, if_neg (by omega)]
      · rw [if_neg hm, if_pos (by omega)]
        have e : (C.drop ((callAt C g.from_ 0).toNat + 1)).getD (callAt C g.to_ ((callAt C g.from_ 0).toNat + 1) - (((callAt C g.from_ 0).toNat + 1 : Nat) : Int)).toNat default = C.getD (callAt C g.to_ ((callAt C g.from_ 0).toNat + 1)).toNat default := by
          rw [List.getD_eq_getElem?_getD, List.getD_eq_getElem?_getD, List.getElem?_drop]
          congr 2
          omega
        show [(⟨d, _, ((C.drop ((callAt C g.from_ 0).toNat + 1)).getD (callAt C g.to_ ((callAt C g.from_ 0).toNat + 1) - (((callAt C g.from_ 0).toNat + 1 : Nat) : Int)).toNat default).arrive⟩ : Sp.Ride)] = _
        rw [e]
  · rw [if_neg (by omega)]
    by_cases ht : g.to_ < 0
    · rw [if_pos ht, if_neg hi]
    · rw [if_neg ht]
      unfold rideC
      rw [if_neg]
      intro h
      have hr2 := callAt_rng C g.to_ ((callAt C g.from_ 0).toNat + 1)
      omega

theorem callsGo_map {zs : List Zone} {day : Int} {many : Nat} : ∀ (S : List Stop) (i : Nat) (now : Int), (callsGo zs day many i now S).map (·.station) = S.map (·.station)
  | [], _, _ => rfl
  | s :: r, i, now => by
    unfold callsGo
    split
    · simp [callsGo_map r]
    · simp [callsGo_map r]
theorem calls_pair {zs : List Zone} {t : Train} {d : Int} (h : t.stops.Pairwise (fun a c => a.station ≠ c.station)) : (calls zs t d).Pairwise (fun a c => a.station ≠ c.station) := by
  have h1 : (t.stops.map (·.station)).Pairwise (· ≠ ·) := List.pairwise_map.2 h
  rw [← callsGo_map (zs := zs) (day := d) (many := t.stops.length) t.stops 0 0] at h1
  exact List.pairwise_map.1 h1
theorem calls_nn {zs : List Zone} {t : Train} {d : Int} (h : ∀ s ∈ t.stops, 0 ≤ s.station) : ∀ c ∈ calls zs t d, 0 ≤ c.station := fun c hc => by
  have h1 : c.station ∈ (calls zs t d).map (·.station) := List.mem_map.2 ⟨c, hc, rfl⟩
  unfold calls at h1
  rw [callsGo_map] at h1
  obtain ⟨s, hs, e⟩ := List.mem_map.1 h1
  rw [← e]
  exact h s hs

/-- The ride of the reference that a run is. -/
def rideRO (b : Book) (g : Sp.Leg) (x : Train × Int) : Option Sp.Ride := if x.1.number = g.number then (rideN (calls b.zones x.1 x.2) g x.2).head? else none
theorem rideN_list (C : List Sp.Call) (g : Sp.Leg) (d : Int) : (rideN C g d).head?.toList = rideN C g d := by
  unfold rideN rideC
  split
  · split <;> rfl
  · split <;> rfl
def refRides (b : Book) (g : Sp.Leg) : List Sp.Ride := (runsTo b (b.last + 1).toNat).filterMap (rideRO b g)
theorem rideRO_rideOf {b : Book} {g : Sp.Leg} (h : 0 ≤ g.to_) (x : Train × Int) : rideRO b g x = rideOf b g x := by
  unfold rideRO
  by_cases hn : x.1.number = g.number
  · rw [if_pos hn]
    unfold rideN
    rw [if_neg (by omega), ← rideOf_C hn]
    cases rideOf b g (x.1, x.2) <;> rfl
  · rw [if_neg hn]
    exact (rideOf_none (d := x.2) hn).symm
theorem refRides_rides {b : Book} {g : Sp.Leg} (h : 0 ≤ g.to_) : refRides b g = rides b g := by
  unfold refRides rides ridesL
  congr 1
  funext x
  exact rideRO_rideOf h x
theorem since_filterMap {α : Type} {a : Int} {f : α → Option Sp.Ride} {f' : α → Option Sp.Ride} (h : ∀ x, f' x = (f x).filter (fun r => !decide (r.depart < a))) : ∀ l : List α, since a (l.filterMap f) = l.filterMap f'
  | [] => rfl
  | x :: l => by
    have ih := since_filterMap h l
    rw [List.filterMap_cons, List.filterMap_cons, h x]
    unfold since at *
    cases hf : f x with
    | none => simpa using ih
    | some r =>
      simp only [List.filter_cons, Option.filter]
      split
      · rename_i hc; simp [ih]
      · rename_i hc; simp [ih]
theorem next_ref (b : Book) (n st a : Int) : nextL b n st a (runsTo b (b.last + 1).toNat) = since a (refRides b ⟨n, st, -1⟩) := by
  unfold nextL refRides
  rw [since_filterMap (f' := nextOf b n st a)]
  intro x
  unfold nextOf nextC rideRO rideN
  simp only
  by_cases h1 : x.1.number = n
  · rw [if_pos h1, if_pos h1, if_pos (show (-1 : Int) < 0 by decide)]
    by_cases h2 : 0 ≤ callAt (calls b.zones x.1 x.2) st 0
    · rw [if_pos h2]
      by_cases h3 : callAt (calls b.zones x.1 x.2) st 0 < (calls b.zones x.1 x.2).length - 1
      · rw [if_pos h3, if_pos (And.intro h2 h3)]
        by_cases h4 : a ≤ ((calls b.zones x.1 x.2).getD (callAt (calls b.zones x.1 x.2) st 0).toNat default).depart
        · rw [if_pos h4]
          simp only [List.head?_cons, Option.filter]
          rw [if_pos (by simpa using h4)]
        · rw [if_neg h4]
          simp only [List.head?_cons, Option.filter]
          rw [if_neg (by simpa using h4)]
      · rw [if_neg h3, if_neg (fun h => h3 h.2)]; rfl
    · rw [if_neg h2, if_neg (fun h => h2 h.1)]; rfl
  · rw [if_neg h1, if_neg h1]; rfl
end Go.Proofs.YtlcgliadpalgfaaGreat.Vm

/- The statement ClockKept: printed hours are kept. -/
namespace Go.Proofs.YtlcgliadpalgfaaGreat.Vm
open Go Go.Proofs Sp
set_option maxRecDepth 100000
set_option maxHeartbeats 1600000

theorem callsGo_length {zs : List Zone} {day : Int} {many : Nat} : ∀ (S : List Stop) (i : Nat) (now : Int), (callsGo zs day many i now S).length = S.length
  | [], _, _ => rfl
  | s :: r, i, now => by
    unfold callsGo
    split
    · simp only [List.length_cons, callsGo_length r]
    · simp only [List.length_cons, callsGo_length r]

theorem nb5 {a b : Bool} (h1 : a = true) (h2 : b = true) : (bif a then b else false) = true := by rw [h1, h2]; rfl
theorem nb6 {a b : Bool} (h1 : a = false) (h2 : b = false) : (bif a then true else b) = false := by rw [h1, h2]; rfl

end Go.Proofs.YtlcgliadpalgfaaGreat.Vm

/- Contracts: the reference's zones: checks, and by how much a clock is ahead. -/
namespace Go.Proofs.YtlcgliadpalgfaaGreat.Vm
open Go Go.Proofs Sp
set_option maxRecDepth 100000
set_option maxHeartbeats 1600000

theorem c72 (n a b : Int) : SC (fun _ => Tryz.prog) 63 [.int .i64 fun _ => n, .int .i64 fun _ => a, .int .i64 fun _ => b] [] fun r h => r = .bool (fun _ => inB n a b) ∧ h = [] := by
  refine con Tryz.func63 (body := bodyOf Tryz.f63) rfl (by decide +kernel) ?_
  cbv
  try simp only [nc] at *
  refine ⟨by simp [allc0, allc1, allcE, allcI, Cn.p], ?_, trivial⟩
  congr 1; funext _; unfold inB; cases decide (a ≤ n) <;> rfl

theorem c70 (z : Zone) (hlen : z.chs.length ≤ 1000000) : SC (fun _ => Tryz.prog) 68 [zoneA z] [] fun v h => v = .int .i64 (fun _ => checkZone z) ∧ h = [] := by
  obtain ⟨nt, hnt⟩ := nth_ex
  unfold zoneA checkZone
  rw [lst_nt hnt]
  refine con Tryz.func68 (body := bodyOf Tryz.f68) rfl (by decide +kernel) ?_
  (cbv; (try simp only [nc] at *); (try refine Chk.mk (okc) ?_))
  refine call0 (c72 z.base (-720) 720) (by first | rfl | (simp only [zoneA, lst_nt hnt]; rfl)) fun r h₂ hp => ?_
  (try simp only [zoneA, lst_nt hnt] at hp)
  obtain ⟨rfl, rfl⟩ := hp
  (cbv; (try simp only [nc] at *); (try refine Chk.mk (okc) ?_))
  refine ⟨fun h1 => ?_, fun h1 => ?_⟩
  · rw [if_pos h1]
    (cbv; (try simp only [nc] at *); (try refine Chk.mk (okc) ?_))
    (try first | exact ⟨rfl, trivial⟩ | exact ⟨trivial, trivial⟩)
  rw [if_neg (by rw [h1]; exact Bool.false_ne_true)]
  refine ⟨fun h2 => ?_, fun h2 => ?_⟩
  · simp only [decide_eq_true_eq] at h2
    rw [if_pos (by omega)]
    (cbv; (try simp only [nc] at *); (try refine Chk.mk (okc) ?_))
    (try first | exact ⟨rfl, trivial⟩ | exact ⟨trivial, trivial⟩)
  simp only [decide_eq_false_iff_not] at h2
  rw [if_neg (by omega)]
  generalize hC : chkChs none z.chs = C at *
  (cbv; (try simp only [nc] at *); (try refine Chk.mk (okc) ?_))
  refine loopS false false [] [1, 3] [] (fun (i : Nat) => [(3, .int .i64 fun _ => (i : Int))]) (fun _ => []) (fun i => i ≤ z.chs.length ∧ chkChs (if i = 0 then none else some (nt Chg default z.chs ((i : Int) - 1)).at_) (z.chs.drop i) = C) (fun i => z.chs.length - i + 0) 0 ⟨Nat.zero_le _, by simpa using hC⟩ ?_ ?_
  · (refine To.of [] ?_; cbv; (try simp only [nc]); (repeat' (first | exact trivial | exact WkN.refl _ | exact WkB.refl _ | refine ⟨?_, ?_⟩ | refine WkB.cells ?_ | refine WkN.agg ?_ | refine WkN.tup ?_)); (all_goals (first | exact okt | skip)))
  rintro i ⟨hi, hp⟩
  (cbv; (try simp only [nc] at *); (try refine Chk.mk (okc) ?_))
  refine ⟨fun hb => ?_, fun hb => ?_⟩
  · simp only [decide_eq_true_eq] at hb
    have hil : i < z.chs.length := by omega
    rw [nt_drop (d := default) hnt hil, chkChs_cons] at hp
    have hnx : (if i + 1 = 0 then none else some (nt Chg default z.chs (((i + 1 : Nat) : Int) - 1)).at_) = some (nt Chg default z.chs (i : Int)).at_ := by
      rw [if_neg (by omega)]; congr 3; omega
    generalize hc : nt Chg default z.chs (i : Int) = c at *
    have hlow : (bif decide (0 < (i : Int)) then decide (c.at_ ≤ (nt Chg default z.chs ((i : Int) - 1)).at_) else false) = leP (if i = 0 then none else some (nt Chg default z.chs ((i : Int) - 1)).at_) c.at_ := by
      by_cases h0 : i = 0
      · subst h0; rfl
      · rw [if_neg h0, decide_eq_true (show 0 < (i : Int) by omega)]; rfl
    rw [← hlow] at hp
    have k1 := c72 c.at_ 0 43200
    have k2 := c72 c.by_ (-180) 180
    generalize inB c.at_ 0 43200 = b1 at *
    generalize inB c.by_ (-180) 180 = b2 at *
    (cbv; try simp only [nc] at *)
    simp only [hc]
    refine Chk.mk (okc) ?_
    refine call0 (k1) (by first | rfl | (simp only [zoneA, lst_nt hnt]; rfl)) fun r h₂ hp => ?_
    (try simp only [zoneA, lst_nt hnt] at hp)
    obtain ⟨rfl, rfl⟩ := hp
    (cbv; (try simp only [nc] at *); (try refine Chk.mk (okc) ?_))
    refine ⟨fun h3 => ?_, fun h3 => ?_⟩
    · rw [if_pos h3] at hp
      rw [← hp]
      (cbv; (try simp only [nc] at *); (try refine Chk.mk (okc) ?_))
      (try first | exact ⟨rfl, trivial⟩ | exact ⟨trivial, trivial⟩)
    rw [if_neg (by rw [h3]; exact Bool.false_ne_true)] at hp
    (cbv; (try simp only [nc] at *); (try refine Chk.mk (okc) ?_))
    refine ⟨fun h4 => ?_, fun h4 => ?_⟩
    · rw [if_pos h4] at hp
      rw [← hp]
      (cbv; (try simp only [nc] at *); (try refine Chk.mk (okc) ?_))
      (try first | exact ⟨rfl, trivial⟩ | exact ⟨trivial, trivial⟩)
    rw [if_neg (by rw [h4]; exact Bool.false_ne_true)] at hp
    (cbv; (try simp only [nc] at *); (try refine Chk.mk (okc) ?_))
    refine call0 (k2) (by first | rfl | (simp only [zoneA, lst_nt hnt]; rfl)) fun r h₂ hp => ?_
    (try simp only [zoneA, lst_nt hnt] at hp)
    obtain ⟨rfl, rfl⟩ := hp
    (cbv; (try simp only [nc] at *); (try refine Chk.mk (okc) ?_))
    refine ⟨fun h5 => ?_, fun h5 => ?_⟩
    · have h5' : (!b2 || decide (c.by_ = 0)) = true := by
        cases b2
        · rfl
        · simpa using h5
      rw [if_pos h5'] at hp
      rw [← hp]
      (cbv; (try simp only [nc] at *); (try refine Chk.mk (okc) ?_))
      (try first | exact ⟨rfl, trivial⟩ | exact ⟨trivial, trivial⟩)
    · have h5' : ¬ (!b2 || decide (c.by_ = 0)) = true := by
        cases b2
        · simp at h5
        · simpa using h5
      rw [if_neg h5'] at hp
      (cbv; (try simp only [nc] at *); (try refine Chk.mk (okc) ?_))
      refine ⟨i + 1, ⟨by omega, by rw [hnx]; exact hp⟩, by show z.chs.length - (i + 1) + 0 < z.chs.length - i + 0; omega, ?_⟩
      (refine To.of [] ?_; cbv; (try simp only [nc]); (repeat' (first | exact trivial | exact WkN.refl _ | exact WkB.refl _ | refine ⟨?_, ?_⟩ | refine WkB.cells ?_ | refine WkN.agg ?_ | refine WkN.tup ?_)); (all_goals (first | exact okt | skip)))
  · have hie : z.chs.length ≤ i := by simp only [decide_eq_false_iff_not] at hb; omega
    rw [List.drop_eq_nil_of_le hie, chkChs_nil] at hp
    rw [← hp]
    (cbv; (try simp only [nc] at *); (try refine Chk.mk (okc) ?_))
    (try first | exact ⟨rfl, trivial⟩ | exact ⟨trivial, trivial⟩)
end Go.Proofs.YtlcgliadpalgfaaGreat.Vm

/- Contracts: the reference's clocks. -/
namespace Go.Proofs.YtlcgliadpalgfaaGreat.Vm
open Go Go.Proofs Sp
set_option maxRecDepth 100000
set_option maxHeartbeats 1600000

/-- By how much a clock is ahead, all changes looked at. -/
def raGo : Int → List Chg → Int → Int
  | a, [], _ => a
  | a, c :: r, k => raGo (if c.at_ ≤ k then a + c.by_ else a) r k
theorem raGo_no {k : Int} : ∀ {l : List Chg} {a lo : Int}, Asc lo l → k < lo → raGo a l k = a
  | [], _, _, _, _ => rfl
  | c :: r, a, lo, h, hk => by
    unfold raGo
    rw [if_neg (by have := h.1; omega)]
    exact raGo_no h.2 (by have := h.1; omega)
theorem raGo_af {k : Int} : ∀ {l : List Chg} {a lo : Int}, Asc lo l → raGo a l k = af a l k
  | [], _, _, _ => rfl
  | c :: r, a, lo, h => by
    unfold raGo af
    by_cases hc : c.at_ ≤ k
    · rw [if_pos hc, if_pos hc]; exact raGo_af h.2
    · rw [if_neg hc, if_neg hc]; exact raGo_no h.2 (by omega)

theorem c97 (z : Zone) (t : Int) (hz : checkZone z = 0) : SC (fun _ => Tryz.prog) 109 [zoneA z, .int .i64 fun _ => t] [] fun v h => v = .int .i64 (fun _ => af z.base z.chs t) ∧ h = [] := by
  obtain ⟨nt, hnt⟩ := nth_ex
  obtain ⟨ha, hb, hl, h1, h2⟩ := asc_of hz
  rw [← raGo_af (a := z.base) (k := t) ha]
  generalize hR : raGo z.base z.chs t = R at *
  refine con Tryz.func109 (body := bodyOf Tryz.f109) rfl (by decide +kernel) ?_
  unfold zoneA
  simp only [lst_nt hnt]
  (cbv; (try simp only [nc] at *); (try refine Chk.mk (okc) ?_))
  refine loopS false false [] [1, 2, 5, 6] [] (fun (⟨i, n⟩ : Nat × Int) => [(5, .int .i64 fun _ => n), (6, .int .i64 fun _ => (i : Int))]) (fun _ => []) (fun ⟨i, n⟩ => i ≤ z.chs.length ∧ (-720 - 180 * (i : Int) ≤ n ∧ n ≤ 720 + 180 * (i : Int)) ∧ raGo n (z.chs.drop i) t = R) (fun i => z.chs.length - i.1 + 0) (0, z.base) ⟨Nat.zero_le _, by simp; omega, by simpa using hR⟩ ?_ ?_
  · (refine To.of [] ?_; cbv; (try simp only [nc]); (repeat' (first | exact trivial | exact WkN.refl _ | exact WkB.refl _ | refine ⟨?_, ?_⟩ | refine WkB.cells ?_ | refine WkN.agg ?_ | refine WkN.tup ?_)); (all_goals (first | exact okt | skip)))
  rintro ⟨i, n⟩ ⟨hi, hn, hp⟩
  have hi : i ≤ z.chs.length := hi
  have hn : -720 - 180 * (i : Int) ≤ n ∧ n ≤ 720 + 180 * (i : Int) := hn
  (cbv; (try simp only [nc] at *); (try refine Chk.mk (okc) ?_))
  refine ⟨fun hb1 => ?_, fun hb1 => ?_⟩
  · simp only [decide_eq_true_eq] at hb1
    have hil : i < z.chs.length := by omega
    rw [nt_drop (d := default) hnt hil] at hp
    have hc := hb _ (nt_mem (d := default) hnt (l := z.chs) (i := i) hil)
    have hp : raGo (if (nt Chg default z.chs (i : Int)).at_ ≤ t then n + (nt Chg default z.chs (i : Int)).by_ else n) (z.chs.drop (i + 1)) t = R := hp
    generalize hx : nt Chg default z.chs (i : Int) = c at *
    (cbv; try simp only [nc] at *)
    simp only [hx]
    refine Chk.mk (okc) ?_
    refine ⟨fun h3 => ?_, fun h3 => ?_⟩
    · rw [if_pos (by simpa using h3)] at hp
      (cbv; try simp only [nc] at *)
      simp only [hx]
      refine Chk.mk (okc) ?_
      refine ⟨(i + 1, n + c.by_), ⟨by show i + 1 ≤ z.chs.length; omega, by dsimp only; omega, hp⟩, by show z.chs.length - (i + 1) + 0 < z.chs.length - i + 0; omega, ?_⟩
      (refine To.of [] ?_; cbv; (try simp only [nc]); (repeat' (first | exact trivial | exact WkN.refl _ | exact WkB.refl _ | refine ⟨?_, ?_⟩ | refine WkB.cells ?_ | refine WkN.agg ?_ | refine WkN.tup ?_)); (all_goals (first | exact okt | skip)))
    · rw [if_neg (by simpa using h3)] at hp
      (cbv; (try simp only [nc] at *); (try refine Chk.mk (okc) ?_))
      refine ⟨(i + 1, n), ⟨by show i + 1 ≤ z.chs.length; omega, by dsimp only; omega, hp⟩, by show z.chs.length - (i + 1) + 0 < z.chs.length - i + 0; omega, ?_⟩
      (refine To.of [] ?_; cbv; (try simp only [nc]); (repeat' (first | exact trivial | exact WkN.refl _ | exact WkB.refl _ | refine ⟨?_, ?_⟩ | refine WkB.cells ?_ | refine WkN.agg ?_ | refine WkN.tup ?_)); (all_goals (first | exact okt | skip)))
  · have hie : z.chs.length ≤ i := by simp only [decide_eq_false_iff_not] at hb1; omega
    rw [List.drop_eq_nil_of_le hie] at hp
    have hp : n = R := hp
    rw [← hp]
    (cbv; (try simp only [nc] at *); (try refine Chk.mk (okc) ?_))
    (try first | exact ⟨rfl, trivial⟩ | exact ⟨trivial, trivial⟩)

theorem instant_ok {z : Zone} {t : Int} (h : checkInstant z t = 0) : checkZone z = 0 ∧ 0 ≤ t ∧ t ≤ 43200 := by
  unfold checkInstant at h
  split at h
  · rename_i h1; exact absurd h h1
  rename_i h1
  split at h
  · cases h
  rename_i h2
  have := inB_ok (by simpa using h2 : inB t 0 43200 = true)
  exact ⟨Decidable.of_not_not h1, this⟩
theorem af_small {z : Zone} (h : checkZone z = 0) {t : Int} : -1260 ≤ af z.base z.chs t ∧ af z.base z.chs t ≤ 1260 := by
  obtain ⟨_, hb, hl, h1, h2⟩ := asc_of h
  have := af_bd z.chs z.base t 180 180 (fun c hc => by have := hb c hc; omega) (by omega) (by omega)
  omega

end Go.Proofs.YtlcgliadpalgfaaGreat.Vm

/- Contracts: the reference's stretches. -/
namespace Go.Proofs.YtlcgliadpalgfaaGreat.Vm
open Go Go.Proofs Sp
set_option maxRecDepth 100000
set_option maxHeartbeats 1600000

/-- A stretch, as the reference has it. -/
def cl (p : Pc) : Pc := if p.bef = openT then ⟨p.fr, -1, p.ahd⟩ else p
def strs (z : Zone) : List Pc := (pieces z).map cl
def sumBy (a : Int) (l : List Chg) : Int := l.foldl (fun a c => a + c.by_) a
theorem af_app : ∀ (l1 l2 : List Chg) (a k : Int), (∀ c ∈ l1, c.at_ ≤ k) → af a (l1 ++ l2) k = af (sumBy a l1) l2 k
  | [], _, _, _, _ => rfl
  | c :: r, l2, a, k, h => by
    have e : af a (c :: r ++ l2) k = if c.at_ ≤ k then af (a + c.by_) (r ++ l2) k else a := rfl
    rw [e, if_pos (h c (List.mem_cons_self ..)), af_app r l2 _ _ (fun x hx => h x (List.mem_cons_of_mem _ hx))]
    rfl
theorem sumBy_snoc (a : Int) (l : List Chg) (c : Chg) : sumBy a (l ++ [c]) = sumBy a l + c.by_ := by unfold sumBy; rw [List.foldl_append]; rfl

/-- Where the reference stands ahead of change i. -/
structure StrAt (z : Zone) (i : Nat) (f : Int) (out : List Pc) : Prop where
  le : i ≤ z.chs.length
  eq : strs z = out ++ (pcsGo f (sumBy z.base (z.chs.take i)) (z.chs.drop i)).map cl
  lo : ∀ c ∈ z.chs.take i, c.at_ ≤ f
  fr : 0 ≤ f ∧ f ≤ 43200
  asc : Asc (if i = 0 then f else f + 1) (z.chs.drop i)
  zero : i = 0 → f = 0
  len : out.length ≤ i

theorem str_start {z : Zone} (h : checkZone z = 0) : StrAt z 0 0 [] := by
  obtain ⟨ha, hb, hl, h1, h2⟩ := asc_of h
  exact ⟨Nat.zero_le _, rfl, by simp, by omega, by simpa using ha, fun _ => rfl, by simp⟩

/-- By how much it is ahead there, if the next change is later. -/
theorem StrAt.ahd {z : Zone} {i : Nat} {f : Int} {out : List Pc} (h : StrAt z i f out) (hn : ∀ c ∈ (z.chs.drop i).head?, f < c.at_) : af z.base z.chs f = sumBy z.base (z.chs.take i) := by
  have e : z.chs = z.chs.take i ++ z.chs.drop i := (List.take_append_drop ..).symm
  rw [e, af_app _ _ _ _ h.lo, ← e]
  cases hd : z.chs.drop i with
  | nil => rfl
  | cons c r =>
    rw [hd] at hn
    have hc := hn c rfl
    unfold af
    rw [if_neg (by omega)]

theorem StrAt.step {z : Zone} {i : Nat} {f : Int} {out : List Pc} {c : Chg} (hz : checkZone z = 0) (h : StrAt z i f out) (hi : i < z.chs.length) (hc : z.chs.drop i = c :: z.chs.drop (i + 1)) (ht : z.chs.take (i + 1) = z.chs.take i ++ [c]) :
    (c.at_ = 0 → StrAt z (i + 1) c.at_ out) ∧ (c.at_ ≠ 0 → af z.base z.chs f = sumBy z.base (z.chs.take i) ∧ StrAt z (i + 1) c.at_ (out ++ [⟨f, c.at_, sumBy z.base (z.chs.take i)⟩])) := by
  obtain ⟨ha, hb, hl, h1, h2⟩ := asc_of hz
  have hcm : c ∈ z.chs := List.mem_of_mem_drop (i := i) (by rw [hc]; exact List.mem_cons_self ..)
  have hcb := hb c hcm
  have hasc := h.asc
  rw [hc] at hasc
  obtain ⟨hlo, hrest⟩ := hasc
  have hfr := h.fr
  have hle : f ≤ c.at_ := by split at hlo <;> omega
  have hsum : sumBy z.base (z.chs.take (i + 1)) = sumBy z.base (z.chs.take i) + c.by_ := by rw [ht, sumBy_snoc]
  have hlo2 : ∀ x ∈ z.chs.take (i + 1), x.at_ ≤ c.at_ := fun x hx => by
    rw [ht] at hx
    rcases List.mem_append.1 hx with hx | hx
    · have := h.lo x hx; omega
    · simp at hx; rw [hx]; exact Int.le_refl _
  have hasc2 : Asc (if i + 1 = 0 then c.at_ else c.at_ + 1) (z.chs.drop (i + 1)) := by rw [if_neg (by omega)]; exact hrest
  have heq := h.eq
  rw [hc] at heq
  have hlen := h.len
  refine ⟨fun h0 => ?_, fun h0 => ?_⟩
  · have hf0 : f = 0 := by omega
    refine ⟨hi, ?_, hlo2, by omega, hasc2, fun h => by omega, by omega⟩
    rw [heq, hsum]
    congr 1
    have e : pcsGo f (sumBy z.base (z.chs.take i)) (c :: z.chs.drop (i + 1)) = pcsGo c.at_ (sumBy z.base (z.chs.take i) + c.by_) (z.chs.drop (i + 1)) := if_neg (by omega)
    rw [e]
  · have hlt : f < c.at_ := by
      by_cases hi0 : i = 0
      · have := h.zero hi0; omega
      · rw [if_neg hi0] at hlo; omega
    refine ⟨h.ahd (by rw [hc]; intro x hx; simp at hx; rw [← hx]; exact hlt), hi, ?_, hlo2, by omega, hasc2, fun h => by omega, by simp; omega⟩
    have e : pcsGo f (sumBy z.base (z.chs.take i)) (c :: z.chs.drop (i + 1)) = ⟨f, c.at_, sumBy z.base (z.chs.take i)⟩ :: pcsGo c.at_ (sumBy z.base (z.chs.take i) + c.by_) (z.chs.drop (i + 1)) := if_pos hlt
    have e2 : cl ⟨f, c.at_, sumBy z.base (z.chs.take i)⟩ = ⟨f, c.at_, sumBy z.base (z.chs.take i)⟩ := if_neg (by unfold openT; show ¬ c.at_ = _; omega)
    rw [heq, e, List.map_cons, e2, hsum, List.append_assoc]
    rfl

theorem StrAt.last {z : Zone} {f : Int} {out : List Pc} (h : StrAt z z.chs.length f out) : af z.base z.chs f = sumBy z.base z.chs ∧ strs z = out ++ [⟨f, -1, sumBy z.base z.chs⟩] := by
  have h1 := h.ahd (by rw [List.drop_length]; intro c hc; cases hc)
  have h2 := h.eq
  rw [List.take_length] at h1 h2
  rw [List.drop_length] at h2
  exact ⟨h1, h2⟩

theorem c101 (z : Zone) (hz : checkZone z = 0) : SC (fun _ => Tryz.prog) 103 [zoneA z] [] fun v h => v = lst 3 encPc default (strs z) ∧ h = [] := by
  obtain ⟨nt, hnt⟩ := nth_ex
  obtain ⟨ha, hb, hl, h1, h2⟩ := asc_of hz
  have k97 := fun t => c97 z t hz
  have hst := str_start hz
  generalize hS : strs z = S at *
  refine SC.less (con Tryz.func103 (body := bodyOf Tryz.f103) rfl (by decide +kernel) ?_)
  unfold zoneA at *
  simp only [lst_nt hnt] at *
  (cbv; (try simp only [nc] at *); (try refine Chk.mk (okc) ?_))
  refine loopS false false [] [1, 3, 4, 5] [.tok 3 fun _ => 0] (fun (⟨i, f, out⟩ : Nat × Int × List Pc) => [(3, .isl 3 (fun _ => (out.length : Int)) (fun e => encPc (nt Pc default out (e ()))) (.own 1)), (4, .int .i64 fun _ => f), (5, .int .i64 fun _ => (i : Int))])
    (fun ⟨i, f, out⟩ => [(1, .tok 3 fun _ => (out.length : Int))]) (fun ⟨i, f, out⟩ => StrAt z i f out ∨ (i = z.chs.length + 1 ∧ out = S)) (fun i => z.chs.length + 1 - i.1 + 0) (0, 0, []) (.inl hst) ?_ ?_
  · (refine To.of [(3,false)] ?_; cbv; (try simp only [nc]); (repeat' (first | exact trivial | exact WkN.refl _ | exact WkB.refl _ | refine ⟨?_, ?_⟩ | refine WkB.cells ?_ | refine WkN.agg ?_ | refine WkN.tup ?_)); (all_goals (first | exact okt | skip)))
  rintro ⟨i, f, out⟩ hp
  have hp : StrAt z i f out ∨ (i = z.chs.length + 1 ∧ out = S) := hp
  have hol : out.length ≤ 100 ∨ out = S := by
    rcases hp with h | ⟨_, h⟩
    · have := h.len; have := h.le; omega
    · exact .inr h
  (cbv; (try simp only [nc] at *); (try refine Chk.mk (okc) ?_))
  refine ⟨fun hb1 => ?_, fun hb1 => ?_⟩
  · simp only [decide_eq_true_eq] at hb1
    have hs : StrAt z i f out := by
      rcases hp with h | ⟨h, _⟩
      · exact h
      · omega
    have hle := hs.le
    have hlen := hs.len
    have k97 := k97 f
    (cbv; (try simp only [nc] at *); (try refine Chk.mk (okc) ?_))
    refine ⟨fun hb2 => ?_, fun hb2 => ?_⟩
    · simp only [decide_eq_true_eq] at hb2
      have hil : i < z.chs.length := by omega
      have hst2 := hs.step hz hil (nt_drop (d := default) hnt hil) (nt_take (d := default) hnt hil)
      generalize hc : nt Chg default z.chs (i : Int) = c at *
      (cbv; try simp only [nc] at *)
      simp only [hc]
      refine Chk.mk (okc) ?_
      refine ⟨fun hb3 => ?_, fun hb3 => ?_⟩
      · have h0 : c.at_ ≠ 0 := by simpa using hb3
        obtain ⟨g1, g2⟩ := hst2.2 h0
        rw [g1] at k97
        generalize sumBy z.base (z.chs.take i) = A at *
        (cbv; (try simp only [nc] at *); (try refine Chk.mk (okc) ?_))
        refine call0 (k97) (by first | rfl | (simp only [zoneA, lst_nt hnt]; rfl)) fun r h₂ hp => ?_
        (try simp only [zoneA, lst_nt hnt] at hp)
        obtain ⟨rfl, rfl⟩ := hp
        (cbv; (try simp only [nc] at *); (try refine Chk.mk (okc) ?_))
        refine ⟨(i + 1, c.at_, out ++ [⟨f, c.at_, A⟩]), .inl g2, by show z.chs.length + 1 - (i + 1) + 0 < z.chs.length + 1 - i + 0; omega, ?_⟩
        (refine To.of [] ?_; cbv; (try simp only [nc]); (repeat' (first | exact trivial | exact WkN.refl _ | exact WkB.refl _ | refine ⟨?_, ?_⟩ | refine WkB.cells ?_ | refine WkN.agg ?_ | refine WkN.tup ?_)); (all_goals (first | exact okt | skip)))
      · have h0 : c.at_ = 0 := by simpa using hb3
        have g2 := hst2.1 h0
        (cbv; (try simp only [nc] at *); (try refine Chk.mk (okc) ?_))
        refine ⟨(i + 1, c.at_, out), .inl g2, by show z.chs.length + 1 - (i + 1) + 0 < z.chs.length + 1 - i + 0; omega, ?_⟩
        (refine To.of [] ?_; cbv; (try simp only [nc]); (repeat' (first | exact trivial | exact WkN.refl _ | exact WkB.refl _ | refine ⟨?_, ?_⟩ | refine WkB.cells ?_ | refine WkN.agg ?_ | refine WkN.tup ?_)); (all_goals (first | exact okt | skip)))
    · simp only [decide_eq_false_iff_not] at hb2
      have hie : i = z.chs.length := by omega
      obtain ⟨g1, g2⟩ := (hie ▸ hs : StrAt z z.chs.length f out).last
      rw [g1] at k97
      rw [hS] at g2
      generalize sumBy z.base z.chs = A at *
      (cbv; (try simp only [nc] at *); (try refine Chk.mk (okc) ?_))
      refine Br.isT rfl ?_
      (cbv; (try simp only [nc] at *); (try refine Chk.mk (okc) ?_))
      refine call0 (k97) (by first | rfl | (simp only [zoneA, lst_nt hnt]; rfl)) fun r h₂ hp => ?_
      (try simp only [zoneA, lst_nt hnt] at hp)
      obtain ⟨rfl, rfl⟩ := hp
      (cbv; (try simp only [nc] at *); (try refine Chk.mk (okc) ?_))
      refine ⟨(i + 1, -1, out ++ [⟨f, -1, A⟩]), .inr ⟨by rw [hie], g2.symm⟩, by show z.chs.length + 1 - (i + 1) + 0 < z.chs.length + 1 - i + 0; omega, ?_⟩
      (refine To.of [] ?_; cbv; (try simp only [nc]); (repeat' (first | exact trivial | exact WkN.refl _ | exact WkB.refl _ | refine ⟨?_, ?_⟩ | refine WkB.cells ?_ | refine WkN.agg ?_ | refine WkN.tup ?_)); (all_goals (first | exact okt | skip)))
  · simp only [decide_eq_false_iff_not] at hb1
    have ho : out = S := by
      rcases hp with h | ⟨_, h⟩
      · have := h.le; omega
      · exact h
    rw [← ho]
    (cbv; (try simp only [nc] at *); (try refine Chk.mk (okc) ?_))
    refine ⟨_, [], ?_, rfl, rfl⟩
    (refine To.of [] ?_; cbv; (try simp only [nc]); (repeat' (first | exact trivial | exact WkN.refl _ | exact WkB.refl _ | refine ⟨?_, ?_⟩ | refine WkB.cells ?_ | refine WkN.agg ?_ | refine WkN.tup ?_)); (all_goals (first | exact okt | skip)))

end Go.Proofs.YtlcgliadpalgfaaGreat.Vm

/- Contracts: the reference's hours. -/
namespace Go.Proofs.YtlcgliadpalgfaaGreat.Vm
open Go Go.Proofs Sp
set_option maxRecDepth 100000
set_option maxHeartbeats 1600000

theorem cl_nt {nt : (α : Type) → α → List α → Int → α} (hnt : ∀ (α : Type) (d : α) (l : List α) (i : Int), nt α d l i = l.getD i.toNat d) {l : List Pc} {i : Nat} (hi : i < l.length) : nt Pc default (l.map cl) (i : Int) = cl (nt Pc default l (i : Int)) := by
  rw [hnt, hnt]
  simp [List.getD_eq_getElem?_getD, hi]
theorem cl_fr (p : Pc) : (cl p).fr = p.fr := by unfold cl; split <;> rfl
theorem cl_ahd (p : Pc) : (cl p).ahd = p.ahd := by unfold cl; split <;> rfl
theorem cl_has {p : Pc} {r : Int} (hb : 0 ≤ p.bef) (hr : r - p.ahd < openT) : (decide ((cl p).fr ≤ r - (cl p).ahd) && (decide ((cl p).bef < 0) || decide (r - (cl p).ahd < (cl p).bef))) = decide (p.fr ≤ r - p.ahd ∧ r - p.ahd < p.bef) := by
  rw [cl_fr, cl_ahd]
  unfold cl
  by_cases h : p.bef = openT
  · rw [if_pos h, h]
    by_cases h2 : p.fr ≤ r - p.ahd
    · simp [h2, hr]
    · simp [h2]
  · rw [if_neg h]
    by_cases h2 : p.fr ≤ r - p.ahd
    · simp [h2, show ¬ p.bef < 0 by omega]
    · simp [h2]

/-- Only the last piece is open. -/
theorem pcsGo_open : ∀ (l : List Chg) (fr a : Int), (∀ c ∈ l, c.at_ ≤ 43200) → ∀ i, i < (pcsGo fr a l).length → (((pcsGo fr a l).getD i default).bef = openT ↔ i + 1 = (pcsGo fr a l).length)
  | [], fr, a, _, i, hi => by
    have e : pcsGo fr a [] = [⟨fr, openT, a⟩] := rfl
    rw [e] at hi ⊢
    have : i = 0 := by simpa using hi
    subst this
    simp
  | c :: r, fr, a, h, i, hi => by
    have hc := h c (List.mem_cons_self ..)
    have ih := pcsGo_open r c.at_ (a + c.by_) (fun x hx => h x (List.mem_cons_of_mem _ hx))
    have hl := (pcsGo_len r c.at_ (a + c.by_)).1
    by_cases hlt : fr < c.at_
    · have e : pcsGo fr a (c :: r) = ⟨fr, c.at_, a⟩ :: pcsGo c.at_ (a + c.by_) r := if_pos hlt
      rw [e] at hi ⊢
      cases i with
      | zero =>
        simp only [List.getD_cons_zero, List.length_cons]
        unfold openT
        constructor <;> intro h <;> omega
      | succ i =>
        simp only [List.getD_cons_succ, List.length_cons]
        rw [ih i (by simpa using hi)]
        omega
    · have e : pcsGo fr a (c :: r) = pcsGo c.at_ (a + c.by_) r := if_neg hlt
      rw [e] at hi ⊢
      exact ih i hi

theorem hour_ok {z : Zone} {d m : Int} (h : checkHour z d m = 0) : checkZone z = 0 ∧ (-1 ≤ d ∧ d ≤ 31) ∧ 0 ≤ m ∧ m ≤ 1439 := by
  unfold checkHour at h
  split at h
  · rename_i h1; exact absurd h h1
  rename_i h1
  split at h
  · cases h
  rename_i h2
  simp only [Bool.or_eq_true, not_or, Bool.not_eq_true', Bool.not_eq_false] at h2
  exact ⟨Decidable.of_not_not h1, inB_ok h2.1, inB_ok h2.2⟩

theorem c103 (z : Zone) (r a : Int) (hz : checkZone z = 0) (hr : -1000000 ≤ r ∧ r ≤ 1000000) (ha : 0 ≤ a ∧ a < openT) : SC (fun _ => Tryz.prog) 95 [zoneA z, .int .i64 fun _ => r, .int .i64 fun _ => a] [] fun v h => v = .int .i64 (fun _ => hour (pieces z) r a) ∧ h = [] := by
  obtain ⟨nt, hnt⟩ := nth_ex
  have k2 := c101 z hz
  obtain ⟨k4, k5⟩ := pieces_bd hz
  have hop := pcsGo_open z.chs 0 z.base (fun c hc => ((asc_of hz).2.1 c hc).2.1)
  have hl1 := (pcsGo_len z.chs 0 z.base).1
  change ∀ i, i < (pieces z).length → (((pieces z).getD i default).bef = openT ↔ i + 1 = (pieces z).length) at hop
  change 1 ≤ (pieces z).length at hl1
  unfold openT at *
  refine con Tryz.func95 (body := bodyOf Tryz.f95) rfl (by decide +kernel) ?_
  unfold zoneA at *
  simp only [lst_nt hnt] at *
  unfold strs at k2
  generalize pieces z = L at *
  have hLl : (L.map cl).length = L.length := List.length_map ..
  generalize hW : hour L r a = W at *
  (cbv; (try simp only [nc] at *); (try refine Chk.mk (okc) ?_))
  refine call0 (k2) (by first | rfl | (simp only [zoneA, lst_nt hnt]; rfl)) fun r h₂ hp => ?_
  (try simp only [zoneA, lst_nt hnt] at hp)
  obtain ⟨rfl, rfl⟩ := hp
  (cbv; (try simp only [nc] at *); (try refine Chk.mk (okc) ?_))
  refine loopS false false [] [1, 2, 7, 8] [] (fun (i : Nat) => [(8, .int .i64 fun _ => (i : Int))]) (fun _ => []) (fun i => i < L.length ∧ hour (L.drop i) r a = W) (fun i => L.length - i + 0) 0 ⟨by omega, by simpa using hW⟩ ?_ ?_
  · (refine To.of [] ?_; cbv; (try simp only [nc]); (repeat' (first | exact trivial | exact WkN.refl _ | exact WkB.refl _ | refine ⟨?_, ?_⟩ | refine WkB.cells ?_ | refine WkN.agg ?_ | refine WkN.tup ?_)); (all_goals (first | exact okt | skip)))
  intro i hpp
  have hi : i < L.length := hpp.1
  have hp : hour (L.drop i) r a = W := hpp.2
  clear hpp
  have hq := k5 _ (nt_mem (d := default) hnt (l := L) (i := i) hi)
  have hopi := hop i hi
  have e1 : L.getD i default = nt Pc default L (i : Int) := by rw [hnt]; rfl
  rw [e1] at hopi
  rw [nt_drop (d := default) hnt hi, hour] at hp
  have hcl := cl_nt hnt (l := L) hi
  generalize nt Pc default L (i : Int) = p at *
  have hah := cl_ahd p
  have hfr := cl_fr p
  have hbe : (cl p).bef = if p.bef = 1099511627776 then -1 else p.bef := by
    unfold cl openT
    split <;> rfl
  generalize cl p = q at *
  have hmx : (if (if q.fr < a then a else q.fr) < r - q.ahd then r - q.ahd else (if q.fr < a then a else q.fr)) = max p.fr (max a (r - p.ahd)) := by
    rw [hfr, hah]
    split <;> split <;> omega
  have hmb : 0 ≤ max p.fr (max a (r - p.ahd)) ∧ max p.fr (max a (r - p.ahd)) < 1099511627776 := by omega
  (cbv; try simp only [nc] at *)
  simp only [hcl]
  refine Chk.mk (okc) ?_
  simp only [hmx]
  generalize max p.fr (max a (r - p.ahd)) = M at *
  refine ⟨fun hb2 => ?_, fun hb2 => ?_⟩
  · have hc : M < p.bef := by
      by_cases h : p.bef = 1099511627776
      · omega
      · rw [if_neg h] at hbe
        rw [hbe, decide_eq_false (by omega)] at hb2
        simpa using hb2
    rw [if_pos hc] at hp
    rw [← hp]
    (cbv; (try simp only [nc] at *); (try refine Chk.mk (okc) ?_))
    (try first | exact ⟨rfl, trivial⟩ | exact ⟨trivial, trivial⟩)
  · have hc : ¬ M < p.bef := by
      intro h'
      by_cases h : p.bef = 1099511627776
      · rw [if_pos h] at hbe
        rw [hbe] at hb2
        simp at hb2
      · rw [if_neg h] at hbe
        rw [hbe, decide_eq_false (by omega), decide_eq_true h'] at hb2
        cases hb2
    rw [if_neg hc] at hp
    have hi2 : i + 1 < L.length := by
      rcases Nat.lt_or_ge (i + 1) L.length with h | h
      · exact h
      · have := hopi.2 (by omega); omega
    (cbv; (try simp only [nc] at *); (try refine Chk.mk (okc) ?_))
    refine ⟨i + 1, ⟨hi2, hp⟩, by show L.length - (i + 1) + 0 < L.length - i + 0; omega, ?_⟩
    (refine To.of [] ?_; cbv; (try simp only [nc]); (repeat' (first | exact trivial | exact WkN.refl _ | exact WkB.refl _ | refine ⟨?_, ?_⟩ | refine WkB.cells ?_ | refine WkN.agg ?_ | refine WkN.tup ?_)); (all_goals (first | exact okt | skip)))

end Go.Proofs.YtlcgliadpalgfaaGreat.Vm

/- Contracts: the reference's checks of books. -/
namespace Go.Proofs.YtlcgliadpalgfaaGreat.Vm
open Go Go.Proofs Sp
set_option maxRecDepth 100000
set_option maxHeartbeats 1600000

theorem any_take {α : Type} [Inhabited α] {nt : (α : Type) → α → List α → Int → α} (hnt : ∀ (α : Type) (d : α) (l : List α) (i : Int), nt α d l i = l.getD i.toNat d) {q : α → Bool} {l : List α} {k : Nat} (hk : k < l.length) : (l.take (k + 1)).any q = ((l.take k).any q || q (nt α default l (k : Int))) := by
  rw [nt_take (d := default) hnt hk, List.any_append]
  simp

theorem bookA_nt {nt : (α : Type) → α → List α → Int → α} (hnt : ∀ (α : Type) (d : α) (l : List α) (i : Int), nt α d l i = l.getD i.toNat d) (b : Book) : bookA b = .agg [.isl 2 (fun _ => (b.zones.length : Int)) (fun e => encZone (nt Zone default b.zones (e ()))) .none, .isl 3 (fun _ => (b.old.length : Int)) (fun e => encTrain (nt Train default b.old (e ()))) .none, .isl 3 (fun _ => (b.new.length : Int)) (fun e => encTrain (nt Train default b.new (e ()))) .none, .int .i64 fun _ => b.night, .int .i64 fun _ => b.last] := by
  unfold bookA; simp only [lst_nt hnt]

theorem c110 (b : Book) (l : List Stop) (hz : b.zones.length ≤ 1000000) (hl : l.length ≤ 1000000) : SC (fun _ => Tryz.prog) 97 [bookA b, lst 4 encStop default l] [] fun v h => v = .int .i64 (fun _ => if counted l.length 2 4 ≠ 0 then counted l.length 2 4 else chkStops b.zones.length l) ∧ h = [] := by
  obtain ⟨nt, hnt⟩ := nth_ex
  generalize hE : (if counted l.length 2 4 ≠ 0 then counted l.length 2 4 else chkStops b.zones.length l) = E
  unfold bookA
  simp only [lst_nt hnt]
  refine con Tryz.func97 (body := bodyOf Tryz.f97) rfl (by decide +kernel) ?_
  (cbv; (try simp only [nc] at *); (try refine Chk.mk (okc) ?_))
  refine ⟨fun h1 => ?_, fun h1 => ?_⟩
  · simp only [decide_eq_true_eq] at h1
    rw [show counted l.length 2 4 = 7 by unfold counted; rw [if_pos (by omega)], if_pos (by decide)] at hE
    subst hE
    (cbv; (try simp only [nc] at *); (try refine Chk.mk (okc) ?_))
    (try first | exact ⟨rfl, trivial⟩ | exact ⟨trivial, trivial⟩)
  simp only [decide_eq_false_iff_not] at h1
  (cbv; (try simp only [nc] at *); (try refine Chk.mk (okc) ?_))
  refine ⟨fun h2 => ?_, fun h2 => ?_⟩
  · simp only [decide_eq_true_eq] at h2
    rw [show counted l.length 2 4 = 6 by unfold counted; rw [if_neg (by omega), if_pos (by omega)], if_pos (by decide)] at hE
    subst hE
    (cbv; (try simp only [nc] at *); (try refine Chk.mk (okc) ?_))
    (try first | exact ⟨rfl, trivial⟩ | exact ⟨trivial, trivial⟩)
  simp only [decide_eq_false_iff_not] at h2
  rw [show counted l.length 2 4 = 0 by unfold counted; rw [if_neg (by omega), if_neg (by omega)], if_neg (by decide)] at hE
  (cbv; (try simp only [nc] at *); (try refine Chk.mk (okc) ?_))
  refine loopS false false [] [1, 2, 5] [] (fun (i : Nat) => [(5, .int .i64 fun _ => (i : Int))]) (fun _ => []) (fun i => i ≤ l.length ∧ firstErr (chkStopAt b.zones.length l) i (l.length - i) = E) (fun i => l.length - i + 0) 0 ⟨Nat.zero_le _, by simpa [chkStops] using hE⟩ ?_ ?_
  · (refine To.of [] ?_; cbv; (try simp only [nc]); (repeat' (first | exact trivial | exact WkN.refl _ | exact WkB.refl _ | refine ⟨?_, ?_⟩ | refine WkB.cells ?_ | refine WkN.agg ?_ | refine WkN.tup ?_)); (all_goals (first | exact okt | skip)))
  rintro i ⟨hi, hp⟩
  (cbv; (try simp only [nc] at *); (try refine Chk.mk (okc) ?_))
  refine ⟨fun hb => ?_, fun hb => ?_⟩
  · simp only [decide_eq_true_eq] at hb
    obtain ⟨q, hq⟩ : ∃ q, l.length - i = q + 1 := ⟨l.length - i - 1, by omega⟩
    rw [hq, firstErr] at hp
    have hsp : chkStopAt b.zones.length l i = checkStop (l.take i) (nt Stop default l i) (decide (0 < i) && decide ((i : Int) < l.length - 1)) b.zones.length := by unfold chkStopAt; rw [hnt]; rfl
    rw [hsp] at hp
    unfold checkStop at hp
    (cbv; (try simp only [nc] at *); (try refine Chk.mk (okc) ?_))
    generalize nt Stop default l i = s at *
    refine call0 (c72 s.station 0 9) (by first | rfl | (simp only [zoneA, bookA, lst_nt hnt]; rfl)) fun r h₂ hp => ?_
    (try simp only [zoneA, bookA, lst_nt hnt] at hp)
    obtain ⟨rfl, rfl⟩ := hp
    (cbv; try simp only [nc] at *)
    refine ⟨fun h3 => ?_, fun h3 => ?_⟩
    · simp only [if_pos h3] at hp
      rw [if_pos (by decide)] at hp
      subst hp
      (cbv; (try simp only [nc] at *); (try refine Chk.mk (okc) ?_))
      (try first | exact ⟨rfl, trivial⟩ | exact ⟨trivial, trivial⟩)
    simp only [if_neg (show ¬ (!inB s.station 0 9) = true by rw [h3]; exact Bool.false_ne_true)] at hp
    (cbv; (try simp only [nc] at *); (try refine Chk.mk (okc) ?_))
    refine loopQ fun Q hQ => ?_
    refine loopS false false [] [1, 2, 5, 6, 7] [] (fun (k : Nat) => [(7, .int .i64 fun _ => (k : Int))]) (fun _ => []) (fun k => k ≤ i ∧ (l.take k).any (fun x => decide (x.station = s.station)) = false) (fun k => i - k + 0) 0 ⟨Nat.zero_le _, by simp⟩ ?_ ?_
    · (refine To.of [] ?_; cbv; (try simp only [nc]); (repeat' (first | exact trivial | exact WkN.refl _ | exact WkB.refl _ | refine ⟨?_, ?_⟩ | refine WkB.cells ?_ | refine WkN.agg ?_ | refine WkN.tup ?_)); (all_goals (first | exact okt | skip)))
    rintro k ⟨hk, hp2⟩
    (cbv; (try simp only [nc] at *); (try refine Chk.mk (okc) ?_))
    refine ⟨fun hb => ?_, fun hb => ?_⟩
    · simp only [decide_eq_true_eq] at hb
      have hkl : k < l.length := by omega
      have hat := any_take hnt (q := fun x : Stop => decide (x.station = s.station)) hkl
      rw [hp2, Bool.false_or] at hat
      (cbv; (try simp only [nc] at *); (try refine Chk.mk (okc) ?_))
      simp only [beq_dec]
      refine ⟨fun h4 => ?_, fun h4 => ?_⟩
      · rw [h4] at hat
        have : (l.take i).any (fun x => decide (x.station = s.station)) = true := by
          rw [List.any_eq_true] at hat ⊢
          obtain ⟨x, hx, h⟩ := hat
          exact ⟨x, List.Sublist.subset (List.take_sublist_take_left (by omega)) hx, h⟩
        simp only [if_pos this] at hp
        rw [if_pos (by decide)] at hp
        subst hp
        (cbv; (try simp only [nc] at *); (try refine Chk.mk (okc) ?_))
        refine hQ _ _ _ ?_
        (cbv; (try simp only [nc] at *); (try refine Chk.mk (okc) ?_))
        (try first | exact ⟨rfl, trivial⟩ | exact ⟨trivial, trivial⟩)
      · rw [h4] at hat
        (cbv; (try simp only [nc] at *); (try refine Chk.mk (okc) ?_))
        refine ⟨k + 1, ⟨by omega, hat⟩, by show i - (k + 1) + 0 < i - k + 0; omega, ?_⟩
        (refine To.of [] ?_; cbv; (try simp only [nc]); (repeat' (first | exact trivial | exact WkN.refl _ | exact WkB.refl _ | refine ⟨?_, ?_⟩ | refine WkB.cells ?_ | refine WkN.agg ?_ | refine WkN.tup ?_)); (all_goals (first | exact okt | skip)))
    · simp only [decide_eq_false_iff_not] at hb
      obtain rfl : k = i := by omega
      simp only [hp2, Bool.false_eq_true, if_false] at hp
      (cbv; (try simp only [nc] at *); (try refine Chk.mk (okc) ?_))
      refine hQ _ _ _ ?_
      clear hQ
      (cbv; (try simp only [nc] at *); (try refine Chk.mk (okc) ?_))
      refine call0 (c72 s.zone 0 ((b.zones.length : Int) - 1)) (by first | rfl | (simp only [zoneA, bookA, lst_nt hnt]; rfl)) fun r h₂ hp => ?_
      (try simp only [zoneA, bookA, lst_nt hnt] at hp)
      obtain ⟨rfl, rfl⟩ := hp
      (cbv; try simp only [nc] at *)
      refine ⟨fun h5 => ?_, fun h5 => ?_⟩
      · simp only [if_pos h5] at hp
        rw [if_pos (by decide)] at hp
        subst hp
        (cbv; (try simp only [nc] at *); (try refine Chk.mk (okc) ?_))
        (try first | exact ⟨rfl, trivial⟩ | exact ⟨trivial, trivial⟩)
      simp only [if_neg (show ¬ (!inB s.zone 0 ((b.zones.length : Int) - 1)) = true by rw [h5]; exact Bool.false_ne_true)] at hp
      (cbv; (try simp only [nc] at *); (try refine Chk.mk (okc) ?_))
      refine call0 (c72 s.arrive 0 4319) (by first | rfl | (simp only [zoneA, bookA, lst_nt hnt]; rfl)) fun r h₂ hp => ?_
      (try simp only [zoneA, bookA, lst_nt hnt] at hp)
      obtain ⟨rfl, rfl⟩ := hp
      (cbv; (try simp only [nc] at *); (try refine Chk.mk (okc) ?_))
      refine ⟨fun h6 => ?_, fun h6 => ?_⟩
      · have h6 : inB s.arrive 0 4319 = true := by simpa using h6
        (cbv; (try simp only [nc] at *); (try refine Chk.mk (okc) ?_))
        refine call0 (c72 s.depart 0 4319) (by first | rfl | (simp only [zoneA, bookA, lst_nt hnt]; rfl)) fun r h₂ hp => ?_
        (try simp only [zoneA, bookA, lst_nt hnt] at hp)
        obtain ⟨rfl, rfl⟩ := hp
        (cbv; (try simp only [nc] at *); (try refine Chk.mk (okc) ?_))
        refine ⟨fun h7 => ?_, fun h7 => ?_⟩
        · have h7 : inB s.depart 0 4319 = false := by simpa [h6] using h7
          simp only [h6, h7, Bool.not_false, Bool.not_true, Bool.false_or, if_true] at hp
          rw [if_pos (by decide)] at hp
          subst hp
          (cbv; (try simp only [nc] at *); (try refine Chk.mk (okc) ?_))
          (try first | exact ⟨rfl, trivial⟩ | exact ⟨trivial, trivial⟩)
        · have h7 : inB s.depart 0 4319 = true := by simpa [h6] using h7
          simp only [h6, h7, Bool.not_true, Bool.false_or, Bool.false_eq_true, if_false] at hp
          have he : (decide (0 < k) && decide ((k : Int) < l.length - 1) && decide (s.depart < s.arrive)) = (bif bif decide (0 < (k : Int)) then decide ((k : Int) < (l.length : Int) - 1) else false then decide (s.depart < s.arrive) else false) := by
            rw [show decide (0 < k) = decide (0 < (k : Int)) from by rw [Bool.eq_iff_iff]; simp]
            cases decide (0 < (k : Int)) <;> cases decide ((k : Int) < (l.length : Int) - 1) <;> rfl
          rw [he] at hp
          (cbv; (try simp only [nc] at *); (try refine Chk.mk (okc) ?_))
          refine ⟨fun h8 => ?_, fun h8 => ?_⟩
          · rw [if_pos h8, if_pos (by decide)] at hp
            subst hp
            (cbv; (try simp only [nc] at *); (try refine Chk.mk (okc) ?_))
            (try first | exact ⟨rfl, trivial⟩ | exact ⟨trivial, trivial⟩)
          · simp only [h8, Bool.false_eq_true, if_false, ne_eq, not_true_eq_false] at hp
            (cbv; (try simp only [nc] at *); (try refine Chk.mk (okc) ?_))
            refine ⟨k + 1, ⟨by omega, by rw [← hp]; congr 1; omega⟩, by show l.length - (k + 1) + 0 < l.length - k + 0; omega, ?_⟩
            (refine To.of [] ?_; cbv; (try simp only [nc]); (repeat' (first | exact trivial | exact WkN.refl _ | exact WkB.refl _ | refine ⟨?_, ?_⟩ | refine WkB.cells ?_ | refine WkN.agg ?_ | refine WkN.tup ?_)); (all_goals (first | exact okt | skip)))
      · have h6 : inB s.arrive 0 4319 = false := by simpa using h6
        simp only [h6, Bool.not_false, Bool.true_or, if_true] at hp
        rw [if_pos (by decide)] at hp
        subst hp
        (cbv; (try simp only [nc] at *); (try refine Chk.mk (okc) ?_))
        refine Br.isT (by rfl) ?_
        (cbv; (try simp only [nc] at *); (try refine Chk.mk (okc) ?_))
        (try first | exact ⟨rfl, trivial⟩ | exact ⟨trivial, trivial⟩)
  · simp only [decide_eq_false_iff_not] at hb
    rw [show l.length - i = 0 by omega, firstErr] at hp
    subst hp
    (cbv; (try simp only [nc] at *); (try refine Chk.mk (okc) ?_))
    (try first | exact ⟨rfl, trivial⟩ | exact ⟨trivial, trivial⟩)

theorem c71 (b : Book) (l : List Train) (hz : b.zones.length ≤ 1000000) (hl : l.length ≤ 1000000) (hs : ∀ t ∈ l, t.stops.length ≤ 1000000) : SC (fun _ => Tryz.prog) 69 [bookA b, lst 3 encTrain default l] [] fun v h => v = .int .i64 (fun _ => chkTrains b.zones.length l) ∧ h = [] := by
  obtain ⟨nt, hnt⟩ := nth_ex
  unfold chkTrains
  generalize hE : (if counted l.length 0 4 ≠ 0 then counted l.length 0 4 else firstErr (chkTrainAt b.zones.length l) 0 l.length) = E
  unfold bookA
  simp only [lst_nt hnt]
  refine con Tryz.func69 (body := bodyOf Tryz.f69) rfl (by decide +kernel) ?_
  (cbv; (try simp only [nc] at *); (try refine Chk.mk (okc) ?_))
  refine ⟨fun h2 => ?_, fun h2 => ?_⟩
  · simp only [decide_eq_true_eq] at h2
    rw [show counted l.length 0 4 = 6 by unfold counted; rw [if_neg (by omega), if_pos (by omega)], if_pos (by decide)] at hE
    subst hE
    (cbv; (try simp only [nc] at *); (try refine Chk.mk (okc) ?_))
    (try first | exact ⟨rfl, trivial⟩ | exact ⟨trivial, trivial⟩)
  simp only [decide_eq_false_iff_not] at h2
  rw [show counted l.length 0 4 = 0 by unfold counted; rw [if_neg (by omega), if_neg (by omega)], if_neg (by decide)] at hE
  (cbv; (try simp only [nc] at *); (try refine Chk.mk (okc) ?_))
  refine loopS false false [] [1, 2, 5] [] (fun (i : Nat) => [(5, .int .i64 fun _ => (i : Int))]) (fun _ => []) (fun i => i ≤ l.length ∧ firstErr (chkTrainAt b.zones.length l) i (l.length - i) = E) (fun i => l.length - i + 0) 0 ⟨Nat.zero_le _, by simpa using hE⟩ ?_ ?_
  · (refine To.of [] ?_; cbv; (try simp only [nc]); (repeat' (first | exact trivial | exact WkN.refl _ | exact WkB.refl _ | refine ⟨?_, ?_⟩ | refine WkB.cells ?_ | refine WkN.agg ?_ | refine WkN.tup ?_)); (all_goals (first | exact okt | skip)))
  rintro i ⟨hi, hp⟩
  (cbv; (try simp only [nc] at *); (try refine Chk.mk (okc) ?_))
  refine ⟨fun hb => ?_, fun hb => ?_⟩
  · simp only [decide_eq_true_eq] at hb
    have hil : i < l.length := by omega
    obtain ⟨q, hq⟩ : ∃ q, l.length - i = q + 1 := ⟨l.length - i - 1, by omega⟩
    rw [hq, firstErr] at hp
    have hst := hs _ (nt_mem (d := default) hnt (l := l) (i := i) hil)
    have hct : chkTrainAt b.zones.length l i = if !inB (nt Train default l i).number 1 999 then 1 else if (l.take i).any (fun x => decide (x.number = (nt Train default l i).number)) then 4 else if !inB (nt Train default l i).days 1 127 then 1
      else if counted (nt Train default l i).stops.length 2 4 ≠ 0 then counted (nt Train default l i).stops.length 2 4 else chkStops b.zones.length (nt Train default l i).stops := by unfold chkTrainAt; rw [hnt]; rfl
    (cbv; (try simp only [nc] at *); (try refine Chk.mk (okc) ?_))
    refine call0 (c72 (nt Train default l i).number 1 999) (by first | rfl | (simp only [zoneA, bookA, lst_nt hnt]; rfl)) fun r h₂ hp => ?_
    (try simp only [zoneA, bookA, lst_nt hnt] at hp)
    obtain ⟨rfl, rfl⟩ := hp
    (cbv; try simp only [nc] at *)
    refine ⟨fun h3 => ?_, fun h3 => ?_⟩
    · rw [if_pos h3] at hct
      rw [hct, if_pos (by decide)] at hp
      subst hp
      (cbv; (try simp only [nc] at *); (try refine Chk.mk (okc) ?_))
      (try first | exact ⟨rfl, trivial⟩ | exact ⟨trivial, trivial⟩)
    rw [if_neg (by rw [h3]; exact Bool.false_ne_true)] at hct
    (cbv; (try simp only [nc] at *); (try refine Chk.mk (okc) ?_))
    refine loopQ fun Q hQ => ?_
    refine loopS false false [] [1, 2, 5, 6] [] (fun (k : Nat) => [(6, .int .i64 fun _ => (k : Int))]) (fun _ => []) (fun k => k ≤ i ∧ (l.take k).any (fun x => decide (x.number = (nt Train default l i).number)) = false) (fun k => i - k + 0) 0 ⟨Nat.zero_le _, by simp⟩ ?_ ?_
    · (refine To.of [] ?_; cbv; (try simp only [nc]); (repeat' (first | exact trivial | exact WkN.refl _ | exact WkB.refl _ | refine ⟨?_, ?_⟩ | refine WkB.cells ?_ | refine WkN.agg ?_ | refine WkN.tup ?_)); (all_goals (first | exact okt | skip)))
    rintro k ⟨hk, hp2⟩
    (cbv; (try simp only [nc] at *); (try refine Chk.mk (okc) ?_))
    refine ⟨fun hb => ?_, fun hb => ?_⟩
    · simp only [decide_eq_true_eq] at hb
      have hkl : k < l.length := by omega
      have hat := any_take hnt (q := fun x : Train => decide (x.number = (nt Train default l i).number)) hkl
      rw [hp2, Bool.false_or] at hat
      (cbv; (try simp only [nc] at *); (try refine Chk.mk (okc) ?_))
      simp only [beq_dec]
      refine ⟨fun h4 => ?_, fun h4 => ?_⟩
      · rw [h4] at hat
        have : (l.take i).any (fun x => decide (x.number = (nt Train default l i).number)) = true := by
          rw [List.any_eq_true] at hat ⊢
          obtain ⟨x, hx, h⟩ := hat
          exact ⟨x, List.Sublist.subset (List.take_sublist_take_left (by omega)) hx, h⟩
        rw [if_pos this] at hct
        rw [hct, if_pos (by decide)] at hp
        subst hp
        (cbv; (try simp only [nc] at *); (try refine Chk.mk (okc) ?_))
        refine hQ _ _ _ ?_
        (cbv; (try simp only [nc] at *); (try refine Chk.mk (okc) ?_))
        (try first | exact ⟨rfl, trivial⟩ | exact ⟨trivial, trivial⟩)
      · rw [h4] at hat
        (cbv; (try simp only [nc] at *); (try refine Chk.mk (okc) ?_))
        refine ⟨k + 1, ⟨by omega, hat⟩, by show i - (k + 1) + 0 < i - k + 0; omega, ?_⟩
        (refine To.of [] ?_; cbv; (try simp only [nc]); (repeat' (first | exact trivial | exact WkN.refl _ | exact WkB.refl _ | refine ⟨?_, ?_⟩ | refine WkB.cells ?_ | refine WkN.agg ?_ | refine WkN.tup ?_)); (all_goals (first | exact okt | skip)))
    · simp only [decide_eq_false_iff_not] at hb
      obtain rfl : k = i := by omega
      rw [hp2, if_neg (by exact Bool.false_ne_true)] at hct
      (cbv; (try simp only [nc] at *); (try refine Chk.mk (okc) ?_))
      refine hQ _ _ _ ?_
      clear hQ
      (cbv; (try simp only [nc] at *); (try refine Chk.mk (okc) ?_))
      refine call0 (c72 (nt Train default l (k : Int)).days 1 127) (by first | rfl | (simp only [zoneA, bookA, lst_nt hnt]; rfl)) fun r h₂ hp => ?_
      (try simp only [zoneA, bookA, lst_nt hnt] at hp)
      obtain ⟨rfl, rfl⟩ := hp
      (cbv; try simp only [nc] at *)
      refine ⟨fun h3 => ?_, fun h3 => ?_⟩
      · rw [if_pos h3] at hct
        rw [hct, if_pos (by decide)] at hp
        subst hp
        (cbv; (try simp only [nc] at *); (try refine Chk.mk (okc) ?_))
        (try first | exact ⟨rfl, trivial⟩ | exact ⟨trivial, trivial⟩)
      rw [if_neg (by rw [h3]; exact Bool.false_ne_true)] at hct
      (cbv; (try simp only [nc] at *); (try refine Chk.mk (okc) ?_))
      have k110 := c110 b (nt Train default l (k : Int)).stops hz hst
      rw [bookA_nt hnt] at k110
      refine call0 k110 rfl fun r h₂ hp => ?_
      obtain ⟨rfl, rfl⟩ := hp
      rw [← hct]
      generalize chkTrainAt b.zones.length l k = e at *
      (cbv; try simp only [nc] at *)
      refine ⟨fun h5 => ?_, fun h5 => ?_⟩
      · simp only [bne_iff_ne, ne_eq] at h5
        rw [if_pos h5] at hp
        subst hp
        (cbv; (try simp only [nc] at *); (try refine Chk.mk (okc) ?_))
        (try first | exact ⟨rfl, trivial⟩ | exact ⟨trivial, trivial⟩)
      · simp only [bne_eq_false_iff_eq] at h5
        rw [if_neg (fun h => h h5)] at hp
        (cbv; (try simp only [nc] at *); (try refine Chk.mk (okc) ?_))
        refine ⟨k + 1, ⟨by omega, by rw [← hp]; congr 1; omega⟩, by show l.length - (k + 1) + 0 < l.length - k + 0; omega, ?_⟩
        (refine To.of [] ?_; cbv; (try simp only [nc]); (repeat' (first | exact trivial | exact WkN.refl _ | exact WkB.refl _ | refine ⟨?_, ?_⟩ | refine WkB.cells ?_ | refine WkN.agg ?_ | refine WkN.tup ?_)); (all_goals (first | exact okt | skip)))
  · simp only [decide_eq_false_iff_not] at hb
    rw [show l.length - i = 0 by omega, firstErr] at hp
    subst hp
    (cbv; (try simp only [nc] at *); (try refine Chk.mk (okc) ?_))
    (try first | exact ⟨rfl, trivial⟩ | exact ⟨trivial, trivial⟩)

theorem c25 (b : Book) (hb : BookFit b) : SC (fun _ => Tryz.prog) 18 [bookA b] [] fun v h => v = .int .i64 (fun _ => Check b) ∧ h = [] := by
  obtain ⟨nt, hnt⟩ := nth_ex
  have hz := hb.zones
  have hc := hb.chs
  unfold Check
  generalize hE : (if counted b.zones.length 1 3 ≠ 0 then _ else _ : Int) = E
  have k1 := c71 b b.old hz hb.old hb.stops.1
  have k2 := c71 b b.new hz hb.new hb.stops.2
  unfold bookA at k1 k2 ⊢
  simp only [lst_nt hnt] at k1 k2 ⊢
  refine con Tryz.func18 (body := bodyOf Tryz.f18) rfl (by decide +kernel) ?_
  (cbv; (try simp only [nc] at *); (try refine Chk.mk (okc) ?_))
  refine ⟨fun h1 => ?_, fun h1 => ?_⟩
  · have h1 : b.zones.length = 0 := by simpa using h1
    rw [show counted b.zones.length 1 3 = 7 by unfold counted; rw [if_pos (by omega)], if_pos (by decide)] at hE
    subst hE
    (cbv; (try simp only [nc] at *); (try refine Chk.mk (okc) ?_))
    (try first | exact ⟨rfl, trivial⟩ | exact ⟨trivial, trivial⟩)
  have h1 : ¬ b.zones.length = 0 := by simpa using h1
  (cbv; (try simp only [nc] at *); (try refine Chk.mk (okc) ?_))
  refine ⟨fun h2 => ?_, fun h2 => ?_⟩
  · simp only [decide_eq_true_eq] at h2
    rw [show counted b.zones.length 1 3 = 6 by unfold counted; rw [if_neg (by omega), if_pos (by omega)], if_pos (by decide)] at hE
    subst hE
    (cbv; (try simp only [nc] at *); (try refine Chk.mk (okc) ?_))
    (try first | exact ⟨rfl, trivial⟩ | exact ⟨trivial, trivial⟩)
  simp only [decide_eq_false_iff_not] at h2
  rw [show counted b.zones.length 1 3 = 0 by unfold counted; rw [if_neg (by omega), if_neg (by omega)], if_neg (by decide)] at hE
  generalize hF : firstErr (fun i => checkZone (b.zones.getD i default)) 0 b.zones.length = F at *
  (cbv; (try simp only [nc] at *); (try refine Chk.mk (okc) ?_))
  refine loopQ fun Q hQ => ?_
  refine loopS false false [] [1, 3] [] (fun (i : Nat) => [(3, .int .i64 fun _ => (i : Int))]) (fun _ => []) (fun i => i ≤ b.zones.length ∧ firstErr (fun i => checkZone (b.zones.getD i default)) i (b.zones.length - i) = F) (fun i => b.zones.length - i + 0) 0 ⟨Nat.zero_le _, by simpa using hF⟩ ?_ ?_
  · (refine To.of [] ?_; cbv; (try simp only [nc]); (repeat' (first | exact trivial | exact WkN.refl _ | exact WkB.refl _ | refine ⟨?_, ?_⟩ | refine WkB.cells ?_ | refine WkN.agg ?_ | refine WkN.tup ?_)); (all_goals (first | exact okt | skip)))
  rintro i ⟨hi, hp⟩
  (cbv; (try simp only [nc] at *); (try refine Chk.mk (okc) ?_))
  refine ⟨fun hb => ?_, fun hb => ?_⟩
  · simp only [decide_eq_true_eq] at hb
    obtain ⟨q, hq⟩ : ∃ q, b.zones.length - i = q + 1 := ⟨b.zones.length - i - 1, by omega⟩
    rw [hq, firstErr] at hp
    have hch := hc _ (nt_mem (d := default) hnt (l := b.zones) (i := i) (by omega))
    have hzn : b.zones.getD i default = nt Zone default b.zones i := by rw [hnt]; rfl
    rw [hzn] at hp
    (cbv; (try simp only [nc] at *); (try refine Chk.mk (okc) ?_))
    generalize nt Zone default b.zones i = z at *
    refine call0 (c70 z hch) (by first | rfl | (simp only [zoneA, bookA, lst_nt hnt]; rfl)) fun r h₂ hp => ?_
    (try simp only [zoneA, bookA, lst_nt hnt] at hp)
    obtain ⟨rfl, rfl⟩ := hp
    generalize checkZone z = e at *
    (cbv; try simp only [nc] at *)
    refine ⟨fun h3 => ?_, fun h3 => ?_⟩
    · simp only [bne_iff_ne, ne_eq] at h3
      rw [if_pos h3] at hp
      subst hp
      rw [if_pos h3] at hE
      subst hE
      (cbv; (try simp only [nc] at *); (try refine Chk.mk (okc) ?_))
      refine hQ _ _ _ ?_
      (cbv; (try simp only [nc] at *); (try refine Chk.mk (okc) ?_))
      (try first | exact ⟨rfl, trivial⟩ | exact ⟨trivial, trivial⟩)
    · simp only [bne_eq_false_iff_eq] at h3
      rw [if_neg (fun h => h h3)] at hp
      (cbv; (try simp only [nc] at *); (try refine Chk.mk (okc) ?_))
      refine ⟨i + 1, ⟨by omega, by rw [← hp]; congr 1; omega⟩, by show b.zones.length - (i + 1) + 0 < b.zones.length - i + 0; omega, ?_⟩
      (refine To.of [] ?_; cbv; (try simp only [nc]); (repeat' (first | exact trivial | exact WkN.refl _ | exact WkB.refl _ | refine ⟨?_, ?_⟩ | refine WkB.cells ?_ | refine WkN.agg ?_ | refine WkN.tup ?_)); (all_goals (first | exact okt | skip)))
  simp only [decide_eq_false_iff_not] at hb
  rw [show b.zones.length - i = 0 by omega, firstErr] at hp
  subst hp
  rw [if_neg (fun h => h rfl)] at hE
  (cbv; (try simp only [nc] at *); (try refine Chk.mk (okc) ?_))
  refine hQ _ _ _ ?_
  clear hQ
  generalize chkTrains b.zones.length b.old = e1 at *
  generalize chkTrains b.zones.length b.new = e2 at *
  (cbv; (try simp only [nc] at *); (try refine Chk.mk (okc) ?_))
  refine call0 (k1) (by first | rfl | (simp only [zoneA, bookA, lst_nt hnt]; rfl)) fun r h₂ hp => ?_
  (try simp only [zoneA, bookA, lst_nt hnt] at hp)
  obtain ⟨rfl, rfl⟩ := hp
  (cbv; (try simp only [nc] at *); (try refine Chk.mk (okc) ?_))
  refine ⟨fun h3 => ?_, fun h3 => ?_⟩
  · simp only [bne_iff_ne, ne_eq] at h3
    rw [if_pos h3] at hE
    subst hE
    (cbv; (try simp only [nc] at *); (try refine Chk.mk (okc) ?_))
    (try first | exact ⟨rfl, trivial⟩ | exact ⟨trivial, trivial⟩)
  simp only [bne_eq_false_iff_eq] at h3
  rw [if_neg (fun h => h h3)] at hE
  (cbv; (try simp only [nc] at *); (try refine Chk.mk (okc) ?_))
  refine call0 (k2) (by first | rfl | (simp only [zoneA, bookA, lst_nt hnt]; rfl)) fun r h₂ hp => ?_
  (try simp only [zoneA, bookA, lst_nt hnt] at hp)
  obtain ⟨rfl, rfl⟩ := hp
  (cbv; (try simp only [nc] at *); (try refine Chk.mk (okc) ?_))
  refine ⟨fun h4 => ?_, fun h4 => ?_⟩
  · simp only [bne_iff_ne, ne_eq] at h4
    rw [if_pos h4] at hE
    subst hE
    (cbv; (try simp only [nc] at *); (try refine Chk.mk (okc) ?_))
    (try first | exact ⟨rfl, trivial⟩ | exact ⟨trivial, trivial⟩)
  simp only [bne_eq_false_iff_eq] at h4
  rw [if_neg (fun h => h h4)] at hE
  (cbv; (try simp only [nc] at *); (try refine Chk.mk (okc) ?_))
  have k67 := c72 b.last 0 13
  rcases hI : inB b.last 0 13 with _ | _
  · rw [hI] at k67 hE
    simp only [Bool.not_false, Bool.true_or, if_true] at hE
    subst hE
    refine call0 (k67) (by first | rfl | (simp only [zoneA, bookA, lst_nt hnt]; rfl)) fun r h₂ hp => ?_
    (try simp only [zoneA, bookA, lst_nt hnt] at hp)
    obtain ⟨rfl, rfl⟩ := hp
    (cbv; try simp only [nc] at *)
    refine Chk.mk (by simp [allc0, allcI, allc1, Cn.p]) ?_
    refine Br.isF (by rfl) ?_
    (cbv; (try simp only [nc] at *); (try refine Chk.mk (okc) ?_))
    refine Br.isT (by rfl) ?_
    (cbv; (try simp only [nc] at *); (try refine Chk.mk (okc) ?_))
    (try first | exact ⟨rfl, trivial⟩ | exact ⟨trivial, trivial⟩)
  · have hlast : 0 ≤ b.last ∧ b.last ≤ 13 := by simpa [inB] using hI
    rw [hI] at k67 hE
    simp only [Bool.not_true, Bool.false_or] at hE
    refine call0 (k67) (by first | rfl | (simp only [zoneA, bookA, lst_nt hnt]; rfl)) fun r h₂ hp => ?_
    (try simp only [zoneA, bookA, lst_nt hnt] at hp)
    obtain ⟨rfl, rfl⟩ := hp
    (cbv; (try simp only [nc] at *); (try refine Chk.mk (okc) ?_))
    refine Br.isT (by rfl) ?_
    (cbv; (try simp only [nc] at *); (try refine Chk.mk (okc) ?_))
    refine call0 (c72 b.night 0 (b.last + 1)) (by first | rfl | (simp only [zoneA, bookA, lst_nt hnt]; rfl)) fun r h₂ hp => ?_
    (try simp only [zoneA, bookA, lst_nt hnt] at hp)
    obtain ⟨rfl, rfl⟩ := hp
    (cbv; (try simp only [nc] at *); (try refine Chk.mk (okc) ?_))
    refine ⟨fun hb' => ?_, fun hb' => ?_⟩
    · have hb' : inB b.night 0 (b.last + 1) = false := by simpa using hb'
      rw [if_pos (by simp [hb'])] at hE
      subst hE
      (cbv; (try simp only [nc] at *); (try refine Chk.mk (okc) ?_))
      (try first | exact ⟨rfl, trivial⟩ | exact ⟨trivial, trivial⟩)
    · have hb' : inB b.night 0 (b.last + 1) = true := by simpa using hb'
      rw [if_neg (by simp [hb'])] at hE
      subst hE
      (cbv; (try simp only [nc] at *); (try refine Chk.mk (okc) ?_))
      (try first | exact ⟨rfl, trivial⟩ | exact ⟨trivial, trivial⟩)
end Go.Proofs.YtlcgliadpalgfaaGreat.Vm

/- Contracts: the reference's timetables and runs. -/
namespace Go.Proofs.YtlcgliadpalgfaaGreat.Vm
open Go Go.Proofs Sp
set_option maxRecDepth 100000
set_option maxHeartbeats 1600000

theorem c216 (b : Book) (day : Int) : SC (fun _ => Tryz.prog) 54 [bookA b, .int .i64 fun _ => day] [] fun v h => v = lst 3 encTrain default (table b day) ∧ h = [] := by
  refine con Tryz.func54 (body := bodyOf Tryz.f54) rfl (by decide +kernel) ?_
  unfold bookA table
  (cbv; (try simp only [nc] at *); (try refine Chk.mk (okc) ?_))
  refine ⟨fun hb => ?_, fun hb => ?_⟩
  · simp only [decide_eq_true_eq] at hb
    rw [if_pos hb]
    (cbv; (try simp only [nc] at *); (try refine Chk.mk (okc) ?_))
    (try first | exact ⟨rfl, trivial⟩ | exact ⟨trivial, trivial⟩)
  · simp only [decide_eq_false_iff_not] at hb
    rw [if_neg hb]
    (cbv; (try simp only [nc] at *); (try refine Chk.mk (okc) ?_))
    (try first | exact ⟨rfl, trivial⟩ | exact ⟨trivial, trivial⟩)

theorem c218 (t : Train) (day : Int) (hd : 0 ≤ day ∧ day ≤ 1000000) (ht : 0 ≤ t.days ∧ t.days ≤ 1000000) : SC (fun _ => Tryz.prog) 56 [.agg (encTrain t), .int .i64 fun _ => day] [] fun v h => v = .bool (fun _ => starts t day) ∧ h = [] := by
  refine con Tryz.func56 (body := bodyOf Tryz.f56) rfl (by decide +kernel) ?_
  have e := (tmodE day 7).1 hd.1
  (cbv; try simp only [nc] at *)
  rw [e]
  refine Chk.mk (okc) ?_
  (cbv; try simp only [nc] at *)
  refine ⟨?_, trivial⟩
  congr 1; funext _
  rw [Nat.min_eq_left (show (day % 7).toNat ≤ IntKind.i64.bits by show _ ≤ 64; omega), Int.fdiv_eq_ediv_of_nonneg _ (Int.le_of_lt (Int.pow_pos (by omega)))]
  have hq : 0 ≤ t.days / 2 ^ (day % 7).toNat := Int.ediv_nonneg ht.1 (Int.le_of_lt (Int.pow_pos (by omega)))
  have hle : t.days / 2 ^ (day % 7).toNat ≤ t.days := Int.ediv_le_self _ ht.1
  unfold starts
  generalize t.days / 2 ^ (day % 7).toNat = q at *
  rw [and_one q hq (by omega), beq_dec]

theorem c217 (l : List Train) (n : Int) (hl : l.length ≤ 1000000) : SC (fun _ => Tryz.prog) 55 [lst 3 encTrain default l, .int .i64 fun _ => n] [] fun v h => v = .int .i64 (fun _ => place l n) ∧ h = [] := by
  obtain ⟨nt, hnt⟩ := nth_ex
  unfold place
  generalize hE : indexFrom (fun t : Train => decide (t.number = n)) 0 l = E
  rw [lst_nt hnt]
  refine con Tryz.func55 (body := bodyOf Tryz.f55) rfl (by decide +kernel) ?_
  (cbv; (try simp only [nc] at *); (try refine Chk.mk (okc) ?_))
  refine loopS false false [] [0, 1, 5] [] (fun (i : Nat) => [(5, .int .i64 fun _ => (i : Int))]) (fun _ => []) (fun i => i ≤ l.length ∧ indexFrom (fun t : Train => decide (t.number = n)) i (l.drop i) = E) (fun i => l.length - i + 0) 0 ⟨Nat.zero_le _, by simpa using hE⟩ ?_ ?_
  · (refine To.of [] ?_; cbv; (try simp only [nc]); (repeat' (first | exact trivial | exact WkN.refl _ | exact WkB.refl _ | refine ⟨?_, ?_⟩ | refine WkB.cells ?_ | refine WkN.agg ?_ | refine WkN.tup ?_)); (all_goals (first | exact okt | skip)))
  rintro i ⟨hi, hp⟩
  (cbv; (try simp only [nc] at *); (try refine Chk.mk (okc) ?_))
  refine ⟨fun hb => ?_, fun hb => ?_⟩
  · simp only [decide_eq_true_eq] at hb
    rw [nt_drop (d := default) hnt (l := l) (i := i) (by omega), indexFrom] at hp
    (cbv; (try simp only [nc] at *); (try refine Chk.mk (okc) ?_))
    simp only [beq_dec]
    refine ⟨fun h1 => ?_, fun h1 => ?_⟩
    · rw [if_pos h1] at hp
      subst hp
      (cbv; (try simp only [nc] at *); (try refine Chk.mk (okc) ?_))
      (try first | exact ⟨rfl, trivial⟩ | exact ⟨trivial, trivial⟩)
    · rw [if_neg (by rw [h1]; exact Bool.false_ne_true)] at hp
      (cbv; (try simp only [nc] at *); (try refine Chk.mk (okc) ?_))
      refine ⟨i + 1, ⟨by omega, by rw [← hp]; rfl⟩, by show l.length - (i + 1) + 0 < l.length - i + 0; omega, ?_⟩
      (refine To.of [] ?_; cbv; (try simp only [nc]); (repeat' (first | exact trivial | exact WkN.refl _ | exact WkB.refl _ | refine ⟨?_, ?_⟩ | refine WkB.cells ?_ | refine WkN.agg ?_ | refine WkN.tup ?_)); (all_goals (first | exact okt | skip)))
  · simp only [decide_eq_false_iff_not] at hb
    rw [List.drop_eq_nil_of_le (by omega), indexFrom] at hp
    subst hp
    (cbv; (try simp only [nc] at *); (try refine Chk.mk (okc) ?_))
    (try first | exact ⟨rfl, trivial⟩ | exact ⟨trivial, trivial⟩)

theorem hour_lt : ∀ (l : List Chg) (fr a r t : Int), (∀ p ∈ pcsGo fr a l, p.fr < openT ∧ r - p.ahd < openT) → t < openT → hour (pcsGo fr a l) r t < openT
  | [], fr, a, r, t, h, ht => by
    have := h ⟨fr, openT, a⟩ (by simp [pcsGo])
    simp only [pcsGo, hour] at *
    rw [if_pos (by omega)]
    omega
  | c :: l, fr, a, r, t, h, ht => by
    unfold pcsGo at h ⊢
    split
    · rename_i hc
      rw [if_pos hc] at h
      unfold hour
      split
      · have := h ⟨fr, c.at_, a⟩ (List.mem_cons_self ..)
        simp only at this ⊢
        omega
      · exact hour_lt l _ _ _ _ (fun p hp => h p (List.mem_cons_of_mem _ hp)) ht
    · rename_i hc
      rw [if_neg hc] at h
      exact hour_lt l _ _ _ _ h ht
theorem hour_nn : ∀ (l : List Pc) (r t : Int), 0 ≤ t → 0 ≤ hour l r t
  | [], _, _, _ => by unfold hour openT; omega
  | p :: l, r, t, h => by
    unfold hour
    split
    · omega
    · exact hour_nn l r t h
theorem hour_fit {z : Zone} (hz : checkZone z = 0) {r t : Int} (hr : r ≤ 1000000) (ht : 0 ≤ t ∧ t < openT) : 0 ≤ hour (pieces z) r t ∧ hour (pieces z) r t < openT := by
  refine ⟨hour_nn _ _ _ ht.1, hour_lt _ _ _ _ _ (fun p hp => ?_) ht.2⟩
  have := (pieces_bd hz).2 p hp
  unfold openT
  omega

theorem c219 (b : Book) (t : Train) (day : Int) (hb' : ∀ z ∈ b.zones, checkZone z = 0) (ht : ∀ s ∈ t.stops, (0 ≤ s.zone ∧ s.zone < b.zones.length) ∧ (0 ≤ s.arrive ∧ s.arrive ≤ 10000) ∧ 0 ≤ s.depart ∧ s.depart ≤ 10000) (hlen : 2 ≤ t.stops.length ∧ t.stops.length ≤ 1000) (hd : 0 ≤ day ∧ day ≤ 100) :
    SC (fun _ => Tryz.prog) 64 [bookA b, .agg (encTrain t), .int .i64 fun _ => day] [] fun v h => v = lst 3 encCall default (calls b.zones t day) ∧ h = [] := by
  obtain ⟨nt, hnt⟩ := nth_ex
  refine SC.less (conX false false [] Tryz.func64 (body := bodyOf Tryz.f64) rfl (by decide +kernel) ?_)
  rw [bookA_nt hnt]
  rw [show AV.agg (encTrain t) = .agg [.int .i64 fun _ => t.number, .int .i64 fun _ => t.days, .isl 4 (fun _ => (t.stops.length : Int)) (fun e => encStop (nt Stop default t.stops (e ()))) .none] by unfold encTrain; rw [lst_nt hnt]]
  (cbv; (try simp only [nc] at *); (try refine Chk.mk (okc) ?_))
  refine loopS false false [] [2, 3, 4, 7, 8, 9] [.tok 3 fun _ => 0] (fun (⟨i, now, out⟩ : Nat × Int × List Sp.Call) => [(7, .isl 3 (fun _ => (out.length : Int)) (fun e => encCall (nt Sp.Call default out (e ()))) (.own 2)), (8, .int .i64 fun _ => now), (9, .int .i64 fun _ => (i : Int))])
    (fun ⟨i, now, out⟩ => [(2, .tok 3 fun _ => (out.length : Int))])
    (fun ⟨i, now, out⟩ => (i ≤ t.stops.length ∧ out.length = i ∧ calls b.zones t day = out ++ callsGo b.zones day t.stops.length i now (t.stops.drop i)) ∧ 0 ≤ now ∧ now < openT) (fun i => t.stops.length - i.1 + 0) (0, 0, []) ⟨⟨Nat.zero_le _, rfl, rfl⟩, by decide, by decide⟩ ?_ ?_
  · (refine To.of [(3,false)] ?_; cbv; (try simp only [nc]); (repeat' (first | exact trivial | exact WkN.refl _ | exact WkB.refl _ | refine ⟨?_, ?_⟩ | refine WkB.cells ?_ | refine WkN.agg ?_ | refine WkN.tup ?_)); (all_goals (first | exact okt | skip)))
  rintro ⟨i, now, out⟩ ⟨⟨hi, ho, hp⟩, hn⟩
  have hgz : ∀ k : Nat, k < t.stops.length → checkZone (nt Zone default b.zones (nt Stop default t.stops (k : Int)).zone) = 0 := fun k hk => hb' _ (by
    have := ht _ (nt_mem (d := default) hnt (l := t.stops) (i := k) hk)
    rw [hnt, List.getD_eq_getElem?_getD, List.getElem?_eq_getElem (by omega)]; exact List.getElem_mem _)
  have hgd : ∀ z : Int, b.zones.getD z.toNat default = nt Zone default b.zones z := fun z => by rw [hnt]
  (cbv; (try simp only [nc] at *); (try refine Chk.mk (okc) ?_))
  refine ⟨fun hb => ?_, fun hb => ?_⟩
  · simp only [decide_eq_true_eq] at hb
    have hil : i < t.stops.length := by omega
    have hs := ht _ (nt_mem (d := default) hnt (l := t.stops) (i := i) hil)
    have hz := hgz i hil
    rw [nt_drop (d := default) hnt hil, callsGo] at hp
    simp only [hgd] at hp
    (cbv; (try simp only [nc] at *); (try refine Chk.mk (okc) ?_))
    generalize nt Stop default t.stops (i : Int) = s at *
    generalize hZ : nt Zone default b.zones s.zone = z at *
    have ka := fun n hn => c103 z (1440 * day + s.arrive) n hz (by omega) hn
    have kd := fun n hn => c103 z (1440 * day + s.depart) n hz (by omega) hn
    have fa := fun n hn => hour_fit (t := n) hz (show 1440 * day + s.arrive ≤ 1000000 by omega) hn
    have fd := fun n hn => hour_fit (t := n) hz (show 1440 * day + s.depart ≤ 1000000 by omega) hn
    generalize hL : pieces z = L at *
    rcases Nat.eq_zero_or_pos i with h0 | h0
    · subst h0
      rw [if_pos rfl, if_pos (by omega)] at hp
      refine Br.isF (by simp) ?_
      (cbv; (try simp only [nc] at *); (try refine Chk.mk (okc) ?_))
      refine Br.isT (by simp; omega) ?_
      (cbv; try simp only [nc] at *)
      simp only [hZ]
      refine Chk.mk (okc) ?_
      refine call0 (kd now hn) (by first | rfl | (simp only [zoneA, bookA, lst_nt hnt]; rfl)) fun r h₂ hp => ?_
      (try simp only [zoneA, bookA, lst_nt hnt] at hp)
      obtain ⟨rfl, rfl⟩ := hp
      have fd := fd now hn
      try dsimp only at hp
      generalize hour L (1440 * day + s.depart) now = d at *
      (cbv; (try simp only [nc] at *); (try refine Chk.mk (okc) ?_))
      refine Br.isT (by simp) ?_
      (cbv; (try simp only [nc] at *); (try refine Chk.mk (okc) ?_))
      refine ⟨(1, d, out ++ [⟨s.station, d, d⟩]), ⟨⟨by omega, by simp only [List.length_append, List.length_cons, List.length_nil]; omega, by rw [hp]; simp⟩, fd⟩, by show t.stops.length - 1 + 0 < t.stops.length - 0 + 0; omega, ?_⟩
      (refine To.of [] ?_; cbv; (try simp only [nc]); (repeat' (first | exact trivial | exact WkN.refl _ | exact WkB.refl _ | refine ⟨?_, ?_⟩ | refine WkB.cells ?_ | refine WkN.agg ?_ | refine WkN.tup ?_)); (all_goals (first | exact okt | skip)))
    · rw [if_neg (by omega)] at hp
      refine Br.isT (by simp; omega) ?_
      (cbv; try simp only [nc] at *)
      simp only [hZ]
      refine Chk.mk (okc) ?_
      refine call0 (ka now hn) (by first | rfl | (simp only [zoneA, bookA, lst_nt hnt]; rfl)) fun r h₂ hp => ?_
      (try simp only [zoneA, bookA, lst_nt hnt] at hp)
      obtain ⟨rfl, rfl⟩ := hp
      have fa := fa now hn
      try dsimp only at hp
      generalize hour L (1440 * day + s.arrive) now = a at *
      (cbv; (try simp only [nc] at *); (try refine Chk.mk (okc) ?_))
      refine ⟨fun h1 => ?_, fun h1 => ?_⟩
      · simp only [decide_eq_true_eq] at h1
        rw [if_pos (by omega)] at hp
        (cbv; try simp only [nc] at *)
        simp only [hZ]
        refine Chk.mk (okc) ?_
        refine call0 (kd a fa) (by first | rfl | (simp only [zoneA, bookA, lst_nt hnt]; rfl)) fun r h₂ hp => ?_
        (try simp only [zoneA, bookA, lst_nt hnt] at hp)
        obtain ⟨rfl, rfl⟩ := hp
        have fd := fd a fa
        generalize hour L (1440 * day + s.depart) a = d at *
        (cbv; (try simp only [nc] at *); (try refine Chk.mk (okc) ?_))
        refine Br.isF (by simp; omega) ?_
        (cbv; (try simp only [nc] at *); (try refine Chk.mk (okc) ?_))
        refine ⟨(i + 1, d, out ++ [⟨s.station, a, d⟩]), ⟨⟨by omega, by simp only [List.length_append, List.length_cons, List.length_nil]; omega, by rw [hp]; simp⟩, fd⟩, by show t.stops.length - (i + 1) + 0 < t.stops.length - i + 0; omega, ?_⟩
        (refine To.of [] ?_; cbv; (try simp only [nc]); (repeat' (first | exact trivial | exact WkN.refl _ | exact WkB.refl _ | refine ⟨?_, ?_⟩ | refine WkB.cells ?_ | refine WkN.agg ?_ | refine WkN.tup ?_)); (all_goals (first | exact okt | skip)))
      · simp only [decide_eq_false_iff_not] at h1
        rw [if_neg (by omega)] at hp
        (cbv; (try simp only [nc] at *); (try refine Chk.mk (okc) ?_))
        refine Br.isF (by simp; omega) ?_
        (cbv; (try simp only [nc] at *); (try refine Chk.mk (okc) ?_))
        refine ⟨(i + 1, a, out ++ [⟨s.station, a, a⟩]), ⟨⟨by omega, by simp only [List.length_append, List.length_cons, List.length_nil]; omega, by rw [hp]; simp⟩, fa⟩, by show t.stops.length - (i + 1) + 0 < t.stops.length - i + 0; omega, ?_⟩
        (refine To.of [] ?_; cbv; (try simp only [nc]); (repeat' (first | exact trivial | exact WkN.refl _ | exact WkB.refl _ | refine ⟨?_, ?_⟩ | refine WkB.cells ?_ | refine WkN.agg ?_ | refine WkN.tup ?_)); (all_goals (first | exact okt | skip)))
  · simp only [decide_eq_false_iff_not] at hb
    rw [List.drop_eq_nil_of_le (by omega), callsGo, List.append_nil] at hp
    rw [hp]
    (cbv; (try simp only [nc] at *); (try refine Chk.mk (okc) ?_))
    refine ⟨lst 3 encCall default out, [], ?_, rfl, rfl⟩
    simp only [lst_nt hnt]
    (refine To.of [] ?_; cbv; (try simp only [nc]); (repeat' (first | exact trivial | exact WkN.refl _ | exact WkB.refl _ | refine ⟨?_, ?_⟩ | refine WkB.cells ?_ | refine WkN.agg ?_ | refine WkN.tup ?_)); (all_goals (first | exact okt | skip)))
end Go.Proofs.YtlcgliadpalgfaaGreat.Vm

/- Contracts: copies of zones. -/
namespace Go.Proofs.YtlcgliadpalgfaaGreat.Vm
open Go Go.Proofs Sp
set_option maxRecDepth 100000
set_option maxHeartbeats 1600000

/-- A copy of a zone: with room behind its changes. -/
def zoneR (z : Zone) (id : Nat) : AV := .agg [.int .i64 fun _ => z.base, .isl 2 (fun _ => (z.chs.length : Int)) (lstR encChg default z.chs) (.own id)]
theorem c30 (z : Zone) (hlen : z.chs.length ≤ 1000000) : SC (fun _ => Tryz.prog) 48 [zoneA z] [] fun v h => v = zoneR z 0 ∧ h = [.tok 2 fun _ => (z.chs.length : Int)] := by
  obtain ⟨nt, hnt⟩ := nth_ex
  refine SC.less (conX true false [] Tryz.func48 (body := bodyOf Tryz.f48) rfl (by decide +kernel) ?_)
  unfold zoneA zoneR
  simp only [lst_nt hnt, lstR_nt hnt]
  (cbv; (try simp only [nc] at *); (try refine Chk.mk (okc) ?_))
  refine ⟨_, _, ?_, rfl, rfl⟩
  (refine To.of [] ?_; cbv; (try simp only [nc]); (repeat' (first | exact trivial | exact WkN.refl _ | exact WkB.refl _ | refine ⟨?_, ?_⟩ | refine WkB.cells ?_ | refine WkN.agg ?_ | refine WkN.tup ?_)); (all_goals (first | exact okt | skip)))
  · refine .isl (by simp) fun i hi => ?_
    show (if ((i : Nat) : Int) < (([] : List Chg).length : Int) then _ else _) = _
    rw [if_neg (by simp)]
    simp

theorem c36 (z : Zone) (hlen : z.chs.length ≤ 1000000) : SC (fun _ => Tryz.prog) 70 [zoneA z, zoneA z] [] fun v h => v = .bool (fun _ => true) ∧ h = [] := by
  obtain ⟨nt, hnt⟩ := nth_ex
  refine con Tryz.func70 (body := bodyOf Tryz.f70) rfl (by decide +kernel) ?_
  unfold zoneA
  simp only [lst_nt hnt]
  (cbv; (try simp only [nc] at *); (try refine Chk.mk (okc) ?_))
  refine Br.isF (by simp) ?_
  (cbv; (try simp only [nc] at *); (try refine Chk.mk (okc) ?_))
  refine loopS false false [] [2, 3, 5] [] (fun (i : Nat) => [(5, .int .i64 fun _ => (i : Int))]) (fun _ => []) (fun i => i ≤ z.chs.length) (fun i => z.chs.length - i + 0) 0 (Nat.zero_le _) ?_ ?_
  · (refine To.of [] ?_; cbv; (try simp only [nc]); (repeat' (first | exact trivial | exact WkN.refl _ | exact WkB.refl _ | refine ⟨?_, ?_⟩ | refine WkB.cells ?_ | refine WkN.agg ?_ | refine WkN.tup ?_)); (all_goals (first | exact okt | skip)))
  intro i hi
  (cbv; (try simp only [nc] at *); (try refine Chk.mk (okc) ?_))
  refine ⟨fun hb => ?_, fun hb => ?_⟩
  · simp only [decide_eq_true_eq] at hb
    (cbv; (try simp only [nc] at *); (try refine Chk.mk (okc) ?_))
    refine Br.isF (by simp) ?_
    (cbv; (try simp only [nc] at *); (try refine Chk.mk (okc) ?_))
    refine ⟨i + 1, by omega, by omega, ?_⟩
    (refine To.of [] ?_; cbv; (try simp only [nc]); (repeat' (first | exact trivial | exact WkN.refl _ | exact WkB.refl _ | refine ⟨?_, ?_⟩ | refine WkB.cells ?_ | refine WkN.agg ?_ | refine WkN.tup ?_)); (all_goals (first | exact okt | skip)))
  · (cbv; (try simp only [nc] at *); (try refine Chk.mk (okc) ?_))
    (try first | exact ⟨rfl, trivial⟩ | exact ⟨trivial, trivial⟩)

theorem c35 (l : List Span) (hlen : l.length ≤ 100000) : SC (fun _ => Tryz.prog) 44 [lst 2 encSpan default l, lst 2 encSpan default l] [] fun v h => v = .bool (fun _ => true) ∧ h = [] := by
  obtain ⟨nt, hnt⟩ := nth_ex
  refine con Tryz.func44 (body := bodyOf Tryz.f44) rfl (by decide +kernel) ?_
  simp only [lst_nt hnt]
  (cbv; (try simp only [nc] at *); (try refine Chk.mk (okc) ?_))
  refine Br.isF (by simp) ?_
  (cbv; (try simp only [nc] at *); (try refine Chk.mk (okc) ?_))
  refine loopS false false [] [0, 1, 5] [] (fun (i : Nat) => [(5, .int .i64 fun _ => (i : Int))]) (fun _ => []) (fun i => i ≤ l.length) (fun i => l.length - i + 0) 0 (Nat.zero_le _) ?_ ?_
  · (refine To.of [] ?_; cbv; (try simp only [nc]); (repeat' (first | exact trivial | exact WkN.refl _ | exact WkB.refl _ | refine ⟨?_, ?_⟩ | refine WkB.cells ?_ | refine WkN.agg ?_ | refine WkN.tup ?_)); (all_goals (first | exact okt | skip)))
  intro i hi
  (cbv; (try simp only [nc] at *); (try refine Chk.mk (okc) ?_))
  refine ⟨fun hb => ?_, fun hb => ?_⟩
  · simp only [decide_eq_true_eq] at hb
    (cbv; (try simp only [nc] at *); (try refine Chk.mk (okc) ?_))
    refine Br.isF (by simp) ?_
    (cbv; (try simp only [nc] at *); (try refine Chk.mk (okc) ?_))
    refine ⟨i + 1, by omega, by omega, ?_⟩
    (refine To.of [] ?_; cbv; (try simp only [nc]); (repeat' (first | exact trivial | exact WkN.refl _ | exact WkB.refl _ | refine ⟨?_, ?_⟩ | refine WkB.cells ?_ | refine WkN.agg ?_ | refine WkN.tup ?_)); (all_goals (first | exact okt | skip)))
  · (cbv; (try simp only [nc] at *); (try refine Chk.mk (okc) ?_))
    (try first | exact ⟨rfl, trivial⟩ | exact ⟨trivial, trivial⟩)
end Go.Proofs.YtlcgliadpalgfaaGreat.Vm

/- Contracts: the reference's days and runs; whether books are equal. -/
namespace Go.Proofs.YtlcgliadpalgfaaGreat.Vm
open Go Go.Proofs Sp
set_option maxRecDepth 100000
set_option maxHeartbeats 1600000

theorem c215 (b : Book) (n : Int) (hf : BookFit b) : SC (fun _ => Tryz.prog) 53 [bookA b, .int .i64 fun _ => n] [] fun v h => v = .int .i64 (fun _ => checkNumber b n) ∧ h = [] := by
  obtain ⟨nt, hnt⟩ := nth_ex
  have k25 := c25 b hf
  have k1 := c217 b.old n hf.old
  have k2 := c217 b.new n hf.new
  unfold checkNumber
  generalize Check b = C at *
  generalize place b.old n = p1 at *
  generalize place b.new n = p2 at *
  generalize hE : (if C ≠ 0 then C else if p1 < 0 ∧ p2 < 0 then 3 else 0 : Int) = E
  unfold bookA at *
  simp only [lst_nt hnt] at *
  refine con Tryz.func53 (body := bodyOf Tryz.f53) rfl (by decide +kernel) ?_
  (cbv; (try simp only [nc] at *); (try refine Chk.mk (okc) ?_))
  refine call0 (k25) (by first | rfl | (simp only [zoneA, bookA, lst_nt hnt]; rfl)) fun r h₂ hp => ?_
  (try simp only [zoneA, bookA, lst_nt hnt] at hp)
  obtain ⟨rfl, rfl⟩ := hp
  (cbv; (try simp only [nc] at *); (try refine Chk.mk (okc) ?_))
  refine ⟨fun hb => ?_, fun hb => ?_⟩
  · simp only [bne_iff_ne, ne_eq] at hb
    rw [if_pos hb] at hE
    subst hE
    (cbv; (try simp only [nc] at *); (try refine Chk.mk (okc) ?_))
    (try first | exact ⟨rfl, trivial⟩ | exact ⟨trivial, trivial⟩)
  have hC : C = 0 := by simpa using hb
  rw [if_neg (fun h => h hC)] at hE
  (cbv; (try simp only [nc] at *); (try refine Chk.mk (okc) ?_))
  refine call0 (k1) (by first | rfl | (simp only [zoneA, bookA, lst_nt hnt]; rfl)) fun r h₂ hp => ?_
  (try simp only [zoneA, bookA, lst_nt hnt] at hp)
  obtain ⟨rfl, rfl⟩ := hp
  (cbv; (try simp only [nc] at *); (try refine Chk.mk (okc) ?_))
  refine ⟨fun h1 => ?_, fun h1 => ?_⟩
  · have h1 : p1 < 0 := by simpa using h1
    (cbv; (try simp only [nc] at *); (try refine Chk.mk (okc) ?_))
    refine call0 (k2) (by first | rfl | (simp only [zoneA, bookA, lst_nt hnt]; rfl)) fun r h₂ hp => ?_
    (try simp only [zoneA, bookA, lst_nt hnt] at hp)
    obtain ⟨rfl, rfl⟩ := hp
    (cbv; (try simp only [nc] at *); (try refine Chk.mk (okc) ?_))
    refine ⟨fun h2 => ?_, fun h2 => ?_⟩
    · have h2 : p2 < 0 := by simpa [h1] using h2
      rw [if_pos ⟨h1, h2⟩] at hE
      subst hE
      (cbv; (try simp only [nc] at *); (try refine Chk.mk (okc) ?_))
      (try first | exact ⟨rfl, trivial⟩ | exact ⟨trivial, trivial⟩)
    · have h2 : ¬ p2 < 0 := by simpa [h1] using h2
      rw [if_neg (fun h => h2 h.2)] at hE
      subst hE
      (cbv; (try simp only [nc] at *); (try refine Chk.mk (okc) ?_))
      (try first | exact ⟨rfl, trivial⟩ | exact ⟨trivial, trivial⟩)
  · have h1 : ¬ p1 < 0 := by simpa using h1
    rw [if_neg (fun h => h1 h.1)] at hE
    subst hE
    (cbv; (try simp only [nc] at *); (try refine Chk.mk (okc) ?_))
    refine Br.isF (by first | rfl | (simp; done)) ?_
    (cbv; (try simp only [nc] at *); (try refine Chk.mk (okc) ?_))
    (try first | exact ⟨rfl, trivial⟩ | exact ⟨trivial, trivial⟩)

theorem place_rng (l : List Train) (n : Int) : place l n = -1 ∨ 0 ≤ place l n ∧ place l n < l.length := by
  have := indexFrom_lt (q := fun t : Train => decide (t.number = n)) (l := l) (i := 0) (by omega)
  rcases Nat.eq_zero_or_pos l.length with h | h
  · rw [List.eq_nil_of_length_eq_zero h]; exact .inl rfl
  · unfold place; omega

theorem c205 (b : Book) (n day : Int) (hf : BookFit b) : SC (fun _ => Tryz.prog) 16 [bookA b, .int .i64 fun _ => n, .int .i64 fun _ => day] [] fun v h => v = .tup [lst 3 encCall default (Run b n day).1, .int .i64 fun _ => (Run b n day).2] ∧ h = [] := by
  obtain ⟨nt, hnt⟩ := nth_ex
  refine SC.less (con Tryz.func16 (body := bodyOf Tryz.f16) rfl (by decide +kernel) ?_)
  unfold bookA Run
  simp only [lst_nt hnt]
  (cbv; (try simp only [nc] at *); (try refine Chk.mk (okc) ?_))
  refine call0 (c25 b hf) (by first | rfl | (simp only [zoneA, bookA, lst_nt hnt]; rfl)) fun r h₂ hp => ?_
  (try simp only [zoneA, bookA, lst_nt hnt] at hp)
  obtain ⟨rfl, rfl⟩ := hp
  have hok0 := fun h => book_ok (b := b) h
  generalize Check b = e at *
  (cbv; try simp only [nc] at *)
  refine ⟨fun hb => ?_, fun hb => ?_⟩
  · simp only [bne_iff_ne, ne_eq] at hb
    rw [if_pos hb]
    (cbv; (try simp only [nc] at *); (try refine Chk.mk (okc) ?_))
    refine ⟨_, [], ?_, rfl, rfl⟩
    (refine To.of [] ?_; cbv; (try simp only [nc]); (repeat' (first | exact trivial | exact WkN.refl _ | exact WkB.refl _ | refine ⟨?_, ?_⟩ | refine WkB.cells ?_ | refine WkN.agg ?_ | refine WkN.tup ?_)); (all_goals (first | exact okt | skip)))
  simp only [bne_eq_false_iff_eq] at hb
  have hok := hok0 hb
  subst hb
  rw [if_neg (fun h => h rfl)]
  (cbv; (try simp only [nc] at *); (try refine Chk.mk (okc) ?_))
  refine call0 (c72 day 0 b.last) (by first | rfl | (simp only [zoneA, bookA, lst_nt hnt]; rfl)) fun r h₂ hp => ?_
  (try simp only [zoneA, bookA, lst_nt hnt] at hp)
  obtain ⟨rfl, rfl⟩ := hp
  (cbv; try simp only [nc] at *)
  refine ⟨fun hb => ?_, fun hb => ?_⟩
  · rw [if_pos hb]
    (cbv; (try simp only [nc] at *); (try refine Chk.mk (okc) ?_))
    refine ⟨_, [], ?_, rfl, rfl⟩
    (refine To.of [] ?_; cbv; (try simp only [nc]); (repeat' (first | exact trivial | exact WkN.refl _ | exact WkB.refl _ | refine ⟨?_, ?_⟩ | refine WkB.cells ?_ | refine WkN.agg ?_ | refine WkN.tup ?_)); (all_goals (first | exact okt | skip)))
  rw [if_neg (by rw [hb]; exact Bool.false_ne_true)]
  have hday := inB_ok (by simpa using hb : inB day 0 b.last = true)
  have hlast := hok.last
  have htab := table_ok hok day
  (cbv; (try simp only [nc] at *); (try refine Chk.mk (okc) ?_))
  refine call0 (c216 b day) (by first | rfl | (simp only [zoneA, bookA, lst_nt hnt]; rfl)) fun r h₂ hp => ?_
  (try simp only [zoneA, bookA, lst_nt hnt] at hp)
  obtain ⟨rfl, rfl⟩ := hp
  have hpl := place_rng (table b day) n
  generalize table b day = l at *
  (cbv; (try simp only [nc] at *); (try refine Chk.mk (okc) ?_))
  refine call0 (c217 l n (by omega)) (by first | rfl | (simp only [zoneA, bookA, lst_nt hnt]; rfl)) fun r h₂ hp => ?_
  (try simp only [zoneA, bookA, lst_nt hnt] at hp)
  obtain ⟨rfl, rfl⟩ := hp
  generalize place l n = p at *
  (cbv; try simp only [nc] at *)
  refine ⟨fun hb => ?_, fun hb => ?_⟩
  · simp only [decide_eq_true_eq] at hb
    rw [if_pos hb]
    (cbv; (try simp only [nc] at *); (try refine Chk.mk (okc) ?_))
    refine ⟨_, [], ?_, rfl, rfl⟩
    (refine To.of [] ?_; cbv; (try simp only [nc]); (repeat' (first | exact trivial | exact WkN.refl _ | exact WkB.refl _ | refine ⟨?_, ?_⟩ | refine WkB.cells ?_ | refine WkN.agg ?_ | refine WkN.tup ?_)); (all_goals (first | exact okt | skip)))
  simp only [decide_eq_false_iff_not] at hb
  rw [if_neg hb]
  obtain ⟨k, rfl⟩ : ∃ k : Nat, p = k := ⟨p.toNat, by omega⟩
  (cbv; (try simp only [nc] at *); (try refine Chk.mk (okc) ?_))
  have hTk := htab.2 _ (nt_mem (d := default) hnt (l := l) (i := k) (by omega))
  have hgk : l.getD (k : Int).toNat default = nt Train default l k := by rw [hnt]
  rw [hgk]
  have hdays := hTk.days
  refine call0 (c218 (nt Train default l k) day (by omega) (by omega)) (by first | rfl | (simp only [zoneA, bookA, lst_nt hnt]; rfl)) fun r h₂ hp => ?_
  (try simp only [zoneA, bookA, lst_nt hnt] at hp)
  obtain ⟨rfl, rfl⟩ := hp
  (cbv; try simp only [nc] at *)
  refine ⟨fun hb => ?_, fun hb => ?_⟩
  · rw [if_pos hb]
    (cbv; (try simp only [nc] at *); (try refine Chk.mk (okc) ?_))
    refine ⟨_, [], ?_, rfl, rfl⟩
    (refine To.of [] ?_; cbv; (try simp only [nc]); (repeat' (first | exact trivial | exact WkN.refl _ | exact WkB.refl _ | refine ⟨?_, ?_⟩ | refine WkB.cells ?_ | refine WkN.agg ?_ | refine WkN.tup ?_)); (all_goals (first | exact okt | skip)))
  rw [if_neg (by rw [hb]; exact Bool.false_ne_true)]
  (cbv; (try simp only [nc] at *); (try refine Chk.mk (okc) ?_))
  have hlen := hTk.len
  refine call0 (c219 b (nt Train default l k) day hok.zones (fun s hs => by obtain ⟨_, h1, h2, h3⟩ := hTk.stops s hs; omega) (by omega) (by omega)) (by first | rfl | (simp only [zoneA, bookA, lst_nt hnt]; rfl)) fun r h₂ hp => ?_
  (try simp only [zoneA, bookA, lst_nt hnt] at hp)
  obtain ⟨rfl, rfl⟩ := hp
  generalize calls b.zones (nt Train default l k) day = C at *
  (cbv; (try simp only [nc] at *); (try refine Chk.mk (okc) ?_))
  refine ⟨_, [], ?_, rfl, rfl⟩
  (try simp only [lstR_nt hnt])
  (refine To.of [] ?_; cbv; (try simp only [nc]); (repeat' (first | exact trivial | exact WkN.refl _ | exact WkB.refl _ | refine ⟨?_, ?_⟩ | refine WkB.cells ?_ | refine WkN.agg ?_ | refine WkN.tup ?_)); (all_goals (first | exact okt | skip)))

theorem c204 (b : Book) (n : Int) (hf : BookFit b) : SC (fun _ => Tryz.prog) 14 [bookA b, .int .i64 fun _ => n] [] fun v h => v = .tup [lst 1 encI 0 (Starts b n).1, .int .i64 fun _ => (Starts b n).2] ∧ h = [] := by
  obtain ⟨nt, hnt⟩ := nth_ex
  have k215 := c215 b n hf
  have hok0 : checkNumber b n = 0 → Check b = 0 := fun h => by
    unfold checkNumber at h
    split at h
    · rename_i hne; exact absurd h hne
    · rename_i hne; exact Decidable.of_not_not hne
  unfold Starts
  generalize checkNumber b n = C at *
  refine SC.less (conX false false [] Tryz.func14 (body := bodyOf Tryz.f14) rfl (by decide +kernel) ?_)
  rw [bookA_nt hnt] at *
  (cbv; (try simp only [nc] at *); (try refine Chk.mk (okc) ?_))
  refine call0 (k215) (by first | rfl | (simp only [zoneA, bookA, lst_nt hnt]; rfl)) fun r h₂ hp => ?_
  (try simp only [zoneA, bookA, lst_nt hnt] at hp)
  obtain ⟨rfl, rfl⟩ := hp
  (cbv; (try simp only [nc] at *); (try refine Chk.mk (okc) ?_))
  refine ⟨fun hb => ?_, fun hb => ?_⟩
  · simp only [bne_iff_ne, ne_eq] at hb
    rw [if_pos hb]
    (cbv; (try simp only [nc] at *); (try refine Chk.mk (okc) ?_))
    refine ⟨_, [], ?_, rfl, rfl⟩
    (refine To.of [] ?_; cbv; (try simp only [nc]); (repeat' (first | exact trivial | exact WkN.refl _ | exact WkB.refl _ | refine ⟨?_, ?_⟩ | refine WkB.cells ?_ | refine WkN.agg ?_ | refine WkN.tup ?_)); (all_goals (first | exact okt | skip)))
  have hC : C = 0 := by simpa using hb
  have hck := hok0 hC
  have hok := book_ok hck
  have hlast := hok.last
  rw [if_neg (fun h => h hC)]
  have hgen := day_gen hck (n := n) (f := dayOf n) (fun t d h => if_neg h)
  (cbv; (try simp only [nc] at *); (try refine Chk.mk (okc) ?_))
  refine loopS false false [] [1, 2, 7, 8] [.tok 1 fun _ => 0] (fun (d : Nat) => [(7, .isl 1 (fun _ => ((startsL n (runsTo b d)).length : Int)) (fun e => encI (nt Int 0 (startsL n (runsTo b d)) (e ()))) (.own 1)), (8, .int .i64 fun _ => (d : Int))])
    (fun d => [(1, .tok 1 fun _ => ((startsL n (runsTo b d)).length : Int))]) (fun d => (d : Int) ≤ b.last + 1) (fun d => (b.last + 1).toNat - d + 0) 0 (by omega) ?_ ?_
  · (refine To.of [(1,false)] ?_; cbv; (try simp only [nc]); (repeat' (first | exact trivial | exact WkN.refl _ | exact WkB.refl _ | refine ⟨?_, ?_⟩ | refine WkB.cells ?_ | refine WkN.agg ?_ | refine WkN.tup ?_)); (all_goals (first | exact okt | skip)))
  intro d hd
  (cbv; (try simp only [nc] at *); (try refine Chk.mk (okc) ?_))
  refine ⟨fun hb => ?_, fun hb => ?_⟩
  · simp only [decide_eq_true_eq] at hb
    have hgn := hgen d
    clear hgen
    have hO : (startsL n (runsTo b d)).length ≤ 1000 := Nat.le_trans (List.length_filterMap_le _ _) (by have := runsTo_len hok d; omega)
    change startsL n _ = startsL n _ ++ _ at hgn
    generalize startsL n (runsTo b d) = O at *
    have htab := table_ok hok (d : Int)
    have hpl := place_rng (table b d) n
    (cbv; (try simp only [nc] at *); (try refine Chk.mk (okc) ?_))
    refine call0 (c216 b d) (by first | rfl | (simp only [zoneA, bookA, lst_nt hnt]; rfl)) fun r h₂ hp => ?_
    (try simp only [zoneA, bookA, lst_nt hnt] at hp)
    obtain ⟨rfl, rfl⟩ := hp
    generalize table b d = l at *
    (cbv; (try simp only [nc] at *); (try refine Chk.mk (okc) ?_))
    refine call0 (c217 l n (by omega)) (by first | rfl | (simp only [zoneA, bookA, lst_nt hnt]; rfl)) fun r h₂ hp => ?_
    (try simp only [zoneA, bookA, lst_nt hnt] at hp)
    obtain ⟨rfl, rfl⟩ := hp
    generalize hP : place l n = p at *
    (cbv; (try simp only [nc] at *); (try refine Chk.mk (okc) ?_))
    refine ⟨fun h1 => ?_, fun h1 => ?_⟩
    · have h1 : 0 ≤ p := by simpa using h1
      obtain ⟨k, rfl⟩ : ∃ k : Nat, p = k := ⟨p.toNat, by omega⟩
      have hTk := htab.2 _ (nt_mem (d := default) hnt (l := l) (i := k) (by omega))
      have hdays := hTk.days
      have hnum : (nt Train default l (k : Int)).number = n := by
        obtain ⟨g1, g2, g3, g4⟩ := indexFrom_some (i := k) (k := 0) hP
        have := g4 _ (by rw [Nat.sub_zero]; exact List.getElem?_eq_getElem (by omega))
        rw [hnt]
        simp only [Int.toNat_natCast, List.getD_eq_getElem?_getD, List.getElem?_eq_getElem (show k < l.length by omega)]
        simpa using this
      rw [if_neg (by omega)] at hgn
      have hgk : l.getD (k : Int).toNat default = nt Train default l k := by rw [hnt]
      rw [hgk] at hgn
      have hdo : dayOf n (nt Train default l (k : Int), (d : Int)) = some (d : Int) := if_pos hnum
      rw [hdo] at hgn
      have k218 := c218 (nt Train default l k) d (by omega) (by omega)
      generalize starts (nt Train default l k) d = st at *
      (cbv; (try simp only [nc] at *); (try refine Chk.mk (okc) ?_))
      refine call0 (k218) (by first | rfl | (simp only [zoneA, bookA, lst_nt hnt]; rfl)) fun r h₂ hp => ?_
      (try simp only [zoneA, bookA, lst_nt hnt] at hp)
      obtain ⟨rfl, rfl⟩ := hp
      (cbv; (try simp only [nc] at *); (try refine Chk.mk (okc) ?_))
      refine ⟨fun h2 => ?_, fun h2 => ?_⟩
      · have h2 : st = true := by simpa [h1] using h2
        rw [if_pos h2] at hgn
        (cbv; (try simp only [nc] at *); (try refine Chk.mk (okc) ?_))
        refine ⟨d + 1, by omega, by omega, ?_⟩
        rw [hgn]
        (refine To.of [] ?_; cbv; (try simp only [nc]); (repeat' (first | exact trivial | exact WkN.refl _ | exact WkB.refl _ | refine ⟨?_, ?_⟩ | refine WkB.cells ?_ | refine WkN.agg ?_ | refine WkN.tup ?_)); (all_goals (first | exact okt | skip)))
      · have h2 : ¬ st = true := by simpa [h1] using h2
        rw [if_neg h2, List.append_nil] at hgn
        (cbv; (try simp only [nc] at *); (try refine Chk.mk (okc) ?_))
        refine ⟨d + 1, by omega, by omega, ?_⟩
        rw [hgn]
        (refine To.of [] ?_; cbv; (try simp only [nc]); (repeat' (first | exact trivial | exact WkN.refl _ | exact WkB.refl _ | refine ⟨?_, ?_⟩ | refine WkB.cells ?_ | refine WkN.agg ?_ | refine WkN.tup ?_)); (all_goals (first | exact okt | skip)))
    · have h1 : p < 0 := by simpa using h1
      rw [if_pos h1, List.append_nil] at hgn
      (cbv; (try simp only [nc] at *); (try refine Chk.mk (okc) ?_))
      refine Br.isF (by first | rfl | (simp; done)) ?_
      (cbv; (try simp only [nc] at *); (try refine Chk.mk (okc) ?_))
      refine ⟨d + 1, by omega, by omega, ?_⟩
      rw [hgn]
      (refine To.of [] ?_; cbv; (try simp only [nc]); (repeat' (first | exact trivial | exact WkN.refl _ | exact WkB.refl _ | refine ⟨?_, ?_⟩ | refine WkB.cells ?_ | refine WkN.agg ?_ | refine WkN.tup ?_)); (all_goals (first | exact okt | skip)))
  · have hde : d = (b.last + 1).toNat := by simp only [decide_eq_false_iff_not] at hb; omega
    subst hde
    (cbv; (try simp only [nc] at *); (try refine Chk.mk (okc) ?_))
    refine ⟨.tup [lst 1 encI 0 (startsL n (runsTo b (b.last + 1).toNat)), .int .i64 fun _ => 0], [], ?_, rfl, rfl⟩
    simp only [lst_nt hnt]
    (refine To.of [] ?_; cbv; (try simp only [nc]); (repeat' (first | exact trivial | exact WkN.refl _ | exact WkB.refl _ | refine ⟨?_, ?_⟩ | refine WkB.cells ?_ | refine WkN.agg ?_ | refine WkN.tup ?_)); (all_goals (first | exact okt | skip)))
end Go.Proofs.YtlcgliadpalgfaaGreat.Vm

/- Contracts: the reference's rides, and the one that goes next. -/
namespace Go.Proofs.YtlcgliadpalgfaaGreat.Vm
open Go Go.Proofs Sp
set_option maxRecDepth 100000
set_option maxHeartbeats 1600000

theorem refRides_len {b : Book} (h : BookOk b) (g : Sp.Leg) (d : Nat) (hd : (d : Int) ≤ b.last + 1) : ((runsTo b d).filterMap (rideRO b g)).length ≤ 100 := by
  have h1 := runsTo_len h d
  have h2 := List.length_filterMap_le (rideRO b g) (runsTo b d)
  have h3 := h.last
  omega

theorem c226 (b : Book) (g : Sp.Leg) (hck : Check b = 0) : SC (fun _ => Tryz.prog) 101 [bookA b, legA g] [] fun v h => v = lst 3 encRide default (refRides b g) ∧ h = [] := by
  obtain ⟨nt, hnt⟩ := nth_ex
  have hok := book_ok hck
  have hlast := hok.last
  refine SC.less (conX false false [15] Tryz.func101 (body := bodyOf Tryz.f101) rfl (by decide +kernel) ?_)
  unfold legA
  rw [bookA_nt hnt] at *
  unfold refRides
  (cbv; (try simp only [nc] at *); (try refine Chk.mk (okc) ?_))
  refine loopS false false [15] [2, 3, 5, 6] [.tok 3 fun _ => 0] (fun (d : Nat) => [(5, .isl 3 (fun _ => (((runsTo b d).filterMap (rideRO b g)).length : Int)) (fun e => encRide (nt Sp.Ride default ((runsTo b d).filterMap (rideRO b g)) (e ()))) (.own 2)), (6, .int .i64 fun _ => (d : Int))])
    (fun d => [(2, .tok 3 fun _ => (((runsTo b d).filterMap (rideRO b g)).length : Int))]) (fun d => (d : Int) ≤ b.last + 1) (fun d => (b.last + 1).toNat - d + 0) 0 (by omega) ?_ ?_
  · (refine To.of [(3,false)] ?_; cbv; (try simp only [nc]); (repeat' (first | exact trivial | exact WkN.refl _ | exact WkB.refl _ | refine ⟨?_, ?_⟩ | refine WkB.cells ?_ | refine WkN.agg ?_ | refine WkN.tup ?_)); (all_goals (first | exact okt | skip)))
  intro d hd
  (cbv; (try simp only [nc] at *); (try refine Chk.mk (okc) ?_))
  refine ⟨fun hb => ?_, fun hb => ?_⟩
  · simp only [decide_eq_true_eq] at hb
    have hgn := day_gen hck (n := g.number) (f := rideRO b g) (fun t d h => if_neg h) d
    have hFl := refRides_len hok g (d + 1) (by omega)
    have htab := table_ok hok (d : Int)
    have hpair := check_new hck (d : Int)
    have hpl := place_rng (table b d) g.number
    generalize hF : (runsTo b (d + 1)).filterMap (rideRO b g) = F at *
    generalize (runsTo b d).filterMap (rideRO b g) = O at *
    have k216 := c216 b d
    have k217 := c217 (table b d) g.number (by omega)
    rw [bookA_nt hnt] at k216
    simp only [lst_nt hnt] at k216 k217
    (cbv; (try simp only [nc] at *); (try refine Chk.mk (okc) ?_))
    refine call0 k216 rfl fun r h₂ hp => ?_
    obtain ⟨rfl, rfl⟩ := hp
    generalize hL : table b d = l at *
    (cbv; (try simp only [nc] at *); (try refine Chk.mk (okc) ?_))
    refine call0 k217 rfl fun r h₂ hp => ?_
    obtain ⟨rfl, rfl⟩ := hp
    generalize hP : place l g.number = p at *
    (cbv; try simp only [nc] at *)
    by_cases h1 : 0 ≤ p
    · have hpl : 0 ≤ p ∧ p < l.length := by omega
      refine Chk.mk (okc) ?_
      refine Br.isT (by simp; omega) ?_
      obtain ⟨k, rfl⟩ : ∃ k : Nat, p = k := ⟨p.toNat, by omega⟩
      have hmem : nt Train default l (k : Int) ∈ l := nt_mem (d := default) hnt (l := l) (i := k) (by omega)
      have hTk := htab.2 _ hmem
      have hdays := hTk.days
      have hnum : (nt Train default l (k : Int)).number = g.number := by
        obtain ⟨g1, g2, g3, g4⟩ := indexFrom_some (i := k) (k := 0) hP
        have := g4 _ (by rw [Nat.sub_zero]; exact List.getElem?_eq_getElem (by omega))
        rw [hnt]
        simp only [Int.toNat_natCast, List.getD_eq_getElem?_getD, List.getElem?_eq_getElem (show k < l.length by omega)]
        simpa using this
      rw [if_neg (by omega)] at hgn
      have hgk : l.getD (k : Int).toNat default = nt Train default l k := by rw [hnt]
      rw [hgk] at hgn
      have hro : (rideRO b g (nt Train default l (k : Int), (d : Int))).toList = goK (calls b.zones (nt Train default l (k : Int)) d) g d ((calls b.zones (nt Train default l (k : Int)) d).length - 1) 0 := by
        unfold rideRO
        rw [if_pos hnum, rideN_list, goK_eq (calls_pair (hpair.2 _ hmem)) (calls_nn fun s hs => (hTk.stops s hs).station.1)]
      rw [hro] at hgn
      have k218 := c218 (nt Train default l k) d (by omega) (by omega)
      have hlen := hTk.len
      have hCl := calls_len (zs := b.zones) (t := nt Train default l (k : Int)) (day := (d : Int))
      have hCl2 : 2 ≤ (calls b.zones (nt Train default l (k : Int)) d).length ∧ (calls b.zones (nt Train default l (k : Int)) d).length ≤ 4 := by rw [hCl]; exact hlen
      have k219 := c219 b (nt Train default l (k : Int)) d hok.zones (fun s hs => by obtain ⟨_, h1, h2, h3⟩ := hTk.stops s hs; omega) (by omega) (by omega)
      rw [bookA_nt hnt] at k219
      simp only [lst_nt hnt] at k219
      generalize starts (nt Train default l k) d = st at *
      clear hro
      (cbv; (try simp only [nc] at *); (try refine Chk.mk (okc) ?_))
      refine call0 k218 rfl fun r h₂ hp => ?_
      obtain ⟨rfl, rfl⟩ := hp
      (cbv; (try simp only [nc] at *); (try refine Chk.mk (okc) ?_))
      refine ⟨fun h2 => ?_, fun h2 => ?_⟩
      · have h2 : ¬ st = true := by simpa [show ¬ ((k : Int) < 0) by omega] using h2
        rw [if_neg h2, List.append_nil] at hgn
        (cbv; (try simp only [nc] at *); (try refine Chk.mk (okc) ?_))
        refine ⟨d + 1, by omega, by omega, ?_⟩
        rw [hF, hgn]
        (refine To.of [] ?_; cbv; (try simp only [nc]); (repeat' (first | exact trivial | exact WkN.refl _ | exact WkB.refl _ | refine ⟨?_, ?_⟩ | refine WkB.cells ?_ | refine WkN.agg ?_ | refine WkN.tup ?_)); (all_goals (first | exact okt | skip)))
      · have h2 : st = true := by simpa [show ¬ ((k : Int) < 0) by omega] using h2
        rw [if_pos h2] at hgn
        generalize calls b.zones (nt Train default l (k : Int)) d = Cs at *
        (cbv; (try simp only [nc] at *); (try refine Chk.mk (okc) ?_))
        refine call0 k219 rfl fun r h₂ hp => ?_
        obtain ⟨rfl, rfl⟩ := hp
        (cbv; (try simp only [nc] at *); (try refine Chk.mk (okc) ?_))
        refine loopQ fun Q hQ => ?_
        refine loopS false false [15] [2, 3, 5, 6, 9, 10] [] (fun (⟨j, out⟩ : Nat × List Sp.Ride) => [(5, .isl 3 (fun _ => (out.length : Int)) (fun e => encRide (nt Sp.Ride default out (e ()))) (.own 2)), (10, .int .i64 fun _ => (j : Int))])
          (fun ⟨j, out⟩ => [(2, .tok 3 fun _ => (out.length : Int))]) (fun ⟨j, out⟩ => j ≤ Cs.length - 1 ∧ out ++ goK Cs g d (Cs.length - 1 - j) j = F) (fun i => Cs.length - 1 - i.1 + 0) (0, O) ⟨Nat.zero_le _, by rw [hgn]; rfl⟩ ?_ ?_
        · (refine To.of [] ?_; cbv; (try simp only [nc]); (repeat' (first | exact trivial | exact WkN.refl _ | exact WkB.refl _ | refine ⟨?_, ?_⟩ | refine WkB.cells ?_ | refine WkN.agg ?_ | refine WkN.tup ?_)); (all_goals (first | exact okt | skip)))
        rintro ⟨j, out⟩ hinv
        have hj : j ≤ Cs.length - 1 := hinv.1
        have hp : out ++ goK Cs g d (Cs.length - 1 - j) j = F := hinv.2
        clear hinv
        have hol : out.length ≤ 100 := by rw [← hp, List.length_append] at hFl; omega
        (cbv; (try simp only [nc] at *); (try refine Chk.mk (okc) ?_))
        refine ⟨fun h3 => ?_, fun h3 => ?_⟩
        · simp only [decide_eq_true_eq] at h3
          obtain ⟨n, hn⟩ : ∃ n, Cs.length - 1 - j = n + 1 := ⟨Cs.length - 1 - j - 1, by omega⟩
          rw [hn, goK] at hp
          have hgj : Cs.getD j default = nt Sp.Call default Cs (j : Int) := by rw [hnt]; rfl
          unfold rowK at hp
          rw [hgj] at hp
          (cbv; (try simp only [nc] at *); (try refine Chk.mk (okc) ?_))
          refine ⟨fun h4 => ?_, fun h4 => ?_⟩
          · have h4 : (nt Sp.Call default Cs (j : Int)).station ≠ g.from_ := by simpa using h4
            rw [if_pos h4, List.nil_append] at hp
            (cbv; (try simp only [nc] at *); (try refine Chk.mk (okc) ?_))
            refine ⟨(j + 1, out), ⟨by show j + 1 ≤ Cs.length - 1; omega, by show out ++ goK Cs g d (Cs.length - 1 - (j + 1)) (j + 1) = F; rw [← hp]; congr 2; omega⟩, by show Cs.length - 1 - (j + 1) + 0 < Cs.length - 1 - j + 0; omega, ?_⟩
            (refine To.of [] ?_; cbv; (try simp only [nc]); (repeat' (first | exact trivial | exact WkN.refl _ | exact WkB.refl _ | refine ⟨?_, ?_⟩ | refine WkB.cells ?_ | refine WkN.agg ?_ | refine WkN.tup ?_)); (all_goals (first | exact okt | skip)))
          have h4 : ¬ (nt Sp.Call default Cs (j : Int)).station ≠ g.from_ := by simpa using h4
          rw [if_neg h4] at hp
          obtain ⟨out2, ho2⟩ : ∃ o, o = out ++ (if g.to_ < 0 then [(⟨d, (nt Sp.Call default Cs (j : Int)).depart, 0⟩ : Sp.Ride)] else []) := ⟨_, rfl⟩
          rw [List.append_assoc, ← List.append_assoc, ← ho2] at hp
          have hol2 : out2.length ≤ 100 := by rw [← hp, List.length_append] at hFl; omega
          (cbv; (try simp only [nc] at *); (try refine Chk.mk (okc) ?_))
          refine cutD false false [] 50 [2, 3, 5, 6, 9, 10] (fun _ : Unit => [(5, .isl 3 (fun _ => (out2.length : Int)) (fun e => encRide (nt Sp.Ride default out2 (e ()))) (.own 2))]) (fun _ => [(2, .tok 3 fun _ => (out2.length : Int))]) (fun _ => True) (fun _ _ h => h) (by decide) ?_ ?_
          · (cbv; (try simp only [nc] at *); (try refine Chk.mk (okc) ?_))
            refine ⟨fun h5 => ?_, fun h5 => ?_⟩
            · have h5 : g.to_ < 0 := by simpa using h5
              rw [if_pos h5] at ho2
              (cbv; (try simp only [nc] at *); (try refine Chk.mk (okc) ?_))
              refine ⟨(), trivial, ?_⟩
              rw [ho2]
              (refine To.of [] ?_; cbv; (try simp only [nc]); (repeat' (first | exact trivial | exact WkN.refl _ | exact WkB.refl _ | refine ⟨?_, ?_⟩ | refine WkB.cells ?_ | refine WkN.agg ?_ | refine WkN.tup ?_)); (all_goals (first | exact okt | skip)))
            · have h5 : ¬ g.to_ < 0 := by simpa using h5
              rw [if_neg h5, List.append_nil] at ho2
              (cbv; (try simp only [nc] at *); (try refine Chk.mk (okc) ?_))
              refine ⟨(), trivial, ?_⟩
              rw [ho2]
              (refine To.of [] ?_; cbv; (try simp only [nc]); (repeat' (first | exact trivial | exact WkN.refl _ | exact WkB.refl _ | refine ⟨?_, ?_⟩ | refine WkB.cells ?_ | refine WkN.agg ?_ | refine WkN.tup ?_)); (all_goals (first | exact okt | skip)))
          intro _ _
          clear ho2 hol
          (cbv; (try simp only [nc] at *); (try refine Chk.mk (okc) ?_))
          refine loopQ fun Q2 hQ2 => ?_
          refine loopS false false [] [2, 3, 5, 6, 9, 10, 11] [] (fun (⟨m, o⟩ : Nat × List Sp.Ride) => [(5, .isl 3 (fun _ => (o.length : Int)) (fun e => encRide (nt Sp.Ride default o (e ()))) (.own 2)), (11, .int .i64 fun _ => (m : Int))])
            (fun ⟨m, o⟩ => [(2, .tok 3 fun _ => (o.length : Int))]) (fun ⟨m, o⟩ => m ≤ Cs.length ∧ o ++ (goM g d (nt Sp.Call default Cs (j : Int)).depart (Cs.drop m) ++ goK Cs g d n (j + 1)) = F) (fun i => Cs.length - i.1 + 0) (j + 1, out2) ⟨by show j + 1 ≤ Cs.length; omega, hp⟩ ?_ ?_
          · (refine To.of [] ?_; cbv; (try simp only [nc]); (repeat' (first | exact trivial | exact WkN.refl _ | exact WkB.refl _ | refine ⟨?_, ?_⟩ | refine WkB.cells ?_ | refine WkN.agg ?_ | refine WkN.tup ?_)); (all_goals (first | exact okt | skip)))
          rintro ⟨m, o⟩ hinv
          have hm : m ≤ Cs.length := hinv.1
          have hp2 : o ++ (goM g d (nt Sp.Call default Cs (j : Int)).depart (Cs.drop m) ++ goK Cs g d n (j + 1)) = F := hinv.2
          clear hinv hp
          have hol3 : o.length ≤ 100 := by rw [← hp2, List.length_append] at hFl; omega
          (cbv; (try simp only [nc] at *); (try refine Chk.mk (okc) ?_))
          refine ⟨fun h6 => ?_, fun h6 => ?_⟩
          · simp only [decide_eq_true_eq] at h6
            rw [nt_drop (d := default) hnt (l := Cs) (i := m) (by omega), goM] at hp2
            (cbv; (try simp only [nc] at *); (try refine Chk.mk (okc) ?_))
            refine ⟨fun h7 => ?_, fun h7 => ?_⟩
            · have h7 : (nt Sp.Call default Cs (m : Int)).station = g.to_ := by simpa using h7
              rw [if_pos h7] at hp2
              (cbv; (try simp only [nc] at *); (try refine Chk.mk (okc) ?_))
              refine ⟨(m + 1, o ++ [⟨d, (nt Sp.Call default Cs (j : Int)).depart, (nt Sp.Call default Cs (m : Int)).arrive⟩]), ⟨by show m + 1 ≤ Cs.length; omega, by rw [← hp2]; simp only [List.append_assoc]⟩, by show Cs.length - (m + 1) + 0 < Cs.length - m + 0; omega, ?_⟩
              (refine To.of [] ?_; cbv; (try simp only [nc]); (repeat' (first | exact trivial | exact WkN.refl _ | exact WkB.refl _ | refine ⟨?_, ?_⟩ | refine WkB.cells ?_ | refine WkN.agg ?_ | refine WkN.tup ?_)); (all_goals (first | exact okt | skip)))
            · have h7 : ¬ (nt Sp.Call default Cs (m : Int)).station = g.to_ := by simpa using h7
              rw [if_neg h7, List.nil_append] at hp2
              (cbv; (try simp only [nc] at *); (try refine Chk.mk (okc) ?_))
              refine ⟨(m + 1, o), ⟨by show m + 1 ≤ Cs.length; omega, hp2⟩, by show Cs.length - (m + 1) + 0 < Cs.length - m + 0; omega, ?_⟩
              (refine To.of [] ?_; cbv; (try simp only [nc]); (repeat' (first | exact trivial | exact WkN.refl _ | exact WkB.refl _ | refine ⟨?_, ?_⟩ | refine WkB.cells ?_ | refine WkN.agg ?_ | refine WkN.tup ?_)); (all_goals (first | exact okt | skip)))
          · have hme : m = Cs.length := by simp only [decide_eq_false_iff_not] at h6; omega
            rw [List.drop_eq_nil_of_le (by omega), goM, List.nil_append] at hp2
            (cbv; (try simp only [nc] at *); (try refine Chk.mk (okc) ?_))
            refine hQ2 _ _ _ ?_
            clear hQ2
            (cbv; (try simp only [nc] at *); (try refine Chk.mk (okc) ?_))
            refine ⟨(j + 1, o), ⟨by show j + 1 ≤ Cs.length - 1; omega, by show o ++ goK Cs g d (Cs.length - 1 - (j + 1)) (j + 1) = F; rw [← hp2]; congr 2; omega⟩, by show Cs.length - 1 - (j + 1) + 0 < Cs.length - 1 - j + 0; omega, ?_⟩
            (refine To.of [] ?_; cbv; (try simp only [nc]); (repeat' (first | exact trivial | exact WkN.refl _ | exact WkB.refl _ | refine ⟨?_, ?_⟩ | refine WkB.cells ?_ | refine WkN.agg ?_ | refine WkN.tup ?_)); (all_goals (first | exact okt | skip)))
        · have hje : Cs.length - 1 - j = 0 := by simp only [decide_eq_false_iff_not] at h3; omega
          rw [hje, goK, List.append_nil] at hp
          (cbv; (try simp only [nc] at *); (try refine Chk.mk (okc) ?_))
          refine hQ _ _ _ ?_
          clear hQ
          (cbv; (try simp only [nc] at *); (try refine Chk.mk (okc) ?_))
          refine ⟨d + 1, by omega, by omega, ?_⟩
          rw [hF, ← hp]
          (refine To.of [] ?_; cbv; (try simp only [nc]); (repeat' (first | exact trivial | exact WkN.refl _ | exact WkB.refl _ | refine ⟨?_, ?_⟩ | refine WkB.cells ?_ | refine WkN.agg ?_ | refine WkN.tup ?_)); (all_goals (first | exact okt | skip)))
    · have h1 : p < 0 := by omega
      rw [if_pos h1, List.append_nil] at hgn
      refine Chk.mk (by (try simp only [nc, allc0, allc1, allcE, allcI, Cn.p, and_true, true_and, decide_eq_true_eq, imp_self, List.length_cons, List.length_nil]); simp [h1]) ?_
      refine Br.isF (by simp [h1]) ?_
      (cbv; (try simp only [nc] at *); (try refine Chk.mk (okc) ?_))
      refine Br.isT (by simp [h1]) ?_
      (cbv; (try simp only [nc] at *); (try refine Chk.mk (okc) ?_))
      refine ⟨d + 1, by omega, by omega, ?_⟩
      rw [hF, hgn]
      (refine To.of [] ?_; cbv; (try simp only [nc]); (repeat' (first | exact trivial | exact WkN.refl _ | exact WkB.refl _ | refine ⟨?_, ?_⟩ | refine WkB.cells ?_ | refine WkN.agg ?_ | refine WkN.tup ?_)); (all_goals (first | exact okt | skip)))
  · have hde : d = (b.last + 1).toNat := by simp only [decide_eq_false_iff_not] at hb; omega
    subst hde
    (cbv; (try simp only [nc] at *); (try refine Chk.mk (okc) ?_))
    refine ⟨_, [], ?_, rfl, rfl⟩
    simp only [lst_nt hnt]
    (refine To.of [] ?_; cbv; (try simp only [nc]); (repeat' (first | exact trivial | exact WkN.refl _ | exact WkB.refl _ | refine ⟨?_, ?_⟩ | refine WkB.cells ?_ | refine WkN.agg ?_ | refine WkN.tup ?_)); (all_goals (first | exact okt | skip)))
end Go.Proofs.YtlcgliadpalgfaaGreat.Vm
