/- Contracts: the reference's checks of books. -/
import Derived.Calls
import Derived.Laws.Entries
import Derived.Laws.Cells
import Derived.Laws.BitsLemmas
import Derived.Laws.Slices
import Derived.Laws.StructEq
import Derived.ChangeKeysEq
import Derived.Laws.CopyRow
import Derived.Laws.AppendOwn
import Derived.Orders
import Derived.Test.YtlcgliadpalgfaaRows
import Derived.RangeFuncIn
import Derived.RangeFuncRecord
import Derived.WalkKit
import Derived.ProofKit
import Derived.OpenShut
import Derived.ShutString
import Derived.ChangeOld
import Derived.Below
import Derived.KernelRfl
import Derived.Test.YtlcgliadpalgfaaB0
import Derived.Test.YtlcgliadpalgfaaB1
import Derived.Test.YtlcgliadpalgfaaB2
import Derived.Test.YtlcgliadpalgfaaB3
import Derived.Test.YtlcgliadpalgfaaB4
import Derived.Test.YtlcgliadpalgfaaB5
import Derived.Test.YtlcgliadpalgfaaB6
import Derived.Test.YtlcgliadpalgfaaB7
import Derived.Test.YtlcgliadpalgfaaB8
import Derived.Test.YtlcgliadpalgfaaB9
import Derived.Test.YtlcgliadpalgfaaB10
set_option linter.unusedSimpArgs false
set_option linter.unusedVariables false
namespace Go.Proofs.Ytlcgliadpalgfaa.Vm
open Go Go.Proofs Sp
set_option maxRecDepth 100000
set_option maxHeartbeats 1600000

theorem any_take {α : Type} [Inhabited α] {nt : (α : Type) → α → List α → Int → α} (hnt : ∀ (α : Type) (d : α) (l : List α) (i : Int), nt α d l i = l.getD i.toNat d) {q : α → Bool} {l : List α} {k : Nat} (hk : k < l.length) : (l.take (k + 1)).any q = ((l.take k).any q || q (nt α default l (k : Int))) := by
  rw [nt_take (d := default) hnt hk, List.any_append]
  simp

theorem bookA_nt {nt : (α : Type) → α → List α → Int → α} (hnt : ∀ (α : Type) (d : α) (l : List α) (i : Int), nt α d l i = l.getD i.toNat d) (b : Book) : bookA b = .agg [.isl 2 (fun _ => (b.zones.length : Int)) (fun e => encZone (nt Zone default b.zones (e ()))) .none, .isl 3 (fun _ => (b.old.length : Int)) (fun e => encTrain (nt Train default b.old (e ()))) .none, .isl 3 (fun _ => (b.new.length : Int)) (fun e => encTrain (nt Train default b.new (e ()))) .none, .int .i64 fun _ => b.night, .int .i64 fun _ => b.last] := by
  unfold bookA; simp only [lst_nt hnt]

theorem c110 (b : Book) (l : List Stop) (hz : b.zones.length ≤ 1000000) (hl : l.length ≤ 1000000) : SC (fun _ => Try.prog) 110 [bookA b, lst 4 encStop default l] [] fun v h => v = .int .i64 (fun _ => if counted l.length 2 4 ≠ 0 then counted l.length 2 4 else chkStops b.zones.length l) ∧ h = [] := by
  obtain ⟨nt, hnt⟩ := nth_ex
  generalize hE : (if counted l.length 2 4 ≠ 0 then counted l.length 2 4 else chkStops b.zones.length l) = E
  unfold bookA
  simp only [lst_nt hnt]
  refine con Try.func110 (body := bodyOf Try.f110) rfl (by decide +kernel) ?_
  (cbv; (try simp only [nc] at *); (try refine Chk.mk (okc) ?_))
  refine ⟨fun h1 => ?_, fun h1 => ?_⟩
  · simp only [decide_eq_true_eq] at h1
    rw [show counted l.length 2 4 = 7 by unfold counted; rw [if_pos (by omega)], if_pos (by decide)] at hE
    subst hE
    (cbv; (try simp only [nc] at *); (try refine Chk.mk (okc) ?_))
    (try first | exact ⟨rfl, trivial⟩ | exact ⟨trivial, trivial⟩)
  simp only [decide_eq_false_iff_not] at h1
  (cbv; (try simp only [nc] at *); (try refine Chk.mk (okc) ?_))
  refine ⟨fun h2 => ?_, fun h2 => ?_⟩
  · simp only [decide_eq_true_eq] at h2
    rw [show counted l.length 2 4 = 6 by unfold counted; rw [if_neg (by omega), if_pos (by omega)], if_pos (by decide)] at hE
    subst hE
    (cbv; (try simp only [nc] at *); (try refine Chk.mk (okc) ?_))
    (try first | exact ⟨rfl, trivial⟩ | exact ⟨trivial, trivial⟩)
  simp only [decide_eq_false_iff_not] at h2
  rw [show counted l.length 2 4 = 0 by unfold counted; rw [if_neg (by omega), if_neg (by omega)], if_neg (by decide)] at hE
  (cbv; (try simp only [nc] at *); (try refine Chk.mk (okc) ?_))
  refine loopS false false [] [1, 2, 5] [] (fun (i : Nat) => [(5, .int .i64 fun _ => (i : Int))]) (fun _ => []) (fun i => i ≤ l.length ∧ firstErr (chkStopAt b.zones.length l) i (l.length - i) = E) (fun i => l.length - i + 0) 0 ⟨Nat.zero_le _, by simpa [chkStops] using hE⟩ ?_ ?_
  · (refine To.of [] ?_; cbv; (try simp only [nc]); (repeat' (first | exact trivial | exact WkN.refl _ | exact WkB.refl _ | refine ⟨?_, ?_⟩ | refine WkB.cells ?_ | refine WkN.agg ?_ | refine WkN.tup ?_)); (all_goals (first | exact okt | skip)))
  rintro i ⟨hi, hp⟩
  (cbv; (try simp only [nc] at *); (try refine Chk.mk (okc) ?_))
  refine ⟨fun hb => ?_, fun hb => ?_⟩
  · simp only [decide_eq_true_eq] at hb
    obtain ⟨q, hq⟩ : ∃ q, l.length - i = q + 1 := ⟨l.length - i - 1, by omega⟩
    rw [hq, firstErr] at hp
    have hsp : chkStopAt b.zones.length l i = checkStop (l.take i) (nt Stop default l i) (decide (0 < i) && decide ((i : Int) < l.length - 1)) b.zones.length := by unfold chkStopAt; rw [hnt]; rfl
    rw [hsp] at hp
    unfold checkStop at hp
    (cbv; (try simp only [nc] at *); (try refine Chk.mk (okc) ?_))
    generalize nt Stop default l i = s at *
    refine call0 (c72 s.station 0 9) (by first | rfl | (simp only [zoneA, bookA, lst_nt hnt]; rfl)) fun r h₂ hp => ?_
    (try simp only [zoneA, bookA, lst_nt hnt] at hp)
    obtain ⟨rfl, rfl⟩ := hp
    (cbv; try simp only [nc] at *)
    refine ⟨fun h3 => ?_, fun h3 => ?_⟩
    · simp only [if_pos h3] at hp
      rw [if_pos (by decide)] at hp
      subst hp
      (cbv; (try simp only [nc] at *); (try refine Chk.mk (okc) ?_))
      (try first | exact ⟨rfl, trivial⟩ | exact ⟨trivial, trivial⟩)
    simp only [if_neg (show ¬ (!inB s.station 0 9) = true by rw [h3]; exact Bool.false_ne_true)] at hp
    (cbv; (try simp only [nc] at *); (try refine Chk.mk (okc) ?_))
    refine loopQ fun Q hQ => ?_
    refine loopS false false [] [1, 2, 5, 6, 7] [] (fun (k : Nat) => [(7, .int .i64 fun _ => (k : Int))]) (fun _ => []) (fun k => k ≤ i ∧ (l.take k).any (fun x => decide (x.station = s.station)) = false) (fun k => i - k + 0) 0 ⟨Nat.zero_le _, by simp⟩ ?_ ?_
    · (refine To.of [] ?_; cbv; (try simp only [nc]); (repeat' (first | exact trivial | exact WkN.refl _ | exact WkB.refl _ | refine ⟨?_, ?_⟩ | refine WkB.cells ?_ | refine WkN.agg ?_ | refine WkN.tup ?_)); (all_goals (first | exact okt | skip)))
    rintro k ⟨hk, hp2⟩
    (cbv; (try simp only [nc] at *); (try refine Chk.mk (okc) ?_))
    refine ⟨fun hb => ?_, fun hb => ?_⟩
    · simp only [decide_eq_true_eq] at hb
      have hkl : k < l.length := by omega
      have hat := any_take hnt (q := fun x : Stop => decide (x.station = s.station)) hkl
      rw [hp2, Bool.false_or] at hat
      (cbv; (try simp only [nc] at *); (try refine Chk.mk (okc) ?_))
      simp only [beq_dec]
      refine ⟨fun h4 => ?_, fun h4 => ?_⟩
      · rw [h4] at hat
        have : (l.take i).any (fun x => decide (x.station = s.station)) = true := by
          rw [List.any_eq_true] at hat ⊢
          obtain ⟨x, hx, h⟩ := hat
          exact ⟨x, List.Sublist.subset (List.take_sublist_take_left (by omega)) hx, h⟩
        simp only [if_pos this] at hp
        rw [if_pos (by decide)] at hp
        subst hp
        (cbv; (try simp only [nc] at *); (try refine Chk.mk (okc) ?_))
        refine hQ _ _ _ ?_
        (cbv; (try simp only [nc] at *); (try refine Chk.mk (okc) ?_))
        (try first | exact ⟨rfl, trivial⟩ | exact ⟨trivial, trivial⟩)
      · rw [h4] at hat
        (cbv; (try simp only [nc] at *); (try refine Chk.mk (okc) ?_))
        refine ⟨k + 1, ⟨by omega, hat⟩, by show i - (k + 1) + 0 < i - k + 0; omega, ?_⟩
        (refine To.of [] ?_; cbv; (try simp only [nc]); (repeat' (first | exact trivial | exact WkN.refl _ | exact WkB.refl _ | refine ⟨?_, ?_⟩ | refine WkB.cells ?_ | refine WkN.agg ?_ | refine WkN.tup ?_)); (all_goals (first | exact okt | skip)))
    · simp only [decide_eq_false_iff_not] at hb
      obtain rfl : k = i := by omega
      simp only [hp2, Bool.false_eq_true, if_false] at hp
      (cbv; (try simp only [nc] at *); (try refine Chk.mk (okc) ?_))
      refine hQ _ _ _ ?_
      clear hQ
      (cbv; (try simp only [nc] at *); (try refine Chk.mk (okc) ?_))
      refine call0 (c72 s.zone 0 ((b.zones.length : Int) - 1)) (by first | rfl | (simp only [zoneA, bookA, lst_nt hnt]; rfl)) fun r h₂ hp => ?_
      (try simp only [zoneA, bookA, lst_nt hnt] at hp)
      obtain ⟨rfl, rfl⟩ := hp
      (cbv; try simp only [nc] at *)
      refine ⟨fun h5 => ?_, fun h5 => ?_⟩
      · simp only [if_pos h5] at hp
        rw [if_pos (by decide)] at hp
        subst hp
        (cbv; (try simp only [nc] at *); (try refine Chk.mk (okc) ?_))
        (try first | exact ⟨rfl, trivial⟩ | exact ⟨trivial, trivial⟩)
      simp only [if_neg (show ¬ (!inB s.zone 0 ((b.zones.length : Int) - 1)) = true by rw [h5]; exact Bool.false_ne_true)] at hp
      (cbv; (try simp only [nc] at *); (try refine Chk.mk (okc) ?_))
      refine call0 (c72 s.arrive 0 4319) (by first | rfl | (simp only [zoneA, bookA, lst_nt hnt]; rfl)) fun r h₂ hp => ?_
      (try simp only [zoneA, bookA, lst_nt hnt] at hp)
      obtain ⟨rfl, rfl⟩ := hp
      (cbv; (try simp only [nc] at *); (try refine Chk.mk (okc) ?_))
      refine ⟨fun h6 => ?_, fun h6 => ?_⟩
      · have h6 : inB s.arrive 0 4319 = true := by simpa using h6
        (cbv; (try simp only [nc] at *); (try refine Chk.mk (okc) ?_))
        refine call0 (c72 s.depart 0 4319) (by first | rfl | (simp only [zoneA, bookA, lst_nt hnt]; rfl)) fun r h₂ hp => ?_
        (try simp only [zoneA, bookA, lst_nt hnt] at hp)
        obtain ⟨rfl, rfl⟩ := hp
        (cbv; (try simp only [nc] at *); (try refine Chk.mk (okc) ?_))
        refine ⟨fun h7 => ?_, fun h7 => ?_⟩
        · have h7 : inB s.depart 0 4319 = false := by simpa [h6] using h7
          simp only [h6, h7, Bool.not_false, Bool.not_true, Bool.false_or, if_true] at hp
          rw [if_pos (by decide)] at hp
          subst hp
          (cbv; (try simp only [nc] at *); (try refine Chk.mk (okc) ?_))
          (try first | exact ⟨rfl, trivial⟩ | exact ⟨trivial, trivial⟩)
        · have h7 : inB s.depart 0 4319 = true := by simpa [h6] using h7
          simp only [h6, h7, Bool.not_true, Bool.false_or, Bool.false_eq_true, if_false] at hp
          have he : (decide (0 < k) && decide ((k : Int) < l.length - 1) && decide (s.depart < s.arrive)) = (bif bif decide (0 < (k : Int)) then decide ((k : Int) < (l.length : Int) - 1) else false then decide (s.depart < s.arrive) else false) := by
            rw [show decide (0 < k) = decide (0 < (k : Int)) from by rw [Bool.eq_iff_iff]; simp]
            cases decide (0 < (k : Int)) <;> cases decide ((k : Int) < (l.length : Int) - 1) <;> rfl
          rw [he] at hp
          (cbv; (try simp only [nc] at *); (try refine Chk.mk (okc) ?_))
          refine ⟨fun h8 => ?_, fun h8 => ?_⟩
          · rw [if_pos h8, if_pos (by decide)] at hp
            subst hp
            (cbv; (try simp only [nc] at *); (try refine Chk.mk (okc) ?_))
            (try first | exact ⟨rfl, trivial⟩ | exact ⟨trivial, trivial⟩)
          · simp only [h8, Bool.false_eq_true, if_false, ne_eq, not_true_eq_false] at hp
            (cbv; (try simp only [nc] at *); (try refine Chk.mk (okc) ?_))
            refine ⟨k + 1, ⟨by omega, by rw [← hp]; congr 1; omega⟩, by show l.length - (k + 1) + 0 < l.length - k + 0; omega, ?_⟩
            (refine To.of [] ?_; cbv; (try simp only [nc]); (repeat' (first | exact trivial | exact WkN.refl _ | exact WkB.refl _ | refine ⟨?_, ?_⟩ | refine WkB.cells ?_ | refine WkN.agg ?_ | refine WkN.tup ?_)); (all_goals (first | exact okt | skip)))
      · have h6 : inB s.arrive 0 4319 = false := by simpa using h6
        simp only [h6, Bool.not_false, Bool.true_or, if_true] at hp
        rw [if_pos (by decide)] at hp
        subst hp
        (cbv; (try simp only [nc] at *); (try refine Chk.mk (okc) ?_))
        refine Br.isT (by rfl) ?_
        (cbv; (try simp only [nc] at *); (try refine Chk.mk (okc) ?_))
        (try first | exact ⟨rfl, trivial⟩ | exact ⟨trivial, trivial⟩)
  · simp only [decide_eq_false_iff_not] at hb
    rw [show l.length - i = 0 by omega, firstErr] at hp
    subst hp
    (cbv; (try simp only [nc] at *); (try refine Chk.mk (okc) ?_))
    (try first | exact ⟨rfl, trivial⟩ | exact ⟨trivial, trivial⟩)

theorem c71 (b : Book) (l : List Train) (hz : b.zones.length ≤ 1000000) (hl : l.length ≤ 1000000) (hs : ∀ t ∈ l, t.stops.length ≤ 1000000) : SC (fun _ => Try.prog) 71 [bookA b, lst 3 encTrain default l] [] fun v h => v = .int .i64 (fun _ => chkTrains b.zones.length l) ∧ h = [] := by
  obtain ⟨nt, hnt⟩ := nth_ex
  unfold chkTrains
  generalize hE : (if counted l.length 0 4 ≠ 0 then counted l.length 0 4 else firstErr (chkTrainAt b.zones.length l) 0 l.length) = E
  unfold bookA
  simp only [lst_nt hnt]
  refine con Try.func71 (body := bodyOf Try.f71) rfl (by decide +kernel) ?_
  (cbv; (try simp only [nc] at *); (try refine Chk.mk (okc) ?_))
  refine ⟨fun h2 => ?_, fun h2 => ?_⟩
  · simp only [decide_eq_true_eq] at h2
    rw [show counted l.length 0 4 = 6 by unfold counted; rw [if_neg (by omega), if_pos (by omega)], if_pos (by decide)] at hE
    subst hE
    (cbv; (try simp only [nc] at *); (try refine Chk.mk (okc) ?_))
    (try first | exact ⟨rfl, trivial⟩ | exact ⟨trivial, trivial⟩)
  simp only [decide_eq_false_iff_not] at h2
  rw [show counted l.length 0 4 = 0 by unfold counted; rw [if_neg (by omega), if_neg (by omega)], if_neg (by decide)] at hE
  (cbv; (try simp only [nc] at *); (try refine Chk.mk (okc) ?_))
  refine loopS false false [] [1, 2, 5] [] (fun (i : Nat) => [(5, .int .i64 fun _ => (i : Int))]) (fun _ => []) (fun i => i ≤ l.length ∧ firstErr (chkTrainAt b.zones.length l) i (l.length - i) = E) (fun i => l.length - i + 0) 0 ⟨Nat.zero_le _, by simpa using hE⟩ ?_ ?_
  · (refine To.of [] ?_; cbv; (try simp only [nc]); (repeat' (first | exact trivial | exact WkN.refl _ | exact WkB.refl _ | refine ⟨?_, ?_⟩ | refine WkB.cells ?_ | refine WkN.agg ?_ | refine WkN.tup ?_)); (all_goals (first | exact okt | skip)))
  rintro i ⟨hi, hp⟩
  (cbv; (try simp only [nc] at *); (try refine Chk.mk (okc) ?_))
  refine ⟨fun hb => ?_, fun hb => ?_⟩
  · simp only [decide_eq_true_eq] at hb
    have hil : i < l.length := by omega
    obtain ⟨q, hq⟩ : ∃ q, l.length - i = q + 1 := ⟨l.length - i - 1, by omega⟩
    rw [hq, firstErr] at hp
    have hst := hs _ (nt_mem (d := default) hnt (l := l) (i := i) hil)
    have hct : chkTrainAt b.zones.length l i = if !inB (nt Train default l i).number 1 999 then 1 else if (l.take i).any (fun x => decide (x.number = (nt Train default l i).number)) then 4 else if !inB (nt Train default l i).days 1 127 then 1
      else if counted (nt Train default l i).stops.length 2 4 ≠ 0 then counted (nt Train default l i).stops.length 2 4 else chkStops b.zones.length (nt Train default l i).stops := by unfold chkTrainAt; rw [hnt]; rfl
    (cbv; (try simp only [nc] at *); (try refine Chk.mk (okc) ?_))
    refine call0 (c72 (nt Train default l i).number 1 999) (by first | rfl | (simp only [zoneA, bookA, lst_nt hnt]; rfl)) fun r h₂ hp => ?_
    (try simp only [zoneA, bookA, lst_nt hnt] at hp)
    obtain ⟨rfl, rfl⟩ := hp
    (cbv; try simp only [nc] at *)
    refine ⟨fun h3 => ?_, fun h3 => ?_⟩
    · rw [if_pos h3] at hct
      rw [hct, if_pos (by decide)] at hp
      subst hp
      (cbv; (try simp only [nc] at *); (try refine Chk.mk (okc) ?_))
      (try first | exact ⟨rfl, trivial⟩ | exact ⟨trivial, trivial⟩)
    rw [if_neg (by rw [h3]; exact Bool.false_ne_true)] at hct
    (cbv; (try simp only [nc] at *); (try refine Chk.mk (okc) ?_))
    refine loopQ fun Q hQ => ?_
    refine loopS false false [] [1, 2, 5, 6] [] (fun (k : Nat) => [(6, .int .i64 fun _ => (k : Int))]) (fun _ => []) (fun k => k ≤ i ∧ (l.take k).any (fun x => decide (x.number = (nt Train default l i).number)) = false) (fun k => i - k + 0) 0 ⟨Nat.zero_le _, by simp⟩ ?_ ?_
    · (refine To.of [] ?_; cbv; (try simp only [nc]); (repeat' (first | exact trivial | exact WkN.refl _ | exact WkB.refl _ | refine ⟨?_, ?_⟩ | refine WkB.cells ?_ | refine WkN.agg ?_ | refine WkN.tup ?_)); (all_goals (first | exact okt | skip)))
    rintro k ⟨hk, hp2⟩
    (cbv; (try simp only [nc] at *); (try refine Chk.mk (okc) ?_))
    refine ⟨fun hb => ?_, fun hb => ?_⟩
    · simp only [decide_eq_true_eq] at hb
      have hkl : k < l.length := by omega
      have hat := any_take hnt (q := fun x : Train => decide (x.number = (nt Train default l i).number)) hkl
      rw [hp2, Bool.false_or] at hat
      (cbv; (try simp only [nc] at *); (try refine Chk.mk (okc) ?_))
      simp only [beq_dec]
      refine ⟨fun h4 => ?_, fun h4 => ?_⟩
      · rw [h4] at hat
        have : (l.take i).any (fun x => decide (x.number = (nt Train default l i).number)) = true := by
          rw [List.any_eq_true] at hat ⊢
          obtain ⟨x, hx, h⟩ := hat
          exact ⟨x, List.Sublist.subset (List.take_sublist_take_left (by omega)) hx, h⟩
        rw [if_pos this] at hct
        rw [hct, if_pos (by decide)] at hp
        subst hp
        (cbv; (try simp only [nc] at *); (try refine Chk.mk (okc) ?_))
        refine hQ _ _ _ ?_
        (cbv; (try simp only [nc] at *); (try refine Chk.mk (okc) ?_))
        (try first | exact ⟨rfl, trivial⟩ | exact ⟨trivial, trivial⟩)
      · rw [h4] at hat
        (cbv; (try simp only [nc] at *); (try refine Chk.mk (okc) ?_))
        refine ⟨k + 1, ⟨by omega, hat⟩, by show i - (k + 1) + 0 < i - k + 0; omega, ?_⟩
        (refine To.of [] ?_; cbv; (try simp only [nc]); (repeat' (first | exact trivial | exact WkN.refl _ | exact WkB.refl _ | refine ⟨?_, ?_⟩ | refine WkB.cells ?_ | refine WkN.agg ?_ | refine WkN.tup ?_)); (all_goals (first | exact okt | skip)))
    · simp only [decide_eq_false_iff_not] at hb
      obtain rfl : k = i := by omega
      rw [hp2, if_neg (by exact Bool.false_ne_true)] at hct
      (cbv; (try simp only [nc] at *); (try refine Chk.mk (okc) ?_))
      refine hQ _ _ _ ?_
      clear hQ
      (cbv; (try simp only [nc] at *); (try refine Chk.mk (okc) ?_))
      refine call0 (c72 (nt Train default l (k : Int)).days 1 127) (by first | rfl | (simp only [zoneA, bookA, lst_nt hnt]; rfl)) fun r h₂ hp => ?_
      (try simp only [zoneA, bookA, lst_nt hnt] at hp)
      obtain ⟨rfl, rfl⟩ := hp
      (cbv; try simp only [nc] at *)
      refine ⟨fun h3 => ?_, fun h3 => ?_⟩
      · rw [if_pos h3] at hct
        rw [hct, if_pos (by decide)] at hp
        subst hp
        (cbv; (try simp only [nc] at *); (try refine Chk.mk (okc) ?_))
        (try first | exact ⟨rfl, trivial⟩ | exact ⟨trivial, trivial⟩)
      rw [if_neg (by rw [h3]; exact Bool.false_ne_true)] at hct
      (cbv; (try simp only [nc] at *); (try refine Chk.mk (okc) ?_))
      have k110 := c110 b (nt Train default l (k : Int)).stops hz hst
      rw [bookA_nt hnt] at k110
      refine call0 k110 rfl fun r h₂ hp => ?_
      obtain ⟨rfl, rfl⟩ := hp
      rw [← hct]
      generalize chkTrainAt b.zones.length l k = e at *
      (cbv; try simp only [nc] at *)
      refine ⟨fun h5 => ?_, fun h5 => ?_⟩
      · simp only [bne_iff_ne, ne_eq] at h5
        rw [if_pos h5] at hp
        subst hp
        (cbv; (try simp only [nc] at *); (try refine Chk.mk (okc) ?_))
        (try first | exact ⟨rfl, trivial⟩ | exact ⟨trivial, trivial⟩)
      · simp only [bne_eq_false_iff_eq] at h5
        rw [if_neg (fun h => h h5)] at hp
        (cbv; (try simp only [nc] at *); (try refine Chk.mk (okc) ?_))
        refine ⟨k + 1, ⟨by omega, by rw [← hp]; congr 1; omega⟩, by show l.length - (k + 1) + 0 < l.length - k + 0; omega, ?_⟩
        (refine To.of [] ?_; cbv; (try simp only [nc]); (repeat' (first | exact trivial | exact WkN.refl _ | exact WkB.refl _ | refine ⟨?_, ?_⟩ | refine WkB.cells ?_ | refine WkN.agg ?_ | refine WkN.tup ?_)); (all_goals (first | exact okt | skip)))
  · simp only [decide_eq_false_iff_not] at hb
    rw [show l.length - i = 0 by omega, firstErr] at hp
    subst hp
    (cbv; (try simp only [nc] at *); (try refine Chk.mk (okc) ?_))
    (try first | exact ⟨rfl, trivial⟩ | exact ⟨trivial, trivial⟩)

theorem c25 (b : Book) (hb : BookFit b) : SC (fun _ => Try.prog) 25 [bookA b] [] fun v h => v = .int .i64 (fun _ => Check b) ∧ h = [] := by
  obtain ⟨nt, hnt⟩ := nth_ex
  have hz := hb.zones
  have hc := hb.chs
  unfold Check
  generalize hE : (if counted b.zones.length 1 3 ≠ 0 then _ else _ : Int) = E
  have k1 := c71 b b.old hz hb.old hb.stops.1
  have k2 := c71 b b.new hz hb.new hb.stops.2
  unfold bookA at k1 k2 ⊢
  simp only [lst_nt hnt] at k1 k2 ⊢
  refine con Try.func25 (body := bodyOf Try.f25) rfl (by decide +kernel) ?_
  (cbv; (try simp only [nc] at *); (try refine Chk.mk (okc) ?_))
  refine ⟨fun h1 => ?_, fun h1 => ?_⟩
  · have h1 : b.zones.length = 0 := by simpa using h1
    rw [show counted b.zones.length 1 3 = 7 by unfold counted; rw [if_pos (by omega)], if_pos (by decide)] at hE
    subst hE
    (cbv; (try simp only [nc] at *); (try refine Chk.mk (okc) ?_))
    (try first | exact ⟨rfl, trivial⟩ | exact ⟨trivial, trivial⟩)
  have h1 : ¬ b.zones.length = 0 := by simpa using h1
  (cbv; (try simp only [nc] at *); (try refine Chk.mk (okc) ?_))
  refine ⟨fun h2 => ?_, fun h2 => ?_⟩
  · simp only [decide_eq_true_eq] at h2
    rw [show counted b.zones.length 1 3 = 6 by unfold counted; rw [if_neg (by omega), if_pos (by omega)], if_pos (by decide)] at hE
    subst hE
    (cbv; (try simp only [nc] at *); (try refine Chk.mk (okc) ?_))
    (try first | exact ⟨rfl, trivial⟩ | exact ⟨trivial, trivial⟩)
  simp only [decide_eq_false_iff_not] at h2
  rw [show counted b.zones.length 1 3 = 0 by unfold counted; rw [if_neg (by omega), if_neg (by omega)], if_neg (by decide)] at hE
  generalize hF : firstErr (fun i => checkZone (b.zones.getD i default)) 0 b.zones.length = F at *
  (cbv; (try simp only [nc] at *); (try refine Chk.mk (okc) ?_))
  refine loopQ fun Q hQ => ?_
  refine loopS false false [] [1, 3] [] (fun (i : Nat) => [(3, .int .i64 fun _ => (i : Int))]) (fun _ => []) (fun i => i ≤ b.zones.length ∧ firstErr (fun i => checkZone (b.zones.getD i default)) i (b.zones.length - i) = F) (fun i => b.zones.length - i + 0) 0 ⟨Nat.zero_le _, by simpa using hF⟩ ?_ ?_
  · (refine To.of [] ?_; cbv; (try simp only [nc]); (repeat' (first | exact trivial | exact WkN.refl _ | exact WkB.refl _ | refine ⟨?_, ?_⟩ | refine WkB.cells ?_ | refine WkN.agg ?_ | refine WkN.tup ?_)); (all_goals (first | exact okt | skip)))
  rintro i ⟨hi, hp⟩
  (cbv; (try simp only [nc] at *); (try refine Chk.mk (okc) ?_))
  refine ⟨fun hb => ?_, fun hb => ?_⟩
  · simp only [decide_eq_true_eq] at hb
    obtain ⟨q, hq⟩ : ∃ q, b.zones.length - i = q + 1 := ⟨b.zones.length - i - 1, by omega⟩
    rw [hq, firstErr] at hp
    have hch := hc _ (nt_mem (d := default) hnt (l := b.zones) (i := i) (by omega))
    have hzn : b.zones.getD i default = nt Zone default b.zones i := by rw [hnt]; rfl
    rw [hzn] at hp
    (cbv; (try simp only [nc] at *); (try refine Chk.mk (okc) ?_))
    generalize nt Zone default b.zones i = z at *
    refine call0 (c70 z hch) (by first | rfl | (simp only [zoneA, bookA, lst_nt hnt]; rfl)) fun r h₂ hp => ?_
    (try simp only [zoneA, bookA, lst_nt hnt] at hp)
    obtain ⟨rfl, rfl⟩ := hp
    generalize checkZone z = e at *
    (cbv; try simp only [nc] at *)
    refine ⟨fun h3 => ?_, fun h3 => ?_⟩
    · simp only [bne_iff_ne, ne_eq] at h3
      rw [if_pos h3] at hp
      subst hp
      rw [if_pos h3] at hE
      subst hE
      (cbv; (try simp only [nc] at *); (try refine Chk.mk (okc) ?_))
      refine hQ _ _ _ ?_
      (cbv; (try simp only [nc] at *); (try refine Chk.mk (okc) ?_))
      (try first | exact ⟨rfl, trivial⟩ | exact ⟨trivial, trivial⟩)
    · simp only [bne_eq_false_iff_eq] at h3
      rw [if_neg (fun h => h h3)] at hp
      (cbv; (try simp only [nc] at *); (try refine Chk.mk (okc) ?_))
      refine ⟨i + 1, ⟨by omega, by rw [← hp]; congr 1; omega⟩, by show b.zones.length - (i + 1) + 0 < b.zones.length - i + 0; omega, ?_⟩
      (refine To.of [] ?_; cbv; (try simp only [nc]); (repeat' (first | exact trivial | exact WkN.refl _ | exact WkB.refl _ | refine ⟨?_, ?_⟩ | refine WkB.cells ?_ | refine WkN.agg ?_ | refine WkN.tup ?_)); (all_goals (first | exact okt | skip)))
  simp only [decide_eq_false_iff_not] at hb
  rw [show b.zones.length - i = 0 by omega, firstErr] at hp
  subst hp
  rw [if_neg (fun h => h rfl)] at hE
  (cbv; (try simp only [nc] at *); (try refine Chk.mk (okc) ?_))
  refine hQ _ _ _ ?_
  clear hQ
  generalize chkTrains b.zones.length b.old = e1 at *
  generalize chkTrains b.zones.length b.new = e2 at *
  (cbv; (try simp only [nc] at *); (try refine Chk.mk (okc) ?_))
  refine call0 (k1) (by first | rfl | (simp only [zoneA, bookA, lst_nt hnt]; rfl)) fun r h₂ hp => ?_
  (try simp only [zoneA, bookA, lst_nt hnt] at hp)
  obtain ⟨rfl, rfl⟩ := hp
  (cbv; (try simp only [nc] at *); (try refine Chk.mk (okc) ?_))
  refine ⟨fun h3 => ?_, fun h3 => ?_⟩
  · simp only [bne_iff_ne, ne_eq] at h3
    rw [if_pos h3] at hE
    subst hE
    (cbv; (try simp only [nc] at *); (try refine Chk.mk (okc) ?_))
    (try first | exact ⟨rfl, trivial⟩ | exact ⟨trivial, trivial⟩)
  simp only [bne_eq_false_iff_eq] at h3
  rw [if_neg (fun h => h h3)] at hE
  (cbv; (try simp only [nc] at *); (try refine Chk.mk (okc) ?_))
  refine call0 (k2) (by first | rfl | (simp only [zoneA, bookA, lst_nt hnt]; rfl)) fun r h₂ hp => ?_
  (try simp only [zoneA, bookA, lst_nt hnt] at hp)
  obtain ⟨rfl, rfl⟩ := hp
  (cbv; (try simp only [nc] at *); (try refine Chk.mk (okc) ?_))
  refine ⟨fun h4 => ?_, fun h4 => ?_⟩
  · simp only [bne_iff_ne, ne_eq] at h4
    rw [if_pos h4] at hE
    subst hE
    (cbv; (try simp only [nc] at *); (try refine Chk.mk (okc) ?_))
    (try first | exact ⟨rfl, trivial⟩ | exact ⟨trivial, trivial⟩)
  simp only [bne_eq_false_iff_eq] at h4
  rw [if_neg (fun h => h h4)] at hE
  (cbv; (try simp only [nc] at *); (try refine Chk.mk (okc) ?_))
  have k67 := c72 b.last 0 13
  rcases hI : inB b.last 0 13 with _ | _
  · rw [hI] at k67 hE
    simp only [Bool.not_false, Bool.true_or, if_true] at hE
    subst hE
    refine call0 (k67) (by first | rfl | (simp only [zoneA, bookA, lst_nt hnt]; rfl)) fun r h₂ hp => ?_
    (try simp only [zoneA, bookA, lst_nt hnt] at hp)
    obtain ⟨rfl, rfl⟩ := hp
    (cbv; try simp only [nc] at *)
    refine Chk.mk (by simp [allc0, allcI, allc1, Cn.p]) ?_
    refine Br.isF (by rfl) ?_
    (cbv; (try simp only [nc] at *); (try refine Chk.mk (okc) ?_))
    refine Br.isT (by rfl) ?_
    (cbv; (try simp only [nc] at *); (try refine Chk.mk (okc) ?_))
    (try first | exact ⟨rfl, trivial⟩ | exact ⟨trivial, trivial⟩)
  · have hlast : 0 ≤ b.last ∧ b.last ≤ 13 := by simpa [inB] using hI
    rw [hI] at k67 hE
    simp only [Bool.not_true, Bool.false_or] at hE
    refine call0 (k67) (by first | rfl | (simp only [zoneA, bookA, lst_nt hnt]; rfl)) fun r h₂ hp => ?_
    (try simp only [zoneA, bookA, lst_nt hnt] at hp)
    obtain ⟨rfl, rfl⟩ := hp
    (cbv; (try simp only [nc] at *); (try refine Chk.mk (okc) ?_))
    refine Br.isT (by rfl) ?_
    (cbv; (try simp only [nc] at *); (try refine Chk.mk (okc) ?_))
    refine call0 (c72 b.night 0 (b.last + 1)) (by first | rfl | (simp only [zoneA, bookA, lst_nt hnt]; rfl)) fun r h₂ hp => ?_
    (try simp only [zoneA, bookA, lst_nt hnt] at hp)
    obtain ⟨rfl, rfl⟩ := hp
    (cbv; (try simp only [nc] at *); (try refine Chk.mk (okc) ?_))
    refine ⟨fun hb' => ?_, fun hb' => ?_⟩
    · have hb' : inB b.night 0 (b.last + 1) = false := by simpa using hb'
      rw [if_pos (by simp [hb'])] at hE
      subst hE
      (cbv; (try simp only [nc] at *); (try refine Chk.mk (okc) ?_))
      (try first | exact ⟨rfl, trivial⟩ | exact ⟨trivial, trivial⟩)
    · have hb' : inB b.night 0 (b.last + 1) = true := by simpa using hb'
      rw [if_neg (by simp [hb'])] at hE
      subst hE
      (cbv; (try simp only [nc] at *); (try refine Chk.mk (okc) ?_))
      (try first | exact ⟨rfl, trivial⟩ | exact ⟨trivial, trivial⟩)
end Go.Proofs.Ytlcgliadpalgfaa.Vm

/- Contracts: the reference's timetables and runs. -/
namespace Go.Proofs.Ytlcgliadpalgfaa.Vm
open Go Go.Proofs Sp
set_option maxRecDepth 100000
set_option maxHeartbeats 1600000

theorem hour_lt : ∀ (l : List Chg) (fr a r t : Int), (∀ p ∈ pcsGo fr a l, p.fr < openT ∧ r - p.ahd < openT) → t < openT → hour (pcsGo fr a l) r t < openT
  | [], fr, a, r, t, h, ht => by
    have := h ⟨fr, openT, a⟩ (by simp [pcsGo])
    simp only [pcsGo, hour] at *
    rw [if_pos (by omega)]
    omega
  | c :: l, fr, a, r, t, h, ht => by
    unfold pcsGo at h ⊢
    split
    · rename_i hc
      rw [if_pos hc] at h
      unfold hour
      split
      · have := h ⟨fr, c.at_, a⟩ (List.mem_cons_self ..)
        simp only at this ⊢
        omega
      · exact hour_lt l _ _ _ _ (fun p hp => h p (List.mem_cons_of_mem _ hp)) ht
    · rename_i hc
      rw [if_neg hc] at h
      exact hour_lt l _ _ _ _ h ht
theorem hour_nn : ∀ (l : List Pc) (r t : Int), 0 ≤ t → 0 ≤ hour l r t
  | [], _, _, _ => by unfold hour openT; omega
  | p :: l, r, t, h => by
    unfold hour
    split
    · omega
    · exact hour_nn l r t h
theorem hour_fit {z : Zone} (hz : checkZone z = 0) {r t : Int} (hr : r ≤ 1000000) (ht : 0 ≤ t ∧ t < openT) : 0 ≤ hour (pieces z) r t ∧ hour (pieces z) r t < openT := by
  refine ⟨hour_nn _ _ _ ht.1, hour_lt _ _ _ _ _ (fun p hp => ?_) ht.2⟩
  have := (pieces_bd hz).2 p hp
  unfold openT
  omega

end Go.Proofs.Ytlcgliadpalgfaa.Vm

/- Contracts: the reference's days and runs; whether books are equal. -/
namespace Go.Proofs.Ytlcgliadpalgfaa.Vm
open Go Go.Proofs Sp
set_option maxRecDepth 100000
set_option maxHeartbeats 1600000

theorem place_rng (l : List Train) (n : Int) : place l n = -1 ∨ 0 ≤ place l n ∧ place l n < l.length := by
  have := indexFrom_lt (q := fun t : Train => decide (t.number = n)) (l := l) (i := 0) (by omega)
  rcases Nat.eq_zero_or_pos l.length with h | h
  · rw [List.eq_nil_of_length_eq_zero h]; exact .inl rfl
  · unfold place; omega

end Go.Proofs.Ytlcgliadpalgfaa.Vm

/- All clocks ahead by as much more, and all printed hours later by as much: all runs are the same. -/
namespace Go.Proofs.Ytlcgliadpalgfaa.Vm
open Go Go.Proofs Sp

def shZ (d : Int) (z : Zone) : Zone := ⟨z.base + d, z.chs⟩
def shB (d : Int) (b : Book) : Book := ⟨b.zones.map (shZ d), b.old.map (laterT d), b.new.map (laterT d), b.night, b.last⟩

theorem pcs_sh (d : Int) : ∀ (l : List Chg) (fr a : Int), pcsGo fr (a + d) l = (pcsGo fr a l).map fun p => ⟨p.fr, p.bef, p.ahd + d⟩
  | [], fr, a => rfl
  | c :: r, fr, a => by
    simp only [pcsGo]
    rw [show a + d + c.by_ = a + c.by_ + d from by omega]
    split
    · rw [pcs_sh d r]; rfl
    · rw [pcs_sh d r]
theorem pieces_sh (d : Int) (z : Zone) : pieces (shZ d z) = (pieces z).map fun p => ⟨p.fr, p.bef, p.ahd + d⟩ := pcs_sh d z.chs 0 z.base
theorem hour_sh (d : Int) : ∀ (l : List Pc) (r a : Int), hour (l.map fun p => ⟨p.fr, p.bef, p.ahd + d⟩) (r + d) a = hour l r a
  | [], r, a => rfl
  | p :: l, r, a => by
    simp only [List.map_cons, hour]
    rw [show r + d - (p.ahd + d) = r - p.ahd from by omega, hour_sh d l]

theorem getD_sh {zs : List Zone} {k : Nat} (d : Int) (hk : k < zs.length) : (zs.map (shZ d)).getD k default = shZ d (zs.getD k default) := by
  simp [List.getD_eq_getElem?_getD, List.getElem?_map, List.getElem?_eq_getElem hk]

theorem callsGo_sh (d : Int) (zs : List Zone) (day : Int) (many : Nat) : ∀ (l : List Stop) (i : Nat) (now : Int), (∀ s ∈ l, s.zone.toNat < zs.length) → callsGo (zs.map (shZ d)) day many i now (l.map (laterS d)) = callsGo zs day many i now l
  | [], i, now, _ => rfl
  | s :: r, i, now, h => by
    have hs := h s (List.mem_cons_self ..)
    have ih := fun i now => callsGo_sh d zs day many r i now fun x hx => h x (List.mem_cons_of_mem _ hx)
    have e : ∀ m t, hour (pieces ((zs.map (shZ d)).getD s.zone.toNat default)) (1440 * day + (m + d)) t = hour (pieces (zs.getD s.zone.toNat default)) (1440 * day + m) t := fun m t => by
      rw [getD_sh d hs, pieces_sh, ← Int.add_assoc, hour_sh]
    simp only [List.map_cons, callsGo, laterS, e, ih]

theorem calls_sh (d : Int) (zs : List Zone) (t : Train) (day : Int) (h : ∀ s ∈ t.stops, s.zone.toNat < zs.length) : calls (zs.map (shZ d)) (laterT d t) day = calls zs t day := by
  unfold calls laterT
  simp only [List.length_map]
  exact callsGo_sh d zs day _ _ _ _ h

theorem indexFrom_map {α : Type} (f : α → α) (q : α → Bool) (hq : ∀ a, q (f a) = q a) : ∀ (l : List α) (i : Int), indexFrom q i (l.map f) = indexFrom q i l
  | [], i => rfl
  | a :: l, i => by simp only [List.map_cons, indexFrom, hq, indexFrom_map f q hq l]

theorem run_sh (d : Int) {b : Book} (hb : Check b = 0) (hx : Check (shB d b) = 0) (n day : Int) : Run (shB d b) n day = Run b n day := by
  have hok := book_ok hb
  have htab := (table_ok hok day).2
  have ht : table (shB d b) day = (table b day).map (laterT d) := by unfold table shB; simp only; split <;> rfl
  have hp : place ((table b day).map (laterT d)) n = place (table b day) n := indexFrom_map (laterT d) (fun t => decide (t.number = n)) (fun _ => rfl) _ _
  unfold Run
  rw [hb, hx, ht, hp]
  show (if _ then _ else if !inB day 0 b.last then _ else _) = _
  split
  · rfl
  split
  · rfl
  split
  · rfl
  · rename_i hpl
    have hlt : (place (table b day) n).toNat < (table b day).length := by
      rcases place_rng (table b day) n with h | h
      · rw [h] at hpl; omega
      · omega
    have e : ((table b day).map (laterT d)).getD (place (table b day) n).toNat default = laterT d ((table b day).getD (place (table b day) n).toNat default) := by
      simp [List.getD_eq_getElem?_getD, List.getElem?_map, List.getElem?_eq_getElem hlt]
    rw [e]
    have hmem : (table b day).getD (place (table b day) n).toNat default ∈ table b day := by
      rw [List.getD_eq_getElem?_getD, List.getElem?_eq_getElem hlt]
      exact List.getElem_mem _
    have e2 : starts (laterT d ((table b day).getD (place (table b day) n).toNat default)) day = starts ((table b day).getD (place (table b day) n).toNat default) day := rfl
    rw [e2]
    split
    · rfl
    · rw [show (shB d b).zones = b.zones.map (shZ d) from rfl, calls_sh d _ _ _ fun s hs => ?_]
      have := ((htab _ hmem).stops s hs).zone
      omega

theorem fit_sh {d : Int} {b : Book} (h : BookFit b) : BookFit (shB d b) := by
  refine ⟨by simpa [shB] using h.zones, by simpa [shB] using h.old, by simpa [shB] using h.new, fun z hz => ?_, fun t ht => ?_, fun t ht => ?_⟩
  · obtain ⟨y, hy, rfl⟩ := List.mem_map.1 hz
    exact h.chs y hy
  · obtain ⟨y, hy, rfl⟩ := List.mem_map.1 ht
    simpa [laterT] using h.stops.1 y hy
  · obtain ⟨y, hy, rfl⟩ := List.mem_map.1 ht
    simpa [laterT] using h.stops.2 y hy

/-- The first elements are other ones. -/
def mapK {α : Type} (f : α → α) (k : Nat) (l : List α) : List α := (l.take k).map f ++ l.drop k
section
variable {nt : (α : Type) → α → List α → Int → α} (hnt : ∀ (α : Type) (d : α) (l : List α) (i : Int), nt α d l i = l.getD i.toNat d) {α : Type} {d : α} {f : α → α} {l : List α}
theorem mapK_len (k : Nat) : (mapK f k l).length = l.length := by simp only [mapK, List.length_append, List.length_map, List.length_take, List.length_drop]; omega
theorem mapK_zero : mapK f 0 l = l := by simp [mapK]
theorem mapK_all : mapK f l.length l = l.map f := by simp [mapK]
include hnt
theorem mapK_get {k j : Nat} (hj : j < l.length) : nt α d (mapK f k l) (j : Int) = if j < k then f (nt α d l (j : Int)) else nt α d l (j : Int) := by
  rw [hnt, hnt]
  simp only [mapK, Int.toNat_natCast, List.getD_eq_getElem?_getD]
  by_cases h : j < k
  · rw [if_pos h, List.getElem?_append_left (by simp; omega), List.getElem?_map, List.getElem?_take, if_pos h, List.getElem?_eq_getElem hj]
    rfl
  · rw [if_neg h, List.getElem?_append_right (by simp; omega), List.getElem?_drop]
    simp only [List.length_map, List.length_take]
    rw [show k + (j - min k l.length) = j from by omega]
theorem map_get {j : Nat} (hj : j < l.length) : nt α d (l.map f) (j : Int) = f (nt α d l (j : Int)) := by
  rw [← mapK_all, mapK_get hnt hj, if_pos hj]
theorem mapK_set {k : Nat} (hk : k < l.length) : (mapK f k l).set k (f (nt α d (mapK f k l) (k : Int))) = mapK f (k + 1) l := by
  rw [mapK_get hnt hk, if_neg (by omega)]
  apply List.ext_getElem?
  intro j
  rw [hnt, Int.toNat_natCast, List.getD_eq_getElem?_getD, List.getElem?_eq_getElem hk, Option.getD_some, List.getElem?_set, mapK_len]
  simp only [mapK, List.getElem?_append, List.length_map, List.length_take, List.getElem?_map, List.getElem?_take, List.getElem?_drop]
  by_cases h1 : k = j
  · subst h1
    rw [if_pos rfl, if_pos hk, if_pos (by omega), if_pos (by omega), List.getElem?_eq_getElem hk]
    rfl
  · rw [if_neg h1]
    by_cases h2 : j < k
    · rw [if_pos (by omega), if_pos (by omega), if_pos (by omega), if_pos (by omega)]
    · rw [if_neg (by omega), if_neg (by omega), show k + (j - min k l.length) = j from by omega, show k + 1 + (j - min (k + 1) l.length) = j from by omega]
end
end Go.Proofs.Ytlcgliadpalgfaa.Vm

/- Contracts: equal calls; a copy of a book that keeps room behind its new trains. -/
namespace Go.Proofs.Ytlcgliadpalgfaa.Vm
open Go Go.Proofs Sp
set_option maxRecDepth 100000
set_option maxHeartbeats 1600000

theorem c27 (a b : List Sp.Call) (ha : a.length ≤ 1000000) : SC (fun _ => Try.prog) 27 [lst 3 encCall default a, lst 3 encCall default b] [] fun r h => r = .bool (fun _ => decide (a = b)) ∧ h = [] := by
  obtain ⟨nt, hnt⟩ := nth_ex
  rw [lst_nt hnt, lst_nt hnt]
  refine con Try.func27 (body := bodyOf Try.f27) rfl (by decide +kernel) ?_
  (cbv; (try simp only [nc] at *); (try refine Chk.mk (okc) ?_))
  refine ⟨fun hb => ?_, fun hb => ?_⟩
  · simp only [bne_iff_ne, ne_eq] at hb
    (cbv; (try simp only [nc] at *); (try refine Chk.mk (okc) ?_))
    refine ⟨?_, trivial⟩
    rw [decide_eq_false (fun h => hb (by rw [h]))]
  simp only [bne_eq_false_iff_eq] at hb
  (cbv; (try simp only [nc] at *); (try refine Chk.mk (okc) ?_))
  refine loopS false false [] [0, 1, 5] [] (fun (i : Nat) => [(5, .int .i64 fun _ => (i : Int))]) (fun _ => []) (fun i => i ≤ a.length ∧ (a = b ↔ a.drop i = b.drop i)) (fun i => a.length - i + 0) 0 ⟨Nat.zero_le _, by simp⟩ ?_ ?_
  · (refine To.of [] ?_; cbv; (try simp only [nc]); (repeat' (first | exact trivial | exact WkN.refl _ | exact WkB.refl _ | refine ⟨?_, ?_⟩ | refine WkB.cells ?_ | refine WkN.agg ?_ | refine WkN.tup ?_)); (all_goals (first | exact okt | skip)))
  rintro i ⟨hi, hp⟩
  (cbv; (try simp only [nc] at *); (try refine Chk.mk (okc) ?_))
  refine ⟨fun hb' => ?_, fun hb' => ?_⟩
  · simp only [decide_eq_true_eq] at hb'
    have hd := nt_drop (d := default) hnt (l := a) (i := i) (by omega)
    have hd' := nt_drop (d := default) hnt (l := b) (i := i) (by omega)
    rw [hd, hd'] at hp
    (cbv; try simp only [nc] at *)
    generalize nt Sp.Call default a (i : Int) = x at *
    generalize nt Sp.Call default b (i : Int) = y at *
    refine Chk.mk (okc) ?_
    refine ⟨fun hb'' => ?_, fun hb'' => ?_⟩
    · have hne : x ≠ y := fun e => by subst e; simp at hb''
      (cbv; (try simp only [nc] at *); (try refine Chk.mk (okc) ?_))
      exact ⟨by rw [decide_eq_false (fun h => hne (List.cons.inj (hp.1 h)).1)], trivial⟩
    · have he : x = y := by
        obtain ⟨x1, x2, x3⟩ := x
        obtain ⟨y1, y2, y3⟩ := y
        simp at hb''
        obtain ⟨e1, e2, e3⟩ := hb''
        rw [e1, e2, e3]
      (cbv; (try simp only [nc] at *); (try refine Chk.mk (okc) ?_))
      refine ⟨i + 1, ⟨by omega, by rw [hp, he]; simp⟩, by show a.length - (i + 1) + 0 < a.length - i + 0; omega, ?_⟩
      (refine To.of [] ?_; cbv; (try simp only [nc]); (repeat' (first | exact trivial | exact WkN.refl _ | exact WkB.refl _ | refine ⟨?_, ?_⟩ | refine WkB.cells ?_ | refine WkN.agg ?_ | refine WkN.tup ?_)); (all_goals (first | exact okt | skip)))
  · simp only [decide_eq_false_iff_not] at hb'
    have h1 : a.drop i = [] := List.drop_eq_nil_of_le (by omega)
    have h2 : b.drop i = [] := List.drop_eq_nil_of_le (by omega)
    rw [h1, h2] at hp
    have hp : a = b := hp.2 rfl
    subst hp
    (cbv; (try simp only [nc] at *); (try refine Chk.mk (okc) ?_))
    exact ⟨by simp, trivial⟩

theorem c69R (l : List Train) (hl : l.length ≤ 1000000) (hs : ∀ t ∈ l, t.stops.length ≤ 1000000) : SC (fun _ => Try.prog) 69 [lst 3 encTrain default l] [] fun v h => v = .isl 3 (fun _ => (l.length : Int)) (lstR encTrain default l) (.own 0) ∧ h = [.tok 3 fun _ => (l.length : Int)] := by
  obtain ⟨nt, hnt⟩ := nth_ex
  refine SC.less (conX true false [] Try.func69 (body := bodyOf Try.f69) rfl (by decide +kernel) ?_)
  simp only [lst_nt hnt, lstR_nt hnt]
  (cbv; (try simp only [nc] at *); (try refine Chk.mk (okc) ?_))
  refine loopS true false [] [0, 3, 4] [.tok 3 fun _ => 0] (fun (i : Nat) => [(3, .isl 3 (fun _ => ((l.take i).length : Int)) (fun e => encTrain (nt Train default (l.take i) (e ()))) (.own 0)), (4, .int .i64 fun _ => (i : Int))])
    (fun i => [(0, .tok 3 fun _ => ((l.take i).length : Int))]) (fun i => i ≤ l.length) (fun i => l.length - i + 0) 0 (Nat.zero_le _) ?_ ?_
  · (refine To.of [(3,false)] ?_; cbv; (try simp only [nc]); (repeat' (first | exact trivial | exact WkN.refl _ | exact WkB.refl _ | refine ⟨?_, ?_⟩ | refine WkB.cells ?_ | refine WkN.agg ?_ | refine WkN.tup ?_)); (all_goals (first | exact okt | skip)))
  intro i hi
  (cbv; (try simp only [nc] at *); (try refine Chk.mk (okc) ?_))
  refine ⟨fun hb => ?_, fun hb => ?_⟩
  · simp only [decide_eq_true_eq] at hb
    have hst := hs _ (nt_mem (d := default) hnt (l := l) (i := i) (by omega))
    have htk := nt_take (d := default) hnt (l := l) (i := i) (by omega)
    have hti : (l.take i).length = i := by rw [List.length_take]; omega
    (cbv; try simp only [nc] at *)
    generalize nt Train default l (i : Int) = t at *
    have hul : (t.stops.length : Int) ≤ 1000000 := by omega
    have hul0 : ((0 : Nat) : Int) + (t.stops.length : Int) ≤ 1000000 := by omega
    refine Chk.mk (okc) ?_
    refine ⟨i + 1, by omega, by omega, ?_⟩
    rw [htk]
    (refine To.of [] ?_; cbv; (try simp only [nc]); (repeat' (first | exact trivial | exact WkN.refl _ | exact WkB.refl _ | refine ⟨?_, ?_⟩ | refine WkB.cells ?_ | refine WkN.agg ?_ | refine WkN.tup ?_)); (all_goals (first | exact okt | skip)))
    · refine .snocO hnt rfl rfl (by simp) (.three fun w ok v h => ?_)
      rw [lst_nt hnt]
      exact nil_app rfl (by simp) (fun j hj => by rw [lstR_nt hnt]; rfl) h
  · obtain rfl : i = l.length := by simp only [decide_eq_false_iff_not] at hb; omega
    rw [List.take_length]
    (cbv; (try simp only [nc] at *); (try refine Chk.mk (okc) ?_))
    refine ⟨_, _, ?_, rfl, rfl⟩
    (refine To.of [] ?_; cbv; (try simp only [nc]); (repeat' (first | exact trivial | exact WkN.refl _ | exact WkB.refl _ | refine ⟨?_, ?_⟩ | refine WkB.cells ?_ | refine WkN.agg ?_ | refine WkN.tup ?_)); (all_goals (first | exact okt | skip)))

/-- A book with room behind its lists. -/
def bookR (b : Book) (i j k : Nat) : AV := .agg [.isl 2 (fun _ => (b.zones.length : Int)) (lstR encZone default b.zones) (.own i), .isl 3 (fun _ => (b.old.length : Int)) (lstR encTrain default b.old) (.own j), .isl 3 (fun _ => (b.new.length : Int)) (lstR encTrain default b.new) (.own k), .int .i64 fun _ => b.night, .int .i64 fun _ => b.last]
theorem c23R (b : Book) (hf : BookFit b) : SC (fun _ => Try.prog) 23 [bookA b] [] fun v h => v = bookR b 0 1 2 ∧ h = [.tok 2 fun _ => (b.zones.length : Int), .tok 3 fun _ => (b.old.length : Int), .tok 3 fun _ => (b.new.length : Int)] := by
  obtain ⟨nt, hnt⟩ := nth_ex
  have k1 := c69R b.old hf.old hf.stops.1
  have k2 := c69R b.new hf.new hf.stops.2
  have hz := hf.zones
  have hc := hf.chs
  refine SC.less (conX true false [] Try.func23 (body := bodyOf Try.f23) rfl (by decide +kernel) ?_)
  unfold bookA bookR at *
  simp only [lst_nt hnt, lstR_nt hnt] at *
  (cbv; (try simp only [nc] at *); (try refine Chk.mk (okc) ?_))
  refine loopS true false [] [1, 2, 3, 4] [.tok 2 fun _ => 0] (fun (i : Nat) => [(4, .int .i64 fun _ => (i : Int))])
    (fun i => [(0, .cells [.isl 2 (fun _ => ((b.zones.take i).length : Int)) (fun e => encZone (nt Zone default (b.zones.take i) (e ()))) (.own 2), .isl 3 (fun _ => (b.old.length : Int)) (fun e => encTrain (nt Train default b.old (e ()))) .none, .isl 3 (fun _ => (b.new.length : Int)) (fun e => encTrain (nt Train default b.new (e ()))) .none, .int .i64 fun _ => b.night, .int .i64 fun _ => b.last]), (2, .tok 2 fun _ => ((b.zones.take i).length : Int))]) (fun i => i ≤ b.zones.length) (fun i => b.zones.length - i + 0) 0 (Nat.zero_le _) ?_ ?_
  · (refine To.of [(2,false)] ?_; cbv; (try simp only [nc]); (repeat' (first | exact trivial | exact WkN.refl _ | exact WkB.refl _ | refine ⟨?_, ?_⟩ | refine WkB.cells ?_ | refine WkN.agg ?_ | refine WkN.tup ?_)); (all_goals (first | exact okt | skip)))
  intro i hi
  (cbv; (try simp only [nc] at *); (try refine Chk.mk (okc) ?_))
  refine ⟨fun hb => ?_, fun hb => ?_⟩
  · simp only [decide_eq_true_eq] at hb
    have hch := hc _ (nt_mem (d := default) hnt (l := b.zones) (i := i) (by omega))
    have htk := nt_take (d := default) hnt (l := b.zones) (i := i) (by omega)
    have hti : (b.zones.take i).length = i := by rw [List.length_take]; omega
    (cbv; try simp only [nc] at *)
    generalize nt Zone default b.zones (i : Int) = z at *
    refine Chk.mk (okc) ?_
    refine call0 (c30n z hch) (by first | rfl | (simp only [zoneA, bookA, lst_nt hnt]; rfl)) fun r h₂ hp => ?_
    (try simp only [zoneA, bookA, lst_nt hnt] at hp)
    obtain ⟨rfl, rfl⟩ := hp
    (cbv; (try simp only [nc] at *); (try refine Chk.mk (okc) ?_))
    refine ⟨i + 1, by omega, by omega, ?_⟩
    rw [htk]
    (refine To.of [] ?_; cbv; (try simp only [nc]); (repeat' (first | exact trivial | exact WkN.refl _ | exact WkB.refl _ | refine ⟨?_, ?_⟩ | refine WkB.cells ?_ | refine WkN.agg ?_ | refine WkN.tup ?_)); (all_goals (first | exact okt | skip)))
  · obtain rfl : i = b.zones.length := by simp only [decide_eq_false_iff_not] at hb; omega
    rw [List.take_length]
    (cbv; (try simp only [nc] at *); (try refine Chk.mk (okc) ?_))
    refine call0 (k1) (by first | rfl | (simp only [zoneA, bookA, lst_nt hnt]; rfl)) fun r h₂ hp => ?_
    (try simp only [zoneA, bookA, lst_nt hnt] at hp)
    obtain ⟨rfl, rfl⟩ := hp
    (cbv; (try simp only [nc] at *); (try refine Chk.mk (okc) ?_))
    refine call0 (k2) (by first | rfl | (simp only [zoneA, bookA, lst_nt hnt]; rfl)) fun r h₂ hp => ?_
    (try simp only [zoneA, bookA, lst_nt hnt] at hp)
    obtain ⟨rfl, rfl⟩ := hp
    (cbv; (try simp only [nc] at *); (try refine Chk.mk (okc) ?_))
    refine ⟨_, _, ?_, rfl, rfl⟩
    (refine To.of [] ?_; cbv; (try simp only [nc]); (repeat' (first | exact trivial | exact WkN.refl _ | exact WkB.refl _ | refine ⟨?_, ?_⟩ | refine WkB.cells ?_ | refine WkN.agg ?_ | refine WkN.tup ?_)); (all_goals (first | exact okt | skip)))

theorem RowLe.nil : RowLe [] [] := ⟨rfl, fun j c h => by simp at h⟩
theorem RowLe.cons {c c' : AV} {r r' : List AV} (h : ∀ w ok v, PR w ok c v → PR w ok c' v) (hr : RowLe r r') : RowLe (c :: r) (c' :: r') := ⟨by rw [List.length_cons, List.length_cons, hr.1], fun j d hj => by
  cases j with
  | zero => simp only [List.getElem?_cons_zero, Option.some.injEq] at hj; subst hj; exact ⟨_, rfl, h⟩
  | succ j => simpa using hr.2 j d (by simpa using hj)⟩
theorem RowLe.eq {c : AV} {r r' : List AV} (hr : RowLe r r') : RowLe (c :: r) (c :: r') := .cons (fun _ _ _ h => h) hr
end Go.Proofs.Ytlcgliadpalgfaa.Vm

/- The statement ClockMoved: all clocks ahead by as much more. -/
namespace Go.Proofs.Ytlcgliadpalgfaa.Vm
open Go Go.Proofs Sp
set_option maxRecDepth 100000
set_option maxHeartbeats 1600000

theorem c4 (l : List Int) (hl : (l.length : Int) ≤ 9223372036854775807) : SC (fun _ => Try.prog) 4 [lst 1 encI 0 l] [] fun r h => r = .bool (fun _ => true) := by
  obtain ⟨nt, hnt⟩ := nth_ex
  refine conN false [17] [] Try.func4 (body := bodyOf Try.f4) rfl (by decide +kernel) ?_
  (cbv; (try simp only [nc] at *); (try refine Chk.mk (okc) ?_))
  refine call0 (c14 l hl) (by first | rfl | (simp only [zoneA, bookA, lst_nt hnt]; rfl)) fun r h₂ hp => ?_
  (try simp only [zoneA, bookA, lst_nt hnt] at hp)
  obtain ⟨s, rfl, rfl⟩ := hp
  (cbv; (try simp only [nc] at *); (try refine Chk.mk (okc) ?_))
  refine callL [0] (c15 s 2 3 (by omega) (by omega)) (by decide) (by simp) (by first | rfl | (simp only [zoneA, bookA, lst_nt hnt]; rfl)) (by first | rfl | (simp only [zoneA, bookA, lst_nt hnt]; rfl)) fun r h₂ hp => ?_
  (try simp only [zoneA, bookA, lst_nt hnt] at hp)
  obtain ⟨b, s', hb, rfl, rfl⟩ := hp
  have hchk := made_check hb (by omega) (by omega)
  have hok := book_ok hchk
  have hfit := made_fit hb (by omega) (by omega)
  have hlast := hok.last
  (cbv; (try simp only [nc] at *); (try refine Chk.mk (okc) ?_))
  refine callL [0] (c22 s' 0 300 (by omega) (by omega)) (by decide) (by simp) (by first | rfl | (simp only [zoneA, bookA, lst_nt hnt]; rfl)) (by first | rfl | (simp only [zoneA, bookA, lst_nt hnt]; rfl)) fun r h₂ hp => ?_
  (try simp only [zoneA, bookA, lst_nt hnt] at hp)
  obtain ⟨d, s1, hd, rfl, rfl⟩ := hp
  (cbv; (try simp only [nc] at *); (try refine Chk.mk (okc) ?_))
  have k23 := c23N hnt b hfit
  simp only [zoB, trB, stB] at k23
  refine call0 (k23) (by first | rfl | (simp only [zoneA, bookA, lst_nt hnt]; rfl)) fun r h₂ hp => ?_
  (try simp only [zoneA, bookA, lst_nt hnt] at hp)
  obtain ⟨rfl, rfl⟩ := hp
  (cbv; (try simp only [nc] at *); (try refine Chk.mk (okc) ?_))
  have hzl := hok.zlen
  have hol := hok.olen
  have hnl := hok.nlen
  refine loopN false [] [4, 5, 6, 7] [] (fun (i : Nat) => [(7, .int .i64 fun _ => (i : Int))]) (fun i => [(2, .gar 2 (fun _ => (b.zones.length : Int)) (fun e => encZone (nt Zone default (mapK (shZ d) i b.zones) (e ())))),
    (3, .vgar 3 (fun _ => (b.old.length : Int)) (fun e => encTrH 4 (nt Train default b.old (e ())) e)), (5, .vgar 3 (fun _ => (b.new.length : Int)) (fun e => encTrH 6 (nt Train default b.new (e ())) e))]) (fun i => i ≤ b.zones.length) (fun i => b.zones.length - i + 0) 0 (by omega) ?_ ?_
  · (refine To.of [] ?_; cbv; (try simp only [nc]); (repeat' (first | exact trivial | exact WkN.refl _ | exact WkB.refl _ | refine ⟨?_, ?_⟩ | refine WkB.cells ?_ | refine WkN.agg ?_ | refine WkN.tup ?_)); (all_goals (first | exact okt | skip)))
  intro i hi
  (cbv; (try simp only [nc] at *); (try refine Chk.mk (okc) ?_))
  refine ⟨fun hb1 => ?_, fun hb1 => ?_⟩
  · simp only [decide_eq_true_eq] at hb1
    have hbz := (asc_of (hok.zones _ (nt_mem (d := default) hnt (l := b.zones) (i := i) (by omega)))).2.2.2
    have e1 : nt Zone default (mapK (shZ d) i b.zones) (i : Int) = nt Zone default b.zones (i : Int) := by rw [mapK_get hnt (by omega), if_neg (by omega)]
    (cbv; try simp only [nc] at *)
    simp only [e1]
    generalize hz0 : nt Zone default b.zones (i : Int) = z0 at *
    refine Chk.mk (okc) ?_
    refine ⟨i + 1, by omega, by omega, ?_⟩
    (refine To.of [] ?_; cbv; (try simp only [nc]); (repeat' (first | exact trivial | exact WkN.refl _ | exact WkB.refl _ | refine ⟨?_, ?_⟩ | refine WkB.cells ?_ | refine WkN.agg ?_ | refine WkN.tup ?_)); (all_goals (first | exact okt | skip)))
    refine .gar rfl fun a ha => ?_
    have ha : (a : Int) < (b.zones.length : Int) := ha
    show encZone ⟨bif decide ((a : Int) = (i : Int)) then z0.base + d else (nt Zone default (mapK (shZ d) i b.zones) (a : Int)).base, (nt Zone default (mapK (shZ d) i b.zones) (a : Int)).chs⟩ = encZone (nt Zone default (mapK (shZ d) (i + 1) b.zones) (a : Int))
    refine congrArg encZone ?_
    rw [mapK_get hnt (by omega), mapK_get hnt (by omega)]
    rcases Nat.lt_trichotomy a i with h | h | h
    · rw [if_pos h, if_pos (by omega), decide_eq_false (by omega : ¬ ((a : Int) = (i : Int)))]; rfl
    · subst h
      rw [if_neg (by omega), if_pos (by omega), decide_eq_true rfl, hz0]; rfl
    · rw [if_neg (by omega), if_neg (by omega), decide_eq_false (by omega : ¬ ((a : Int) = (i : Int)))]; rfl
  · obtain rfl : i = b.zones.length := by simp only [decide_eq_false_iff_not] at hb1; omega
    rw [mapK_all]
    (cbv; (try simp only [nc] at *); (try refine Chk.mk (okc) ?_))
    refine loopN false [] [4, 5, 6, 8] [] (fun (i : Nat) => [(8, .int .i64 fun _ => (i : Int))]) (fun i => [(4, .fam 8 4 (fun _ => (b.old.length : Int)) (fun e _ => ((nt Train default (mapK (laterT d) i b.old) (e ())).stops.length : Int)) (fun e k => encStop (nt Stop default (nt Train default (mapK (laterT d) i b.old) (e ())).stops (k ()))))]) (fun i => i ≤ b.old.length) (fun i => b.old.length - i + 0) 0 (by omega) ?_ ?_
    · rw [mapK_zero]
      (refine To.of [] ?_; cbv; (try simp only [nc]); (repeat' (first | exact trivial | exact WkN.refl _ | exact WkB.refl _ | refine ⟨?_, ?_⟩ | refine WkB.cells ?_ | refine WkN.agg ?_ | refine WkN.tup ?_)); (all_goals (first | exact okt | skip)))
      exact .famZ (by decide)
    intro i hi
    (cbv; (try simp only [nc] at *); (try refine Chk.mk (okc) ?_))
    refine ⟨fun hb1 => ?_, fun hb1 => ?_⟩
    · simp only [decide_eq_true_eq] at hb1
      have hto := hok.old _ (nt_mem (d := default) hnt (l := b.old) (i := i) (by omega))
      have e1 : nt Train default (mapK (laterT d) i b.old) (i : Int) = nt Train default b.old (i : Int) := by rw [mapK_get hnt (by omega), if_neg (by omega)]
      have hlen := hto.len
      have k24 := c24N hnt (mapK (laterT d) i b.old) i d (by rw [mapK_len]; omega) (by omega) ⟨by rw [e1]; omega, fun s hs => by
        rw [e1] at hs
        have h1 := (hto.stops s hs).arrive
        have h2 := (hto.stops s hs).depart
        omega⟩
      rw [mapK_set hnt (by omega), e1] at k24
      simp only [stB, mapK_len] at k24
      (cbv; try simp only [nc] at *)
      refine Chk.mk (okc) ?_
      refine callL [4] (k24) (by decide) (by simp) (by first | rfl | (simp only [zoneA, bookA, lst_nt hnt]; rfl)) (by first | rfl | (simp only [zoneA, bookA, lst_nt hnt]; rfl)) fun r h₂ hp => ?_
      (try simp only [zoneA, bookA, lst_nt hnt] at hp)
      obtain rfl := hp
      (cbv; (try simp only [nc] at *); (try refine Chk.mk (okc) ?_))
      refine ⟨i + 1, by omega, by omega, ?_⟩
      (refine To.of [] ?_; cbv; (try simp only [nc]); (repeat' (first | exact trivial | exact WkN.refl _ | exact WkB.refl _ | refine ⟨?_, ?_⟩ | refine WkB.cells ?_ | refine WkN.agg ?_ | refine WkN.tup ?_)); (all_goals (first | exact okt | skip)))
    · obtain rfl : i = b.old.length := by simp only [decide_eq_false_iff_not] at hb1; omega
      (cbv; (try simp only [nc] at *); (try refine Chk.mk (okc) ?_))
      obtain ⟨X, hX⟩ : ∃ X, X = shB d b := ⟨_, rfl⟩
      refine cutD false false [] 50 [4, 6] (fun _ : Unit => []) (fun _ => [(2, .dead), (3, .dead), (4, .dead), (5, .dead), (6, .dead), (7, .cells [.isl 2 (fun _ => (X.zones.length : Int)) (fun e => encZone (nt Zone default X.zones (e ()))) .none, .isl 3 (fun _ => (X.old.length : Int)) (fun e => encTrain (nt Train default X.old (e ()))) .none, .isl 3 (fun _ => (X.new.length : Int)) (fun e => encTrain (nt Train default X.new (e ()))) .none, .int .i64 fun _ => X.night, .int .i64 fun _ => X.last])]) (fun _ => True) (fun _ _ h => h) (by decide) ?_ ?_
      · (cbv; (try simp only [nc] at *); (try refine Chk.mk (okc) ?_))
        refine loopN false [] [4, 5, 6, 9] [] (fun (i : Nat) => [(9, .int .i64 fun _ => (i : Int))]) (fun i => [(6, .fam 8 4 (fun _ => (b.new.length : Int)) (fun e _ => ((nt Train default (mapK (laterT d) i b.new) (e ())).stops.length : Int)) (fun e k => encStop (nt Stop default (nt Train default (mapK (laterT d) i b.new) (e ())).stops (k ()))))]) (fun i => i ≤ b.new.length) (fun i => b.new.length - i + 0) 0 (by omega) ?_ ?_
        · rw [mapK_zero]
          (refine To.of [] ?_; cbv; (try simp only [nc]); (repeat' (first | exact trivial | exact WkN.refl _ | exact WkB.refl _ | refine ⟨?_, ?_⟩ | refine WkB.cells ?_ | refine WkN.agg ?_ | refine WkN.tup ?_)); (all_goals (first | exact okt | skip)))
          exact .famZ (by decide)
        intro i hi
        (cbv; (try simp only [nc] at *); (try refine Chk.mk (okc) ?_))
        refine ⟨fun hb1 => ?_, fun hb1 => ?_⟩
        · simp only [decide_eq_true_eq] at hb1
          have hto := hok.new _ (nt_mem (d := default) hnt (l := b.new) (i := i) (by omega))
          have e1 : nt Train default (mapK (laterT d) i b.new) (i : Int) = nt Train default b.new (i : Int) := by rw [mapK_get hnt (by omega), if_neg (by omega)]
          have hlen := hto.len
          have k24 := c24N hnt (mapK (laterT d) i b.new) i d (by rw [mapK_len]; omega) (by omega) ⟨by rw [e1]; omega, fun s hs => by
            rw [e1] at hs
            have h1 := (hto.stops s hs).arrive
            have h2 := (hto.stops s hs).depart
            omega⟩
          rw [mapK_set hnt (by omega), e1] at k24
          simp only [stB, mapK_len] at k24
          (cbv; try simp only [nc] at *)
          refine Chk.mk (okc) ?_
          refine callL [6] (k24) (by decide) (by simp) (by first | rfl | (simp only [zoneA, bookA, lst_nt hnt]; rfl)) (by first | rfl | (simp only [zoneA, bookA, lst_nt hnt]; rfl)) fun r h₂ hp => ?_
          (try simp only [zoneA, bookA, lst_nt hnt] at hp)
          obtain rfl := hp
          (cbv; (try simp only [nc] at *); (try refine Chk.mk (okc) ?_))
          refine ⟨i + 1, by omega, by omega, ?_⟩
          (refine To.of [] ?_; cbv; (try simp only [nc]); (repeat' (first | exact trivial | exact WkN.refl _ | exact WkB.refl _ | refine ⟨?_, ?_⟩ | refine WkB.cells ?_ | refine WkN.agg ?_ | refine WkN.tup ?_)); (all_goals (first | exact okt | skip)))
        · obtain rfl : i = b.new.length := by simp only [decide_eq_false_iff_not] at hb1; omega
          (cbv; (try simp only [nc] at *); (try refine Chk.mk (okc) ?_))
          refine ⟨(), trivial, ?_⟩
          subst hX
          refine (To.frozeV (q := 3) rfl rfl ?_ ?_ rfl).trans ?_
          · intro i hi c hc e l hcl
            subst hcl
            have hc : AV.nsub 4 e l ∈ encTrH 4 (nt Train default b.old (i : Int)) (fun _ => (i : Int)) := hc
            simp [encTrH] at hc
            obtain ⟨rfl, rfl⟩ := hc
            have hi : (i : Int) < (b.old.length : Int) := hi
            show ((nt Train default b.old (i : Int)).stops.length : Int) = ((nt Train default (mapK (laterT d) b.old.length b.old) (i : Int)).stops.length : Int)
            rw [mapK_get hnt (by omega), if_pos (by omega)]
            simp [laterT]
          · exact fun i hi => rfl
          refine (To.frozeV (q := 5) rfl rfl ?_ ?_ rfl).trans ?_
          · intro i hi c hc e l hcl
            subst hcl
            have hc : AV.nsub 6 e l ∈ encTrH 6 (nt Train default b.new (i : Int)) (fun _ => (i : Int)) := hc
            simp [encTrH] at hc
            obtain ⟨rfl, rfl⟩ := hc
            have hi : (i : Int) < (b.new.length : Int) := hi
            show ((nt Train default b.new (i : Int)).stops.length : Int) = ((nt Train default (mapK (laterT d) b.new.length b.new) (i : Int)).stops.length : Int)
            rw [mapK_get hnt (by omega), if_pos (by omega)]
            simp [laterT]
          · exact fun i hi => rfl
          refine (To.froze (id := 2) rfl).trans ((To.rsv _ _).trans ?_)
          (refine To.of [] ?_; cbv; (try simp only [nc]); (repeat' (first | exact trivial | exact WkN.refl _ | exact WkB.refl _ | refine ⟨?_, ?_⟩ | refine WkB.cells ?_ | refine WkN.agg ?_ | refine WkN.tup ?_)); (all_goals (first | exact okt | skip)))
          all_goals (try exact WkB.dead)
          · exact .gd (by decide) (.isl (by simp [shB]) fun i hi => rfl)
          · refine .gd (by decide) (.isl (by simp [shB]) fun i hi => ?_)
            have hi : (i : Int) < (b.old.length : Int) := hi
            show [AV.int .i64 fun _ => (nt Train default b.old (i : Int)).number, AV.int .i64 fun _ => (nt Train default b.old (i : Int)).days, AV.isl 4 (fun _ => ((nt Train default b.old (i : Int)).stops.length : Int)) (fun k => encStop (nt Stop default (nt Train default (mapK (laterT d) b.old.length b.old) (i : Int)).stops (k ()))) .none] = encTrain (nt Train default (b.old.map (laterT d)) (i : Int))
            rw [mapK_all, map_get hnt (by omega)]
            unfold encTrain
            rw [lst_nt hnt]
            simp [laterT]
          · refine .gd (by decide) (.isl (by simp [shB]) fun i hi => ?_)
            have hi : (i : Int) < (b.new.length : Int) := hi
            show [AV.int .i64 fun _ => (nt Train default b.new (i : Int)).number, AV.int .i64 fun _ => (nt Train default b.new (i : Int)).days, AV.isl 4 (fun _ => ((nt Train default b.new (i : Int)).stops.length : Int)) (fun k => encStop (nt Stop default (nt Train default (mapK (laterT d) b.new.length b.new) (i : Int)).stops (k ()))) .none] = encTrain (nt Train default (b.new.map (laterT d)) (i : Int))
            rw [mapK_all, map_get hnt (by omega)]
            unfold encTrain
            rw [lst_nt hnt]
            simp [laterT]
      · intro _ _
        have hfx : BookFit X := hX ▸ fit_sh hfit
        have hrs : Check X = 0 → ∀ n day, Run X n day = Run b n day := fun h n day => by subst hX; exact run_sh d hchk h n day
        clear hX
        (cbv; (try simp only [nc] at *); (try refine Chk.mk (okc) ?_))
        refine call0 (c25 X hfx) (by first | rfl | (simp only [zoneA, bookA, lst_nt hnt]; rfl)) fun r h₂ hp => ?_
        (try simp only [zoneA, bookA, lst_nt hnt] at hp)
        obtain ⟨rfl, rfl⟩ := hp
        have hk28 := c28 X hfx
        have hk26 := fun n day => c26 X n day hfx
        generalize Check X = e at *
        (cbv; (try simp only [nc] at *); (try refine Chk.mk (okc) ?_))
        refine ⟨fun hb2 => ?_, fun hb2 => ?_⟩
        · (cbv; (try simp only [nc] at *); (try refine Chk.mk (okc) ?_))
          refine call0 (c18) (by first | rfl | (simp only [zoneA, bookA, lst_nt hnt]; rfl)) fun r h₂ hp => ?_
          (try simp only [zoneA, bookA, lst_nt hnt] at hp)
          obtain ⟨rfl, rfl⟩ := hp
          (cbv; (try simp only [nc] at *); (try refine Chk.mk (okc) ?_))
        simp only [bne_eq_false_iff_eq] at hb2
        subst hb2
        have hrs := hrs rfl
        (cbv; (try simp only [nc] at *); (try refine Chk.mk (okc) ?_))
        refine loopS false false [] [4, 6, 10] [] (fun (day : Nat) => [(10, .int .i64 fun _ => (day : Int))]) (fun _ => []) (fun day => (day : Int) ≤ b.last + 1) (fun day => (b.last + 1).toNat - day + 0) 0 (by omega) ?_ ?_
        · (refine To.of [] ?_; cbv; (try simp only [nc]); (repeat' (first | exact trivial | exact WkN.refl _ | exact WkB.refl _ | refine ⟨?_, ?_⟩ | refine WkB.cells ?_ | refine WkN.agg ?_ | refine WkN.tup ?_)); (all_goals (first | exact okt | skip)))
        intro day hday
        (cbv; (try simp only [nc] at *); (try refine Chk.mk (okc) ?_))
        refine ⟨fun hb3 => ?_, fun hb3 => ?_⟩
        · simp only [decide_eq_true_eq] at hb3
          (cbv; (try simp only [nc] at *); (try refine Chk.mk (okc) ?_))
          refine loopQ fun Q hQ => ?_
          refine loopS false false [] [4, 6, 10, 11] [] (fun (n : Nat) => [(11, .int .i64 fun _ => (n : Int) + 1)]) (fun _ => []) (fun n => n ≤ 2) (fun n => 2 - n + 0) 0 (by omega) ?_ ?_
          · (refine To.of [] ?_; cbv; (try simp only [nc]); (repeat' (first | exact trivial | exact WkN.refl _ | exact WkB.refl _ | refine ⟨?_, ?_⟩ | refine WkB.cells ?_ | refine WkN.agg ?_ | refine WkN.tup ?_)); (all_goals (first | exact okt | skip)))
          intro n hn
          (cbv; (try simp only [nc] at *); (try refine Chk.mk (okc) ?_))
          refine ⟨fun hb4 => ?_, fun hb4 => ?_⟩
          · simp only [decide_eq_true_eq] at hb4
            have hR : (Run b ((n : Int) + 1) day).1.length ≤ 4 := (run_bd hb hchk _ _).1
            have k1 := c26 b ((n : Int) + 1) day hfit
            have k2 := hk26 ((n : Int) + 1) day
            rw [hrs] at k2
            generalize Run b ((n : Int) + 1) day = R at *
            have k3 := c27 R.1 R.1 (by omega)
            (cbv; (try simp only [nc] at *); (try refine Chk.mk (okc) ?_))
            refine call0 (k1) (by first | rfl | (simp only [zoneA, bookA, lst_nt hnt]; rfl)) fun r h₂ hp => ?_
            (try simp only [zoneA, bookA, lst_nt hnt] at hp)
            obtain ⟨rfl, rfl⟩ := hp
            (cbv; (try simp only [nc] at *); (try refine Chk.mk (okc) ?_))
            refine call0 (k2) (by first | rfl | (simp only [zoneA, bookA, lst_nt hnt]; rfl)) fun r h₂ hp => ?_
            (try simp only [zoneA, bookA, lst_nt hnt] at hp)
            obtain ⟨rfl, rfl⟩ := hp
            (cbv; (try simp only [nc] at *); (try refine Chk.mk (okc) ?_))
            refine Br.isT (by simp) ?_
            (cbv; (try simp only [nc] at *); (try refine Chk.mk (okc) ?_))
            refine call0 (k3) (by first | rfl | (simp only [zoneA, bookA, lst_nt hnt]; rfl)) fun r h₂ hp => ?_
            (try simp only [zoneA, bookA, lst_nt hnt] at hp)
            obtain ⟨rfl, rfl⟩ := hp
            (cbv; (try simp only [nc] at *); (try refine Chk.mk (okc) ?_))
            refine Br.isF (by simp) ?_
            (cbv; (try simp only [nc] at *); (try refine Chk.mk (okc) ?_))
            refine ⟨n + 1, by omega, by omega, ?_⟩
            (refine To.of [] ?_; cbv; (try simp only [nc]); (repeat' (first | exact trivial | exact WkN.refl _ | exact WkB.refl _ | refine ⟨?_, ?_⟩ | refine WkB.cells ?_ | refine WkN.agg ?_ | refine WkN.tup ?_)); (all_goals (first | exact okt | skip)))
            all_goals trivial
          · simp only [decide_eq_false_iff_not] at hb4
            (cbv; (try simp only [nc] at *); (try refine Chk.mk (okc) ?_))
            refine hQ _ _ _ ?_
            clear hQ
            (cbv; (try simp only [nc] at *); (try refine Chk.mk (okc) ?_))
            refine ⟨day + 1, by omega, by omega, ?_⟩
            (refine To.of [] ?_; cbv; (try simp only [nc]); (repeat' (first | exact trivial | exact WkN.refl _ | exact WkB.refl _ | refine ⟨?_, ?_⟩ | refine WkB.cells ?_ | refine WkN.agg ?_ | refine WkN.tup ?_)); (all_goals (first | exact okt | skip)))
        · (cbv; (try simp only [nc] at *); (try refine Chk.mk (okc) ?_))
          refine call0 (hk28) (by first | rfl | (simp only [zoneA, bookA, lst_nt hnt]; rfl)) fun r h₂ hp => ?_
          (try simp only [zoneA, bookA, lst_nt hnt] at hp)
          obtain ⟨rfl, rfl⟩ := hp
          (cbv; (try simp only [nc] at *); (try refine Chk.mk (okc) ?_))
          refine Br.isT rfl ?_
          (cbv; (try simp only [nc] at *); (try refine Chk.mk (okc) ?_))
          refine call0 (c18) (by first | rfl | (simp only [zoneA, bookA, lst_nt hnt]; rfl)) fun r h₂ hp => ?_
          (try simp only [zoneA, bookA, lst_nt hnt] at hp)
          obtain ⟨rfl, rfl⟩ := hp
          (cbv; (try simp only [nc] at *); (try refine Chk.mk (okc) ?_))
end Go.Proofs.Ytlcgliadpalgfaa.Vm
