/- Contracts: the reference's checks of books. -/
import Derived.Calls
import Derived.Laws.Entries
import Derived.Laws.Cells
import Derived.Laws.BitsLemmas
import Derived.Laws.Slices
import Derived.Laws.StructEq
import Derived.ChangeKeysEq
import Derived.Laws.CopyRow
import Derived.Laws.AppendOwn
import Derived.Orders
import Derived.Test.YtlcgliadpalgfaaRows
import Derived.RangeFuncIn
import Derived.RangeFuncRecord
import Derived.WalkKit
import Derived.ProofKit
import Derived.OpenShut
import Derived.ShutString
import Derived.ChangeOld
import Derived.Below
import Derived.KernelRfl
import Derived.Test.YtlcgliadpalgfaaB0
import Derived.Test.YtlcgliadpalgfaaB1
import Derived.Test.YtlcgliadpalgfaaB2
import Derived.Test.YtlcgliadpalgfaaB3
import Derived.Test.YtlcgliadpalgfaaB4
import Derived.Test.YtlcgliadpalgfaaB5
import Derived.Test.YtlcgliadpalgfaaB6
import Derived.Test.YtlcgliadpalgfaaB7
import Derived.Test.YtlcgliadpalgfaaB8
import Derived.Test.YtlcgliadpalgfaaB9
import Derived.Test.YtlcgliadpalgfaaB10
set_option linter.unusedSimpArgs false
set_option linter.unusedVariables false
namespace Go.Proofs.Ytlcgliadpalgfaa.Vm
open Go Go.Proofs Sp
set_option maxRecDepth 100000
set_option maxHeartbeats 1600000

theorem any_take {α : Type} [Inhabited α] {nt : (α : Type) → α → List α → Int → α} (hnt : ∀ (α : Type) (d : α) (l : List α) (i : Int), nt α d l i = l.getD i.toNat d) {q : α → Bool} {l : List α} {k : Nat} (hk : k < l.length) : (l.take (k + 1)).any q = ((l.take k).any q || q (nt α default l (k : Int))) := by
  rw [nt_take (d := default) hnt hk, List.any_append]
  simp

theorem bookA_nt {nt : (α : Type) → α → List α → Int → α} (hnt : ∀ (α : Type) (d : α) (l : List α) (i : Int), nt α d l i = l.getD i.toNat d) (b : Book) : bookA b = .agg [.isl 2 (fun _ => (b.zones.length : Int)) (fun e => encZone (nt Zone default b.zones (e ()))) .none, .isl 3 (fun _ => (b.old.length : Int)) (fun e => encTrain (nt Train default b.old (e ()))) .none, .isl 3 (fun _ => (b.new.length : Int)) (fun e => encTrain (nt Train default b.new (e ()))) .none, .int .i64 fun _ => b.night, .int .i64 fun _ => b.last] := by
  unfold bookA; simp only [lst_nt hnt]

theorem c110 (b : Book) (l : List Stop) (hz : b.zones.length ≤ 1000000) (hl : l.length ≤ 1000000) : SC (fun _ => Try.prog) 110 [bookA b, lst 4 encStop default l] [] fun v h => v = .int .i64 (fun _ => if counted l.length 2 4 ≠ 0 then counted l.length 2 4 else chkStops b.zones.length l) ∧ h = [] := by
  obtain ⟨nt, hnt⟩ := nth_ex
  generalize hE : (if counted l.length 2 4 ≠ 0 then counted l.length 2 4 else chkStops b.zones.length l) = E
  unfold bookA
  simp only [lst_nt hnt]
  refine con Try.func110 (body := bodyOf Try.f110) rfl (by decide +kernel) ?_
  (cbv; (try simp only [nc] at *); (try refine Chk.mk (okc) ?_))
  refine ⟨fun h1 => ?_, fun h1 => ?_⟩
  · simp only [decide_eq_true_eq] at h1
    rw [show counted l.length 2 4 = 7 by unfold counted; rw [if_pos (by omega)], if_pos (by decide)] at hE
    subst hE
    (cbv; (try simp only [nc] at *); (try refine Chk.mk (okc) ?_))
    (try first | exact ⟨rfl, trivial⟩ | exact ⟨trivial, trivial⟩)
  simp only [decide_eq_false_iff_not] at h1
  (cbv; (try simp only [nc] at *); (try refine Chk.mk (okc) ?_))
  refine ⟨fun h2 => ?_, fun h2 => ?_⟩
  · simp only [decide_eq_true_eq] at h2
    rw [show counted l.length 2 4 = 6 by unfold counted; rw [if_neg (by omega), if_pos (by omega)], if_pos (by decide)] at hE
    subst hE
    (cbv; (try simp only [nc] at *); (try refine Chk.mk (okc) ?_))
    (try first | exact ⟨rfl, trivial⟩ | exact ⟨trivial, trivial⟩)
  simp only [decide_eq_false_iff_not] at h2
  rw [show counted l.length 2 4 = 0 by unfold counted; rw [if_neg (by omega), if_neg (by omega)], if_neg (by decide)] at hE
  (cbv; (try simp only [nc] at *); (try refine Chk.mk (okc) ?_))
  refine loopS false false [] [1, 2, 5] [] (fun (i : Nat) => [(5, .int .i64 fun _ => (i : Int))]) (fun _ => []) (fun i => i ≤ l.length ∧ firstErr (chkStopAt b.zones.length l) i (l.length - i) = E) (fun i => l.length - i + 0) 0 ⟨Nat.zero_le _, by simpa [chkStops] using hE⟩ ?_ ?_
  · (refine To.of [] ?_; cbv; (try simp only [nc]); (repeat' (first | exact trivial | exact WkN.refl _ | exact WkB.refl _ | refine ⟨?_, ?_⟩ | refine WkB.cells ?_ | refine WkN.agg ?_ | refine WkN.tup ?_)); (all_goals (first | exact okt | skip)))
  rintro i ⟨hi, hp⟩
  (cbv; (try simp only [nc] at *); (try refine Chk.mk (okc) ?_))
  refine ⟨fun hb => ?_, fun hb => ?_⟩
  · simp only [decide_eq_true_eq] at hb
    obtain ⟨q, hq⟩ : ∃ q, l.length - i = q + 1 := ⟨l.length - i - 1, by omega⟩
    rw [hq, firstErr] at hp
    have hsp : chkStopAt b.zones.length l i = checkStop (l.take i) (nt Stop default l i) (decide (0 < i) && decide ((i : Int) < l.length - 1)) b.zones.length := by unfold chkStopAt; rw [hnt]; rfl
    rw [hsp] at hp
    unfold checkStop at hp
    (cbv; (try simp only [nc] at *); (try refine Chk.mk (okc) ?_))
    generalize nt Stop default l i = s at *
    refine call0 (c72 s.station 0 9) (by first | rfl | (simp only [zoneA, bookA, lst_nt hnt]; rfl)) fun r h₂ hp => ?_
    (try simp only [zoneA, bookA, lst_nt hnt] at hp)
    obtain ⟨rfl, rfl⟩ := hp
    (cbv; try simp only [nc] at *)
    refine ⟨fun h3 => ?_, fun h3 => ?_⟩
    · simp only [if_pos h3] at hp
      rw [if_pos (by decide)] at hp
      subst hp
      (cbv; (try simp only [nc] at *); (try refine Chk.mk (okc) ?_))
      (try first | exact ⟨rfl, trivial⟩ | exact ⟨trivial, trivial⟩)
    simp only [if_neg (show ¬ (!inB s.station 0 9) = true by rw [h3]; exact Bool.false_ne_true)] at hp
    (cbv; (try simp only [nc] at *); (try refine Chk.mk (okc) ?_))
    refine loopQ fun Q hQ => ?_
    refine loopS false false [] [1, 2, 5, 6, 7] [] (fun (k : Nat) => [(7, .int .i64 fun _ => (k : Int))]) (fun _ => []) (fun k => k ≤ i ∧ (l.take k).any (fun x => decide (x.station = s.station)) = false) (fun k => i - k + 0) 0 ⟨Nat.zero_le _, by simp⟩ ?_ ?_
    · (refine To.of [] ?_; cbv; (try simp only [nc]); (repeat' (first | exact trivial | exact WkN.refl _ | exact WkB.refl _ | refine ⟨?_, ?_⟩ | refine WkB.cells ?_ | refine WkN.agg ?_ | refine WkN.tup ?_)); (all_goals (first | exact okt | skip)))
    rintro k ⟨hk, hp2⟩
    (cbv; (try simp only [nc] at *); (try refine Chk.mk (okc) ?_))
    refine ⟨fun hb => ?_, fun hb => ?_⟩
    · simp only [decide_eq_true_eq] at hb
      have hkl : k < l.length := by omega
      have hat := any_take hnt (q := fun x : Stop => decide (x.station = s.station)) hkl
      rw [hp2, Bool.false_or] at hat
      (cbv; (try simp only [nc] at *); (try refine Chk.mk (okc) ?_))
      simp only [beq_dec]
      refine ⟨fun h4 => ?_, fun h4 => ?_⟩
      · rw [h4] at hat
        have : (l.take i).any (fun x => decide (x.station = s.station)) = true := by
          rw [List.any_eq_true] at hat ⊢
          obtain ⟨x, hx, h⟩ := hat
          exact ⟨x, List.Sublist.subset (List.take_sublist_take_left (by omega)) hx, h⟩
        simp only [if_pos this] at hp
        rw [if_pos (by decide)] at hp
        subst hp
        (cbv; (try simp only [nc] at *); (try refine Chk.mk (okc) ?_))
        refine hQ _ _ _ ?_
        (cbv; (try simp only [nc] at *); (try refine Chk.mk (okc) ?_))
        (try first | exact ⟨rfl, trivial⟩ | exact ⟨trivial, trivial⟩)
      · rw [h4] at hat
        (cbv; (try simp only [nc] at *); (try refine Chk.mk (okc) ?_))
        refine ⟨k + 1, ⟨by omega, hat⟩, by show i - (k + 1) + 0 < i - k + 0; omega, ?_⟩
        (refine To.of [] ?_; cbv; (try simp only [nc]); (repeat' (first | exact trivial | exact WkN.refl _ | exact WkB.refl _ | refine ⟨?_, ?_⟩ | refine WkB.cells ?_ | refine WkN.agg ?_ | refine WkN.tup ?_)); (all_goals (first | exact okt | skip)))
    · simp only [decide_eq_false_iff_not] at hb
      obtain rfl : k = i := by omega
      simp only [hp2, Bool.false_eq_true, if_false] at hp
      (cbv; (try simp only [nc] at *); (try refine Chk.mk (okc) ?_))
      refine hQ _ _ _ ?_
      clear hQ
      (cbv; (try simp only [nc] at *); (try refine Chk.mk (okc) ?_))
      refine call0 (c72 s.zone 0 ((b.zones.length : Int) - 1)) (by first | rfl | (simp only [zoneA, bookA, lst_nt hnt]; rfl)) fun r h₂ hp => ?_
      (try simp only [zoneA, bookA, lst_nt hnt] at hp)
      obtain ⟨rfl, rfl⟩ := hp
      (cbv; try simp only [nc] at *)
      refine ⟨fun h5 => ?_, fun h5 => ?_⟩
      · simp only [if_pos h5] at hp
        rw [if_pos (by decide)] at hp
        subst hp
        (cbv; (try simp only [nc] at *); (try refine Chk.mk (okc) ?_))
        (try first | exact ⟨rfl, trivial⟩ | exact ⟨trivial, trivial⟩)
      simp only [if_neg (show ¬ (!inB s.zone 0 ((b.zones.length : Int) - 1)) = true by rw [h5]; exact Bool.false_ne_true)] at hp
      (cbv; (try simp only [nc] at *); (try refine Chk.mk (okc) ?_))
      refine call0 (c72 s.arrive 0 4319) (by first | rfl | (simp only [zoneA, bookA, lst_nt hnt]; rfl)) fun r h₂ hp => ?_
      (try simp only [zoneA, bookA, lst_nt hnt] at hp)
      obtain ⟨rfl, rfl⟩ := hp
      (cbv; (try simp only [nc] at *); (try refine Chk.mk (okc) ?_))
      refine ⟨fun h6 => ?_, fun h6 => ?_⟩
      · have h6 : inB s.arrive 0 4319 = true := by simpa using h6
        (cbv; (try simp only [nc] at *); (try refine Chk.mk (okc) ?_))
        refine call0 (c72 s.depart 0 4319) (by first | rfl | (simp only [zoneA, bookA, lst_nt hnt]; rfl)) fun r h₂ hp => ?_
        (try simp only [zoneA, bookA, lst_nt hnt] at hp)
        obtain ⟨rfl, rfl⟩ := hp
        (cbv; (try simp only [nc] at *); (try refine Chk.mk (okc) ?_))
        refine ⟨fun h7 => ?_, fun h7 => ?_⟩
        · have h7 : inB s.depart 0 4319 = false := by simpa [h6] using h7
          simp only [h6, h7, Bool.not_false, Bool.not_true, Bool.false_or, if_true] at hp
          rw [if_pos (by decide)] at hp
          subst hp
          (cbv; (try simp only [nc] at *); (try refine Chk.mk (okc) ?_))
          (try first | exact ⟨rfl, trivial⟩ | exact ⟨trivial, trivial⟩)
        · have h7 : inB s.depart 0 4319 = true := by simpa [h6] using h7
          simp only [h6, h7, Bool.not_true, Bool.false_or, Bool.false_eq_true, if_false] at hp
          have he : (decide (0 < k) && decide ((k : Int) < l.length - 1) && decide (s.depart < s.arrive)) = (bif bif decide (0 < (k : Int)) then decide ((k : Int) < (l.length : Int) - 1) else false then decide (s.depart < s.arrive) else false) := by
            rw [show decide (0 < k) = decide (0 < (k : Int)) from by rw [Bool.eq_iff_iff]; simp]
            cases decide (0 < (k : Int)) <;> cases decide ((k : Int) < (l.length : Int) - 1) <;> rfl
          rw [he] at hp
          (cbv; (try simp only [nc] at *); (try refine Chk.mk (okc) ?_))
          refine ⟨fun h8 => ?_, fun h8 => ?_⟩
          · rw [if_pos h8, if_pos (by decide)] at hp
            subst hp
            (cbv; (try simp only [nc] at *); (try refine Chk.mk (okc) ?_))
            (try first | exact ⟨rfl, trivial⟩ | exact ⟨trivial, trivial⟩)
          · simp only [h8, Bool.false_eq_true, if_false, ne_eq, not_true_eq_false] at hp
            (cbv; (try simp only [nc] at *); (try refine Chk.mk (okc) ?_))
            refine ⟨k + 1, ⟨by omega, by rw [← hp]; congr 1; omega⟩, by show l.length - (k + 1) + 0 < l.length - k + 0; omega, ?_⟩
            (refine To.of [] ?_; cbv; (try simp only [nc]); (repeat' (first | exact trivial | exact WkN.refl _ | exact WkB.refl _ | refine ⟨?_, ?_⟩ | refine WkB.cells ?_ | refine WkN.agg ?_ | refine WkN.tup ?_)); (all_goals (first | exact okt | skip)))
      · have h6 : inB s.arrive 0 4319 = false := by simpa using h6
        simp only [h6, Bool.not_false, Bool.true_or, if_true] at hp
        rw [if_pos (by decide)] at hp
        subst hp
        (cbv; (try simp only [nc] at *); (try refine Chk.mk (okc) ?_))
        refine Br.isT (by rfl) ?_
        (cbv; (try simp only [nc] at *); (try refine Chk.mk (okc) ?_))
        (try first | exact ⟨rfl, trivial⟩ | exact ⟨trivial, trivial⟩)
  · simp only [decide_eq_false_iff_not] at hb
    rw [show l.length - i = 0 by omega, firstErr] at hp
    subst hp
    (cbv; (try simp only [nc] at *); (try refine Chk.mk (okc) ?_))
    (try first | exact ⟨rfl, trivial⟩ | exact ⟨trivial, trivial⟩)

theorem c71 (b : Book) (l : List Train) (hz : b.zones.length ≤ 1000000) (hl : l.length ≤ 1000000) (hs : ∀ t ∈ l, t.stops.length ≤ 1000000) : SC (fun _ => Try.prog) 71 [bookA b, lst 3 encTrain default l] [] fun v h => v = .int .i64 (fun _ => chkTrains b.zones.length l) ∧ h = [] := by
  obtain ⟨nt, hnt⟩ := nth_ex
  unfold chkTrains
  generalize hE : (if counted l.length 0 4 ≠ 0 then counted l.length 0 4 else firstErr (chkTrainAt b.zones.length l) 0 l.length) = E
  unfold bookA
  simp only [lst_nt hnt]
  refine con Try.func71 (body := bodyOf Try.f71) rfl (by decide +kernel) ?_
  (cbv; (try simp only [nc] at *); (try refine Chk.mk (okc) ?_))
  refine ⟨fun h2 => ?_, fun h2 => ?_⟩
  · simp only [decide_eq_true_eq] at h2
    rw [show counted l.length 0 4 = 6 by unfold counted; rw [if_neg (by omega), if_pos (by omega)], if_pos (by decide)] at hE
    subst hE
    (cbv; (try simp only [nc] at *); (try refine Chk.mk (okc) ?_))
    (try first | exact ⟨rfl, trivial⟩ | exact ⟨trivial, trivial⟩)
  simp only [decide_eq_false_iff_not] at h2
  rw [show counted l.length 0 4 = 0 by unfold counted; rw [if_neg (by omega), if_neg (by omega)], if_neg (by decide)] at hE
  (cbv; (try simp only [nc] at *); (try refine Chk.mk (okc) ?_))
  refine loopS false false [] [1, 2, 5] [] (fun (i : Nat) => [(5, .int .i64 fun _ => (i : Int))]) (fun _ => []) (fun i => i ≤ l.length ∧ firstErr (chkTrainAt b.zones.length l) i (l.length - i) = E) (fun i => l.length - i + 0) 0 ⟨Nat.zero_le _, by simpa using hE⟩ ?_ ?_
  · (refine To.of [] ?_; cbv; (try simp only [nc]); (repeat' (first | exact trivial | exact WkN.refl _ | exact WkB.refl _ | refine ⟨?_, ?_⟩ | refine WkB.cells ?_ | refine WkN.agg ?_ | refine WkN.tup ?_)); (all_goals (first | exact okt | skip)))
  rintro i ⟨hi, hp⟩
  (cbv; (try simp only [nc] at *); (try refine Chk.mk (okc) ?_))
  refine ⟨fun hb => ?_, fun hb => ?_⟩
  · simp only [decide_eq_true_eq] at hb
    have hil : i < l.length := by omega
    obtain ⟨q, hq⟩ : ∃ q, l.length - i = q + 1 := ⟨l.length - i - 1, by omega⟩
    rw [hq, firstErr] at hp
    have hst := hs _ (nt_mem (d := default) hnt (l := l) (i := i) hil)
    have hct : chkTrainAt b.zones.length l i = if !inB (nt Train default l i).number 1 999 then 1 else if (l.take i).any (fun x => decide (x.number = (nt Train default l i).number)) then 4 else if !inB (nt Train default l i).days 1 127 then 1
      else if counted (nt Train default l i).stops.length 2 4 ≠ 0 then counted (nt Train default l i).stops.length 2 4 else chkStops b.zones.length (nt Train default l i).stops := by unfold chkTrainAt; rw [hnt]; rfl
    (cbv; (try simp only [nc] at *); (try refine Chk.mk (okc) ?_))
    refine call0 (c72 (nt Train default l i).number 1 999) (by first | rfl | (simp only [zoneA, bookA, lst_nt hnt]; rfl)) fun r h₂ hp => ?_
    (try simp only [zoneA, bookA, lst_nt hnt] at hp)
    obtain ⟨rfl, rfl⟩ := hp
    (cbv; try simp only [nc] at *)
    refine ⟨fun h3 => ?_, fun h3 => ?_⟩
    · rw [if_pos h3] at hct
      rw [hct, if_pos (by decide)] at hp
      subst hp
      (cbv; (try simp only [nc] at *); (try refine Chk.mk (okc) ?_))
      (try first | exact ⟨rfl, trivial⟩ | exact ⟨trivial, trivial⟩)
    rw [if_neg (by rw [h3]; exact Bool.false_ne_true)] at hct
    (cbv; (try simp only [nc] at *); (try refine Chk.mk (okc) ?_))
    refine loopQ fun Q hQ => ?_
    refine loopS false false [] [1, 2, 5, 6] [] (fun (k : Nat) => [(6, .int .i64 fun _ => (k : Int))]) (fun _ => []) (fun k => k ≤ i ∧ (l.take k).any (fun x => decide (x.number = (nt Train default l i).number)) = false) (fun k => i - k + 0) 0 ⟨Nat.zero_le _, by simp⟩ ?_ ?_
    · (refine To.of [] ?_; cbv; (try simp only [nc]); (repeat' (first | exact trivial | exact WkN.refl _ | exact WkB.refl _ | refine ⟨?_, ?_⟩ | refine WkB.cells ?_ | refine WkN.agg ?_ | refine WkN.tup ?_)); (all_goals (first | exact okt | skip)))
    rintro k ⟨hk, hp2⟩
    (cbv; (try simp only [nc] at *); (try refine Chk.mk (okc) ?_))
    refine ⟨fun hb => ?_, fun hb => ?_⟩
    · simp only [decide_eq_true_eq] at hb
      have hkl : k < l.length := by omega
      have hat := any_take hnt (q := fun x : Train => decide (x.number = (nt Train default l i).number)) hkl
      rw [hp2, Bool.false_or] at hat
      (cbv; (try simp only [nc] at *); (try refine Chk.mk (okc) ?_))
      simp only [beq_dec]
      refine ⟨fun h4 => ?_, fun h4 => ?_⟩
      · rw [h4] at hat
        have : (l.take i).any (fun x => decide (x.number = (nt Train default l i).number)) = true := by
          rw [List.any_eq_true] at hat ⊢
          obtain ⟨x, hx, h⟩ := hat
          exact ⟨x, List.Sublist.subset (List.take_sublist_take_left (by omega)) hx, h⟩
        rw [if_pos this] at hct
        rw [hct, if_pos (by decide)] at hp
        subst hp
        (cbv; (try simp only [nc] at *); (try refine Chk.mk (okc) ?_))
        refine hQ _ _ _ ?_
        (cbv; (try simp only [nc] at *); (try refine Chk.mk (okc) ?_))
        (try first | exact ⟨rfl, trivial⟩ | exact ⟨trivial, trivial⟩)
      · rw [h4] at hat
        (cbv; (try simp only [nc] at *); (try refine Chk.mk (okc) ?_))
        refine ⟨k + 1, ⟨by omega, hat⟩, by show i - (k + 1) + 0 < i - k + 0; omega, ?_⟩
        (refine To.of [] ?_; cbv; (try simp only [nc]); (repeat' (first | exact trivial | exact WkN.refl _ | exact WkB.refl _ | refine ⟨?_, ?_⟩ | refine WkB.cells ?_ | refine WkN.agg ?_ | refine WkN.tup ?_)); (all_goals (first | exact okt | skip)))
    · simp only [decide_eq_false_iff_not] at hb
      obtain rfl : k = i := by omega
      rw [hp2, if_neg (by exact Bool.false_ne_true)] at hct
      (cbv; (try simp only [nc] at *); (try refine Chk.mk (okc) ?_))
      refine hQ _ _ _ ?_
      clear hQ
      (cbv; (try simp only [nc] at *); (try refine Chk.mk (okc) ?_))
      refine call0 (c72 (nt Train default l (k : Int)).days 1 127) (by first | rfl | (simp only [zoneA, bookA, lst_nt hnt]; rfl)) fun r h₂ hp => ?_
      (try simp only [zoneA, bookA, lst_nt hnt] at hp)
      obtain ⟨rfl, rfl⟩ := hp
      (cbv; try simp only [nc] at *)
      refine ⟨fun h3 => ?_, fun h3 => ?_⟩
      · rw [if_pos h3] at hct
        rw [hct, if_pos (by decide)] at hp
        subst hp
        (cbv; (try simp only [nc] at *); (try refine Chk.mk (okc) ?_))
        (try first | exact ⟨rfl, trivial⟩ | exact ⟨trivial, trivial⟩)
      rw [if_neg (by rw [h3]; exact Bool.false_ne_true)] at hct
      (cbv; (try simp only [nc] at *); (try refine Chk.mk (okc) ?_))
      have k110 := c110 b (nt Train default l (k : Int)).stops hz hst
      rw [bookA_nt hnt] at k110
      refine call0 k110 rfl fun r h₂ hp => ?_
      obtain ⟨rfl, rfl⟩ := hp
      rw [← hct]
      generalize chkTrainAt b.zones.length l k = e at *
      (cbv; try simp only [nc] at *)
      refine ⟨fun h5 => ?_, fun h5 => ?_⟩
      · simp only [bne_iff_ne, ne_eq] at h5
        rw [if_pos h5] at hp
        subst hp
        (cbv; (try simp only [nc] at *); (try refine Chk.mk (okc) ?_))
        (try first | exact ⟨rfl, trivial⟩ | exact ⟨trivial, trivial⟩)
      · simp only [bne_eq_false_iff_eq] at h5
        rw [if_neg (fun h => h h5)] at hp
        (cbv; (try simp only [nc] at *); (try refine Chk.mk (okc) ?_))
        refine ⟨k + 1, ⟨by omega, by rw [← hp]; congr 1; omega⟩, by show l.length - (k + 1) + 0 < l.length - k + 0; omega, ?_⟩
        (refine To.of [] ?_; cbv; (try simp only [nc]); (repeat' (first | exact trivial | exact WkN.refl _ | exact WkB.refl _ | refine ⟨?_, ?_⟩ | refine WkB.cells ?_ | refine WkN.agg ?_ | refine WkN.tup ?_)); (all_goals (first | exact okt | skip)))
  · simp only [decide_eq_false_iff_not] at hb
    rw [show l.length - i = 0 by omega, firstErr] at hp
    subst hp
    (cbv; (try simp only [nc] at *); (try refine Chk.mk (okc) ?_))
    (try first | exact ⟨rfl, trivial⟩ | exact ⟨trivial, trivial⟩)

theorem c25 (b : Book) (hb : BookFit b) : SC (fun _ => Try.prog) 25 [bookA b] [] fun v h => v = .int .i64 (fun _ => Check b) ∧ h = [] := by
  obtain ⟨nt, hnt⟩ := nth_ex
  have hz := hb.zones
  have hc := hb.chs
  unfold Check
  generalize hE : (if counted b.zones.length 1 3 ≠ 0 then _ else _ : Int) = E
  have k1 := c71 b b.old hz hb.old hb.stops.1
  have k2 := c71 b b.new hz hb.new hb.stops.2
  unfold bookA at k1 k2 ⊢
  simp only [lst_nt hnt] at k1 k2 ⊢
  refine con Try.func25 (body := bodyOf Try.f25) rfl (by decide +kernel) ?_
  (cbv; (try simp only [nc] at *); (try refine Chk.mk (okc) ?_))
  refine ⟨fun h1 => ?_, fun h1 => ?_⟩
  · have h1 : b.zones.length = 0 := by simpa using h1
    rw [show counted b.zones.length 1 3 = 7 by unfold counted; rw [if_pos (by omega)], if_pos (by decide)] at hE
    subst hE
    (cbv; (try simp only [nc] at *); (try refine Chk.mk (okc) ?_))
    (try first | exact ⟨rfl, trivial⟩ | exact ⟨trivial, trivial⟩)
  have h1 : ¬ b.zones.length = 0 := by simpa using h1
  (cbv; (try simp only [nc] at *); (try refine Chk.mk (okc) ?_))
  refine ⟨fun h2 => ?_, fun h2 => ?_⟩
  · simp only [decide_eq_true_eq] at h2
    rw [show counted b.zones.length 1 3 = 6 by unfold counted; rw [if_neg (by omega), if_pos (by omega)], if_pos (by decide)] at hE
    subst hE
    (cbv; (try simp only [nc] at *); (try refine Chk.mk (okc) ?_))
    (try first | exact ⟨rfl, trivial⟩ | exact ⟨trivial, trivial⟩)
  simp only [decide_eq_false_iff_not] at h2
  rw [show counted b.zones.length 1 3 = 0 by unfold counted; rw [if_neg (by omega), if_neg (by omega)], if_neg (by decide)] at hE
  generalize hF : firstErr (fun i => checkZone (b.zones.getD i default)) 0 b.zones.length = F at *
  (cbv; (try simp only [nc] at *); (try refine Chk.mk (okc) ?_))
  refine loopQ fun Q hQ => ?_
  refine loopS false false [] [1, 3] [] (fun (i : Nat) => [(3, .int .i64 fun _ => (i : Int))]) (fun _ => []) (fun i => i ≤ b.zones.length ∧ firstErr (fun i => checkZone (b.zones.getD i default)) i (b.zones.length - i) = F) (fun i => b.zones.length - i + 0) 0 ⟨Nat.zero_le _, by simpa using hF⟩ ?_ ?_
  · (refine To.of [] ?_; cbv; (try simp only [nc]); (repeat' (first | exact trivial | exact WkN.refl _ | exact WkB.refl _ | refine ⟨?_, ?_⟩ | refine WkB.cells ?_ | refine WkN.agg ?_ | refine WkN.tup ?_)); (all_goals (first | exact okt | skip)))
  rintro i ⟨hi, hp⟩
  (cbv; (try simp only [nc] at *); (try refine Chk.mk (okc) ?_))
  refine ⟨fun hb => ?_, fun hb => ?_⟩
  · simp only [decide_eq_true_eq] at hb
    obtain ⟨q, hq⟩ : ∃ q, b.zones.length - i = q + 1 := ⟨b.zones.length - i - 1, by omega⟩
    rw [hq, firstErr] at hp
    have hch := hc _ (nt_mem (d := default) hnt (l := b.zones) (i := i) (by omega))
    have hzn : b.zones.getD i default = nt Zone default b.zones i := by rw [hnt]; rfl
    rw [hzn] at hp
    (cbv; (try simp only [nc] at *); (try refine Chk.mk (okc) ?_))
    generalize nt Zone default b.zones i = z at *
    refine call0 (c70 z hch) (by first | rfl | (simp only [zoneA, bookA, lst_nt hnt]; rfl)) fun r h₂ hp => ?_
    (try simp only [zoneA, bookA, lst_nt hnt] at hp)
    obtain ⟨rfl, rfl⟩ := hp
    generalize checkZone z = e at *
    (cbv; try simp only [nc] at *)
    refine ⟨fun h3 => ?_, fun h3 => ?_⟩
    · simp only [bne_iff_ne, ne_eq] at h3
      rw [if_pos h3] at hp
      subst hp
      rw [if_pos h3] at hE
      subst hE
      (cbv; (try simp only [nc] at *); (try refine Chk.mk (okc) ?_))
      refine hQ _ _ _ ?_
      (cbv; (try simp only [nc] at *); (try refine Chk.mk (okc) ?_))
      (try first | exact ⟨rfl, trivial⟩ | exact ⟨trivial, trivial⟩)
    · simp only [bne_eq_false_iff_eq] at h3
      rw [if_neg (fun h => h h3)] at hp
      (cbv; (try simp only [nc] at *); (try refine Chk.mk (okc) ?_))
      refine ⟨i + 1, ⟨by omega, by rw [← hp]; congr 1; omega⟩, by show b.zones.length - (i + 1) + 0 < b.zones.length - i + 0; omega, ?_⟩
      (refine To.of [] ?_; cbv; (try simp only [nc]); (repeat' (first | exact trivial | exact WkN.refl _ | exact WkB.refl _ | refine ⟨?_, ?_⟩ | refine WkB.cells ?_ | refine WkN.agg ?_ | refine WkN.tup ?_)); (all_goals (first | exact okt | skip)))
  simp only [decide_eq_false_iff_not] at hb
  rw [show b.zones.length - i = 0 by omega, firstErr] at hp
  subst hp
  rw [if_neg (fun h => h rfl)] at hE
  (cbv; (try simp only [nc] at *); (try refine Chk.mk (okc) ?_))
  refine hQ _ _ _ ?_
  clear hQ
  generalize chkTrains b.zones.length b.old = e1 at *
  generalize chkTrains b.zones.length b.new = e2 at *
  (cbv; (try simp only [nc] at *); (try refine Chk.mk (okc) ?_))
  refine call0 (k1) (by first | rfl | (simp only [zoneA, bookA, lst_nt hnt]; rfl)) fun r h₂ hp => ?_
  (try simp only [zoneA, bookA, lst_nt hnt] at hp)
  obtain ⟨rfl, rfl⟩ := hp
  (cbv; (try simp only [nc] at *); (try refine Chk.mk (okc) ?_))
  refine ⟨fun h3 => ?_, fun h3 => ?_⟩
  · simp only [bne_iff_ne, ne_eq] at h3
    rw [if_pos h3] at hE
    subst hE
    (cbv; (try simp only [nc] at *); (try refine Chk.mk (okc) ?_))
    (try first | exact ⟨rfl, trivial⟩ | exact ⟨trivial, trivial⟩)
  simp only [bne_eq_false_iff_eq] at h3
  rw [if_neg (fun h => h h3)] at hE
  (cbv; (try simp only [nc] at *); (try refine Chk.mk (okc) ?_))
  refine call0 (k2) (by first | rfl | (simp only [zoneA, bookA, lst_nt hnt]; rfl)) fun r h₂ hp => ?_
  (try simp only [zoneA, bookA, lst_nt hnt] at hp)
  obtain ⟨rfl, rfl⟩ := hp
  (cbv; (try simp only [nc] at *); (try refine Chk.mk (okc) ?_))
  refine ⟨fun h4 => ?_, fun h4 => ?_⟩
  · simp only [bne_iff_ne, ne_eq] at h4
    rw [if_pos h4] at hE
    subst hE
    (cbv; (try simp only [nc] at *); (try refine Chk.mk (okc) ?_))
    (try first | exact ⟨rfl, trivial⟩ | exact ⟨trivial, trivial⟩)
  simp only [bne_eq_false_iff_eq] at h4
  rw [if_neg (fun h => h h4)] at hE
  (cbv; (try simp only [nc] at *); (try refine Chk.mk (okc) ?_))
  have k67 := c72 b.last 0 13
  rcases hI : inB b.last 0 13 with _ | _
  · rw [hI] at k67 hE
    simp only [Bool.not_false, Bool.true_or, if_true] at hE
    subst hE
    refine call0 (k67) (by first | rfl | (simp only [zoneA, bookA, lst_nt hnt]; rfl)) fun r h₂ hp => ?_
    (try simp only [zoneA, bookA, lst_nt hnt] at hp)
    obtain ⟨rfl, rfl⟩ := hp
    (cbv; try simp only [nc] at *)
    refine Chk.mk (by simp [allc0, allcI, allc1, Cn.p]) ?_
    refine Br.isF (by rfl) ?_
    (cbv; (try simp only [nc] at *); (try refine Chk.mk (okc) ?_))
    refine Br.isT (by rfl) ?_
    (cbv; (try simp only [nc] at *); (try refine Chk.mk (okc) ?_))
    (try first | exact ⟨rfl, trivial⟩ | exact ⟨trivial, trivial⟩)
  · have hlast : 0 ≤ b.last ∧ b.last ≤ 13 := by simpa [inB] using hI
    rw [hI] at k67 hE
    simp only [Bool.not_true, Bool.false_or] at hE
    refine call0 (k67) (by first | rfl | (simp only [zoneA, bookA, lst_nt hnt]; rfl)) fun r h₂ hp => ?_
    (try simp only [zoneA, bookA, lst_nt hnt] at hp)
    obtain ⟨rfl, rfl⟩ := hp
    (cbv; (try simp only [nc] at *); (try refine Chk.mk (okc) ?_))
    refine Br.isT (by rfl) ?_
    (cbv; (try simp only [nc] at *); (try refine Chk.mk (okc) ?_))
    refine call0 (c72 b.night 0 (b.last + 1)) (by first | rfl | (simp only [zoneA, bookA, lst_nt hnt]; rfl)) fun r h₂ hp => ?_
    (try simp only [zoneA, bookA, lst_nt hnt] at hp)
    obtain ⟨rfl, rfl⟩ := hp
    (cbv; (try simp only [nc] at *); (try refine Chk.mk (okc) ?_))
    refine ⟨fun hb' => ?_, fun hb' => ?_⟩
    · have hb' : inB b.night 0 (b.last + 1) = false := by simpa using hb'
      rw [if_pos (by simp [hb'])] at hE
      subst hE
      (cbv; (try simp only [nc] at *); (try refine Chk.mk (okc) ?_))
      (try first | exact ⟨rfl, trivial⟩ | exact ⟨trivial, trivial⟩)
    · have hb' : inB b.night 0 (b.last + 1) = true := by simpa using hb'
      rw [if_neg (by simp [hb'])] at hE
      subst hE
      (cbv; (try simp only [nc] at *); (try refine Chk.mk (okc) ?_))
      (try first | exact ⟨rfl, trivial⟩ | exact ⟨trivial, trivial⟩)
end Go.Proofs.Ytlcgliadpalgfaa.Vm

/- Contracts: the reference's timetables and runs. -/
namespace Go.Proofs.Ytlcgliadpalgfaa.Vm
open Go Go.Proofs Sp
set_option maxRecDepth 100000
set_option maxHeartbeats 1600000

theorem hour_lt : ∀ (l : List Chg) (fr a r t : Int), (∀ p ∈ pcsGo fr a l, p.fr < openT ∧ r - p.ahd < openT) → t < openT → hour (pcsGo fr a l) r t < openT
  | [], fr, a, r, t, h, ht => by
    have := h ⟨fr, openT, a⟩ (by simp [pcsGo])
    simp only [pcsGo, hour] at *
    rw [if_pos (by omega)]
    omega
  | c :: l, fr, a, r, t, h, ht => by
    unfold pcsGo at h ⊢
    split
    · rename_i hc
      rw [if_pos hc] at h
      unfold hour
      split
      · have := h ⟨fr, c.at_, a⟩ (List.mem_cons_self ..)
        simp only at this ⊢
        omega
      · exact hour_lt l _ _ _ _ (fun p hp => h p (List.mem_cons_of_mem _ hp)) ht
    · rename_i hc
      rw [if_neg hc] at h
      exact hour_lt l _ _ _ _ h ht
theorem hour_nn : ∀ (l : List Pc) (r t : Int), 0 ≤ t → 0 ≤ hour l r t
  | [], _, _, _ => by unfold hour openT; omega
  | p :: l, r, t, h => by
    unfold hour
    split
    · omega
    · exact hour_nn l r t h
theorem hour_fit {z : Zone} (hz : checkZone z = 0) {r t : Int} (hr : r ≤ 1000000) (ht : 0 ≤ t ∧ t < openT) : 0 ≤ hour (pieces z) r t ∧ hour (pieces z) r t < openT := by
  refine ⟨hour_nn _ _ _ ht.1, hour_lt _ _ _ _ _ (fun p hp => ?_) ht.2⟩
  have := (pieces_bd hz).2 p hp
  unfold openT
  omega

end Go.Proofs.Ytlcgliadpalgfaa.Vm

/- Contracts: the reference's days and runs; whether books are equal. -/
namespace Go.Proofs.Ytlcgliadpalgfaa.Vm
open Go Go.Proofs Sp
set_option maxRecDepth 100000
set_option maxHeartbeats 1600000

theorem place_rng (l : List Train) (n : Int) : place l n = -1 ∨ 0 ≤ place l n ∧ place l n < l.length := by
  have := indexFrom_lt (q := fun t : Train => decide (t.number = n)) (l := l) (i := 0) (by omega)
  rcases Nat.eq_zero_or_pos l.length with h | h
  · rw [List.eq_nil_of_length_eq_zero h]; exact .inl rfl
  · unfold place; omega

end Go.Proofs.Ytlcgliadpalgfaa.Vm

/- All clocks ahead by as much more, and all printed hours later by as much: all runs are the same. -/
namespace Go.Proofs.Ytlcgliadpalgfaa.Vm
open Go Go.Proofs Sp

def shZ (d : Int) (z : Zone) : Zone := ⟨z.base + d, z.chs⟩
def shB (d : Int) (b : Book) : Book := ⟨b.zones.map (shZ d), b.old.map (laterT d), b.new.map (laterT d), b.night, b.last⟩

theorem pcs_sh (d : Int) : ∀ (l : List Chg) (fr a : Int), pcsGo fr (a + d) l = (pcsGo fr a l).map fun p => ⟨p.fr, p.bef, p.ahd + d⟩
  | [], fr, a => rfl
  | c :: r, fr, a => by
    simp only [pcsGo]
    rw [show a + d + c.by_ = a + c.by_ + d from by omega]
    split
    · rw [pcs_sh d r]; rfl
    · rw [pcs_sh d r]
theorem pieces_sh (d : Int) (z : Zone) : pieces (shZ d z) = (pieces z).map fun p => ⟨p.fr, p.bef, p.ahd + d⟩ := pcs_sh d z.chs 0 z.base
theorem hour_sh (d : Int) : ∀ (l : List Pc) (r a : Int), hour (l.map fun p => ⟨p.fr, p.bef, p.ahd + d⟩) (r + d) a = hour l r a
  | [], r, a => rfl
  | p :: l, r, a => by
    simp only [List.map_cons, hour]
    rw [show r + d - (p.ahd + d) = r - p.ahd from by omega, hour_sh d l]

theorem getD_sh {zs : List Zone} {k : Nat} (d : Int) (hk : k < zs.length) : (zs.map (shZ d)).getD k default = shZ d (zs.getD k default) := by
  simp [List.getD_eq_getElem?_getD, List.getElem?_map, List.getElem?_eq_getElem hk]

theorem callsGo_sh (d : Int) (zs : List Zone) (day : Int) (many : Nat) : ∀ (l : List Stop) (i : Nat) (now : Int), (∀ s ∈ l, s.zone.toNat < zs.length) → callsGo (zs.map (shZ d)) day many i now (l.map (laterS d)) = callsGo zs day many i now l
  | [], i, now, _ => rfl
  | s :: r, i, now, h => by
    have hs := h s (List.mem_cons_self ..)
    have ih := fun i now => callsGo_sh d zs day many r i now fun x hx => h x (List.mem_cons_of_mem _ hx)
    have e : ∀ m t, hour (pieces ((zs.map (shZ d)).getD s.zone.toNat default)) (1440 * day + (m + d)) t = hour (pieces (zs.getD s.zone.toNat default)) (1440 * day + m) t := fun m t => by
      rw [getD_sh d hs, pieces_sh, ← Int.add_assoc, hour_sh]
    simp only [List.map_cons, callsGo, laterS, e, ih]

theorem calls_sh (d : Int) (zs : List Zone) (t : Train) (day : Int) (h : ∀ s ∈ t.stops, s.zone.toNat < zs.length) : calls (zs.map (shZ d)) (laterT d t) day = calls zs t day := by
  unfold calls laterT
  simp only [List.length_map]
  exact callsGo_sh d zs day _ _ _ _ h

theorem indexFrom_map {α : Type} (f : α → α) (q : α → Bool) (hq : ∀ a, q (f a) = q a) : ∀ (l : List α) (i : Int), indexFrom q i (l.map f) = indexFrom q i l
  | [], i => rfl
  | a :: l, i => by simp only [List.map_cons, indexFrom, hq, indexFrom_map f q hq l]

theorem run_sh (d : Int) {b : Book} (hb : Check b = 0) (hx : Check (shB d b) = 0) (n day : Int) : Run (shB d b) n day = Run b n day := by
  have hok := book_ok hb
  have htab := (table_ok hok day).2
  have ht : table (shB d b) day = (table b day).map (laterT d) := by unfold table shB; simp only; split <;> rfl
  have hp : place ((table b day).map (laterT d)) n = place (table b day) n := indexFrom_map (laterT d) (fun t => decide (t.number = n)) (fun _ => rfl) _ _
  unfold Run
  rw [hb, hx, ht, hp]
  show (if _ then _ else if !inB day 0 b.last then _ else _) = _
  split
  · rfl
  split
  · rfl
  split
  · rfl
  · rename_i hpl
    have hlt : (place (table b day) n).toNat < (table b day).length := by
      rcases place_rng (table b day) n with h | h
      · rw [h] at hpl; omega
      · omega
    have e : ((table b day).map (laterT d)).getD (place (table b day) n).toNat default = laterT d ((table b day).getD (place (table b day) n).toNat default) := by
      simp [List.getD_eq_getElem?_getD, List.getElem?_map, List.getElem?_eq_getElem hlt]
    rw [e]
    have hmem : (table b day).getD (place (table b day) n).toNat default ∈ table b day := by
      rw [List.getD_eq_getElem?_getD, List.getElem?_eq_getElem hlt]
      exact List.getElem_mem _
    have e2 : starts (laterT d ((table b day).getD (place (table b day) n).toNat default)) day = starts ((table b day).getD (place (table b day) n).toNat default) day := rfl
    rw [e2]
    split
    · rfl
    · rw [show (shB d b).zones = b.zones.map (shZ d) from rfl, calls_sh d _ _ _ fun s hs => ?_]
      have := ((htab _ hmem).stops s hs).zone
      omega

theorem fit_sh {d : Int} {b : Book} (h : BookFit b) : BookFit (shB d b) := by
  refine ⟨by simpa [shB] using h.zones, by simpa [shB] using h.old, by simpa [shB] using h.new, fun z hz => ?_, fun t ht => ?_, fun t ht => ?_⟩
  · obtain ⟨y, hy, rfl⟩ := List.mem_map.1 hz
    exact h.chs y hy
  · obtain ⟨y, hy, rfl⟩ := List.mem_map.1 ht
    simpa [laterT] using h.stops.1 y hy
  · obtain ⟨y, hy, rfl⟩ := List.mem_map.1 ht
    simpa [laterT] using h.stops.2 y hy

/-- The first elements are other ones. -/
def mapK {α : Type} (f : α → α) (k : Nat) (l : List α) : List α := (l.take k).map f ++ l.drop k
section
variable {nt : (α : Type) → α → List α → Int → α} (hnt : ∀ (α : Type) (d : α) (l : List α) (i : Int), nt α d l i = l.getD i.toNat d) {α : Type} {d : α} {f : α → α} {l : List α}
theorem mapK_len (k : Nat) : (mapK f k l).length = l.length := by simp only [mapK, List.length_append, List.length_map, List.length_take, List.length_drop]; omega
theorem mapK_zero : mapK f 0 l = l := by simp [mapK]
theorem mapK_all : mapK f l.length l = l.map f := by simp [mapK]
include hnt
theorem mapK_get {k j : Nat} (hj : j < l.length) : nt α d (mapK f k l) (j : Int) = if j < k then f (nt α d l (j : Int)) else nt α d l (j : Int) := by
  rw [hnt, hnt]
  simp only [mapK, Int.toNat_natCast, List.getD_eq_getElem?_getD]
  by_cases h : j < k
  · rw [if_pos h, List.getElem?_append_left (by simp; omega), List.getElem?_map, List.getElem?_take, if_pos h, List.getElem?_eq_getElem hj]
    rfl
  · rw [if_neg h, List.getElem?_append_right (by simp; omega), List.getElem?_drop]
    simp only [List.length_map, List.length_take]
    rw [show k + (j - min k l.length) = j from by omega]
theorem map_get {j : Nat} (hj : j < l.length) : nt α d (l.map f) (j : Int) = f (nt α d l (j : Int)) := by
  rw [← mapK_all, mapK_get hnt hj, if_pos hj]
theorem mapK_set {k : Nat} (hk : k < l.length) : (mapK f k l).set k (f (nt α d (mapK f k l) (k : Int))) = mapK f (k + 1) l := by
  rw [mapK_get hnt hk, if_neg (by omega)]
  apply List.ext_getElem?
  intro j
  rw [hnt, Int.toNat_natCast, List.getD_eq_getElem?_getD, List.getElem?_eq_getElem hk, Option.getD_some, List.getElem?_set, mapK_len]
  simp only [mapK, List.getElem?_append, List.length_map, List.length_take, List.getElem?_map, List.getElem?_take, List.getElem?_drop]
  by_cases h1 : k = j
  · subst h1
    rw [if_pos rfl, if_pos hk, if_pos (by omega), if_pos (by omega), List.getElem?_eq_getElem hk]
    rfl
  · rw [if_neg h1]
    by_cases h2 : j < k
    · rw [if_pos (by omega), if_pos (by omega), if_pos (by omega), if_pos (by omega)]
    · rw [if_neg (by omega), if_neg (by omega), show k + (j - min k l.length) = j from by omega, show k + 1 + (j - min (k + 1) l.length) = j from by omega]
end
end Go.Proofs.Ytlcgliadpalgfaa.Vm

/- Contracts: trains and books made of numbers, their stops in arrays that may be written. -/
namespace Go.Proofs.Ytlcgliadpalgfaa.Vm
open Go Go.Proofs Sp
set_option maxRecDepth 100000
set_option maxHeartbeats 1600000

theorem c59N {nt : (α : Type) → α → List α → Int → α} (hnt : ∀ (α : Type) (d : α) (l : List α) (i : Int), nt α d l i = l.getD i.toNat d) (s zones number : Int) (st : Nat) (hz : 1 ≤ zones ∧ zones ≤ 1000) (hs : 2 ≤ st ∧ st ≤ 10) : SC (fun _ => Try.prog) 59 [.ptr 0 0, .int .i64 fun _ => zones, .int .i64 fun _ => number, .int .i64 fun _ => (st : Int)] [bagB s] fun v h => ∃ (t : Train) (s' : Int), TMade zones st number t ∧ v = .agg [.int .i64 fun _ => t.number, .int .i64 fun _ => t.days, .gsl 1 fun _ => (t.stops.length : Int)] ∧ h = [bagB s', .gar 4 (fun _ => (t.stops.length : Int)) (fun e => encStop (nt Stop default t.stops (e ())))] := by
  refine SC.less (conN false [] [3] Try.func59 (body := bodyOf Try.f59) rfl (by decide +kernel) ?_)
  (cbv; (try simp only [nc] at *); (try refine Chk.mk (okc) ?_))
  refine callL [0] (c22 s 1 127 (by omega) (by omega)) (by decide) (by simp) (by first | rfl | (simp only [zoneA, bookA, lst_nt hnt]; rfl)) (by first | rfl | (simp only [zoneA, bookA, lst_nt hnt]; rfl)) fun r h₂ hp => ?_
  (try simp only [zoneA, bookA, lst_nt hnt] at hp)
  obtain ⟨d0, s1, hd0, rfl, rfl⟩ := hp
  (cbv; (try simp only [nc] at *); (try refine Chk.mk (okc) ?_))
  refine callL [0] (c81L s1 [127, 127, d0] (by simp)) (by decide) (by simp) (by first | rfl | (simp only [zoneA, bookA, lst_nt hnt]; rfl)) (by first | rfl | (simp only [zoneA, bookA, lst_nt hnt]; rfl)) fun r h₂ hp => ?_
  (try simp only [zoneA, bookA, lst_nt hnt] at hp)
  obtain ⟨d, s2, hd, rfl, rfl⟩ := hp
  have hd : 1 ≤ d ∧ d ≤ 127 := by simp at hd; omega
  (cbv; (try simp only [nc] at *); (try refine Chk.mk (okc) ?_))
  refine callL [0] (c17 s2 1500 (by omega)) (by decide) (by simp) (by first | rfl | (simp only [zoneA, bookA, lst_nt hnt]; rfl)) (by first | rfl | (simp only [zoneA, bookA, lst_nt hnt]; rfl)) fun r h₂ hp => ?_
  (try simp only [zoneA, bookA, lst_nt hnt] at hp)
  obtain ⟨now, s3, hnow, rfl, rfl⟩ := hp
  (cbv; (try simp only [nc] at *); (try refine Chk.mk (okc) ?_))
  refine callL [0] (c105 s3 st (by omega)) (by decide) (by simp) (by first | rfl | (simp only [zoneA, bookA, lst_nt hnt]; rfl)) (by first | rfl | (simp only [zoneA, bookA, lst_nt hnt]; rfl)) fun r h₂ hp => ?_
  (try simp only [zoneA, bookA, lst_nt hnt] at hp)
  obtain ⟨L, s4, hL, rfl, rfl⟩ := hp
  (cbv; (try simp only [nc] at *); (try refine Chk.mk (okc) ?_))
  have hmn : 2 ≤ (if (st : Int) < 4 then (st : Int) else 4) ∧ (if (st : Int) < 4 then (st : Int) else 4) ≤ 4 ∧ (if (st : Int) < 4 then (st : Int) else 4) ≤ st := by split <;> omega
  generalize (if (st : Int) < 4 then (st : Int) else 4) = mn at *
  refine callL [0] (c22 s4 2 mn (by omega) (by omega)) (by decide) (by simp) (by first | rfl | (simp only [zoneA, bookA, lst_nt hnt]; rfl)) (by first | rfl | (simp only [zoneA, bookA, lst_nt hnt]; rfl)) fun r h₂ hp => ?_
  (try simp only [zoneA, bookA, lst_nt hnt] at hp)
  obtain ⟨m, s5, hm, rfl, rfl⟩ := hp
  (cbv; (try simp only [nc] at *); (try refine Chk.mk (okc) ?_))
  obtain ⟨m, rfl⟩ : ∃ k : Nat, m = k := ⟨m.toNat, by omega⟩
  refine loopN false [] [0, 1, 8, 9, 10, 11, 12] [.gar 4 (fun _ => 0) fun _ => []] (fun (⟨i, now, s, out⟩ : Nat × Int × Int × List Stop) => [(10, .int .i64 fun _ => now), (12, .int .i64 fun _ => i)])
    (fun ⟨i, now, s, out⟩ => [(0, bagB s), (2, .cells [.int .i64 fun _ => number, .int .i64 fun _ => d, .gsl 3 (fun _ => (out.length : Int))]), (3, .gar 4 (fun _ => (out.length : Int)) (fun e => encStop (nt Stop default out (e ()))))])
    (fun ⟨i, now, s, out⟩ => i ≤ m ∧ out.length + i = m ∧ (0 ≤ now ∧ now ≤ 1500 + 400 * (out.length : Int)) ∧ (∀ x ∈ out, (0 ≤ x.station ∧ x.station < st) ∧ (0 ≤ x.zone ∧ x.zone < zones) ∧ 0 ≤ x.arrive ∧ x.arrive ≤ x.depart ∧ x.depart ≤ 4319) ∧ out.Pairwise (fun a b => a.station ≠ b.station) ∧ ∀ x ∈ out, ∃ j, i ≤ j ∧ j < m ∧ x.station = L.getD j 0) (fun i => i.1 + 0) (m, now, s5, []) ⟨Nat.le_refl _, by simp, by simp; omega, by simp, .nil, by simp⟩ ?_ ?_
  · (refine To.of [(4,true)] ?_; cbv; (try simp only [nc]); (repeat' (first | exact trivial | exact WkN.refl _ | exact WkB.refl _ | refine ⟨?_, ?_⟩ | refine WkB.cells ?_ | refine WkN.agg ?_ | refine WkN.tup ?_)); (all_goals (first | exact okt | skip)))
    exact .gar rfl fun i hi => absurd hi (by simp)
  rintro ⟨i, now, s, out⟩ ⟨hi, hlen, hnow, hall, hpw, hst⟩
  (cbv; (try simp only [nc] at *); (try refine Chk.mk (okc) ?_))
  refine ⟨fun hb => ?_, fun hb => ?_⟩
  · simp only [decide_eq_true_eq] at hb
    have hLi := hL.bd (i - 1) (by omega)
    have hLn : nt Int 0 L ((i : Int) - 1) = L.getD (i - 1) 0 := by rw [hnt]; congr 1; omega
    have hLl := hL.len
    (cbv; (try simp only [nc] at *); (try refine Chk.mk (okc) ?_))
    apply Both.join2 (P := fun (z s6 : Int) => 0 ≤ z ∧ (z ≤ zones - 1 ∨ z = 0))
    · intro M
      refine callL [0] (c17 s (zones - 1) (by omega)) (by decide) (by simp) (by first | rfl | (simp only [zoneA, bookA, lst_nt hnt]; rfl)) (by first | rfl | (simp only [zoneA, bookA, lst_nt hnt]; rfl)) fun r h₂ hp => ?_
      (try simp only [zoneA, bookA, lst_nt hnt] at hp)
      obtain ⟨z, s6, hz', rfl, rfl⟩ := hp
      (cbv; (try simp only [nc] at *); (try refine Chk.mk (okc) ?_))
      exact M z s6 hz'
    · intro M
      (cbv; (try simp only [nc] at *); (try refine Chk.mk (okc) ?_))
      refine callL [0] (c17 s (zones - 1) (by omega)) (by decide) (by simp) (by first | rfl | (simp only [zoneA, bookA, lst_nt hnt]; rfl)) (by first | rfl | (simp only [zoneA, bookA, lst_nt hnt]; rfl)) fun r h₂ hp => ?_
      (try simp only [zoneA, bookA, lst_nt hnt] at hp)
      obtain ⟨z, s6, hz', rfl, rfl⟩ := hp
      (cbv; (try simp only [nc] at *); (try refine Chk.mk (okc) ?_))
      exact M z s6 hz'
    intro z s6 hz'
    rw [hLn]
    have ha1 : 0 ≤ (if now < 4319 then now else 4319) ∧ (if now < 4319 then now else 4319) ≤ 4319 ∧ (if now < 4319 then now else 4319) ≤ now := by split <;> omega
    generalize ha : (if now < 4319 then now else 4319) = a at *
    refine callL [0] (c17 s6 30 (by omega)) (by decide) (by simp) (by first | rfl | (simp only [zoneA, bookA, lst_nt hnt]; rfl)) (by first | rfl | (simp only [zoneA, bookA, lst_nt hnt]; rfl)) fun r h₂ hp => ?_
    (try simp only [zoneA, bookA, lst_nt hnt] at hp)
    obtain ⟨x, s7, hx, rfl, rfl⟩ := hp
    (cbv; (try simp only [nc] at *); (try refine Chk.mk (okc) ?_))
    refine callL [0] (c81L s7 [0, x] (by simp)) (by decide) (by simp) (by first | rfl | (simp only [zoneA, bookA, lst_nt hnt]; rfl)) (by first | rfl | (simp only [zoneA, bookA, lst_nt hnt]; rfl)) fun r h₂ hp => ?_
    (try simp only [zoneA, bookA, lst_nt hnt] at hp)
    obtain ⟨y, s8, hy, rfl, rfl⟩ := hp
    have hy : 0 ≤ y ∧ y ≤ 30 := by simp at hy; omega
    (cbv; (try simp only [nc] at *); (try refine Chk.mk (okc) ?_))
    have hb1 : 0 ≤ (if now + y < 4319 then now + y else 4319) ∧ (if now + y < 4319 then now + y else 4319) ≤ 4319 ∧ a ≤ (if now + y < 4319 then now + y else 4319) := by subst ha; split <;> split <;> omega
    generalize (if now + y < 4319 then now + y else 4319) = dd at *
    refine callL [0] (c22 s8 10 300 (by omega) (by omega)) (by decide) (by simp) (by first | rfl | (simp only [zoneA, bookA, lst_nt hnt]; rfl)) (by first | rfl | (simp only [zoneA, bookA, lst_nt hnt]; rfl)) fun r h₂ hp => ?_
    (try simp only [zoneA, bookA, lst_nt hnt] at hp)
    obtain ⟨q, s9, hq, rfl, rfl⟩ := hp
    (cbv; (try simp only [nc] at *); (try refine Chk.mk (okc) ?_))
    obtain ⟨j, rfl⟩ : ∃ j, i = j + 1 := ⟨i - 1, by omega⟩
    refine ⟨(j, now + y + q, s9, out ++ [⟨L.getD j 0, z, a, dd⟩]), ⟨by omega, by simp only [List.length_append, List.length_cons, List.length_nil]; omega, by simp only [List.length_append, List.length_cons, List.length_nil]; omega, ?_, ?_, ?_⟩, by show j + 0 < j + 1 + 0; omega, ?_⟩
    · intro x hx
      rcases List.mem_append.1 hx with hx | hx
      · exact hall x hx
      · simp only [List.mem_singleton] at hx
        subst hx
        simp only [Nat.add_sub_cancel] at hLi
        dsimp only
        omega
    · refine List.pairwise_append.2 ⟨hpw, List.pairwise_singleton _ _, fun c hc e he => ?_⟩
      simp only [List.mem_singleton] at he
      subst he
      obtain ⟨k, hk1, hk2, hk3⟩ := hst c hc
      dsimp only
      rw [hk3]
      intro e
      have := hL.inj _ _ (by omega) (by omega) e
      omega
    · intro x hx
      rcases List.mem_append.1 hx with hx | hx
      · obtain ⟨k, hk1, hk2, hk3⟩ := hst x hx
        exact ⟨k, by omega, hk2, hk3⟩
      · simp only [List.mem_singleton] at hx
        subst hx
        exact ⟨j, by omega, by omega, rfl⟩
    · (refine To.of [] ?_; cbv; (try simp only [nc]); (repeat' (first | exact trivial | exact WkN.refl _ | exact WkB.refl _ | refine ⟨?_, ?_⟩ | refine WkB.cells ?_ | refine WkN.agg ?_ | refine WkN.tup ?_)); (all_goals (first | exact okt | skip)))
  · simp only [decide_eq_false_iff_not] at hb
    (cbv; (try simp only [nc] at *); (try refine Chk.mk (okc) ?_))
    refine ⟨_, _, ?_, ⟨number, d, out⟩, s, ⟨rfl, hd, by dsimp only; omega, hall, hpw⟩, rfl, rfl⟩
    (refine To.of [] ?_; cbv; (try simp only [nc]); (repeat' (first | exact trivial | exact WkN.refl _ | exact WkB.refl _ | refine ⟨?_, ?_⟩ | refine WkB.cells ?_ | refine WkN.agg ?_ | refine WkN.tup ?_)); (all_goals (first | exact okt | skip)))
theorem c15N {nt : (α : Type) → α → List α → Int → α} (hnt : ∀ (α : Type) (d : α) (l : List α) (i : Int), nt α d l i = l.getD i.toNat d) (s trains days : Int) (ht : 1 ≤ trains ∧ trains ≤ 100) (hd : 0 ≤ days ∧ days ≤ 13) : SC (fun _ => Try.prog) 15 [.ptr 0 0, .int .i64 fun _ => trains, .int .i64 fun _ => days] [bagB s] fun v h => ∃ (b : Book) (s' : Int), BMade trains days b ∧ v = .agg [.isl 2 (fun _ => (b.zones.length : Int)) (fun e => encZone (nt Zone default b.zones (e ()))) .none, .gsl 1 (fun _ => (b.old.length : Int)), .gsl 3 (fun _ => (b.new.length : Int)), .int .i64 fun _ => b.night, .int .i64 fun _ => b.last] ∧ h = [bagB s', trB nt 2 b.old, stB nt 4 b.old, trB nt 4 b.new, stB nt 6 b.new] := by
  refine SC.less (conN false [] [4, 5, 6, 7] Try.func15 (body := bodyOf Try.f15) rfl (by decide +kernel) ?_)
  simp only [trB, stB]
  (cbv; (try simp only [nc] at *); (try refine Chk.mk (okc) ?_))
  refine callL [0] (c17 s days (by omega)) (by decide) (by simp) (by first | rfl | (simp only [zoneA, bookA, lst_nt hnt]; rfl)) (by first | rfl | (simp only [zoneA, bookA, lst_nt hnt]; rfl)) fun r h₂ hp => ?_
  (try simp only [zoneA, bookA, lst_nt hnt] at hp)
  obtain ⟨last, s1, hlast, rfl, rfl⟩ := hp
  (cbv; (try simp only [nc] at *); (try refine Chk.mk (okc) ?_))
  refine callL [0] (c22 s1 1 3 (by omega) (by omega)) (by decide) (by simp) (by first | rfl | (simp only [zoneA, bookA, lst_nt hnt]; rfl)) (by first | rfl | (simp only [zoneA, bookA, lst_nt hnt]; rfl)) fun r h₂ hp => ?_
  (try simp only [zoneA, bookA, lst_nt hnt] at hp)
  obtain ⟨m, s2, hm, rfl, rfl⟩ := hp
  (cbv; (try simp only [nc] at *); (try refine Chk.mk (okc) ?_))
  obtain ⟨m, rfl⟩ : ∃ k : Nat, m = k := ⟨m.toNat, by omega⟩
  refine loopQ fun Q hQ => ?_
  refine loopS false false [] [0, 1, 6, 7, 8] [.tok 2 fun _ => 0] (fun (⟨i, s, zs⟩ : Nat × Int × List Zone) => [(8, .int .i64 fun _ => i)])
    (fun ⟨i, s, zs⟩ => [(0, bagB s), (2, .cells [.isl 2 (fun _ => (zs.length : Int)) (fun e => encZone (nt Zone default zs (e ()))) (.own 3), .isl 0 (fun _ => 0) (fun _ => []) .nil, .isl 0 (fun _ => 0) (fun _ => []) .nil, .int .i64 fun _ => 0, .int .i64 fun _ => last]), (3, .tok 2 fun _ => (zs.length : Int))])
    (fun ⟨i, s, zs⟩ => zs.length + i = m ∧ ∀ z ∈ zs, ZMade 2 z) (fun i => i.1 + 0) (m, s2, []) ⟨by simp, by simp⟩ ?_ ?_
  · (refine To.of [(2,false)] ?_; cbv; (try simp only [nc]); (repeat' (first | exact trivial | exact WkN.refl _ | exact WkB.refl _ | refine ⟨?_, ?_⟩ | refine WkB.cells ?_ | refine WkN.agg ?_ | refine WkN.tup ?_)); (all_goals (first | exact okt | skip)))
  rintro ⟨i, s, zs⟩ ⟨hlen, hz⟩
  (cbv; (try simp only [nc] at *); (try refine Chk.mk (okc) ?_))
  refine ⟨fun hb => ?_, fun hb => ?_⟩
  · simp only [decide_eq_true_eq] at hb
    (cbv; (try simp only [nc] at *); (try refine Chk.mk (okc) ?_))
    refine callL [0] (c29 s 2 (by omega)) (by decide) (by simp) (by first | rfl | (simp only [zoneA, bookA, lst_nt hnt]; rfl)) (by first | rfl | (simp only [zoneA, bookA, lst_nt hnt]; rfl)) fun r h₂ hp => ?_
    (try simp only [zoneA, bookA, lst_nt hnt] at hp)
    obtain ⟨z, s3, hz3, rfl, rfl⟩ := hp
    (cbv; (try simp only [nc] at *); (try refine Chk.mk (okc) ?_))
    obtain ⟨j, rfl⟩ : ∃ j, i = j + 1 := ⟨i - 1, by omega⟩
    refine ⟨(j, s3, zs ++ [z]), ⟨by simp only [List.length_append, List.length_cons, List.length_nil]; omega, fun x hx => ?_⟩, by show j + 0 < j + 1 + 0; omega, ?_⟩
    · rcases List.mem_append.1 hx with hx | hx
      · exact hz x hx
      · simp only [List.mem_singleton] at hx
        subst hx
        exact hz3
    · (refine To.of [] ?_; cbv; (try simp only [nc]); (repeat' (first | exact trivial | exact WkN.refl _ | exact WkB.refl _ | refine ⟨?_, ?_⟩ | refine WkB.cells ?_ | refine WkN.agg ?_ | refine WkN.tup ?_)); (all_goals (first | exact okt | skip)))
  · simp only [decide_eq_false_iff_not] at hb
    (cbv; (try simp only [nc] at *); (try refine Chk.mk (okc) ?_))
    refine hQ _ _ _ ?_
    clear hQ
    have hzl : 1 ≤ zs.length ∧ zs.length ≤ 3 := by omega
    (cbv; (try simp only [nc] at *); (try refine Chk.mk (okc) ?_))
    refine callL [0] (c17 s (trains - 1) (by omega)) (by decide) (by simp) (by first | rfl | (simp only [zoneA, bookA, lst_nt hnt]; rfl)) (by first | rfl | (simp only [zoneA, bookA, lst_nt hnt]; rfl)) fun r h₂ hp => ?_
    (try simp only [zoneA, bookA, lst_nt hnt] at hp)
    obtain ⟨n, s4, hn, rfl, rfl⟩ := hp
    (cbv; (try simp only [nc] at *); (try refine Chk.mk (okc) ?_))
    obtain ⟨n, rfl⟩ : ∃ k : Nat, n = k := ⟨n.toNat, by omega⟩
    refine loopQ fun Q hQ => ?_
    refine loopN false [] [0, 1, 6, 7, 9] (nestB 4 3 4) (fun (⟨i, s, ts⟩ : Nat × Int × List Train) => [(9, .int .i64 fun _ => i)])
      (fun ⟨i, s, ts⟩ => [(0, bagB s), (2, .cells [.isl 2 (fun _ => (zs.length : Int)) (fun e => encZone (nt Zone default zs (e ()))) (.own 3), .gsl 4 (fun _ => (ts.length : Int)), .isl 0 (fun _ => 0) (fun _ => []) .nil, .int .i64 fun _ => 0, .int .i64 fun _ => last]),
        (4, .vgar 3 (fun _ => (ts.length : Int)) (fun e => encTrH 5 (nt Train default ts (e ())) e)), (5, .fam 4 4 (fun _ => (ts.length : Int)) (fun e _ => ((nt Train default ts (e ())).stops.length : Int)) (fun e k => encStop (nt Stop default (nt Train default ts (e ())).stops (k ()))))])
      (fun ⟨i, s, ts⟩ => ts.length + i = n + 1 ∧ LMade zs.length ((n : Int) + 1) ts) (fun i => i.1 + 0) (n + 1, s4, []) ⟨by simp, ⟨fun k t h => by simp at h⟩⟩ ?_ ?_
    · (refine To.nest 3 4 ?_; cbv; (try simp only [nc]); (repeat' (first | exact trivial | exact WkN.refl _ | exact WkB.refl _ | refine ⟨?_, ?_⟩ | refine WkB.cells ?_ | refine WkN.agg ?_ | refine WkN.tup ?_)); (all_goals (first | exact okt | skip)))
      · refine .vgar0 ?_ ?_ <;> simp
      · refine .fam0 ?_ ?_ <;> simp
    rintro ⟨i, s, ts⟩ ⟨hlen, hts⟩
    (cbv; (try simp only [nc] at *); (try refine Chk.mk (okc) ?_))
    refine ⟨fun hb => ?_, fun hb => ?_⟩
    · simp only [decide_eq_true_eq] at hb
      (cbv; (try simp only [nc] at *); (try refine Chk.mk (okc) ?_))
      refine callL [0] (c59N hnt s (zs.length : Int) (i : Int) 4 (by omega) (by omega)) (by decide) (by simp) (by first | rfl | (simp only [zoneA, bookA, lst_nt hnt]; rfl)) (by first | rfl | (simp only [zoneA, bookA, lst_nt hnt]; rfl)) fun r h₂ hp => ?_
      (try simp only [zoneA, bookA, lst_nt hnt] at hp)
      obtain ⟨t, s5, ht5, rfl, rfl⟩ := hp
      (cbv; (try simp only [nc] at *); (try refine Chk.mk (okc) ?_))
      obtain ⟨j, rfl⟩ : ∃ j, i = j + 1 := ⟨i - 1, by omega⟩
      refine ⟨(j, s5, ts ++ [t]), ⟨by simp only [List.length_append, List.length_cons, List.length_nil]; omega, hts.snoc (by rw [show (n : Int) + 1 - (ts.length : Int) = ((j + 1 : Nat) : Int) by omega]; exact ht5)⟩, by show j + 0 < j + 1 + 0; omega, ?_⟩
      (refine To.of [] ?_; cbv; (try simp only [nc]); (repeat' (first | exact trivial | exact WkN.refl _ | exact WkB.refl _ | refine ⟨?_, ?_⟩ | refine WkB.cells ?_ | refine WkN.agg ?_ | refine WkN.tup ?_)); (all_goals (first | exact okt | skip)))
      · (refine WkB.snocVT hnt (fun _ _ => rfl) rfl rfl ?_; cbv; (repeat' (first | exact trivial | refine ⟨?_, ?_⟩ | exact WkN.refl _ | exact WkN.nsub rfl (by first | rfl | simp))))
      · refine WkB.snocM (inner := Train.stops) (l := ts) (x := t) hnt rfl rfl rfl fun j hj => rfl
    · simp only [decide_eq_false_iff_not] at hb
      (cbv; (try simp only [nc] at *); (try refine Chk.mk (okc) ?_))
      refine hQ _ _ _ ?_
      clear hQ
      have htl : ts.length = n + 1 := by omega
      (cbv; (try simp only [nc] at *); (try refine Chk.mk (okc) ?_))
      refine callL [0] (c17 s (trains - 1) (by omega)) (by decide) (by simp) (by first | rfl | (simp only [zoneA, bookA, lst_nt hnt]; rfl)) (by first | rfl | (simp only [zoneA, bookA, lst_nt hnt]; rfl)) fun r h₂ hp => ?_
      (try simp only [zoneA, bookA, lst_nt hnt] at hp)
      obtain ⟨n', s6, hn', rfl, rfl⟩ := hp
      (cbv; (try simp only [nc] at *); (try refine Chk.mk (okc) ?_))
      obtain ⟨n', rfl⟩ : ∃ k : Nat, n' = k := ⟨n'.toNat, by omega⟩
      refine loopQ fun Q hQ => ?_
      refine loopN false [] [0, 6, 7, 10] (nestB 6 3 4) (fun (⟨i, s, us⟩ : Nat × Int × List Train) => [(10, .int .i64 fun _ => i)])
        (fun ⟨i, s, us⟩ => [(0, bagB s), (2, .cells [.isl 2 (fun _ => (zs.length : Int)) (fun e => encZone (nt Zone default zs (e ()))) (.own 3), .gsl 4 (fun _ => (ts.length : Int)), .gsl 6 (fun _ => (us.length : Int)), .int .i64 fun _ => 0, .int .i64 fun _ => last]),
          (6, .vgar 3 (fun _ => (us.length : Int)) (fun e => encTrH 7 (nt Train default us (e ())) e)), (7, .fam 6 4 (fun _ => (us.length : Int)) (fun e _ => ((nt Train default us (e ())).stops.length : Int)) (fun e k => encStop (nt Stop default (nt Train default us (e ())).stops (k ()))))])
        (fun ⟨i, s, us⟩ => us.length + i = n' + 1 ∧ LMade zs.length ((n' : Int) + 1) us) (fun i => i.1 + 0) (n' + 1, s6, []) ⟨by simp, ⟨fun k t h => by simp at h⟩⟩ ?_ ?_
      · (refine To.nest 3 4 ?_; cbv; (try simp only [nc]); (repeat' (first | exact trivial | exact WkN.refl _ | exact WkB.refl _ | refine ⟨?_, ?_⟩ | refine WkB.cells ?_ | refine WkN.agg ?_ | refine WkN.tup ?_)); (all_goals (first | exact okt | skip)))
        · refine .vgar0 ?_ ?_ <;> simp
        · refine .fam0 ?_ ?_ <;> simp
      rintro ⟨i, s, us⟩ ⟨hlen', hus⟩
      (cbv; (try simp only [nc] at *); (try refine Chk.mk (okc) ?_))
      refine ⟨fun hb => ?_, fun hb => ?_⟩
      · simp only [decide_eq_true_eq] at hb
        (cbv; (try simp only [nc] at *); (try refine Chk.mk (okc) ?_))
        refine callL [0] (c59N hnt s (zs.length : Int) (i : Int) 4 (by omega) (by omega)) (by decide) (by simp) (by first | rfl | (simp only [zoneA, bookA, lst_nt hnt]; rfl)) (by first | rfl | (simp only [zoneA, bookA, lst_nt hnt]; rfl)) fun r h₂ hp => ?_
        (try simp only [zoneA, bookA, lst_nt hnt] at hp)
        obtain ⟨t, s5, ht5, rfl, rfl⟩ := hp
        (cbv; (try simp only [nc] at *); (try refine Chk.mk (okc) ?_))
        obtain ⟨j, rfl⟩ : ∃ j, i = j + 1 := ⟨i - 1, by omega⟩
        have hnum : (n' : Int) + 1 - (us.length : Int) = ((j + 1 : Nat) : Int) := by omega
        have hend : us.length + 1 + j = n' + 1 := by omega
        have hu : j + 1 ≤ ts.length → ∃ k : Nat, (ts.length : Int) - ((j + 1 : Nat) : Int) = k ∧ TMade zs.length 4 ((n : Int) + 1 - k) (nt Train default ts ((ts.length : Int) - ((j + 1 : Nat) : Int))) := fun h => ⟨ts.length - (j + 1), by omega, by
          rw [show (ts.length : Int) - ((j + 1 : Nat) : Int) = ((ts.length - (j + 1) : Nat) : Int) by omega]
          refine hts.all _ _ ?_
          rw [hnt, Int.toNat_natCast, List.getD_eq_getElem?_getD, List.getElem?_eq_getElem (by omega), Option.getD_some]⟩
        refine ⟨fun hb2 => ?_, fun hb2 => ?_⟩
        · simp only [decide_eq_true_eq] at hb2
          obtain ⟨k, hk, hu⟩ := hu (by omega)
          have hul : ((nt Train default ts ((ts.length : Int) - ((j + 1 : Nat) : Int))).stops.length : Int) ≤ 4 := by have := hu.len; omega
          have hul2 : ((0 : Nat) : Int) + ((nt Train default ts ((ts.length : Int) - ((j + 1 : Nat) : Int))).stops.length : Int) ≤ 1000000 := by omega
          (cbv; (try simp only [nc] at *); (try refine Chk.mk (okc) ?_))
          refine callL [0] (c37 s5 1 2 (by omega)) (by decide) (by simp) (by first | rfl | (simp only [zoneA, bookA, lst_nt hnt]; rfl)) (by first | rfl | (simp only [zoneA, bookA, lst_nt hnt]; rfl)) fun r h₂ hp => ?_
          (try simp only [zoneA, bookA, lst_nt hnt] at hp)
          obtain ⟨bb, s8, rfl, rfl⟩ := hp
          (cbv; (try simp only [nc] at *); (try refine Chk.mk (okc) ?_))
          refine ⟨fun hb3 => ?_, fun hb3 => ?_⟩
          · (cbv; (try simp only [nc] at *); (try refine Chk.mk (okc) ?_))
            refine ⟨(j, s8, us ++ [⟨t.number, t.days, (nt Train default ts ((ts.length : Int) - ((j + 1 : Nat) : Int))).stops⟩]), ⟨by simp only [List.length_append, List.length_cons, List.length_nil]; omega, hus.snoc (by rw [hnum]; exact ht5.with hu)⟩, by show j + 0 < j + 1 + 0; omega, ?_⟩
            (refine To.of [] ?_; cbv; (try simp only [nc]); (repeat' (first | exact trivial | exact WkN.refl _ | exact WkB.refl _ | refine ⟨?_, ?_⟩ | refine WkB.cells ?_ | refine WkN.agg ?_ | refine WkN.tup ?_)); (all_goals (first | exact okt | skip)))
            · (refine WkB.snocVT hnt (fun _ _ => rfl) rfl rfl ?_; cbv; (repeat' (first | exact trivial | refine ⟨?_, ?_⟩ | exact WkN.refl _ | exact WkN.nsub rfl (by first | rfl | simp))))
            · refine WkB.snocM (inner := Train.stops) (l := us) (x := ⟨t.number, t.days, (nt Train default ts ((ts.length : Int) - ((j + 1 : Nat) : Int))).stops⟩) hnt rfl rfl (by simp) fun q hq => ?_
              rw [snocF_ge (len := 0) rfl (Nat.zero_le _)]
              rfl
          · (cbv; (try simp only [nc] at *); (try refine Chk.mk (okc) ?_))
            refine ⟨(j, s8, us ++ [t]), ⟨by simp only [List.length_append, List.length_cons, List.length_nil]; omega, hus.snoc (by rw [hnum]; exact ht5)⟩, by show j + 0 < j + 1 + 0; omega, ?_⟩
            (refine To.of [] ?_; cbv; (try simp only [nc]); (repeat' (first | exact trivial | exact WkN.refl _ | exact WkB.refl _ | refine ⟨?_, ?_⟩ | refine WkB.cells ?_ | refine WkN.agg ?_ | refine WkN.tup ?_)); (all_goals (first | exact okt | skip)))
            · (refine WkB.snocVT hnt (fun _ _ => rfl) rfl rfl ?_; cbv; (repeat' (first | exact trivial | refine ⟨?_, ?_⟩ | exact WkN.refl _ | exact WkN.nsub rfl (by first | rfl | simp))))
            · refine WkB.snocM (inner := Train.stops) (l := us) (x := t) hnt rfl rfl rfl fun q hq => rfl
        · (cbv; (try simp only [nc] at *); (try refine Chk.mk (okc) ?_))
          refine Br.isF rfl ?_
          (cbv; (try simp only [nc] at *); (try refine Chk.mk (okc) ?_))
          refine ⟨(j, s5, us ++ [t]), ⟨by simp only [List.length_append, List.length_cons, List.length_nil]; omega, hus.snoc (by rw [hnum]; exact ht5)⟩, by show j + 0 < j + 1 + 0; omega, ?_⟩
          (refine To.of [] ?_; cbv; (try simp only [nc]); (repeat' (first | exact trivial | exact WkN.refl _ | exact WkB.refl _ | refine ⟨?_, ?_⟩ | refine WkB.cells ?_ | refine WkN.agg ?_ | refine WkN.tup ?_)); (all_goals (first | exact okt | skip)))
          · (refine WkB.snocVT hnt (fun _ _ => rfl) rfl rfl ?_; cbv; (repeat' (first | exact trivial | refine ⟨?_, ?_⟩ | exact WkN.refl _ | exact WkN.nsub rfl (by first | rfl | simp))))
          · refine WkB.snocM (inner := Train.stops) (l := us) (x := t) hnt rfl rfl rfl fun q hq => rfl
      · simp only [decide_eq_false_iff_not] at hb
        (cbv; (try simp only [nc] at *); (try refine Chk.mk (okc) ?_))
        refine hQ _ _ _ ?_
        clear hQ
        (cbv; (try simp only [nc] at *); (try refine Chk.mk (okc) ?_))
        refine callL [0] (c17 s (last + 1) (by omega)) (by decide) (by simp) (by first | rfl | (simp only [zoneA, bookA, lst_nt hnt]; rfl)) (by first | rfl | (simp only [zoneA, bookA, lst_nt hnt]; rfl)) fun r h₂ hp => ?_
        (try simp only [zoneA, bookA, lst_nt hnt] at hp)
        obtain ⟨night, s7, hnight, rfl, rfl⟩ := hp
        (cbv; (try simp only [nc] at *); (try refine Chk.mk (okc) ?_))
        refine ⟨_, _, ?_, ⟨zs, ts, us, night, last⟩, s7, ⟨by dsimp only; omega, hz, by dsimp only; omega, by dsimp only; omega, by dsimp only; rw [htl]; exact hts, by dsimp only; rw [show ((us.length : Int)) = (n' : Int) + 1 by omega]; exact hus, by dsimp only; omega, by dsimp only; omega⟩, rfl, rfl⟩
        (refine To.of [] ?_; cbv; (try simp only [nc]); (repeat' (first | exact trivial | exact WkN.refl _ | exact WkB.refl _ | refine ⟨?_, ?_⟩ | refine WkB.cells ?_ | refine WkN.agg ?_ | refine WkN.tup ?_)); (all_goals (first | exact okt | skip)))
end Go.Proofs.Ytlcgliadpalgfaa.Vm

/- Contracts: equal legs and rides; a number that is folded. -/
namespace Go.Proofs.Ytlcgliadpalgfaa.Vm
open Go Go.Proofs Sp
set_option maxRecDepth 100000
set_option maxHeartbeats 1600000

theorem c65 (l : List Sp.Ride) (hlen : l.length ≤ 100000) : SC (fun _ => Try.prog) 65 [lst 3 encRide default l, lst 3 encRide default l] [] fun v h => v = .bool (fun _ => true) ∧ h = [] := by
  obtain ⟨nt, hnt⟩ := nth_ex
  refine con Try.func65 (body := bodyOf Try.f65) rfl (by decide +kernel) ?_
  simp only [lst_nt hnt]
  (cbv; (try simp only [nc] at *); (try refine Chk.mk (okc) ?_))
  refine Br.isF (by simp) ?_
  (cbv; (try simp only [nc] at *); (try refine Chk.mk (okc) ?_))
  refine loopS false false [] [0, 1, 5] [] (fun (i : Nat) => [(5, .int .i64 fun _ => (i : Int))]) (fun _ => []) (fun i => i ≤ l.length) (fun i => l.length - i + 0) 0 (Nat.zero_le _) ?_ ?_
  · (refine To.of [] ?_; cbv; (try simp only [nc]); (repeat' (first | exact trivial | exact WkN.refl _ | exact WkB.refl _ | refine ⟨?_, ?_⟩ | refine WkB.cells ?_ | refine WkN.agg ?_ | refine WkN.tup ?_)); (all_goals (first | exact okt | skip)))
  intro i hi
  (cbv; (try simp only [nc] at *); (try refine Chk.mk (okc) ?_))
  refine ⟨fun hb => ?_, fun hb => ?_⟩
  · simp only [decide_eq_true_eq] at hb
    (cbv; (try simp only [nc] at *); (try refine Chk.mk (okc) ?_))
    refine Br.isF (by simp) ?_
    (cbv; (try simp only [nc] at *); (try refine Chk.mk (okc) ?_))
    refine ⟨i + 1, by omega, by omega, ?_⟩
    (refine To.of [] ?_; cbv; (try simp only [nc]); (repeat' (first | exact trivial | exact WkN.refl _ | exact WkB.refl _ | refine ⟨?_, ?_⟩ | refine WkB.cells ?_ | refine WkN.agg ?_ | refine WkN.tup ?_)); (all_goals (first | exact okt | skip)))
  · (cbv; (try simp only [nc] at *); (try refine Chk.mk (okc) ?_))
    (try first | exact ⟨rfl, trivial⟩ | exact ⟨trivial, trivial⟩)

theorem c87 (x n : Int) (hn : n ≤ 1000000) : SC (fun _ => Try.prog) 87 [.int .i64 fun _ => x, .int .i64 fun _ => n] [] fun v h => ∃ y : Int, 0 ≤ y ∧ (y < n ∨ y = 0) ∧ v = .int .i64 (fun _ => y) ∧ h = [] := by
  refine con Try.func87 (body := bodyOf Try.f87) rfl (by decide +kernel) ?_
  (cbv; (try simp only [nc] at *); (try refine Chk.mk (okc) ?_))
  refine ⟨fun hb => ?_, fun hb => ?_⟩
  · (cbv; (try simp only [nc] at *); (try refine Chk.mk (okc) ?_))
    exact ⟨0, by omega, .inr rfl, rfl, trivial⟩
  · simp only [decide_eq_false_iff_not] at hb
    have h1 := (tmodE x n).1
    have h2 := (tmodE x n).2
    have h3 : -n < x.tmod n ∧ x.tmod n < n := by
      by_cases hx : 0 ≤ x
      · rw [h1 hx]
        have := Int.emod_nonneg x (show n ≠ 0 by omega)
        have := Int.emod_lt_of_pos x (show 0 < n by omega)
        omega
      · rw [h2 (by omega)]
        have := Int.emod_nonneg (-x) (show n ≠ 0 by omega)
        have := Int.emod_lt_of_pos (-x) (show 0 < n by omega)
        omega
    clear h1 h2
    (cbv; try simp only [nc] at *)
    generalize x.tmod n = q at *
    refine Chk.mk (okc) ?_
    (cbv; (try simp only [nc] at *); (try refine Chk.mk (okc) ?_))
    refine ⟨(q + n).tmod n, ?_, .inl ?_, rfl, trivial⟩
    · rw [Int.tmod_eq_emod_of_nonneg (by omega)]
      exact Int.emod_nonneg _ (by omega)
    · rw [Int.tmod_eq_emod_of_nonneg (by omega)]
      exact Int.emod_lt_of_pos _ (by omega)
end Go.Proofs.Ytlcgliadpalgfaa.Vm

/- Contracts: trains whose zones are folded, in place. -/
namespace Go.Proofs.Ytlcgliadpalgfaa.Vm
open Go Go.Proofs Sp
set_option maxRecDepth 100000
set_option maxHeartbeats 1600000

/-- L is l, with other zones for those stops of which D says so. -/
structure Moved (zones : Int) (l L : List Train) (D : Nat → Nat → Prop) : Prop where
  len : L.length = l.length
  num : ∀ a, a < l.length → (L.getD a default).number = (l.getD a default).number ∧ (L.getD a default).days = (l.getD a default).days ∧ (L.getD a default).stops.length = (l.getD a default).stops.length
  stop : ∀ a, a < l.length → ∀ q, q < (l.getD a default).stops.length → ((L.getD a default).stops.getD q default).station = ((l.getD a default).stops.getD q default).station ∧ ((L.getD a default).stops.getD q default).arrive = ((l.getD a default).stops.getD q default).arrive ∧ ((L.getD a default).stops.getD q default).depart = ((l.getD a default).stops.getD q default).depart ∧
    (D a q → 0 ≤ ((L.getD a default).stops.getD q default).zone ∧ ((L.getD a default).stops.getD q default).zone < zones)

theorem Moved.refl (zones : Int) (l : List Train) {D : Nat → Nat → Prop} (h : ∀ a q, a < l.length → ¬ D a q) : Moved zones l l D := ⟨rfl, fun _ _ => ⟨rfl, rfl, rfl⟩, fun a ha q _ => ⟨rfl, rfl, rfl, fun hd => absurd hd (h a q ha)⟩⟩
theorem Moved.le {zones : Int} {l L : List Train} {D D' : Nat → Nat → Prop} (h : Moved zones l L D) (hd : ∀ a q, a < l.length → q < (l.getD a default).stops.length → D' a q → D a q) : Moved zones l L D' :=
  ⟨h.len, h.num, fun a ha q hq => let ⟨h1, h2, h3, h4⟩ := h.stop a ha q hq; ⟨h1, h2, h3, fun hd' => h4 (hd a q ha hq hd')⟩⟩

/-- One more stop. -/
def setZ (L : List Train) (i k : Nat) (y : Int) : List Train := L.set i ⟨(L.getD i default).number, (L.getD i default).days, (L.getD i default).stops.set k ⟨((L.getD i default).stops.getD k default).station, y, ((L.getD i default).stops.getD k default).arrive, ((L.getD i default).stops.getD k default).depart⟩⟩
theorem getD_set {α : Type} {d x : α} {l : List α} {i j : Nat} (hi : i < l.length) : (l.set i x).getD j d = if j = i then x else l.getD j d := by
  simp only [List.getD_eq_getElem?_getD, List.getElem?_set]
  by_cases h : i = j
  · subst h; simp [hi]
  · rw [if_neg h, if_neg (Ne.symm h)]
theorem setZ_get {L : List Train} {i k : Nat} {y : Int} (hi : i < L.length) (hk : k < (L.getD i default).stops.length) (a q : Nat) : ((setZ L i k y).getD a default).number = (L.getD a default).number ∧ ((setZ L i k y).getD a default).days = (L.getD a default).days ∧ ((setZ L i k y).getD a default).stops.length = (L.getD a default).stops.length ∧
    ((setZ L i k y).getD a default).stops.getD q default = (if a = i ∧ q = k then ⟨((L.getD a default).stops.getD q default).station, y, ((L.getD a default).stops.getD q default).arrive, ((L.getD a default).stops.getD q default).depart⟩ else (L.getD a default).stops.getD q default) := by
  unfold setZ
  rw [getD_set hi]
  by_cases h : a = i
  · subst h
    rw [if_pos rfl]
    refine ⟨rfl, rfl, by simp, ?_⟩
    show ((L.getD a default).stops.set k _).getD q default = _
    rw [getD_set hk]
    by_cases h2 : q = k
    · subst h2; rw [if_pos rfl, if_pos ⟨rfl, rfl⟩]
    · rw [if_neg h2, if_neg (fun h => h2 h.2)]
  · rw [if_neg h]
    exact ⟨rfl, rfl, rfl, by rw [if_neg (fun h' => h h'.1)]⟩
theorem Moved.put {zones : Int} {l L : List Train} {i k : Nat} {y : Int} (h : Moved zones l L fun a q => a < i ∨ a = i ∧ q < k) (hi : i < l.length) (hk : k < (l.getD i default).stops.length) (hy : 0 ≤ y ∧ y < zones) : Moved zones l (setZ L i k y) fun a q => a < i ∨ a = i ∧ q < k + 1 := by
  have hi' : i < L.length := by rw [h.len]; exact hi
  have hk' : k < (L.getD i default).stops.length := by rw [(h.num i hi).2.2]; exact hk
  refine ⟨by simp [setZ, h.len], fun a ha => ?_, fun a ha q hq => ?_⟩
  · obtain ⟨e1, e2, e3, _⟩ := setZ_get (y := y) hi' hk' a 0
    rw [e1, e2, e3]
    exact h.num a ha
  · obtain ⟨_, _, _, e4⟩ := setZ_get (y := y) hi' hk' a q
    obtain ⟨h1, h2, h3, h4⟩ := h.stop a ha q hq
    rw [e4]
    by_cases hc : a = i ∧ q = k
    · rw [if_pos hc]
      exact ⟨h1, h2, h3, fun _ => hy⟩
    · rw [if_neg hc]
      exact ⟨h1, h2, h3, fun hd => h4 (by omega)⟩

theorem c40N {nt : (α : Type) → α → List α → Int → α} (hnt : ∀ (α : Type) (d : α) (l : List α) (i : Int), nt α d l i = l.getD i.toNat d) (l : List Train) (zones : Int) (hz : 1 ≤ zones ∧ zones ≤ 1000) (hl : l.length ≤ 1000) (hs : ∀ t ∈ l, t.stops.length ≤ 1000) :
    SC (fun _ => Try.prog) 40 [.gsl 0 (fun _ => (l.length : Int)), .int .i64 fun _ => zones] [trB nt 1 l, stB nt 2 l] fun v h => ∃ L, Moved zones l L (fun _ _ => True) ∧ v = .gsl 0 (fun _ => (l.length : Int)) ∧ h = [trB nt 1 l, stB nt 2 L] := by
  refine SC.less (conN false [] [] Try.func40 (body := bodyOf Try.f40) rfl (by decide +kernel) ?_)
  simp only [trB, stB]
  (cbv; (try simp only [nc] at *); (try refine Chk.mk (okc) ?_))
  refine loopN false [] [0, 1, 5] [] (fun (⟨i, L⟩ : Nat × List Train) => [(5, .int .i64 fun _ => (i : Int))])
    (fun ⟨i, L⟩ => [(1, .fam 2 4 (fun _ => (l.length : Int)) (fun e _ => ((nt Train default L (e ())).stops.length : Int)) (fun e q => encStop (nt Stop default (nt Train default L (e ())).stops (q ()))))]) (fun ⟨i, L⟩ => i ≤ l.length ∧ Moved zones l L fun a _ => a < i) (fun i => l.length - i.1 + 0) (0, l) ⟨Nat.zero_le _, .refl _ _ fun a q _ h => by omega⟩ ?_ ?_
  · (refine To.of [] ?_; cbv; (try simp only [nc]); (repeat' (first | exact trivial | exact WkN.refl _ | exact WkB.refl _ | refine ⟨?_, ?_⟩ | refine WkB.cells ?_ | refine WkN.agg ?_ | refine WkN.tup ?_)); (all_goals (first | exact okt | skip)))
  rintro ⟨i, L⟩ ⟨hi, hM⟩
  (cbv; (try simp only [nc] at *); (try refine Chk.mk (okc) ?_))
  refine ⟨fun hb => ?_, fun hb => ?_⟩
  · simp only [decide_eq_true_eq] at hb
    have e0 : ∀ (M : List Train) (j : Nat), nt Train default M (j : Int) = M.getD j default := fun M j => by rw [hnt]; rfl
    have hst := hs _ (nt_mem (d := default) hnt (l := l) (i := i) (by omega))
    (cbv; (try simp only [nc] at *); (try refine Chk.mk (okc) ?_))
    refine loopQ fun Q hQ => ?_
    refine loopN false [] [0, 1, 5, 6] [] (fun (⟨k, L⟩ : Nat × List Train) => [(6, .int .i64 fun _ => (k : Int))])
      (fun ⟨k, L⟩ => [(1, .fam 2 4 (fun _ => (l.length : Int)) (fun e _ => ((nt Train default L (e ())).stops.length : Int)) (fun e q => encStop (nt Stop default (nt Train default L (e ())).stops (q ()))))]) (fun ⟨k, L⟩ => k ≤ (nt Train default l (i : Int)).stops.length ∧ Moved zones l L fun a q => a < i ∨ a = i ∧ q < k) (fun k => (nt Train default l (i : Int)).stops.length - k.1 + 0) (0, L) ⟨Nat.zero_le _, hM.le fun a q _ _ h => by omega⟩ ?_ ?_
    · (refine To.of [] ?_; cbv; (try simp only [nc]); (repeat' (first | exact trivial | exact WkN.refl _ | exact WkB.refl _ | refine ⟨?_, ?_⟩ | refine WkB.cells ?_ | refine WkN.agg ?_ | refine WkN.tup ?_)); (all_goals (first | exact okt | skip)))
    rintro ⟨k, L⟩ ⟨hk, hM⟩
    have e1 : (nt Train default L (i : Int)).stops.length = (nt Train default l (i : Int)).stops.length := by rw [e0, e0]; exact (hM.num i (by omega)).2.2
    have hLl := hM.len
    have hiL : i < L.length := by omega
    have hil : i < l.length := by omega
    (cbv; (try simp only [nc] at *); (try refine Chk.mk (okc) ?_))
    refine ⟨fun hb2 => ?_, fun hb2 => ?_⟩
    · simp only [decide_eq_true_eq] at hb2
      (cbv; try simp only [nc] at *)
      simp only [e1]
      refine Chk.mk (okc) ?_
      refine call0 (c87 (nt Stop default (nt Train default L (i : Int)).stops (k : Int)).zone zones (by omega)) (by first | rfl | (simp only [zoneA, bookA, lst_nt hnt]; rfl)) fun r h₂ hp => ?_
      (try simp only [zoneA, bookA, lst_nt hnt] at hp)
      obtain ⟨y, hy0, hy1, rfl, rfl⟩ := hp
      (cbv; try simp only [nc] at *)
      simp only [e1]
      refine Chk.mk (okc) ?_
      have hkl : k < (l.getD i default).stops.length := by have := e0 l i; rw [← this]; omega
      have hkL : k < (L.getD i default).stops.length := by have := e0 L i; rw [← this, e1]; omega
      have hy : 0 ≤ y ∧ y < zones := by omega
      refine ⟨(k + 1, setZ L i k y), ⟨by dsimp only; omega, hM.put hil hkl hy⟩, by dsimp only; omega, ?_⟩
      (refine To.of [] ?_; cbv; (try simp only [nc]); (repeat' (first | exact trivial | exact WkN.refl _ | exact WkB.refl _ | refine ⟨?_, ?_⟩ | refine WkB.cells ?_ | refine WkN.agg ?_ | refine WkN.tup ?_)); (all_goals (first | exact okt | skip)))
      refine .fam rfl (fun a ha => ?_) fun a ha q hq => ?_
      · show ((nt Train default L (a : Int)).stops.length : Int) = ((nt Train default (setZ L i k y) (a : Int)).stops.length : Int)
        rw [e0, e0, (setZ_get hiL hkL a 0).2.2.1]
      · show encStop ⟨(nt Stop default (nt Train default L (a : Int)).stops (q : Int)).station, bif decide ((a : Int) = (i : Int)) && decide ((q : Int) = (k : Int)) then y else (nt Stop default (nt Train default L (a : Int)).stops (q : Int)).zone, (nt Stop default (nt Train default L (a : Int)).stops (q : Int)).arrive, (nt Stop default (nt Train default L (a : Int)).stops (q : Int)).depart⟩ = encStop (nt Stop default (nt Train default (setZ L i k y) (a : Int)).stops (q : Int))
        refine congrArg encStop ?_
        rw [e0, e0, hnt, hnt, Int.toNat_natCast, (setZ_get hiL hkL a q).2.2.2]
        by_cases h : a = i ∧ q = k
        · obtain ⟨rfl, rfl⟩ := h
          rw [if_pos ⟨rfl, rfl⟩, decide_eq_true rfl, decide_eq_true rfl]; rfl
        · rw [if_neg h]
          have : (decide ((a : Int) = (i : Int)) && decide ((q : Int) = (k : Int))) = false := by
            simp only [Bool.and_eq_false_iff, decide_eq_false_iff_not]
            omega
          rw [this]; rfl
    · simp only [decide_eq_false_iff_not] at hb2
      obtain rfl : k = (nt Train default l (i : Int)).stops.length := by omega
      (cbv; (try simp only [nc] at *); (try refine Chk.mk (okc) ?_))
      refine hQ _ _ _ ?_
      clear hQ
      (cbv; (try simp only [nc] at *); (try refine Chk.mk (okc) ?_))
      refine ⟨(i + 1, L), ⟨by dsimp only; omega, hM.le fun a q ha hq h => ?_⟩, by dsimp only; omega, ?_⟩
      · rcases Nat.lt_or_ge a i with h1 | h1
        · exact .inl h1
        · obtain rfl : a = i := by omega
          exact .inr ⟨rfl, by rw [e0]; exact hq⟩
      (refine To.of [] ?_; cbv; (try simp only [nc]); (repeat' (first | exact trivial | exact WkN.refl _ | exact WkB.refl _ | refine ⟨?_, ?_⟩ | refine WkB.cells ?_ | refine WkN.agg ?_ | refine WkN.tup ?_)); (all_goals (first | exact okt | skip)))
  · obtain rfl : i = l.length := by simp only [decide_eq_false_iff_not] at hb; omega
    (cbv; (try simp only [nc] at *); (try refine Chk.mk (okc) ?_))
    refine ⟨_, _, ?_, L, hM.le fun a q ha _ _ => ha, rfl, rfl⟩
    (refine To.of [] ?_; cbv; (try simp only [nc]); (repeat' (first | exact trivial | exact WkN.refl _ | exact WkB.refl _ | refine ⟨?_, ?_⟩ | refine WkB.cells ?_ | refine WkN.agg ?_ | refine WkN.tup ?_)); (all_goals (first | exact okt | skip)))
    rw [hM.len]
    exact .refl _
end Go.Proofs.Ytlcgliadpalgfaa.Vm

/- Plain: a book with another timetable runs as before where the table is the same; the days of a train's runs. -/
namespace Go.Proofs.Ytlcgliadpalgfaa.Vm
open Sp

theorem moved_made {zones z0 n : Int} {l L : List Train} (hm : Moved zones l L fun _ _ => True) (h : LMade z0 n l) : LMade zones n L := ⟨fun k t hk => by
  have hkL : k < L.length := by
    rcases Nat.lt_or_ge k L.length with h1 | h1
    · exact h1
    · rw [List.getElem?_eq_none h1] at hk; cases hk
  have hkl : k < l.length := by have := hm.len; omega
  have et : L.getD k default = t := by rw [List.getD_eq_getElem?_getD, hk]; rfl
  have ht0 := h.all k (l.getD k default) (by rw [List.getD_eq_getElem?_getD, List.getElem?_eq_getElem hkl]; rfl)
  obtain ⟨h1, h2, h3⟩ := hm.num k hkl
  have hs := hm.stop k hkl
  rw [et] at h1 h2 h3 hs
  generalize l.getD k default = u at *
  have hst : ∀ q, q < u.stops.length → u.stops.getD q default ∈ u.stops := fun q hq => by
    rw [List.getD_eq_getElem?_getD, List.getElem?_eq_getElem hq]; exact List.getElem_mem _
  refine ⟨by rw [h1]; exact ht0.number, by rw [h2]; exact ht0.days, by rw [h3]; exact ht0.len, fun s hs' => ?_, ?_⟩
  · obtain ⟨q, hq, rfl⟩ := mem_getD (d := default) hs'
    rw [h3] at hq
    obtain ⟨a1, a2, a3, a4⟩ := hs q hq
    have := ht0.stop _ (hst q hq)
    have a4 := a4 trivial
    omega
  · rw [List.pairwise_iff_getElem]
    intro i j hi hj hij
    have hi' : i < u.stops.length := by omega
    have hj' : j < u.stops.length := by omega
    have := List.pairwise_iff_getElem.1 ht0.nodup i j hi' hj' hij
    have e1 := (hs i hi').1
    have e2 := (hs j hj').1
    simp only [List.getD_eq_getElem?_getD, List.getElem?_eq_getElem hi, List.getElem?_eq_getElem hj, List.getElem?_eq_getElem hi', List.getElem?_eq_getElem hj', Option.getD_some] at e1 e2
    rw [e1, e2]
    exact this⟩

/-- The same zones and days, and the same table on that day: the same run. -/
theorem run_tab {b X : Book} (hb : Check b = 0) (hX : Check X = 0) (hz : X.zones = b.zones) (hl : X.last = b.last) {day : Int} (ht : table X day = table b day) (n : Int) : Run X n day = Run b n day := by
  unfold Run
  rw [hb, hX, ht, hz, hl]

theorem made_old {tr tr' : Int} {b : Book} (h : BMade tr 6 b) {z0 : Int} {l L : List Train} (hm : Moved (b.zones.length : Int) l L fun _ _ => True) (hl : LMade z0 l.length l) (hll : 1 ≤ (l.length : Int) ∧ ((l.length : Int) ≤ tr' ∨ l.length = 1)) (h1 : tr' ≤ tr) :
    BMade tr 6 ⟨b.zones, L, b.new, b.night, b.last⟩ :=
  ⟨h.zlen, h.zones, by have := hm.len; dsimp only; omega, h.nlen, by have := moved_made hm hl; rw [← hm.len] at this; exact this, h.new, h.last, h.night⟩
theorem made_new {tr tr' : Int} {b : Book} (h : BMade tr 6 b) {z0 : Int} {l L : List Train} (hm : Moved (b.zones.length : Int) l L fun _ _ => True) (hl : LMade z0 l.length l) (hll : 1 ≤ (l.length : Int) ∧ ((l.length : Int) ≤ tr' ∨ l.length = 1)) (h1 : tr' ≤ tr) :
    BMade tr 6 ⟨b.zones, b.old, L, b.night, b.last⟩ :=
  ⟨h.zlen, h.zones, h.olen, by have := hm.len; dsimp only; omega, h.old, by have := moved_made hm hl; rw [← hm.len] at this; exact this, h.last, h.night⟩

theorem place_num : ∀ {l : List Train} {n : Int} {k : Int}, indexFrom (fun t : Train => decide (t.number = n)) k l = -1 ∨ k ≤ indexFrom (fun t : Train => decide (t.number = n)) k l ∧ (l.getD (indexFrom (fun t : Train => decide (t.number = n)) k l - k).toNat default).number = n
  | [], n, k => .inl rfl
  | a :: l, n, k => by
    unfold indexFrom
    by_cases h : a.number = n
    · rw [if_pos (by simpa using h)]
      exact .inr ⟨Int.le_refl _, by simpa using h⟩
    · rw [if_neg (by simpa using h)]
      rcases place_num (l := l) (n := n) (k := k + 1) with h1 | ⟨h1, h2⟩
      · exact .inl h1
      · refine .inr ⟨by omega, ?_⟩
        generalize indexFrom (fun t : Train => decide (t.number = n)) (k + 1) l = j at *
        rw [show (j - k).toNat = (j - (k + 1)).toNat + 1 by omega]
        exact h2

/-- Whether there is a run, and what Starts adds for the day. -/
theorem run_day {b : Book} (hb : Check b = 0) (n : Int) (d : Nat) (hd : (d : Int) ≤ b.last) :
    ((Run b n d).2 = 0 ↔ 0 < (Run b n d).1.length) ∧ startsL n (runsTo b (d + 1)) = startsL n (runsTo b d) ++ if (Run b n d).2 = 0 then [(d : Int)] else [] := by
  have hgen := day_gen hb (n := n) (f := dayOf n) (fun t d h => by simp [dayOf, h]) d
  have hin : inB (d : Int) 0 b.last = true := by simp [inB]; omega
  have hok := book_ok hb
  unfold startsL
  rw [hgen]
  unfold Run
  rw [hb, hin]
  simp only [ne_eq, not_true_eq_false, if_false, Bool.not_true, Bool.false_eq_true]
  by_cases hp : place (table b d) n < 0
  · simp [hp]
  · simp only [hp, if_false]
    have hlt : (place (table b d) n).toNat < (table b d).length := by
      rcases place_rng (table b d) n with h | h
      · rw [h] at hp; omega
      · omega
    have hmem : (table b d).getD (place (table b d) n).toNat default ∈ table b d := by
      rw [List.getD_eq_getElem?_getD, List.getElem?_eq_getElem hlt]
      exact List.getElem_mem _
    generalize hu : (table b d).getD (place (table b d) n).toNat default = u at *
    have hlen := ((table_ok hok d).2 _ hmem).len
    have hnum : u.number = n := by
      have := place_num (l := table b d) (n := n) (k := 0)
      rcases this with h | h
      · exact absurd (show place (table b d) n < 0 by unfold place; rw [h]; decide) hp
      · have h2 := h.2
        rw [Int.sub_zero] at h2
        rw [← hu]
        exact h2
    by_cases hs : starts u d = true
    · simp only [hs, Bool.not_true, Bool.false_eq_true, if_false, if_true, true_iff]
      refine ⟨by rw [calls_len]; omega, ?_⟩
      simp [dayOf, hnum]
    · simp only [Bool.not_eq_true] at hs
      simp [hs]

/-- What Starts answers. -/
theorem starts_tail {b : Book} (hb : Check b = 0) (n : Int) : (Starts b n).1 = startsL n (runsTo b (b.last + 1).toNat) ∧ ((Starts b n).2 = 0 ∨ (Starts b n).2 = 3 ∧ startsL n (runsTo b (b.last + 1).toNat) = []) := by
  have hc : checkNumber b n = if place b.old n < 0 ∧ place b.new n < 0 then 3 else 0 := by
    unfold checkNumber
    rw [if_neg (fun h => h hb)]
  unfold Starts
  rw [hc]
  by_cases hp : place b.old n < 0 ∧ place b.new n < 0
  · rw [if_pos hp, if_pos (by decide)]
    · have key : ∀ d : Nat, (d : Int) ≤ b.last + 1 → startsL n (runsTo b d) = [] := fun d => by
        induction d with
        | zero => intro _; rfl
        | succ d ih =>
          intro hd
          rw [(run_day hb n d (by omega)).2, ih (by omega)]
          have hin : inB (d : Int) 0 b.last = true := by simp [inB]; omega
          have ht : place (table b d) n < 0 := by
            unfold table
            split
            · exact hp.1
            · exact hp.2
          unfold Run
          rw [hb, hin]
          simp [ht]
      have hl := (book_ok hb).last
      have := key (b.last + 1).toNat (by omega)
      exact ⟨this.symm, .inr ⟨rfl, this⟩⟩
  · rw [if_neg hp, if_neg (by decide)]
    exact ⟨rfl, .inl rfl⟩
end Go.Proofs.Ytlcgliadpalgfaa.Vm

/- Contracts: equal calls; a copy of a book that keeps room behind its new trains. -/
namespace Go.Proofs.Ytlcgliadpalgfaa.Vm
open Go Go.Proofs Sp
set_option maxRecDepth 100000
set_option maxHeartbeats 1600000

theorem c27 (a b : List Sp.Call) (ha : a.length ≤ 1000000) : SC (fun _ => Try.prog) 27 [lst 3 encCall default a, lst 3 encCall default b] [] fun r h => r = .bool (fun _ => decide (a = b)) ∧ h = [] := by
  obtain ⟨nt, hnt⟩ := nth_ex
  rw [lst_nt hnt, lst_nt hnt]
  refine con Try.func27 (body := bodyOf Try.f27) rfl (by decide +kernel) ?_
  (cbv; (try simp only [nc] at *); (try refine Chk.mk (okc) ?_))
  refine ⟨fun hb => ?_, fun hb => ?_⟩
  · simp only [bne_iff_ne, ne_eq] at hb
    (cbv; (try simp only [nc] at *); (try refine Chk.mk (okc) ?_))
    refine ⟨?_, trivial⟩
    rw [decide_eq_false (fun h => hb (by rw [h]))]
  simp only [bne_eq_false_iff_eq] at hb
  (cbv; (try simp only [nc] at *); (try refine Chk.mk (okc) ?_))
  refine loopS false false [] [0, 1, 5] [] (fun (i : Nat) => [(5, .int .i64 fun _ => (i : Int))]) (fun _ => []) (fun i => i ≤ a.length ∧ (a = b ↔ a.drop i = b.drop i)) (fun i => a.length - i + 0) 0 ⟨Nat.zero_le _, by simp⟩ ?_ ?_
  · (refine To.of [] ?_; cbv; (try simp only [nc]); (repeat' (first | exact trivial | exact WkN.refl _ | exact WkB.refl _ | refine ⟨?_, ?_⟩ | refine WkB.cells ?_ | refine WkN.agg ?_ | refine WkN.tup ?_)); (all_goals (first | exact okt | skip)))
  rintro i ⟨hi, hp⟩
  (cbv; (try simp only [nc] at *); (try refine Chk.mk (okc) ?_))
  refine ⟨fun hb' => ?_, fun hb' => ?_⟩
  · simp only [decide_eq_true_eq] at hb'
    have hd := nt_drop (d := default) hnt (l := a) (i := i) (by omega)
    have hd' := nt_drop (d := default) hnt (l := b) (i := i) (by omega)
    rw [hd, hd'] at hp
    (cbv; try simp only [nc] at *)
    generalize nt Sp.Call default a (i : Int) = x at *
    generalize nt Sp.Call default b (i : Int) = y at *
    refine Chk.mk (okc) ?_
    refine ⟨fun hb'' => ?_, fun hb'' => ?_⟩
    · have hne : x ≠ y := fun e => by subst e; simp at hb''
      (cbv; (try simp only [nc] at *); (try refine Chk.mk (okc) ?_))
      exact ⟨by rw [decide_eq_false (fun h => hne (List.cons.inj (hp.1 h)).1)], trivial⟩
    · have he : x = y := by
        obtain ⟨x1, x2, x3⟩ := x
        obtain ⟨y1, y2, y3⟩ := y
        simp at hb''
        obtain ⟨e1, e2, e3⟩ := hb''
        rw [e1, e2, e3]
      (cbv; (try simp only [nc] at *); (try refine Chk.mk (okc) ?_))
      refine ⟨i + 1, ⟨by omega, by rw [hp, he]; simp⟩, by show a.length - (i + 1) + 0 < a.length - i + 0; omega, ?_⟩
      (refine To.of [] ?_; cbv; (try simp only [nc]); (repeat' (first | exact trivial | exact WkN.refl _ | exact WkB.refl _ | refine ⟨?_, ?_⟩ | refine WkB.cells ?_ | refine WkN.agg ?_ | refine WkN.tup ?_)); (all_goals (first | exact okt | skip)))
  · simp only [decide_eq_false_iff_not] at hb'
    have h1 : a.drop i = [] := List.drop_eq_nil_of_le (by omega)
    have h2 : b.drop i = [] := List.drop_eq_nil_of_le (by omega)
    rw [h1, h2] at hp
    have hp : a = b := hp.2 rfl
    subst hp
    (cbv; (try simp only [nc] at *); (try refine Chk.mk (okc) ?_))
    exact ⟨by simp, trivial⟩

theorem c69R (l : List Train) (hl : l.length ≤ 1000000) (hs : ∀ t ∈ l, t.stops.length ≤ 1000000) : SC (fun _ => Try.prog) 69 [lst 3 encTrain default l] [] fun v h => v = .isl 3 (fun _ => (l.length : Int)) (lstR encTrain default l) (.own 0) ∧ h = [.tok 3 fun _ => (l.length : Int)] := by
  obtain ⟨nt, hnt⟩ := nth_ex
  refine SC.less (conX true false [] Try.func69 (body := bodyOf Try.f69) rfl (by decide +kernel) ?_)
  simp only [lst_nt hnt, lstR_nt hnt]
  (cbv; (try simp only [nc] at *); (try refine Chk.mk (okc) ?_))
  refine loopS true false [] [0, 3, 4] [.tok 3 fun _ => 0] (fun (i : Nat) => [(3, .isl 3 (fun _ => ((l.take i).length : Int)) (fun e => encTrain (nt Train default (l.take i) (e ()))) (.own 0)), (4, .int .i64 fun _ => (i : Int))])
    (fun i => [(0, .tok 3 fun _ => ((l.take i).length : Int))]) (fun i => i ≤ l.length) (fun i => l.length - i + 0) 0 (Nat.zero_le _) ?_ ?_
  · (refine To.of [(3,false)] ?_; cbv; (try simp only [nc]); (repeat' (first | exact trivial | exact WkN.refl _ | exact WkB.refl _ | refine ⟨?_, ?_⟩ | refine WkB.cells ?_ | refine WkN.agg ?_ | refine WkN.tup ?_)); (all_goals (first | exact okt | skip)))
  intro i hi
  (cbv; (try simp only [nc] at *); (try refine Chk.mk (okc) ?_))
  refine ⟨fun hb => ?_, fun hb => ?_⟩
  · simp only [decide_eq_true_eq] at hb
    have hst := hs _ (nt_mem (d := default) hnt (l := l) (i := i) (by omega))
    have htk := nt_take (d := default) hnt (l := l) (i := i) (by omega)
    have hti : (l.take i).length = i := by rw [List.length_take]; omega
    (cbv; try simp only [nc] at *)
    generalize nt Train default l (i : Int) = t at *
    have hul : (t.stops.length : Int) ≤ 1000000 := by omega
    have hul0 : ((0 : Nat) : Int) + (t.stops.length : Int) ≤ 1000000 := by omega
    refine Chk.mk (okc) ?_
    refine ⟨i + 1, by omega, by omega, ?_⟩
    rw [htk]
    (refine To.of [] ?_; cbv; (try simp only [nc]); (repeat' (first | exact trivial | exact WkN.refl _ | exact WkB.refl _ | refine ⟨?_, ?_⟩ | refine WkB.cells ?_ | refine WkN.agg ?_ | refine WkN.tup ?_)); (all_goals (first | exact okt | skip)))
    · refine .snocO hnt rfl rfl (by simp) (.three fun w ok v h => ?_)
      rw [lst_nt hnt]
      exact nil_app rfl (by simp) (fun j hj => by rw [lstR_nt hnt]; rfl) h
  · obtain rfl : i = l.length := by simp only [decide_eq_false_iff_not] at hb; omega
    rw [List.take_length]
    (cbv; (try simp only [nc] at *); (try refine Chk.mk (okc) ?_))
    refine ⟨_, _, ?_, rfl, rfl⟩
    (refine To.of [] ?_; cbv; (try simp only [nc]); (repeat' (first | exact trivial | exact WkN.refl _ | exact WkB.refl _ | refine ⟨?_, ?_⟩ | refine WkB.cells ?_ | refine WkN.agg ?_ | refine WkN.tup ?_)); (all_goals (first | exact okt | skip)))

/-- A book with room behind its lists. -/
def bookR (b : Book) (i j k : Nat) : AV := .agg [.isl 2 (fun _ => (b.zones.length : Int)) (lstR encZone default b.zones) (.own i), .isl 3 (fun _ => (b.old.length : Int)) (lstR encTrain default b.old) (.own j), .isl 3 (fun _ => (b.new.length : Int)) (lstR encTrain default b.new) (.own k), .int .i64 fun _ => b.night, .int .i64 fun _ => b.last]
theorem c23R (b : Book) (hf : BookFit b) : SC (fun _ => Try.prog) 23 [bookA b] [] fun v h => v = bookR b 0 1 2 ∧ h = [.tok 2 fun _ => (b.zones.length : Int), .tok 3 fun _ => (b.old.length : Int), .tok 3 fun _ => (b.new.length : Int)] := by
  obtain ⟨nt, hnt⟩ := nth_ex
  have k1 := c69R b.old hf.old hf.stops.1
  have k2 := c69R b.new hf.new hf.stops.2
  have hz := hf.zones
  have hc := hf.chs
  refine SC.less (conX true false [] Try.func23 (body := bodyOf Try.f23) rfl (by decide +kernel) ?_)
  unfold bookA bookR at *
  simp only [lst_nt hnt, lstR_nt hnt] at *
  (cbv; (try simp only [nc] at *); (try refine Chk.mk (okc) ?_))
  refine loopS true false [] [1, 2, 3, 4] [.tok 2 fun _ => 0] (fun (i : Nat) => [(4, .int .i64 fun _ => (i : Int))])
    (fun i => [(0, .cells [.isl 2 (fun _ => ((b.zones.take i).length : Int)) (fun e => encZone (nt Zone default (b.zones.take i) (e ()))) (.own 2), .isl 3 (fun _ => (b.old.length : Int)) (fun e => encTrain (nt Train default b.old (e ()))) .none, .isl 3 (fun _ => (b.new.length : Int)) (fun e => encTrain (nt Train default b.new (e ()))) .none, .int .i64 fun _ => b.night, .int .i64 fun _ => b.last]), (2, .tok 2 fun _ => ((b.zones.take i).length : Int))]) (fun i => i ≤ b.zones.length) (fun i => b.zones.length - i + 0) 0 (Nat.zero_le _) ?_ ?_
  · (refine To.of [(2,false)] ?_; cbv; (try simp only [nc]); (repeat' (first | exact trivial | exact WkN.refl _ | exact WkB.refl _ | refine ⟨?_, ?_⟩ | refine WkB.cells ?_ | refine WkN.agg ?_ | refine WkN.tup ?_)); (all_goals (first | exact okt | skip)))
  intro i hi
  (cbv; (try simp only [nc] at *); (try refine Chk.mk (okc) ?_))
  refine ⟨fun hb => ?_, fun hb => ?_⟩
  · simp only [decide_eq_true_eq] at hb
    have hch := hc _ (nt_mem (d := default) hnt (l := b.zones) (i := i) (by omega))
    have htk := nt_take (d := default) hnt (l := b.zones) (i := i) (by omega)
    have hti : (b.zones.take i).length = i := by rw [List.length_take]; omega
    (cbv; try simp only [nc] at *)
    generalize nt Zone default b.zones (i : Int) = z at *
    refine Chk.mk (okc) ?_
    refine call0 (c30n z hch) (by first | rfl | (simp only [zoneA, bookA, lst_nt hnt]; rfl)) fun r h₂ hp => ?_
    (try simp only [zoneA, bookA, lst_nt hnt] at hp)
    obtain ⟨rfl, rfl⟩ := hp
    (cbv; (try simp only [nc] at *); (try refine Chk.mk (okc) ?_))
    refine ⟨i + 1, by omega, by omega, ?_⟩
    rw [htk]
    (refine To.of [] ?_; cbv; (try simp only [nc]); (repeat' (first | exact trivial | exact WkN.refl _ | exact WkB.refl _ | refine ⟨?_, ?_⟩ | refine WkB.cells ?_ | refine WkN.agg ?_ | refine WkN.tup ?_)); (all_goals (first | exact okt | skip)))
  · obtain rfl : i = b.zones.length := by simp only [decide_eq_false_iff_not] at hb; omega
    rw [List.take_length]
    (cbv; (try simp only [nc] at *); (try refine Chk.mk (okc) ?_))
    refine call0 (k1) (by first | rfl | (simp only [zoneA, bookA, lst_nt hnt]; rfl)) fun r h₂ hp => ?_
    (try simp only [zoneA, bookA, lst_nt hnt] at hp)
    obtain ⟨rfl, rfl⟩ := hp
    (cbv; (try simp only [nc] at *); (try refine Chk.mk (okc) ?_))
    refine call0 (k2) (by first | rfl | (simp only [zoneA, bookA, lst_nt hnt]; rfl)) fun r h₂ hp => ?_
    (try simp only [zoneA, bookA, lst_nt hnt] at hp)
    obtain ⟨rfl, rfl⟩ := hp
    (cbv; (try simp only [nc] at *); (try refine Chk.mk (okc) ?_))
    refine ⟨_, _, ?_, rfl, rfl⟩
    (refine To.of [] ?_; cbv; (try simp only [nc]); (repeat' (first | exact trivial | exact WkN.refl _ | exact WkB.refl _ | refine ⟨?_, ?_⟩ | refine WkB.cells ?_ | refine WkN.agg ?_ | refine WkN.tup ?_)); (all_goals (first | exact okt | skip)))

theorem RowLe.nil : RowLe [] [] := ⟨rfl, fun j c h => by simp at h⟩
theorem RowLe.cons {c c' : AV} {r r' : List AV} (h : ∀ w ok v, PR w ok c v → PR w ok c' v) (hr : RowLe r r') : RowLe (c :: r) (c' :: r') := ⟨by rw [List.length_cons, List.length_cons, hr.1], fun j d hj => by
  cases j with
  | zero => simp only [List.getElem?_cons_zero, Option.some.injEq] at hj; subst hj; exact ⟨_, rfl, h⟩
  | succ j => simpa using hr.2 j d (by simpa using hj)⟩
theorem RowLe.eq {c : AV} {r r' : List AV} (hr : RowLe r r') : RowLe (c :: r) (c :: r') := .cons (fun _ _ _ h => h) hr
end Go.Proofs.Ytlcgliadpalgfaa.Vm

/- The statement ClockOne: each run is by the timetable of its day. -/
namespace Go.Proofs.Ytlcgliadpalgfaa.Vm
open Go Go.Proofs Sp
set_option maxRecDepth 100000
set_option maxHeartbeats 6400000

theorem AB {GA GB G : Prop} (h : (Unit → GA) → (Unit → GB) → G) (a : GA) (b : GB) : G := h (fun _ => a) (fun _ => b)

theorem c7 (l : List Int) (hl : (l.length : Int) ≤ 9223372036854775807) : SC (fun _ => Try.prog) 7 [lst 1 encI 0 l] [] fun r h => r = .bool (fun _ => true) := by
  obtain ⟨nt, hnt⟩ := nth_ex
  refine conN false [17] [] Try.func7 (body := bodyOf Try.f7) rfl (by decide +kernel) ?_
  (cbv; (try simp only [nc] at *); (try refine Chk.mk (okc) ?_))
  refine call0 (c14 l hl) (by first | rfl | (simp only [zoneA, bookA, lst_nt hnt]; rfl)) fun r h₂ hp => ?_
  (try simp only [zoneA, bookA, lst_nt hnt] at hp)
  obtain ⟨s, rfl, rfl⟩ := hp
  (cbv; (try simp only [nc] at *); (try refine Chk.mk (okc) ?_))
  refine callL [0] (c15 s 2 6 (by omega) (by omega)) (by decide) (by simp) (by first | rfl | (simp only [zoneA, bookA, lst_nt hnt]; rfl)) (by first | rfl | (simp only [zoneA, bookA, lst_nt hnt]; rfl)) fun r h₂ hp => ?_
  (try simp only [zoneA, bookA, lst_nt hnt] at hp)
  obtain ⟨b, s', hb, rfl, rfl⟩ := hp
  have hchk := made_check hb (by omega) (by omega)
  have hok := book_ok hchk
  have hfit := made_fit hb (by omega) (by omega)
  have hlast := hok.last
  (cbv; (try simp only [nc] at *); (try refine Chk.mk (okc) ?_))
  refine callL [0] (c15N hnt s' 2 2 (by omega) (by omega)) (by decide) (by simp) (by first | rfl | (simp only [zoneA, bookA, lst_nt hnt]; rfl)) (by first | rfl | (simp only [zoneA, bookA, lst_nt hnt]; rfl)) fun r h₂ hp => ?_
  (try simp only [zoneA, bookA, lst_nt hnt] at hp)
  obtain ⟨o, s1, ho, rfl, rfl⟩ := hp
  (cbv; (try simp only [nc] at *); (try refine Chk.mk (okc) ?_))
  apply AB
  · intro ga gb
    refine Both.mk ?_ ?_
    · (try simp only [nc] at *); (try refine Chk.mk (okc) ?_)
      refine call0 (c23 b hfit) (by first | rfl | (simp only [zoneA, bookA, lst_nt hnt]; rfl)) fun r h₂ hp => ?_
      (try simp only [zoneA, bookA, lst_nt hnt] at hp)
      obtain ⟨rfl, rfl⟩ := hp
      (cbv; (try simp only [nc] at *); (try refine Chk.mk (okc) ?_))
      refine Both.mk ?_ ?_
      · (try simp only [nc] at *); (try refine Chk.mk (okc) ?_)
        refine call0 (c23 b hfit) (by first | rfl | (simp only [zoneA, bookA, lst_nt hnt]; rfl)) fun r h₂ hp => ?_
        (try simp only [zoneA, bookA, lst_nt hnt] at hp)
        obtain ⟨rfl, rfl⟩ := hp
        (cbv; (try simp only [nc] at *); (try refine Chk.mk (okc) ?_))
        refine Both.mk ?_ ?_
        · (try simp only [nc] at *); (try refine Chk.mk (okc) ?_)
          with_reducible exact ga ()
        · (cbv; (try simp only [nc] at *); (try refine Chk.mk (okc) ?_))
          with_reducible exact gb ()
      · (cbv; (try simp only [nc] at *); (try refine Chk.mk (okc) ?_))
        refine Both.mk ?_ ?_
        · (try simp only [nc] at *); (try refine Chk.mk (okc) ?_)
          refine Both.mk ?_ ?_
          · (try simp only [nc] at *); (try refine Chk.mk (okc) ?_)
            refine call0 (c23 b hfit) (by first | rfl | (simp only [zoneA, bookA, lst_nt hnt]; rfl)) fun r h₂ hp => ?_
            (try simp only [zoneA, bookA, lst_nt hnt] at hp)
            obtain ⟨rfl, rfl⟩ := hp
            (cbv; (try simp only [nc] at *); (try refine Chk.mk (okc) ?_))
            with_reducible exact ga ()
          · (cbv; (try simp only [nc] at *); (try refine Chk.mk (okc) ?_))
            refine call0 (c23 b hfit) (by first | rfl | (simp only [zoneA, bookA, lst_nt hnt]; rfl)) fun r h₂ hp => ?_
            (try simp only [zoneA, bookA, lst_nt hnt] at hp)
            obtain ⟨rfl, rfl⟩ := hp
            (cbv; (try simp only [nc] at *); (try refine Chk.mk (okc) ?_))
            with_reducible exact ga ()
        · (cbv; (try simp only [nc] at *); (try refine Chk.mk (okc) ?_))
          refine Both.mk ?_ ?_
          · (try simp only [nc] at *); (try refine Chk.mk (okc) ?_)
            refine call0 (c23 b hfit) (by first | rfl | (simp only [zoneA, bookA, lst_nt hnt]; rfl)) fun r h₂ hp => ?_
            (try simp only [zoneA, bookA, lst_nt hnt] at hp)
            obtain ⟨rfl, rfl⟩ := hp
            (cbv; (try simp only [nc] at *); (try refine Chk.mk (okc) ?_))
            with_reducible exact gb ()
          · (cbv; (try simp only [nc] at *); (try refine Chk.mk (okc) ?_))
            refine call0 (c23 b hfit) (by first | rfl | (simp only [zoneA, bookA, lst_nt hnt]; rfl)) fun r h₂ hp => ?_
            (try simp only [zoneA, bookA, lst_nt hnt] at hp)
            obtain ⟨rfl, rfl⟩ := hp
            (cbv; (try simp only [nc] at *); (try refine Chk.mk (okc) ?_))
            with_reducible exact gb ()
    · (cbv; (try simp only [nc] at *); (try refine Chk.mk (okc) ?_))
      refine Both.mk ?_ ?_
      · (try simp only [nc] at *); (try refine Chk.mk (okc) ?_)
        refine Both.mk ?_ ?_
        · (try simp only [nc] at *); (try refine Chk.mk (okc) ?_)
          refine call0 (c23 b hfit) (by first | rfl | (simp only [zoneA, bookA, lst_nt hnt]; rfl)) fun r h₂ hp => ?_
          (try simp only [zoneA, bookA, lst_nt hnt] at hp)
          obtain ⟨rfl, rfl⟩ := hp
          (cbv; (try simp only [nc] at *); (try refine Chk.mk (okc) ?_))
          refine Both.mk ?_ ?_
          · (try simp only [nc] at *); (try refine Chk.mk (okc) ?_)
            refine call0 (c23 b hfit) (by first | rfl | (simp only [zoneA, bookA, lst_nt hnt]; rfl)) fun r h₂ hp => ?_
            (try simp only [zoneA, bookA, lst_nt hnt] at hp)
            obtain ⟨rfl, rfl⟩ := hp
            (cbv; (try simp only [nc] at *); (try refine Chk.mk (okc) ?_))
            with_reducible exact ga ()
          · (cbv; (try simp only [nc] at *); (try refine Chk.mk (okc) ?_))
            refine call0 (c23 b hfit) (by first | rfl | (simp only [zoneA, bookA, lst_nt hnt]; rfl)) fun r h₂ hp => ?_
            (try simp only [zoneA, bookA, lst_nt hnt] at hp)
            obtain ⟨rfl, rfl⟩ := hp
            (cbv; (try simp only [nc] at *); (try refine Chk.mk (okc) ?_))
            with_reducible exact ga ()
        · (cbv; (try simp only [nc] at *); (try refine Chk.mk (okc) ?_))
          refine call0 (c23 b hfit) (by first | rfl | (simp only [zoneA, bookA, lst_nt hnt]; rfl)) fun r h₂ hp => ?_
          (try simp only [zoneA, bookA, lst_nt hnt] at hp)
          obtain ⟨rfl, rfl⟩ := hp
          (cbv; (try simp only [nc] at *); (try refine Chk.mk (okc) ?_))
          refine call0 (c23 b hfit) (by first | rfl | (simp only [zoneA, bookA, lst_nt hnt]; rfl)) fun r h₂ hp => ?_
          (try simp only [zoneA, bookA, lst_nt hnt] at hp)
          obtain ⟨rfl, rfl⟩ := hp
          (cbv; (try simp only [nc] at *); (try refine Chk.mk (okc) ?_))
          refine SC.mono (ga ()) fun r h' hr => ?_
          revert hr
          generalize afterOp _ _ _ _ _ _ = z
          cases z with
          | none => exact id
          | some z => exact fun h => Dn_le (by decide) h
      · (cbv; (try simp only [nc] at *); (try refine Chk.mk (okc) ?_))
        refine Both.mk ?_ ?_
        · (try simp only [nc] at *); (try refine Chk.mk (okc) ?_)
          refine call0 (c23 b hfit) (by first | rfl | (simp only [zoneA, bookA, lst_nt hnt]; rfl)) fun r h₂ hp => ?_
          (try simp only [zoneA, bookA, lst_nt hnt] at hp)
          obtain ⟨rfl, rfl⟩ := hp
          (cbv; (try simp only [nc] at *); (try refine Chk.mk (okc) ?_))
          refine Both.mk ?_ ?_
          · (try simp only [nc] at *); (try refine Chk.mk (okc) ?_)
            refine call0 (c23 b hfit) (by first | rfl | (simp only [zoneA, bookA, lst_nt hnt]; rfl)) fun r h₂ hp => ?_
            (try simp only [zoneA, bookA, lst_nt hnt] at hp)
            obtain ⟨rfl, rfl⟩ := hp
            (cbv; (try simp only [nc] at *); (try refine Chk.mk (okc) ?_))
            with_reducible exact gb ()
          · (cbv; (try simp only [nc] at *); (try refine Chk.mk (okc) ?_))
            refine call0 (c23 b hfit) (by first | rfl | (simp only [zoneA, bookA, lst_nt hnt]; rfl)) fun r h₂ hp => ?_
            (try simp only [zoneA, bookA, lst_nt hnt] at hp)
            obtain ⟨rfl, rfl⟩ := hp
            (cbv; (try simp only [nc] at *); (try refine Chk.mk (okc) ?_))
            with_reducible exact gb ()
        · (cbv; (try simp only [nc] at *); (try refine Chk.mk (okc) ?_))
          refine call0 (c23 b hfit) (by first | rfl | (simp only [zoneA, bookA, lst_nt hnt]; rfl)) fun r h₂ hp => ?_
          (try simp only [zoneA, bookA, lst_nt hnt] at hp)
          obtain ⟨rfl, rfl⟩ := hp
          (cbv; (try simp only [nc] at *); (try refine Chk.mk (okc) ?_))
          refine call0 (c23 b hfit) (by first | rfl | (simp only [zoneA, bookA, lst_nt hnt]; rfl)) fun r h₂ hp => ?_
          (try simp only [zoneA, bookA, lst_nt hnt] at hp)
          obtain ⟨rfl, rfl⟩ := hp
          (cbv; (try simp only [nc] at *); (try refine Chk.mk (okc) ?_))
          refine SC.mono (gb ()) fun r h' hr => ?_
          revert hr
          generalize afterOp _ _ _ _ _ _ = z
          cases z with
          | none => exact id
          | some z => exact fun h => Dn_le (by decide) h
  case' a => obtain ⟨P, Q, hP, hQ⟩ : ∃ P Q : Book → Book → Book, P = (fun F S => F) ∧ Q = (fun F S => S) := ⟨_, _, rfl, rfl⟩
  case' b => obtain ⟨P, Q, hP, hQ⟩ : ∃ P Q : Book → Book → Book, P = (fun F S => S) ∧ Q = (fun F S => F) := ⟨_, _, rfl, rfl⟩
  all_goals
    have hool := ho.olen
    have honl := ho.nlen
    have k40 := c40N hnt o.old b.zones.length (by have := hok.zlen; omega) (by omega) fun t ht => by
      obtain ⟨k, hk, rfl⟩ := mem_getD (d := default) ht
      have := (ho.old.all k (o.old.getD k default) (by rw [List.getD_eq_getElem?_getD, List.getElem?_eq_getElem hk]; rfl)).len
      omega
    have k40' := c40N hnt o.new b.zones.length (by have := hok.zlen; omega) (by omega) fun t ht => by
      obtain ⟨k, hk, rfl⟩ := mem_getD (d := default) ht
      have := (ho.new.all k (o.new.getD k default) (by rw [List.getD_eq_getElem?_getD, List.getElem?_eq_getElem hk]; rfl)).len
      omega
    simp only [trB, stB] at k40 k40'
    refine callL [2, 3] (k40) (by decide) (by simp) (by first | rfl | (simp only [zoneA, bookA, lst_nt hnt]; rfl)) (by first | rfl | (simp only [zoneA, bookA, lst_nt hnt]; rfl)) fun r h₂ hp => ?_
    (try simp only [zoneA, bookA, lst_nt hnt] at hp)
    obtain ⟨Lo, hMo, rfl, rfl⟩ := hp
    (cbv; (try simp only [nc] at *); (try refine Chk.mk (okc) ?_))
    refine callL [4, 5] (k40') (by decide) (by simp) (by first | rfl | (simp only [zoneA, bookA, lst_nt hnt]; rfl)) (by first | rfl | (simp only [zoneA, bookA, lst_nt hnt]; rfl)) fun r h₂ hp => ?_
    (try simp only [zoneA, bookA, lst_nt hnt] at hp)
    obtain ⟨Ln, hMn, rfl, rfl⟩ := hp
    (cbv; (try simp only [nc] at *); (try refine Chk.mk (okc) ?_))
    have e0 : ∀ (M : List Train) (j : Nat), nt Train default M (j : Int) = M.getD j default := fun M j => by rw [hnt]; rfl
    obtain ⟨F, hF⟩ : ∃ F : Book, F = ⟨b.zones, Lo, b.new, b.night, b.last⟩ := ⟨_, rfl⟩
    obtain ⟨S, hS⟩ : ∃ S : Book, S = ⟨b.zones, b.old, Ln, b.night, b.last⟩ := ⟨_, rfl⟩
    refine loopN false [17] [4, 6, 7, 8] [] (fun (n : Nat) => [(8, .int .i64 fun _ => (n : Int) + 1)]) (fun _ => [(2, .dead), (3, .dead), (4, .dead), (5, .dead), (6, .cells [.undef, .undef, .undef, .undef, .undef]), (7, .cells [.isl 2 (fun _ => ((P F S).zones.length : Int)) (fun e => encZone (nt Zone default (P F S).zones (e ()))) .none, .isl 3 (fun _ => ((P F S).old.length : Int)) (fun e => encTrain (nt Train default (P F S).old (e ()))) .none, .isl 3 (fun _ => ((P F S).new.length : Int)) (fun e => encTrain (nt Train default (P F S).new (e ()))) .none, .int .i64 fun _ => (P F S).night, .int .i64 fun _ => (P F S).last]), (8, .cells [.isl 2 (fun _ => ((Q F S).zones.length : Int)) (fun e => encZone (nt Zone default (Q F S).zones (e ()))) .none, .isl 3 (fun _ => ((Q F S).old.length : Int)) (fun e => encTrain (nt Train default (Q F S).old (e ()))) .none, .isl 3 (fun _ => ((Q F S).new.length : Int)) (fun e => encTrain (nt Train default (Q F S).new (e ()))) .none, .int .i64 fun _ => (Q F S).night, .int .i64 fun _ => (Q F S).last])]) (fun n => n ≤ 2) (fun n => 2 - n + 0) 0 (by omega) ?_ ?_
    · subst hP hQ hF hS
      refine (To.frozeV (q := 2) rfl rfl ?_ ?_ rfl).trans ?_
      · intro i hi c hc e l hcl
        subst hcl
        have hc : AV.nsub 3 e l ∈ encTrH 3 (nt Train default o.old (i : Int)) (fun _ => (i : Int)) := hc
        simp [encTrH] at hc
        obtain ⟨rfl, rfl⟩ := hc
        have hi : (i : Int) < (o.old.length : Int) := hi
        show ((nt Train default o.old (i : Int)).stops.length : Int) = ((nt Train default Lo (i : Int)).stops.length : Int)
        rw [e0, e0, (hMo.num i (by omega)).2.2]
      · exact fun i hi => rfl
      refine (To.frozeV (q := 4) rfl rfl ?_ ?_ rfl).trans ?_
      · intro i hi c hc e l hcl
        subst hcl
        have hc : AV.nsub 5 e l ∈ encTrH 5 (nt Train default o.new (i : Int)) (fun _ => (i : Int)) := hc
        simp [encTrH] at hc
        obtain ⟨rfl, rfl⟩ := hc
        have hi : (i : Int) < (o.new.length : Int) := hi
        show ((nt Train default o.new (i : Int)).stops.length : Int) = ((nt Train default Ln (i : Int)).stops.length : Int)
        rw [e0, e0, (hMn.num i (by omega)).2.2]
      · exact fun i hi => rfl
      refine (To.rsv _ _).trans ?_
      (refine To.of [] ?_; cbv; (try simp only [nc]); (repeat' (first | exact trivial | exact WkN.refl _ | exact WkB.refl _ | refine ⟨?_, ?_⟩ | refine WkB.cells ?_ | refine WkN.agg ?_ | refine WkN.tup ?_)); (all_goals (first | exact okt | skip)))
      all_goals (try exact WkB.dead)
      all_goals first
        | (refine .gd (by decide) (.isl (by simp [hMo.len]) fun i hi => ?_)
           have hi : (i : Int) < (o.old.length : Int) := hi
           show [AV.int .i64 fun _ => (nt Train default o.old (i : Int)).number, AV.int .i64 fun _ => (nt Train default o.old (i : Int)).days, AV.isl 4 (fun _ => ((nt Train default o.old (i : Int)).stops.length : Int)) (fun k => encStop (nt Stop default (nt Train default Lo (i : Int)).stops (k ()))) .none] = encTrain (nt Train default Lo (i : Int))
           unfold encTrain
           rw [lst_nt hnt, e0, e0]
           obtain ⟨g1, g2, g3⟩ := hMo.num i (by omega)
           rw [g1, g2, g3])
        | (refine .gd (by decide) (.isl (by simp [hMn.len]) fun i hi => ?_)
           have hi : (i : Int) < (o.new.length : Int) := hi
           show [AV.int .i64 fun _ => (nt Train default o.new (i : Int)).number, AV.int .i64 fun _ => (nt Train default o.new (i : Int)).days, AV.isl 4 (fun _ => ((nt Train default o.new (i : Int)).stops.length : Int)) (fun k => encStop (nt Stop default (nt Train default Ln (i : Int)).stops (k ()))) .none] = encTrain (nt Train default Ln (i : Int))
           unfold encTrain
           rw [lst_nt hnt, e0, e0]
           obtain ⟨g1, g2, g3⟩ := hMn.num i (by omega)
           rw [g1, g2, g3])
    have hbF : BMade 2 6 F := by subst hF; exact made_old hb hMo ho.old ho.olen (by omega)
    have hbS : BMade 2 6 S := by subst hS; exact made_new hb hMn ho.new ho.nlen (by omega)
    have hfF := made_fit hbF (by omega) (by omega)
    have hfS := made_fit hbS (by omega) (by omega)
    have hrF : ∀ n day, b.night ≤ day → Run F n day = Run b n day := fun n day h => run_tab hchk (made_check hbF (by omega) (by omega)) (by rw [hF]) (by rw [hF]) (by unfold table; rw [hF]; dsimp only; rw [if_neg (by omega), if_neg (by omega)]) n
    have hrS : ∀ n day, day < b.night → Run S n day = Run b n day := fun n day h => run_tab hchk (made_check hbS (by omega) (by omega)) (by rw [hS]) (by rw [hS]) (by unfold table; rw [hS]; dsimp only; rw [if_pos (by omega), if_pos (by omega)]) n
    clear hF hS
    intro n hn
    subst hP hQ
    (cbv; (try simp only [nc] at *); (try refine Chk.mk (okc) ?_))
    refine ⟨fun hb1 => ?_, fun hb1 => ?_⟩
    · simp only [decide_eq_true_eq] at hb1
      (cbv; (try simp only [nc] at *); (try refine Chk.mk (okc) ?_))
      refine loopQ fun Qx hQx => ?_
      refine loopN false [17] [4, 6, 7, 8, 9, 10] [.tok 1 fun _ => 0] (fun (d : Nat) => [(9, .isl 1 (fun _ => ((startsL ((n : Int) + 1) (runsTo b d)).length : Int)) (fun e => encI (nt Int 0 (startsL ((n : Int) + 1) (runsTo b d)) (e ()))) (.own 9)), (10, .int .i64 fun _ => (d : Int))]) (fun d => [(9, .tok 1 fun _ => ((startsL ((n : Int) + 1) (runsTo b d)).length : Int))]) (fun d => (d : Int) ≤ b.last + 1) (fun d => (b.last + 1).toNat - d + 0) 0 (by omega) ?_ ?_
      · rw [show startsL ((n : Int) + 1) (runsTo b 0) = [] from rfl]
        (refine To.of [(1,false)] ?_; cbv; (try simp only [nc]); (repeat' (first | exact trivial | exact WkN.refl _ | exact WkB.refl _ | refine ⟨?_, ?_⟩ | refine WkB.cells ?_ | refine WkN.agg ?_ | refine WkN.tup ?_)); (all_goals (first | exact okt | skip)))
      intro d hd
      (cbv; (try simp only [nc] at *); (try refine Chk.mk (okc) ?_))
      refine ⟨fun hb2 => ?_, fun hb2 => ?_⟩
      · simp only [decide_eq_true_eq] at hb2
        have hR : (Run b ((n : Int) + 1) d).1.length ≤ 4 := (run_bd hb hchk _ _).1
        obtain ⟨hr1, hr2⟩ := run_day hchk ((n : Int) + 1) d hb2
        have hO : (startsL ((n : Int) + 1) (runsTo b d)).length ≤ 1000 := Nat.le_trans (List.length_filterMap_le _ _) (Nat.le_trans (runsTo_len hok d) (by omega))
        have k1 := c26 b ((n : Int) + 1) d hfit
        have hrF := hrF ((n : Int) + 1) d
        have hrS := hrS ((n : Int) + 1) d
        have k2 := fun X hX => c26 X ((n : Int) + 1) d hX
        generalize hO' : startsL ((n : Int) + 1) (runsTo b d) = O at *
        generalize Run b ((n : Int) + 1) d = R at *
        obtain ⟨C, e⟩ := R
        dsimp only at hr1 hr2 hR
        have k3 := c27 C C (by omega)
        rw [decide_eq_true rfl] at k3
        (cbv; (try simp only [nc] at *); (try refine Chk.mk (okc) ?_))
        refine call0 (k1) (by first | rfl | (simp only [zoneA, bookA, lst_nt hnt]; rfl)) fun r h₂ hp => ?_
        (try simp only [zoneA, bookA, lst_nt hnt] at hp)
        obtain ⟨rfl, rfl⟩ := hp
        (cbv; (try simp only [nc] at *); (try refine Chk.mk (okc) ?_))
        refine cutD false false [] 50 [4, 6, 7, 8, 9, 10, 11, 12, 13] (fun X : Book => []) (fun X => [(10, .cells [.isl 2 (fun _ => ((X).zones.length : Int)) (fun e => encZone (nt Zone default (X).zones (e ()))) .none, .isl 3 (fun _ => ((X).old.length : Int)) (fun e => encTrain (nt Train default (X).old (e ()))) .none, .isl 3 (fun _ => ((X).new.length : Int)) (fun e => encTrain (nt Train default (X).new (e ()))) .none, .int .i64 fun _ => (X).night, .int .i64 fun _ => (X).last])]) (fun X => BookFit X ∧ Run X ((n : Int) + 1) d = (C, e)) (fun _ _ h => h) (by decide) ?_ ?_
        · (cbv; (try simp only [nc] at *); (try refine Chk.mk (okc) ?_))
          refine ⟨fun hb3 => ?_, fun hb3 => ?_⟩
          · simp only [decide_eq_true_eq] at hb3
            (cbv; (try simp only [nc] at *); (try refine Chk.mk (okc) ?_))
            refine ⟨F, ⟨hfF, hrF hb3⟩, ?_⟩
            (refine To.of [] ?_; cbv; (try simp only [nc]); (repeat' (first | exact trivial | exact WkN.refl _ | exact WkB.refl _ | refine ⟨?_, ?_⟩ | refine WkB.cells ?_ | refine WkN.agg ?_ | refine WkN.tup ?_)); (all_goals (first | exact okt | skip)))
          · simp only [decide_eq_false_iff_not] at hb3
            (cbv; (try simp only [nc] at *); (try refine Chk.mk (okc) ?_))
            refine ⟨S, ⟨hfS, hrS (by omega)⟩, ?_⟩
            (refine To.of [] ?_; cbv; (try simp only [nc]); (repeat' (first | exact trivial | exact WkN.refl _ | exact WkB.refl _ | refine ⟨?_, ?_⟩ | refine WkB.cells ?_ | refine WkN.agg ?_ | refine WkN.tup ?_)); (all_goals (first | exact okt | skip)))
        rintro X ⟨hfX, hX⟩
        have k2 := k2 X hfX
        rw [hX] at k2
        (cbv; (try simp only [nc] at *); (try refine Chk.mk (okc) ?_))
        refine call0 (k2) (by first | rfl | (simp only [zoneA, bookA, lst_nt hnt]; rfl)) fun r h₂ hp => ?_
        (try simp only [zoneA, bookA, lst_nt hnt] at hp)
        obtain ⟨rfl, rfl⟩ := hp
        (cbv; (try simp only [nc] at *); (try refine Chk.mk (okc) ?_))
        refine Br.isT (by simp) ?_
        (cbv; (try simp only [nc] at *); (try refine Chk.mk (okc) ?_))
        refine call0 (k3) (by first | rfl | (simp only [zoneA, bookA, lst_nt hnt]; rfl)) fun r h₂ hp => ?_
        (try simp only [zoneA, bookA, lst_nt hnt] at hp)
        obtain ⟨rfl, rfl⟩ := hp
        (cbv; try simp only [nc] at *)
        have hbr : ((e == 0) != decide (0 < (C.length : Int))) = false := by
          by_cases h : e = 0
          · have := hr1.1 h
            rw [decide_eq_true (by omega), h]; rfl
          · have := fun h' => h (hr1.2 h')
            rw [decide_eq_false (by omega)]
            simp [h]
        simp only [bne_self_eq_false, Bool.not_false, Bool.not_true, cond_false, decide_true]
        refine Chk.mk (okc) ?_
        refine Br.isF hbr ?_
        (cbv; (try simp only [nc] at *); (try refine Chk.mk (okc) ?_))
        refine ⟨fun hb4 => ?_, fun hb4 => ?_⟩
        · simp only [beq_iff_eq] at hb4
          rw [if_pos hb4] at hr2
          (cbv; (try simp only [nc] at *); (try refine Chk.mk (okc) ?_))
          refine ⟨d + 1, by omega, by omega, ?_⟩
          rw [hr2]
          (refine To.of [] ?_; cbv; (try simp only [nc]); (repeat' (first | exact trivial | exact WkN.refl _ | exact WkB.refl _ | refine ⟨?_, ?_⟩ | refine WkB.cells ?_ | refine WkN.agg ?_ | refine WkN.tup ?_)); (all_goals (first | exact okt | skip)))
        · simp only [beq_eq_false_iff_ne, ne_eq] at hb4
          rw [if_neg hb4, List.append_nil] at hr2
          (cbv; (try simp only [nc] at *); (try refine Chk.mk (okc) ?_))
          refine ⟨d + 1, by omega, by omega, ?_⟩
          rw [hr2]
          (refine To.of [] ?_; cbv; (try simp only [nc]); (repeat' (first | exact trivial | exact WkN.refl _ | exact WkB.refl _ | refine ⟨?_, ?_⟩ | refine WkB.cells ?_ | refine WkN.agg ?_ | refine WkN.tup ?_)); (all_goals (first | exact okt | skip)))
      · simp only [decide_eq_false_iff_not] at hb2
        obtain rfl : d = (b.last + 1).toNat := by omega
        have hO : (startsL ((n : Int) + 1) (runsTo b (b.last + 1).toNat)).length ≤ 1000 := Nat.le_trans (List.length_filterMap_le _ _) (Nat.le_trans (runsTo_len hok (b.last + 1).toNat) (by omega))
        have k41 := c41 b ((n : Int) + 1) hfit
        obtain ⟨hs1, hs2⟩ := starts_tail hchk ((n : Int) + 1)
        generalize Starts b ((n : Int) + 1) = St at *
        generalize startsL ((n : Int) + 1) (runsTo b (b.last + 1).toNat) = O at *
        obtain ⟨S1, e⟩ := St
        dsimp only at hs1 hs2
        subst hs1
        have k39 := c39 S1 S1 (by omega)
        rw [decide_eq_true rfl] at k39
        (cbv; (try simp only [nc] at *); (try refine Chk.mk (okc) ?_))
        refine hQx _ _ _ ?_
        clear hQx
        (cbv; (try simp only [nc] at *); (try refine Chk.mk (okc) ?_))
        simp only [bookA, lst_nt hnt] at k41
        refine call0 (k41) (by first | rfl | (simp only [zoneA, bookA, lst_nt hnt]; rfl)) fun r h₂ hp => ?_
        (try simp only [zoneA, bookA, lst_nt hnt] at hp)
        obtain ⟨rfl, rfl⟩ := hp
        have hcond : (bif e != 0 then bif e != 3 then true else decide (0 < (S1.length : Int)) else false) = false := by
          rcases hs2 with rfl | ⟨rfl, rfl⟩ <;> rfl
        (cbv; (try simp only [nc] at *); (try refine Chk.mk (okc) ?_))
        refine Br.isT (by rw [hcond]; rfl) ?_
        (cbv; (try simp only [nc] at *); (try refine Chk.mk (okc) ?_))
        refine call0 (k39) (by first | rfl | (simp only [zoneA, bookA, lst_nt hnt]; rfl)) fun r h₂ hp => ?_
        (try simp only [zoneA, bookA, lst_nt hnt] at hp)
        obtain ⟨rfl, rfl⟩ := hp
        (cbv; try simp only [nc] at *)
        simp only [hcond, Bool.not_false, Bool.not_true, cond_false]
        refine Chk.mk (okc) ?_
        refine Br.isF rfl ?_
        (cbv; (try simp only [nc] at *); (try refine Chk.mk (okc) ?_))
        refine ⟨n + 1, by omega, by omega, ?_⟩
        (refine To.of [] ?_; cbv; (try simp only [nc]); (repeat' (first | exact trivial | exact WkN.refl _ | exact WkB.refl _ | refine ⟨?_, ?_⟩ | refine WkB.cells ?_ | refine WkN.agg ?_ | refine WkN.tup ?_)); (all_goals (first | exact okt | skip)))
    · (cbv; (try simp only [nc] at *); (try refine Chk.mk (okc) ?_))
      refine call0 (c18) (by first | rfl | (simp only [zoneA, bookA, lst_nt hnt]; rfl)) fun r h₂ hp => ?_
      (try simp only [zoneA, bookA, lst_nt hnt] at hp)
      obtain ⟨rfl, rfl⟩ := hp
      (cbv; (try simp only [nc] at *); (try refine Chk.mk (okc) ?_))
end Go.Proofs.Ytlcgliadpalgfaa.Vm
