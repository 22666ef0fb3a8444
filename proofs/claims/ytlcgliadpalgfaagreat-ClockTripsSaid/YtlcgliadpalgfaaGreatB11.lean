/- Contracts: the ride that goes next, by the reference. -/
import Derived.Calls
import Derived.Laws.Entries
import Derived.Laws.Cells
import Derived.Laws.BitsLemmas
import Derived.Laws.Slices
import Derived.Laws.StructEq
import Derived.ChangeKeysEq
import Derived.Laws.CopyRow
import Derived.Laws.AppendOwn
import Derived.Orders
import Derived.Test.YtlcgliadpalgfaaGreatRows
import Derived.RangeFuncIn
import Derived.RangeFuncRecord
import Derived.WalkKit
import Derived.ProofKit
import Derived.OpenShut
import Derived.ShutString
import Derived.ChangeOld
import Derived.Below
import Derived.Deep.Slices
import Derived.KernelRfl
import Derived.Test.YtlcgliadpalgfaaGreatB0
import Derived.Test.YtlcgliadpalgfaaGreatB1
import Derived.Test.YtlcgliadpalgfaaGreatB2
import Derived.Test.YtlcgliadpalgfaaGreatB3
import Derived.Test.YtlcgliadpalgfaaGreatB4
import Derived.Test.YtlcgliadpalgfaaGreatB5
import Derived.Test.YtlcgliadpalgfaaGreatB6
import Derived.Test.YtlcgliadpalgfaaGreatB7
import Derived.Test.YtlcgliadpalgfaaGreatB8
import Derived.Test.YtlcgliadpalgfaaGreatB9
import Derived.Test.YtlcgliadpalgfaaGreatB10
set_option linter.unusedSimpArgs false
set_option linter.unusedVariables false
namespace Go.Proofs.YtlcgliadpalgfaaGreat.Vm
open Go Go.Proofs Sp
set_option maxRecDepth 100000
set_option maxHeartbeats 1600000

theorem since_drop {a : Int} {R : List Sp.Ride} {x : Sp.Ride} {r : List Sp.Ride} (h : R = x :: r) : since a R = if a ≤ x.depart then x :: since a r else since a r := by
  subst h
  unfold since
  rw [List.filter_cons]
  by_cases h : a ≤ x.depart
  · rw [if_pos h, if_pos (by simpa using h)]
  · rw [if_neg h, if_neg (by simpa using h)]

theorem c225 (b : Book) (g : Sp.Leg) (a : Int) (hck : Check b = 0) : SC (fun _ => Tryz.prog) 81 [bookA b, legA g, .int .i64 fun _ => a] [] fun v h => v = .tup [.agg (encRide (least (since a (refRides b g)))), .bool fun _ => decide (0 < (since a (refRides b g)).length)] ∧ h = [] := by
  obtain ⟨nt, hnt⟩ := nth_ex
  have k226 := c226 b g hck
  have hRl : (refRides b g).length ≤ 100 := by
    have hok := book_ok hck
    have := hok.last
    exact refRides_len hok g _ (by omega)
  generalize refRides b g = R at *
  refine SC.less (conX false false [] Tryz.func81 (body := bodyOf Tryz.f81) rfl (by decide +kernel) ?_)
  unfold legA at *
  rw [bookA_nt hnt] at *
  simp only [lst_nt hnt] at *
  unfold least
  generalize hL : leastGo 0 ⟨0, 0, 0⟩ (since a R) = L
  generalize hS : (since a R).length = S
  (cbv; (try simp only [nc] at *); (try refine Chk.mk (okc) ?_))
  refine call0 k226 rfl fun r h₂ hp => ?_
  obtain ⟨rfl, rfl⟩ := hp
  (cbv; (try simp only [nc] at *); (try refine Chk.mk (okc) ?_))
  refine loopS false false [] [2, 6, 8, 9, 10, 11] [] (fun (⟨k, i, x⟩ : Nat × Nat × Sp.Ride) => [(10, .bool fun _ => decide (0 < i)), (11, .int .i64 fun _ => (k : Int))]) (fun ⟨k, i, x⟩ => [(3, .cells (encRide x))]) (fun ⟨k, i, x⟩ => k ≤ R.length ∧ leastGo i x (since a (R.drop k)) = L ∧ i + (since a (R.drop k)).length = S) (fun i => R.length - i.1 + 0) (0, 0, ⟨0, 0, 0⟩) ⟨Nat.zero_le _, by simpa using hL, by simpa using hS⟩ ?_ ?_
  · (refine To.of [] ?_; cbv; (try simp only [nc]); (repeat' (first | exact trivial | exact WkN.refl _ | exact WkB.refl _ | refine ⟨?_, ?_⟩ | refine WkB.cells ?_ | refine WkN.agg ?_ | refine WkN.tup ?_)); (all_goals (first | exact okt | skip)))
  rintro ⟨k, i, x⟩ hinv
  have hk : k ≤ R.length := hinv.1
  have hp : leastGo i x (since a (R.drop k)) = L := hinv.2.1
  have hq : i + (since a (R.drop k)).length = S := hinv.2.2
  clear hinv
  (cbv; (try simp only [nc] at *); (try refine Chk.mk (okc) ?_))
  refine ⟨fun hb => ?_, fun hb => ?_⟩
  · simp only [decide_eq_true_eq] at hb
    rw [since_drop (nt_drop (d := default) hnt (l := R) (i := k) (by omega))] at hp hq
    generalize hy : nt Sp.Ride default R (k : Int) = y at *
    (cbv; try simp only [nc] at *)
    simp only [hy]
    (try refine Chk.mk (okc) ?_)
    refine ⟨fun h1 => ?_, fun h1 => ?_⟩
    · have hc : a ≤ y.depart ∧ (i = 0 ∨ y.depart < x.depart) := by
        by_cases g1 : a ≤ y.depart <;> by_cases g2 : i = 0 <;> by_cases g3 : y.depart < x.depart <;> simp [g1, g2, g3] at h1 ⊢
        all_goals omega
      rw [if_pos hc.1, leastGo, if_pos hc.2] at hp
      rw [if_pos hc.1, List.length_cons] at hq
      (cbv; try simp only [nc] at *)
      simp only [hy]
      (try refine Chk.mk (okc) ?_)
      refine ⟨(k + 1, i + 1, y), ⟨by show k + 1 ≤ R.length; omega, hp, by show i + 1 + (since a (R.drop (k + 1))).length = S; omega⟩, by show R.length - (k + 1) + 0 < R.length - k + 0; omega, ?_⟩
      (refine To.of [] ?_; cbv; (try simp only [nc]); (repeat' (first | exact trivial | exact WkN.refl _ | exact WkB.refl _ | refine ⟨?_, ?_⟩ | refine WkB.cells ?_ | refine WkN.agg ?_ | refine WkN.tup ?_)); (all_goals (first | exact okt | skip)))
    · have hc : ¬ a ≤ y.depart ∨ (0 < i ∧ a ≤ y.depart ∧ ¬ y.depart < x.depart) := by
        by_cases g1 : a ≤ y.depart <;> by_cases g2 : i = 0 <;> by_cases g3 : y.depart < x.depart <;> simp [g1, g2, g3] at h1 ⊢
        all_goals omega
      (cbv; (try simp only [nc] at *); (try refine Chk.mk (okc) ?_))
      rcases hc with hc | hc
      · rw [if_neg hc] at hp hq
        refine ⟨(k + 1, i, x), ⟨by show k + 1 ≤ R.length; omega, hp, hq⟩, by show R.length - (k + 1) + 0 < R.length - k + 0; omega, ?_⟩
        (refine To.of [] ?_; cbv; (try simp only [nc]); (repeat' (first | exact trivial | exact WkN.refl _ | exact WkB.refl _ | refine ⟨?_, ?_⟩ | refine WkB.cells ?_ | refine WkN.agg ?_ | refine WkN.tup ?_)); (all_goals (first | exact okt | skip)))
      · rw [if_pos hc.2.1, leastGo, if_neg (by omega)] at hp
        rw [if_pos hc.2.1, List.length_cons] at hq
        refine ⟨(k + 1, i + 1, x), ⟨by show k + 1 ≤ R.length; omega, hp, by show i + 1 + (since a (R.drop (k + 1))).length = S; omega⟩, by show R.length - (k + 1) + 0 < R.length - k + 0; omega, ?_⟩
        (refine To.of [] ?_; cbv; (try simp only [nc]); (repeat' (first | exact trivial | exact WkN.refl _ | exact WkB.refl _ | refine ⟨?_, ?_⟩ | refine WkB.cells ?_ | refine WkN.agg ?_ | refine WkN.tup ?_)); (all_goals (first | exact okt | skip)))
        exact .bool (by simp; omega)
  · rw [List.drop_eq_nil_of_le (by simp only [decide_eq_false_iff_not] at hb; omega)] at hp hq
    have hp : x = L := hp
    have hq : i = S := hq
    subst hp hq
    (cbv; (try simp only [nc] at *); (try refine Chk.mk (okc) ?_))
    refine ⟨_, [], ?_, rfl, rfl⟩
    (refine To.of [] ?_; cbv; (try simp only [nc]); (repeat' (first | exact trivial | exact WkN.refl _ | exact WkB.refl _ | refine ⟨?_, ?_⟩ | refine WkB.cells ?_ | refine WkN.agg ?_ | refine WkN.tup ?_)); (all_goals (first | exact okt | skip)))

theorem c213 (b : Book) (n st a : Int) (hf : BookFit b) : SC (fun _ => Tryz.prog) 35 [bookA b, .int .i64 fun _ => n, .int .i64 fun _ => st, .int .i64 fun _ => a] [] fun v h => v = .tup [.int .i64 fun _ => (Next b n st a).1, .int .i64 fun _ => (Next b n st a).2.1, .int .i64 fun _ => (Next b n st a).2.2] ∧ h = [] := by
  obtain ⟨nt, hnt⟩ := nth_ex
  have k215 := c215 b n hf
  have hok0 : checkNumber b n = 0 → Check b = 0 := fun h => by
    unfold checkNumber at h
    split at h
    · rename_i hne; exact absurd h hne
    · rename_i hne; exact Decidable.of_not_not hne
  have k225 := c225 b ⟨n, st, -1⟩ a
  unfold Next
  rw [next_ref]
  generalize checkNumber b n = C at *
  generalize since a (refRides b ⟨n, st, -1⟩) = R at *
  generalize least R = X at *
  refine SC.less (conX false false [] Tryz.func35 (body := bodyOf Tryz.f35) rfl (by decide +kernel) ?_)
  unfold legA at k225
  rw [bookA_nt hnt] at *
  (cbv; (try simp only [nc] at *); (try refine Chk.mk (okc) ?_))
  refine call0 (k215) (by first | rfl | (simp only [zoneA, bookA, lst_nt hnt]; rfl)) fun r h₂ hp => ?_
  (try simp only [zoneA, bookA, lst_nt hnt] at hp)
  obtain ⟨rfl, rfl⟩ := hp
  (cbv; (try simp only [nc] at *); (try refine Chk.mk (okc) ?_))
  refine ⟨fun hb => ?_, fun hb => ?_⟩
  · simp only [bne_iff_ne, ne_eq] at hb
    rw [if_pos hb]
    (cbv; (try simp only [nc] at *); (try refine Chk.mk (okc) ?_))
    refine ⟨_, [], ?_, rfl, rfl⟩
    (refine To.of [] ?_; cbv; (try simp only [nc]); (repeat' (first | exact trivial | exact WkN.refl _ | exact WkB.refl _ | refine ⟨?_, ?_⟩ | refine WkB.cells ?_ | refine WkN.agg ?_ | refine WkN.tup ?_)); (all_goals (first | exact okt | skip)))
  have hC : C = 0 := by simpa using hb
  have k225 := k225 (hok0 hC)
  rw [if_neg (fun h => h hC)]
  (cbv; (try simp only [nc] at *); (try refine Chk.mk (okc) ?_))
  refine call0 (c72 st 0 9) (by first | rfl | (simp only [zoneA, bookA, lst_nt hnt]; rfl)) fun r h₂ hp => ?_
  (try simp only [zoneA, bookA, lst_nt hnt] at hp)
  obtain ⟨rfl, rfl⟩ := hp
  (cbv; (try simp only [nc] at *); (try refine Chk.mk (okc) ?_))
  refine ⟨fun h1 => ?_, fun h1 => ?_⟩
  rotate_left
  · have h1 : inB st 0 9 = false := by simpa using h1
    rw [h1]
    simp only [Bool.not_false, Bool.true_or, if_true]
    (cbv; (try simp only [nc] at *); (try refine Chk.mk (okc) ?_))
    refine Br.isT (by rfl) ?_
    (cbv; (try simp only [nc] at *); (try refine Chk.mk (okc) ?_))
    refine ⟨_, [], ?_, rfl, rfl⟩
    (refine To.of [] ?_; cbv; (try simp only [nc]); (repeat' (first | exact trivial | exact WkN.refl _ | exact WkB.refl _ | refine ⟨?_, ?_⟩ | refine WkB.cells ?_ | refine WkN.agg ?_ | refine WkN.tup ?_)); (all_goals (first | exact okt | skip)))
  have h1 : inB st 0 9 = true := by simpa using h1
  rw [h1]
  simp only [Bool.not_true, Bool.false_or]
  (cbv; (try simp only [nc] at *); (try refine Chk.mk (okc) ?_))
  refine call0 (c72 a 0 43200) (by first | rfl | (simp only [zoneA, bookA, lst_nt hnt]; rfl)) fun r h₂ hp => ?_
  (try simp only [zoneA, bookA, lst_nt hnt] at hp)
  obtain ⟨rfl, rfl⟩ := hp
  (cbv; (try simp only [nc] at *); (try refine Chk.mk (okc) ?_))
  refine ⟨fun h2 => ?_, fun h2 => ?_⟩
  · have h2 : inB a 0 43200 = false := by simpa [h1] using h2
    rw [h2]
    simp only [Bool.not_false, if_true]
    (cbv; (try simp only [nc] at *); (try refine Chk.mk (okc) ?_))
    refine ⟨_, [], ?_, rfl, rfl⟩
    (refine To.of [] ?_; cbv; (try simp only [nc]); (repeat' (first | exact trivial | exact WkN.refl _ | exact WkB.refl _ | refine ⟨?_, ?_⟩ | refine WkB.cells ?_ | refine WkN.agg ?_ | refine WkN.tup ?_)); (all_goals (first | exact okt | skip)))
  have h2 : inB a 0 43200 = true := by simpa [h1] using h2
  rw [h2]
  simp only [Bool.not_true, Bool.false_eq_true, if_false]
  (cbv; (try simp only [nc] at *); (try refine Chk.mk (okc) ?_))
  refine call0 (k225) (by first | rfl | (simp only [zoneA, bookA, lst_nt hnt]; rfl)) fun r h₂ hp => ?_
  (try simp only [zoneA, bookA, lst_nt hnt] at hp)
  obtain ⟨rfl, rfl⟩ := hp
  (cbv; (try simp only [nc] at *); (try refine Chk.mk (okc) ?_))
  refine ⟨fun h3 => ?_, fun h3 => ?_⟩
  · have h3 : R.length = 0 := by simpa using h3
    rw [if_pos h3]
    (cbv; (try simp only [nc] at *); (try refine Chk.mk (okc) ?_))
    refine ⟨_, [], ?_, rfl, rfl⟩
    (refine To.of [] ?_; cbv; (try simp only [nc]); (repeat' (first | exact trivial | exact WkN.refl _ | exact WkB.refl _ | refine ⟨?_, ?_⟩ | refine WkB.cells ?_ | refine WkN.agg ?_ | refine WkN.tup ?_)); (all_goals (first | exact okt | skip)))
  · have h3 : ¬ R.length = 0 := by
      have h4 : decide (0 < R.length) = true := by simpa using h3
      have := of_decide_eq_true h4
      omega
    rw [if_neg h3]
    (cbv; (try simp only [nc] at *); (try refine Chk.mk (okc) ?_))
    refine ⟨_, [], ?_, rfl, rfl⟩
    (refine To.of [] ?_; cbv; (try simp only [nc]); (repeat' (first | exact trivial | exact WkN.refl _ | exact WkB.refl _ | refine ⟨?_, ?_⟩ | refine WkB.cells ?_ | refine WkN.agg ?_ | refine WkN.tup ?_)); (all_goals (first | exact okt | skip)))
end Go.Proofs.YtlcgliadpalgfaaGreat.Vm

/- Contracts: trips, who is lost, and waits, by the reference. -/
namespace Go.Proofs.YtlcgliadpalgfaaGreat.Vm
open Go Go.Proofs Sp
set_option maxRecDepth 100000
set_option maxHeartbeats 1600000

theorem callAt_none {C : List Sp.Call} {st : Int} {k : Nat} (h : ∀ c ∈ C, c.station ≠ st) : callAt C st k = -1 := by
  rcases callAt_rng C st k with h1 | h1
  · exact h1
  · exfalso
    unfold callAt at h1
    obtain ⟨j, hj⟩ : ∃ j : Nat, indexFrom (fun c : Sp.Call => decide (c.station = st)) (k : Int) (C.drop k) = (j : Int) := ⟨(indexFrom (fun c : Sp.Call => decide (c.station = st)) (k : Int) (C.drop k)).toNat, by omega⟩
    obtain ⟨g1, g2, g3, g4⟩ := indexFrom_some hj
    have := g4 _ (List.getElem?_eq_getElem g2)
    exact h _ (List.mem_of_mem_drop (List.getElem_mem g2)) (by simpa using this)
theorem mem_runsTo {b : Book} {x : Train × Int} : ∀ {d : Nat}, x ∈ runsTo b d → x.1 ∈ table b x.2
  | 0, h => by simp [runsTo] at h
  | d + 1, h => by
    rw [runsTo_succ, List.mem_append] at h
    rcases h with h | h
    · exact mem_runsTo h
    · unfold runsIn at h
      rw [List.take_length] at h
      obtain ⟨t, ht, rfl⟩ := List.mem_map.1 h
      exact (List.mem_filter.1 ht).1
theorem rides_neg {b : Book} {g : Sp.Leg} (hok : BookOk b) (h : g.to_ < 0) : rides b g = [] := by
  unfold rides ridesL
  rw [List.filterMap_eq_nil_iff]
  intro x hx
  have hm := tabOk hok (mem_runsTo hx)
  have hn : ∀ c ∈ calls b.zones x.1 x.2, c.station ≠ g.to_ := fun c hc => by
    have := calls_nn (fun s hs => (hm.stops s hs).station.1) c hc
    omega
  unfold rideOf
  split
  · rfl
  split
  · rfl
  rw [if_pos (by rw [callAt_none hn]; decide)]

theorem c222 (b : Book) (hck : Check b = 0) (legs : List Sp.Leg) (a0 : Int) (hl : legs.length ≤ 1000) : SC (fun _ => Tryz.prog) 75 [bookA b, lst 3 encLeg default legs, .int .i64 fun _ => a0] [] fun v h => v = .tup [lst 3 encRide default (if (trip b legs a0 []).2 then (trip b legs a0 []).1 else []), .bool fun _ => (trip b legs a0 []).2] ∧ h = [] := by
  obtain ⟨nt, hnt⟩ := nth_ex
  have hok := book_ok hck
  have k225 := fun g a => c225 b g a hck
  refine SC.less (conX false false [] Tryz.func75 (body := bodyOf Tryz.f75) rfl (by decide +kernel) ?_)
  unfold legA at k225
  simp only [bookA_nt hnt, lst_nt hnt] at *
  generalize hF : trip b legs a0 [] = F
  (cbv; (try simp only [nc] at *); (try refine Chk.mk (okc) ?_))
  refine loopS false false [] [1, 2, 3, 8, 9] [.tok 3 fun _ => 0] (fun (⟨i, a, out⟩ : Nat × Int × List Sp.Ride) => [(2, .int .i64 fun _ => a), (8, .isl 3 (fun _ => (out.length : Int)) (fun e => encRide (nt Sp.Ride default out (e ()))) (.own 1)), (9, .int .i64 fun _ => (i : Int))])
    (fun ⟨i, a, out⟩ => [(1, .tok 3 fun _ => (out.length : Int))]) (fun ⟨i, a, out⟩ => i ≤ legs.length ∧ out.length = i ∧ trip b (legs.drop i) a out = F) (fun i => legs.length - i.1 + 0) (0, a0, []) ⟨Nat.zero_le _, rfl, by simpa using hF⟩ ?_ ?_
  · (refine To.of [(3,false)] ?_; cbv; (try simp only [nc]); (repeat' (first | exact trivial | exact WkN.refl _ | exact WkB.refl _ | refine ⟨?_, ?_⟩ | refine WkB.cells ?_ | refine WkN.agg ?_ | refine WkN.tup ?_)); (all_goals (first | exact okt | skip)))
  rintro ⟨i, a, out⟩ hinv
  have hi : i ≤ legs.length := hinv.1
  have ho : out.length = i := hinv.2.1
  have hp : trip b (legs.drop i) a out = F := hinv.2.2
  clear hinv
  (cbv; (try simp only [nc] at *); (try refine Chk.mk (okc) ?_))
  refine ⟨fun hb => ?_, fun hb => ?_⟩
  · simp only [decide_eq_true_eq] at hb
    rw [nt_drop (d := default) hnt (l := legs) (i := i) (by omega)] at hp
    generalize hg : nt Sp.Leg default legs (i : Int) = g at *
    (cbv; try simp only [nc] at *)
    simp only [hg]
    refine Chk.mk (okc) ?_
    refine ⟨fun h1 => ?_, fun h1 => ?_⟩
    · have h1 : g.to_ < 0 := by simpa using h1
      unfold trip at hp
      rw [rides_neg hok h1] at hp
      have e : (since a ([] : List Sp.Ride)).length = 0 := rfl
      rw [if_pos e] at hp
      rw [← hp]
      (cbv; (try simp only [nc] at *); (try refine Chk.mk (okc) ?_))
      refine ⟨_, [], ?_, rfl, rfl⟩
      (refine To.of [] ?_; cbv; (try simp only [nc]); (repeat' (first | exact trivial | exact WkN.refl _ | exact WkB.refl _ | refine ⟨?_, ?_⟩ | refine WkB.cells ?_ | refine WkN.agg ?_ | refine WkN.tup ?_)); (all_goals (first | exact okt | skip)))
    have h1 : ¬ g.to_ < 0 := by simpa using h1
    have k225 := k225 g a
    unfold trip at hp
    rw [refRides_rides (by omega)] at k225
    generalize hS : since a (rides b g) = S at *
    generalize least S = x at *
    (cbv; try simp only [nc] at *)
    simp only [hg]
    refine Chk.mk (okc) ?_
    refine ⟨?_, ?_⟩
    · skip
      refine call0 (k225) (by first | rfl | (simp only [zoneA, bookA, lst_nt hnt]; rfl)) fun r h₂ hp => ?_
      (try simp only [zoneA, bookA, lst_nt hnt] at hp)
      obtain ⟨rfl, rfl⟩ := hp
      (cbv; (try simp only [nc] at *); (try refine Chk.mk (okc) ?_))
      refine ⟨fun h2 => ?_, fun h2 => ?_⟩
      · have h2 : S.length = 0 := by simpa using h2
        rw [if_pos h2] at hp
        rw [← hp]
        (cbv; (try simp only [nc] at *); (try refine Chk.mk (okc) ?_))
        refine ⟨_, [], ?_, rfl, rfl⟩
        (refine To.of [] ?_; cbv; (try simp only [nc]); (repeat' (first | exact trivial | exact WkN.refl _ | exact WkB.refl _ | refine ⟨?_, ?_⟩ | refine WkB.cells ?_ | refine WkN.agg ?_ | refine WkN.tup ?_)); (all_goals (first | exact okt | skip)))
      · have h2 : ¬ S.length = 0 := by
          have h3 : decide (0 < S.length) = true := by simpa using h2
          have := of_decide_eq_true h3
          omega
        rw [if_neg h2] at hp
        (cbv; (try simp only [nc] at *); (try refine Chk.mk (okc) ?_))
        refine ⟨(i + 1, x.arrive, out ++ [x]), ⟨by show i + 1 ≤ legs.length; omega, by show (out ++ [x]).length = i + 1; rw [List.length_append, List.length_singleton]; omega, hp⟩, by show legs.length - (i + 1) + 0 < legs.length - i + 0; omega, ?_⟩
        (refine To.of [] ?_; cbv; (try simp only [nc]); (repeat' (first | exact trivial | exact WkN.refl _ | exact WkB.refl _ | refine ⟨?_, ?_⟩ | refine WkB.cells ?_ | refine WkN.agg ?_ | refine WkN.tup ?_)); (all_goals (first | exact okt | skip)))
    · (cbv; (try simp only [nc] at *); (try refine Chk.mk (okc) ?_))
      (try simp only [hg])
      refine call0 (k225) (by first | rfl | (simp only [zoneA, bookA, lst_nt hnt]; rfl)) fun r h₂ hp => ?_
      (try simp only [zoneA, bookA, lst_nt hnt] at hp)
      obtain ⟨rfl, rfl⟩ := hp
      (cbv; (try simp only [nc] at *); (try refine Chk.mk (okc) ?_))
      refine ⟨fun h2 => ?_, fun h2 => ?_⟩
      · have h2 : S.length = 0 := by simpa using h2
        rw [if_pos h2] at hp
        rw [← hp]
        (cbv; (try simp only [nc] at *); (try refine Chk.mk (okc) ?_))
        refine ⟨_, [], ?_, rfl, rfl⟩
        (refine To.of [] ?_; cbv; (try simp only [nc]); (repeat' (first | exact trivial | exact WkN.refl _ | exact WkB.refl _ | refine ⟨?_, ?_⟩ | refine WkB.cells ?_ | refine WkN.agg ?_ | refine WkN.tup ?_)); (all_goals (first | exact okt | skip)))
      · have h2 : ¬ S.length = 0 := by
          have h3 : decide (0 < S.length) = true := by simpa using h2
          have := of_decide_eq_true h3
          omega
        rw [if_neg h2] at hp
        (cbv; (try simp only [nc] at *); (try refine Chk.mk (okc) ?_))
        refine ⟨(i + 1, x.arrive, out ++ [x]), ⟨by show i + 1 ≤ legs.length; omega, by show (out ++ [x]).length = i + 1; rw [List.length_append, List.length_singleton]; omega, hp⟩, by show legs.length - (i + 1) + 0 < legs.length - i + 0; omega, ?_⟩
        (refine To.of [] ?_; cbv; (try simp only [nc]); (repeat' (first | exact trivial | exact WkN.refl _ | exact WkB.refl _ | refine ⟨?_, ?_⟩ | refine WkB.cells ?_ | refine WkN.agg ?_ | refine WkN.tup ?_)); (all_goals (first | exact okt | skip)))
  · rw [List.drop_eq_nil_of_le (by simp only [decide_eq_false_iff_not] at hb; omega), trip] at hp
    rw [← hp]
    (cbv; (try simp only [nc] at *); (try refine Chk.mk (okc) ?_))
    refine ⟨_, [], ?_, rfl, rfl⟩
    (refine To.of [] ?_; cbv; (try simp only [nc]); (repeat' (first | exact trivial | exact WkN.refl _ | exact WkB.refl _ | refine ⟨?_, ?_⟩ | refine WkB.cells ?_ | refine WkN.agg ?_ | refine WkN.tup ?_)); (all_goals (first | exact okt | skip)))

theorem c223 (b : Book) (hck : Check b = 0) (legs : List Sp.Leg) (hl : 1 ≤ legs.length ∧ legs.length ≤ 1000) : SC (fun _ => Tryz.prog) 77 [bookA b, lst 3 encLeg default legs] [] fun v h => v = lst 3 encRide default (rides b (legs.getD 0 default)) ∧ h = [] := by
  obtain ⟨nt, hnt⟩ := nth_ex
  have hok := book_ok hck
  obtain ⟨g, hg⟩ : ∃ g, nt Sp.Leg default legs 0 = g := ⟨_, rfl⟩
  have e0 : legs.getD 0 default = g := by rw [← hg, hnt]; rfl
  have k226 := c226 b g hck
  rw [e0]
  refine SC.less (conX false false [] Tryz.func77 (body := bodyOf Tryz.f77) rfl (by decide +kernel) ?_)
  unfold legA at *
  simp only [bookA_nt hnt, lst_nt hnt] at *
  (cbv; try simp only [nc] at *)
  simp only [hg]
  refine Chk.mk (okc) ?_
  refine ⟨fun h1 => ?_, fun h1 => ?_⟩
  · have h1 : g.to_ < 0 := by simpa using h1
    rw [rides_neg hok h1]
    (cbv; (try simp only [nc] at *); (try refine Chk.mk (okc) ?_))
    refine ⟨_, [], ?_, rfl, rfl⟩
    (refine To.of [] ?_; cbv; (try simp only [nc]); (repeat' (first | exact trivial | exact WkN.refl _ | exact WkB.refl _ | refine ⟨?_, ?_⟩ | refine WkB.cells ?_ | refine WkN.agg ?_ | refine WkN.tup ?_)); (all_goals (first | exact okt | skip)))
  · have h1 : ¬ g.to_ < 0 := by simpa using h1
    rw [refRides_rides (by omega)] at k226
    (cbv; try simp only [nc] at *)
    simp only [hg]
    refine Chk.mk (okc) ?_
    refine call0 (k226) (by first | rfl | (simp only [zoneA, bookA, lst_nt hnt]; rfl)) fun r h₂ hp => ?_
    (try simp only [zoneA, bookA, lst_nt hnt] at hp)
    obtain ⟨rfl, rfl⟩ := hp
    (cbv; (try simp only [nc] at *); (try refine Chk.mk (okc) ?_))
    refine ⟨_, [], ?_, rfl, rfl⟩
    (refine To.of [] ?_; cbv; (try simp only [nc]); (repeat' (first | exact trivial | exact WkN.refl _ | exact WkB.refl _ | refine ⟨?_, ?_⟩ | refine WkB.cells ?_ | refine WkN.agg ?_ | refine WkN.tup ?_)); (all_goals (first | exact okt | skip)))

def legsErr (l : List Sp.Leg) : Int := if counted l.length 1 4 ≠ 0 then counted l.length 1 4 else firstErr (legErr l) 0 l.length
theorem checkLegs_eq (b : Book) (l : List Sp.Leg) : checkLegs b l = if Check b ≠ 0 then Check b else legsErr l := rfl
theorem legsErr_len {l : List Sp.Leg} (h : legsErr l = 0) : 1 ≤ l.length ∧ l.length ≤ 4 := by
  unfold legsErr at h
  split at h
  · rename_i h2; exact absurd h h2
  · rename_i h2
    have := counted_ok (Decidable.of_not_not h2)
    omega

theorem c221 (l : List Sp.Leg) (hl : l.length ≤ 1000) : SC (fun _ => Tryz.prog) 74 [lst 3 encLeg default l] [] fun v h => v = .int .i64 (fun _ => legsErr l) ∧ h = [] := by
  obtain ⟨nt, hnt⟩ := nth_ex
  refine con Tryz.func74 (body := bodyOf Tryz.f74) rfl (by decide +kernel) ?_
  unfold legsErr
  generalize hE : (if counted l.length 1 4 ≠ 0 then counted l.length 1 4 else firstErr (legErr l) 0 l.length) = E
  simp only [lst_nt hnt] at *
  (cbv; (try simp only [nc] at *); (try refine Chk.mk (okc) ?_))
  refine ⟨fun h1 => ?_, fun h1 => ?_⟩
  · have h1 : l.length = 0 := by simpa using h1
    rw [show counted l.length 1 4 = 7 by unfold counted; rw [if_pos (by omega)], if_pos (by decide)] at hE
    subst hE
    (cbv; (try simp only [nc] at *); (try refine Chk.mk (okc) ?_))
    (try first | exact ⟨rfl, trivial⟩ | exact ⟨trivial, trivial⟩)
  have h1 : ¬ l.length = 0 := by simpa using h1
  (cbv; (try simp only [nc] at *); (try refine Chk.mk (okc) ?_))
  refine ⟨fun h2 => ?_, fun h2 => ?_⟩
  · simp only [decide_eq_true_eq] at h2
    rw [show counted l.length 1 4 = 6 by unfold counted; rw [if_neg (by omega), if_pos (by omega)], if_pos (by decide)] at hE
    subst hE
    (cbv; (try simp only [nc] at *); (try refine Chk.mk (okc) ?_))
    (try first | exact ⟨rfl, trivial⟩ | exact ⟨trivial, trivial⟩)
  simp only [decide_eq_false_iff_not] at h2
  rw [show counted l.length 1 4 = 0 by unfold counted; rw [if_neg (by omega), if_neg (by omega)], if_neg (by decide)] at hE
  (cbv; (try simp only [nc] at *); (try refine Chk.mk (okc) ?_))
  refine loopS false false [] [0, 3] [] (fun (i : Nat) => [(3, .int .i64 fun _ => (i : Int))]) (fun _ => []) (fun i => i ≤ l.length ∧ firstErr (legErr l) i (l.length - i) = E) (fun i => l.length - i + 0) 0 ⟨Nat.zero_le _, by simpa using hE⟩ ?_ ?_
  · (refine To.of [] ?_; cbv; (try simp only [nc]); (repeat' (first | exact trivial | exact WkN.refl _ | exact WkB.refl _ | refine ⟨?_, ?_⟩ | refine WkB.cells ?_ | refine WkN.agg ?_ | refine WkN.tup ?_)); (all_goals (first | exact okt | skip)))
  rintro i ⟨hi, hp⟩
  (cbv; (try simp only [nc] at *); (try refine Chk.mk (okc) ?_))
  refine ⟨fun hb => ?_, fun hb => ?_⟩
  · simp only [decide_eq_true_eq] at hb
    rw [show l.length - i = (l.length - (i + 1)) + 1 by omega, firstErr] at hp
    have e1 : l.getD i default = nt Sp.Leg default l (i : Int) := by rw [hnt]; rfl
    unfold legErr at hp
    rw [e1] at hp
    (cbv; (try simp only [nc] at *); (try refine Chk.mk (okc) ?_))
    refine ⟨fun h3 => ?_, fun h3 => ?_⟩
    · have h3' : (nt Sp.Leg default l (i : Int)).from_ = (nt Sp.Leg default l (i : Int)).to_ := by simpa using h3
      rw [if_pos h3', if_pos (by decide)] at hp
      rw [← hp]
      (cbv; (try simp only [nc] at *); (try refine Chk.mk (okc) ?_))
      (try first | exact ⟨rfl, trivial⟩ | exact ⟨trivial, trivial⟩)
    have h3' : ¬ (nt Sp.Leg default l (i : Int)).from_ = (nt Sp.Leg default l (i : Int)).to_ := by simpa using h3
    rw [if_neg h3'] at hp
    have e2 : 0 < i → l.getD (i - 1) default = nt Sp.Leg default l ((i : Int) - 1) := fun h => by rw [hnt]; congr 1; omega
    have e3 : (bif decide (0 < (i : Int)) then (nt Sp.Leg default l (i : Int)).from_ != (nt Sp.Leg default l ((i : Int) - 1)).to_ else false) = decide (0 < i ∧ (nt Sp.Leg default l (i : Int)).from_ ≠ (l.getD (i - 1) default).to_) := by
      by_cases h : 0 < i
      · rw [e2 h, decide_eq_true (by omega : 0 < (i : Int))]
        by_cases hh : (nt Sp.Leg default l (i : Int)).from_ = (nt Sp.Leg default l ((i : Int) - 1)).to_ <;> simp [h, hh, bne]
      · rw [decide_eq_false (by omega : ¬ 0 < (i : Int))]
        simp [h]
    (cbv; (try simp only [nc] at *); (try refine Chk.mk (okc) ?_))
    refine ⟨fun h4 => ?_, fun h4 => ?_⟩
    · rw [e3, decide_eq_true_eq] at h4
      rw [if_pos h4, if_pos (by decide)] at hp
      rw [← hp]
      (cbv; (try simp only [nc] at *); (try refine Chk.mk (okc) ?_))
      (try first | exact ⟨rfl, trivial⟩ | exact ⟨trivial, trivial⟩)
    · rw [e3, decide_eq_false_iff_not] at h4
      rw [if_neg h4, if_neg (by decide)] at hp
      (cbv; (try simp only [nc] at *); (try refine Chk.mk (okc) ?_))
      refine ⟨i + 1, ⟨by omega, hp⟩, by show l.length - (i + 1) + 0 < l.length - i + 0; omega, ?_⟩
      (refine To.of [] ?_; cbv; (try simp only [nc]); (repeat' (first | exact trivial | exact WkN.refl _ | exact WkB.refl _ | refine ⟨?_, ?_⟩ | refine WkB.cells ?_ | refine WkN.agg ?_ | refine WkN.tup ?_)); (all_goals (first | exact okt | skip)))
  · simp only [decide_eq_false_iff_not] at hb
    rw [show l.length - i = 0 by omega, firstErr] at hp
    rw [← hp]
    (cbv; (try simp only [nc] at *); (try refine Chk.mk (okc) ?_))
    (try first | exact ⟨rfl, trivial⟩ | exact ⟨trivial, trivial⟩)
end Go.Proofs.YtlcgliadpalgfaaGreat.Vm

/- Contracts: the reference's Trip, Lost and Waits; equal legs and rides. -/
namespace Go.Proofs.YtlcgliadpalgfaaGreat.Vm
open Go Go.Proofs Sp
set_option maxRecDepth 100000
set_option maxHeartbeats 1600000

theorem c207 (b : Book) (hb : BookFit b) (l : List Sp.Leg) (a : Int) (hl : l.length ≤ 1000) : SC (fun _ => Tryz.prog) 25 [bookA b, lst 3 encLeg default l, .int .i64 fun _ => a] [] fun v h => v = .tup [lst 3 encRide default (Trip b l a).1, .int .i64 fun _ => (Trip b l a).2] ∧ h = [] := by
  obtain ⟨nt, hnt⟩ := nth_ex
  have k25 := c25 b hb
  have k221 := c221 l hl
  have k72 := c72 a 0 43200
  have k222 := fun h => c222 b h l a hl
  unfold Trip
  rw [checkLegs_eq]
  generalize Check b = C at *
  generalize legsErr l = D at *
  generalize trip b l a [] = T at *
  refine SC.less (conX false false [] Tryz.func25 (body := bodyOf Tryz.f25) rfl (by decide +kernel) ?_)
  simp only [bookA_nt hnt, lst_nt hnt] at *
  (cbv; (try simp only [nc] at *); (try refine Chk.mk (okc) ?_))
  refine call0 (k25) (by first | rfl | (simp only [zoneA, bookA, lst_nt hnt]; rfl)) fun r h₂ hp => ?_
  (try simp only [zoneA, bookA, lst_nt hnt] at hp)
  obtain ⟨rfl, rfl⟩ := hp
  (cbv; (try simp only [nc] at *); (try refine Chk.mk (okc) ?_))
  refine ⟨fun h1 => ?_, fun h1 => ?_⟩
  · have h1' : C ≠ 0 := by simpa using h1
    simp only [if_pos h1']
    (cbv; (try simp only [nc] at *); (try refine Chk.mk (okc) ?_))
    refine ⟨_, [], ?_, rfl, rfl⟩
    (refine To.of [] ?_; cbv; (try simp only [nc]); (repeat' (first | exact trivial | exact WkN.refl _ | exact WkB.refl _ | refine ⟨?_, ?_⟩ | refine WkB.cells ?_ | refine WkN.agg ?_ | refine WkN.tup ?_)); (all_goals (first | exact okt | skip)))
  have h1' : C = 0 := by simpa using h1
  simp only [if_neg (fun h => h h1' : ¬ C ≠ 0)]
  (cbv; (try simp only [nc] at *); (try refine Chk.mk (okc) ?_))
  refine call0 (k221) (by first | rfl | (simp only [zoneA, bookA, lst_nt hnt]; rfl)) fun r h₂ hp => ?_
  (try simp only [zoneA, bookA, lst_nt hnt] at hp)
  obtain ⟨rfl, rfl⟩ := hp
  (cbv; (try simp only [nc] at *); (try refine Chk.mk (okc) ?_))
  refine ⟨fun h2 => ?_, fun h2 => ?_⟩
  · have h2' : D ≠ 0 := by simpa using h2
    rw [if_pos h2']
    (cbv; (try simp only [nc] at *); (try refine Chk.mk (okc) ?_))
    refine ⟨_, [], ?_, rfl, rfl⟩
    (refine To.of [] ?_; cbv; (try simp only [nc]); (repeat' (first | exact trivial | exact WkN.refl _ | exact WkB.refl _ | refine ⟨?_, ?_⟩ | refine WkB.cells ?_ | refine WkN.agg ?_ | refine WkN.tup ?_)); (all_goals (first | exact okt | skip)))
  have h2' : D = 0 := by simpa using h2
  rw [if_neg (fun h => h h2')]
  (cbv; (try simp only [nc] at *); (try refine Chk.mk (okc) ?_))
  refine call0 (k72) (by first | rfl | (simp only [zoneA, bookA, lst_nt hnt]; rfl)) fun r h₂ hp => ?_
  (try simp only [zoneA, bookA, lst_nt hnt] at hp)
  obtain ⟨rfl, rfl⟩ := hp
  (cbv; (try simp only [nc] at *); (try refine Chk.mk (okc) ?_))
  refine ⟨fun h3 => ?_, fun h3 => ?_⟩
  · rw [if_pos h3]
    (cbv; (try simp only [nc] at *); (try refine Chk.mk (okc) ?_))
    refine ⟨_, [], ?_, rfl, rfl⟩
    (refine To.of [] ?_; cbv; (try simp only [nc]); (repeat' (first | exact trivial | exact WkN.refl _ | exact WkB.refl _ | refine ⟨?_, ?_⟩ | refine WkB.cells ?_ | refine WkN.agg ?_ | refine WkN.tup ?_)); (all_goals (first | exact okt | skip)))
  rw [if_neg (by rw [h3]; exact Bool.false_ne_true)]
  have k222 := k222 h1'
  (cbv; (try simp only [nc] at *); (try refine Chk.mk (okc) ?_))
  refine call0 (k222) (by first | rfl | (simp only [zoneA, bookA, lst_nt hnt]; rfl)) fun r h₂ hp => ?_
  (try simp only [zoneA, bookA, lst_nt hnt] at hp)
  obtain ⟨rfl, rfl⟩ := hp
  (cbv; (try simp only [nc] at *); (try refine Chk.mk (okc) ?_))
  refine ⟨fun h4 => ?_, fun h4 => ?_⟩
  · have h4 : T.2 = false := by simpa using h4
    rw [if_pos h4]
    (cbv; (try simp only [nc] at *); (try refine Chk.mk (okc) ?_))
    refine ⟨_, [], ?_, rfl, rfl⟩
    (refine To.of [] ?_; cbv; (try simp only [nc]); (repeat' (first | exact trivial | exact WkN.refl _ | exact WkB.refl _ | refine ⟨?_, ?_⟩ | refine WkB.cells ?_ | refine WkN.agg ?_ | refine WkN.tup ?_)); (all_goals (first | exact okt | skip)))
  · have h4 : T.2 = true := by simpa using h4
    rw [if_neg (by rw [h4]; exact Bool.true_eq_false.mp)]
    rw [if_pos h4]
    (cbv; (try simp only [nc] at *); (try refine Chk.mk (okc) ?_))
    refine ⟨_, [], ?_, rfl, rfl⟩
    (refine To.of [] ?_; cbv; (try simp only [nc]); (repeat' (first | exact trivial | exact WkN.refl _ | exact WkB.refl _ | refine ⟨?_, ?_⟩ | refine WkB.cells ?_ | refine WkN.agg ?_ | refine WkN.tup ?_)); (all_goals (first | exact okt | skip)))

theorem c208 (b : Book) (hb : BookFit b) (l : List Sp.Leg) (hl : l.length ≤ 1000) : SC (fun _ => Tryz.prog) 27 [bookA b, lst 3 encLeg default l] [] fun v h => v = .tup [lst 1 encI 0 (Lost b l).1, .int .i64 fun _ => (Lost b l).2] ∧ h = [] := by
  obtain ⟨nt, hnt⟩ := nth_ex
  refine SC.less (conX false false [] Tryz.func27 (body := bodyOf Tryz.f27) rfl (by decide +kernel) ?_)
  have k25 := c25 b hb
  have k221 := c221 l hl
  have hlen := legsErr_len (l := l)
  have hck := fun h : Check b = 0 => book_ok h
  have k222 := fun h a => c222 b h (l.drop 1) a (by rw [List.length_drop]; omega)
  have k223 := fun h hl => c223 b h l hl
  have k93l := fun h => rides_len (b := b) h (l.getD 0 default)
  unfold Lost
  rw [checkLegs_eq]
  generalize Check b = C at *
  generalize legsErr l = D at *
  generalize rides b (l.getD 0 default) = R at *
  simp only [bookA_nt hnt, lst_nt hnt, lstR_nt hnt] at *
  (cbv; (try simp only [nc] at *); (try refine Chk.mk (okc) ?_))
  refine call0 (k25) (by first | rfl | (simp only [zoneA, bookA, lst_nt hnt]; rfl)) fun r h₂ hp => ?_
  (try simp only [zoneA, bookA, lst_nt hnt] at hp)
  obtain ⟨rfl, rfl⟩ := hp
  (cbv; (try simp only [nc] at *); (try refine Chk.mk (okc) ?_))
  refine ⟨fun h1 => ?_, fun h1 => ?_⟩
  · have h1' : C ≠ 0 := by simpa using h1
    simp only [if_pos h1']
    (cbv; (try simp only [nc] at *); (try refine Chk.mk (okc) ?_))
    refine ⟨_, [], ?_, rfl, rfl⟩
    (refine To.of [] ?_; cbv; (try simp only [nc]); (repeat' (first | exact trivial | exact WkN.refl _ | exact WkB.refl _ | refine ⟨?_, ?_⟩ | refine WkB.cells ?_ | refine WkN.agg ?_ | refine WkN.tup ?_)); (all_goals (first | exact okt | skip)))
  have h1' : C = 0 := by simpa using h1
  simp only [if_neg (fun h => h h1' : ¬ C ≠ 0)]
  have hok := hck h1'
  (cbv; (try simp only [nc] at *); (try refine Chk.mk (okc) ?_))
  refine call0 (k221) (by first | rfl | (simp only [zoneA, bookA, lst_nt hnt]; rfl)) fun r h₂ hp => ?_
  (try simp only [zoneA, bookA, lst_nt hnt] at hp)
  obtain ⟨rfl, rfl⟩ := hp
  (cbv; (try simp only [nc] at *); (try refine Chk.mk (okc) ?_))
  refine ⟨fun h2 => ?_, fun h2 => ?_⟩
  · have h2' : D ≠ 0 := by simpa using h2
    rw [if_pos h2']
    (cbv; (try simp only [nc] at *); (try refine Chk.mk (okc) ?_))
    refine ⟨_, [], ?_, rfl, rfl⟩
    (refine To.of [] ?_; cbv; (try simp only [nc]); (repeat' (first | exact trivial | exact WkN.refl _ | exact WkB.refl _ | refine ⟨?_, ?_⟩ | refine WkB.cells ?_ | refine WkN.agg ?_ | refine WkN.tup ?_)); (all_goals (first | exact okt | skip)))
  have h2' : D = 0 := by simpa using h2
  rw [if_neg (fun h => h h2')]
  have hlen := hlen h2'
  have k223 := k223 h1' ⟨hlen.1, hl⟩
  have k93l := k93l hok
  have k222 := k222 h1'
  (cbv; (try simp only [nc] at *); (try refine Chk.mk (okc) ?_))
  refine call0 (k223) (by first | rfl | (simp only [zoneA, bookA, lst_nt hnt]; rfl)) fun r h₂ hp => ?_
  (try simp only [zoneA, bookA, lst_nt hnt] at hp)
  obtain ⟨rfl, rfl⟩ := hp
  (cbv; (try simp only [nc] at *); (try refine Chk.mk (okc) ?_))
  generalize hF : ((R.filter fun x => !(trip b (l.drop 1) x.arrive []).2).map (·.day)) = F at *
  refine loopS false false [] [1, 2, 8, 9, 10] [.tok 1 fun _ => 0] (fun (⟨i, out⟩ : Nat × List Int) => [(8, .isl 1 (fun _ => (out.length : Int)) (fun e => encI (nt Int 0 out (e ()))) (.own 1)), (10, .int .i64 fun _ => i)])
    (fun ⟨i, out⟩ => [(1, .tok 1 fun _ => (out.length : Int))]) (fun ⟨i, out⟩ => i ≤ R.length ∧ out.length ≤ i ∧ out ++ (((R.drop i).filter fun x => !(trip b (l.drop 1) x.arrive []).2).map (·.day)) = F) (fun i => R.length - i.1 + 0) (0, []) ⟨Nat.zero_le _, Nat.le_refl _, by simpa using hF⟩ ?_ ?_
  · (refine To.of [(1,false)] ?_; cbv; (try simp only [nc]); (repeat' (first | exact trivial | exact WkN.refl _ | exact WkB.refl _ | refine ⟨?_, ?_⟩ | refine WkB.cells ?_ | refine WkN.agg ?_ | refine WkN.tup ?_)); (all_goals (first | exact okt | skip)))
  rintro ⟨i, out⟩ ⟨hi, ho, hp⟩
  have ho : out.length ≤ i := ho
  (cbv; (try simp only [nc] at *); (try refine Chk.mk (okc) ?_))
  refine ⟨fun hb => ?_, fun hb => ?_⟩
  · simp only [decide_eq_true_eq] at hb
    rw [nt_drop (d := default) hnt (l := R) (i := i) (by omega)] at hp
    have hd1 : ((l.drop 1).length : Int) = l.length - 1 := by rw [List.length_drop]; omega
    generalize hx : nt Sp.Ride default R (i : Int) = x at *
    have k222 := k222 x.arrive
    generalize hT : trip b (l.drop 1) x.arrive [] = T at k222
    simp only [List.filter_cons, hT] at hp
    (cbv; (try simp only [nc] at *); (try refine Chk.mk (okc) ?_))
    simp only [hx]
    refine call0T k222 (by (refine To.of [] ?_; cbv; (try simp only [nc]); (repeat' (first | exact trivial | exact WkN.refl _ | exact WkB.refl _ | refine ⟨?_, ?_⟩ | refine WkB.cells ?_ | refine WkN.agg ?_ | refine WkN.tup ?_)); (all_goals (first | exact okt | skip))); exact drop_nt hnt (by show (l.length : Int) - 1 = ((l.drop 1).length : Int); rw [List.length_drop]; omega) (fun j hj => rfl)) (by first | rfl | (simp only [bookA, lst_nt hnt]; rfl)) fun r h₂ hq => ?_
    obtain ⟨rfl, rfl⟩ := hq
    (cbv; (try simp only [nc] at *); (try refine Chk.mk (okc) ?_))
    refine ⟨fun h3 => ?_, fun h3 => ?_⟩
    · have h3' : T.2 = false := by simpa using h3
      rw [h3'] at hp
      simp only [Bool.not_false, if_true, List.map_cons] at hp
      (cbv; try simp only [nc] at *)
      simp only [hx]
      (try refine Chk.mk (okc) ?_)
      refine ⟨(i + 1, out ++ [x.day]), ⟨by show i + 1 ≤ R.length; omega, by show (out ++ [x.day]).length ≤ i + 1; simp; omega, by show (out ++ [x.day]) ++ _ = F; rw [List.append_assoc]; exact hp⟩, by show R.length - (i + 1) + 0 < R.length - i + 0; omega, ?_⟩
      (refine To.of [] ?_; cbv; (try simp only [nc]); (repeat' (first | exact trivial | exact WkN.refl _ | exact WkB.refl _ | refine ⟨?_, ?_⟩ | refine WkB.cells ?_ | refine WkN.agg ?_ | refine WkN.tup ?_)); (all_goals (first | exact okt | skip)))
    · have h3' : T.2 = true := by simpa using h3
      rw [h3'] at hp
      simp only [Bool.not_true, Bool.false_eq_true, if_false] at hp
      (cbv; (try simp only [nc] at *); (try refine Chk.mk (okc) ?_))
      refine ⟨(i + 1, out), ⟨by show i + 1 ≤ R.length; omega, by show out.length ≤ i + 1; omega, hp⟩, by show R.length - (i + 1) + 0 < R.length - i + 0; omega, ?_⟩
      (refine To.of [] ?_; cbv; (try simp only [nc]); (repeat' (first | exact trivial | exact WkN.refl _ | exact WkB.refl _ | refine ⟨?_, ?_⟩ | refine WkB.cells ?_ | refine WkN.agg ?_ | refine WkN.tup ?_)); (all_goals (first | exact okt | skip)))
  · simp only [decide_eq_false_iff_not] at hb
    have hp : out ++ _ = F := hp
    have hir : R.length ≤ i := by omega
    rw [List.drop_eq_nil_of_le hir, List.filter_nil, List.map_nil, List.append_nil] at hp
    rw [← hp]
    (cbv; (try simp only [nc] at *); (try refine Chk.mk (okc) ?_))
    refine ⟨_, [], ?_, rfl, rfl⟩
    (refine To.of [] ?_; cbv; (try simp only [nc]); (repeat' (first | exact trivial | exact WkN.refl _ | exact WkB.refl _ | refine ⟨?_, ?_⟩ | refine WkB.cells ?_ | refine WkN.agg ?_ | refine WkN.tup ?_)); (all_goals (first | exact okt | skip)))

theorem c209 (b : Book) (hb : BookFit b) (l : List Sp.Leg) (hl : l.length ≤ 1000) : SC (fun _ => Tryz.prog) 29 [bookA b, lst 3 encLeg default l] [] fun v h => v = .tup [.agg (encSpan (Waits b l).1), .int .i64 fun _ => (Waits b l).2] ∧ h = [] := by
  obtain ⟨nt, hnt⟩ := nth_ex
  refine SC.less (conX false false [] Tryz.func29 (body := bodyOf Tryz.f29) rfl (by decide +kernel) ?_)
  have k25 := c25 b hb
  have k221 := c221 l hl
  have hlen := legsErr_len (l := l)
  have hck := fun h : Check b = 0 => book_ok h
  have k222 := fun h a => c222 b h (l.drop 1) a (by rw [List.length_drop]; omega)
  have k223 := fun h hl => c223 b h l hl
  have k93l := fun h => rides_len (b := b) h (l.getD 0 default)
  have k68b := fun h a => trip_bd (b := b) h (l.drop 1) a [] (fun x hx => by cases hx)
  have k93b := fun h x (hx : x ∈ rides b (l.getD 0 default)) => rides_bd h hx
  unfold Waits waitAll
  rw [checkLegs_eq]
  generalize Check b = C at *
  generalize legsErr l = D at *
  generalize rides b (l.getD 0 default) = R at *
  generalize hF : R.foldl (waitStep b l) (⟨0, 0⟩, false) = F at *
  simp only [bookA_nt hnt, lst_nt hnt, lstR_nt hnt] at *
  (cbv; (try simp only [nc] at *); (try refine Chk.mk (okc) ?_))
  refine call0 (k25) (by first | rfl | (simp only [zoneA, bookA, lst_nt hnt]; rfl)) fun r h₂ hp => ?_
  (try simp only [zoneA, bookA, lst_nt hnt] at hp)
  obtain ⟨rfl, rfl⟩ := hp
  (cbv; (try simp only [nc] at *); (try refine Chk.mk (okc) ?_))
  refine ⟨fun h1 => ?_, fun h1 => ?_⟩
  · have h1' : C ≠ 0 := by simpa using h1
    simp only [if_pos h1']
    (cbv; (try simp only [nc] at *); (try refine Chk.mk (okc) ?_))
    refine ⟨_, [], ?_, rfl, rfl⟩
    (refine To.of [] ?_; cbv; (try simp only [nc]); (repeat' (first | exact trivial | exact WkN.refl _ | exact WkB.refl _ | refine ⟨?_, ?_⟩ | refine WkB.cells ?_ | refine WkN.agg ?_ | refine WkN.tup ?_)); (all_goals (first | exact okt | skip)))
  have h1' : C = 0 := by simpa using h1
  simp only [if_neg (fun h => h h1' : ¬ C ≠ 0)]
  have hok := hck h1'
  (cbv; (try simp only [nc] at *); (try refine Chk.mk (okc) ?_))
  refine call0 (k221) (by first | rfl | (simp only [zoneA, bookA, lst_nt hnt]; rfl)) fun r h₂ hp => ?_
  (try simp only [zoneA, bookA, lst_nt hnt] at hp)
  obtain ⟨rfl, rfl⟩ := hp
  (cbv; (try simp only [nc] at *); (try refine Chk.mk (okc) ?_))
  refine ⟨fun h2 => ?_, fun h2 => ?_⟩
  · have h2' : D ≠ 0 := by simpa using h2
    rw [if_pos h2']
    (cbv; (try simp only [nc] at *); (try refine Chk.mk (okc) ?_))
    refine ⟨_, [], ?_, rfl, rfl⟩
    (refine To.of [] ?_; cbv; (try simp only [nc]); (repeat' (first | exact trivial | exact WkN.refl _ | exact WkB.refl _ | refine ⟨?_, ?_⟩ | refine WkB.cells ?_ | refine WkN.agg ?_ | refine WkN.tup ?_)); (all_goals (first | exact okt | skip)))
  have h2' : D = 0 := by simpa using h2
  rw [if_neg (fun h => h h2')]
  have hlen := hlen h2'
  have k223 := k223 h1' ⟨hlen.1, hl⟩
  have k93b := k93b hok
  have k68b := k68b hok
  (cbv; (try simp only [nc] at *); (try refine Chk.mk (okc) ?_))
  refine ⟨fun h3 => ?_, fun h3 => ?_⟩
  · simp only [decide_eq_true_eq] at h3
    rw [show counted l.length 2 2 = 7 by unfold counted; rw [if_pos (by omega)], if_pos (by decide)]
    (cbv; (try simp only [nc] at *); (try refine Chk.mk (okc) ?_))
    refine ⟨_, [], ?_, rfl, rfl⟩
    (refine To.of [] ?_; cbv; (try simp only [nc]); (repeat' (first | exact trivial | exact WkN.refl _ | exact WkB.refl _ | refine ⟨?_, ?_⟩ | refine WkB.cells ?_ | refine WkN.agg ?_ | refine WkN.tup ?_)); (all_goals (first | exact okt | skip)))
  simp only [decide_eq_false_iff_not] at h3
  (cbv; (try simp only [nc] at *); (try refine Chk.mk (okc) ?_))
  refine ⟨fun h4 => ?_, fun h4 => ?_⟩
  · simp only [decide_eq_true_eq] at h4
    rw [show counted l.length 2 2 = 6 by unfold counted; rw [if_neg (by omega), if_pos (by omega)], if_pos (by decide)]
    (cbv; (try simp only [nc] at *); (try refine Chk.mk (okc) ?_))
    refine ⟨_, [], ?_, rfl, rfl⟩
    (refine To.of [] ?_; cbv; (try simp only [nc]); (repeat' (first | exact trivial | exact WkN.refl _ | exact WkB.refl _ | refine ⟨?_, ?_⟩ | refine WkB.cells ?_ | refine WkN.agg ?_ | refine WkN.tup ?_)); (all_goals (first | exact okt | skip)))
  simp only [decide_eq_false_iff_not] at h4
  rw [show counted l.length 2 2 = 0 by unfold counted; rw [if_neg (by omega), if_neg (by omega)], if_neg (by decide)]
  have hco : (2 : Int) ≤ l.length := by omega
  have k93l := k93l hok
  have k222 := k222 h1'
  (cbv; (try simp only [nc] at *); (try refine Chk.mk (okc) ?_))
  refine call0 (k223) (by first | rfl | (simp only [zoneA, bookA, lst_nt hnt]; rfl)) fun r h₂ hp => ?_
  (try simp only [zoneA, bookA, lst_nt hnt] at hp)
  obtain ⟨rfl, rfl⟩ := hp
  (cbv; (try simp only [nc] at *); (try refine Chk.mk (okc) ?_))
  refine loopS false false [] [1, 2, 4, 8, 9, 10, 11] [] (fun (⟨i, o, s⟩ : Nat × Sp.Span × Bool) => [(9, .bool fun _ => s), (11, .int .i64 fun _ => i)])
    (fun ⟨i, o, s⟩ => [(2, .cells (encSpan o))]) (fun ⟨i, o, s⟩ => i ≤ R.length ∧ ((-1099511627776 ≤ o.fr ∧ o.fr ≤ 1099511627776) ∧ -1099511627776 ≤ o.to_ ∧ o.to_ ≤ 1099511627776) ∧ (R.drop i).foldl (waitStep b l) (o, s) = F) (fun i => R.length - i.1 + 0) (0, ⟨0, 0⟩, false) ⟨Nat.zero_le _, by simp, by simpa using hF⟩ ?_ ?_
  · (refine To.of [] ?_; cbv; (try simp only [nc]); (repeat' (first | exact trivial | exact WkN.refl _ | exact WkB.refl _ | refine ⟨?_, ?_⟩ | refine WkB.cells ?_ | refine WkN.agg ?_ | refine WkN.tup ?_)); (all_goals (first | exact okt | skip)))
  rintro ⟨i, o, s⟩ ⟨hi, ho, hp⟩
  (cbv; (try simp only [nc] at *); (try refine Chk.mk (okc) ?_))
  refine ⟨fun hb => ?_, fun hb => ?_⟩
  · simp only [decide_eq_true_eq] at hb
    rw [nt_drop (d := default) hnt (l := R) (i := i) (by omega), List.foldl_cons] at hp
    have hxb := k93b _ (nt_mem (d := default) hnt (l := R) (i := i) (by omega))
    generalize hx : nt Sp.Ride default R (i : Int) = x at *
    have k222 := k222 x.arrive
    have k68b := k68b x.arrive
    unfold waitStep at hp
    generalize trip b (l.drop 1) x.arrive [] = T at k222 k68b hp
    generalize hT1 : (if T.2 = true then T.1 else []) = T1 at k222
    (cbv; (try simp only [nc] at *); (try refine Chk.mk (okc) ?_))
    simp only [hx]
    refine call0T k222 (by (refine To.of [] ?_; cbv; (try simp only [nc]); (repeat' (first | exact trivial | exact WkN.refl _ | exact WkB.refl _ | refine ⟨?_, ?_⟩ | refine WkB.cells ?_ | refine WkN.agg ?_ | refine WkN.tup ?_)); (all_goals (first | exact okt | skip))); exact drop_nt hnt (by show (l.length : Int) - 1 = ((l.drop 1).length : Int); rw [List.length_drop]; omega) (fun j hj => rfl)) (by first | rfl | (simp only [bookA, lst_nt hnt]; rfl)) fun r h₂ hq => ?_
    obtain ⟨rfl, rfl⟩ := hq
    (cbv; (try simp only [nc] at *); (try refine Chk.mk (okc) ?_))
    refine ⟨fun h3 => ?_, fun h3 => ?_⟩
    · have h3' : T.2 = false := by simpa using h3
      simp only [h3', if_true] at hp
      (cbv; (try simp only [nc] at *); (try refine Chk.mk (okc) ?_))
      refine ⟨(i + 1, o, s), ⟨by show i + 1 ≤ R.length; omega, ho, hp⟩, by show R.length - (i + 1) + 0 < R.length - i + 0; omega, ?_⟩
      (refine To.of [] ?_; cbv; (try simp only [nc]); (repeat' (first | exact trivial | exact WkN.refl _ | exact WkB.refl _ | refine ⟨?_, ?_⟩ | refine WkB.cells ?_ | refine WkN.agg ?_ | refine WkN.tup ?_)); (all_goals (first | exact okt | skip)))
    · have h3' : T.2 = true := by simpa using h3
      have hTl := k68b.2.1 h3'
      have hTl : 0 < T.1.length := by rw [hTl, List.length_drop]; simp; omega
      have hTb := k68b.1 _ (nt_mem (d := default) hnt (l := T.1) (i := 0) hTl)
      have e2 : T.1.getD 0 default = nt Sp.Ride default T.1 0 := by rw [hnt]; rfl
      simp only [h3', Bool.true_eq_false, if_false, e2] at hp
      change RideB (nt Sp.Ride default T.1 0) at hTb
      rw [if_pos h3'] at hT1
      rw [hT1] at hTl hTb hp
      (cbv; try simp only [nc] at *)
      obtain ⟨y, hy⟩ : ∃ y, nt Sp.Ride default T1 0 = y := ⟨_, rfl⟩
      simp only [hy, hx] at hp hTb ⊢
      unfold RideB InT at hTb hxb
      refine Chk.mk (okc) ?_
      cases s with
      | false =>
        refine Br.isT rfl ?_
        simp only [if_true] at hp
        (cbv; (try simp only [nc] at *); (try refine Chk.mk (okc) ?_))
        refine ⟨(i + 1, _, true), ⟨by show i + 1 ≤ R.length; omega, ?_, hp⟩, by show R.length - (i + 1) + 0 < R.length - i + 0; omega, ?_⟩
        · simp only [if_neg (Int.lt_irrefl _)]
          omega
        · simp only [if_neg (Int.lt_irrefl _)]
          (refine To.of [] ?_; cbv; (try simp only [nc]); (repeat' (first | exact trivial | exact WkN.refl _ | exact WkB.refl _ | refine ⟨?_, ?_⟩ | refine WkB.cells ?_ | refine WkN.agg ?_ | refine WkN.tup ?_)); (all_goals (first | exact okt | skip)))
      | true =>
        refine Br.isF rfl ?_
        simp only [Bool.true_eq_false, if_false] at hp
        have hu : -1099511627776 ≤ (if y.depart - x.arrive < o.fr then y.depart - x.arrive else o.fr) ∧ (if y.depart - x.arrive < o.fr then y.depart - x.arrive else o.fr) ≤ 1099511627776 := by split <;> omega
        have hv : -1099511627776 ≤ (if o.to_ < y.depart - x.arrive then y.depart - x.arrive else o.to_) ∧ (if o.to_ < y.depart - x.arrive then y.depart - x.arrive else o.to_) ≤ 1099511627776 := by split <;> omega
        (cbv; try simp only [nc] at *)
        refine Chk.mk (okc) ?_
        generalize (if y.depart - x.arrive < o.fr then y.depart - x.arrive else o.fr) = u at *
        generalize (if o.to_ < y.depart - x.arrive then y.depart - x.arrive else o.to_) = v at *
        refine ⟨(i + 1, ⟨u, v⟩, true), ⟨by show i + 1 ≤ R.length; omega, ⟨hu, hv⟩, hp⟩, by show R.length - (i + 1) + 0 < R.length - i + 0; omega, ?_⟩
        (refine To.of [] ?_; cbv; (try simp only [nc]); (repeat' (first | exact trivial | exact WkN.refl _ | exact WkB.refl _ | refine ⟨?_, ?_⟩ | refine WkB.cells ?_ | refine WkN.agg ?_ | refine WkN.tup ?_)); (all_goals (first | exact okt | skip)))
  · simp only [decide_eq_false_iff_not] at hb
    have hir : R.length ≤ i := by omega
    have hp : (R.drop i).foldl (waitStep b l) (o, s) = F := hp
    rw [List.drop_eq_nil_of_le hir, List.foldl_nil] at hp
    rw [← hp]
    (cbv; (try simp only [nc] at *); (try refine Chk.mk (okc) ?_))
    refine ⟨fun h3 => ?_, fun h3 => ?_⟩
    · have h3' : s = false := by simpa using h3
      rw [if_pos h3']
      (cbv; (try simp only [nc] at *); (try refine Chk.mk (okc) ?_))
      refine ⟨_, [], ?_, rfl, rfl⟩
      (refine To.of [] ?_; cbv; (try simp only [nc]); (repeat' (first | exact trivial | exact WkN.refl _ | exact WkB.refl _ | refine ⟨?_, ?_⟩ | refine WkB.cells ?_ | refine WkN.agg ?_ | refine WkN.tup ?_)); (all_goals (first | exact okt | skip)))
    · have h3' : ¬ s = false := by simpa using h3
      rw [if_neg h3']
      (cbv; (try simp only [nc] at *); (try refine Chk.mk (okc) ?_))
      refine ⟨_, [], ?_, rfl, rfl⟩
      (refine To.of [] ?_; cbv; (try simp only [nc]); (repeat' (first | exact trivial | exact WkN.refl _ | exact WkB.refl _ | refine ⟨?_, ?_⟩ | refine WkB.cells ?_ | refine WkN.agg ?_ | refine WkN.tup ?_)); (all_goals (first | exact okt | skip)))

end Go.Proofs.YtlcgliadpalgfaaGreat.Vm

/- Contracts: equal legs and rides; a number that is folded. -/
namespace Go.Proofs.YtlcgliadpalgfaaGreat.Vm
open Go Go.Proofs Sp
set_option maxRecDepth 100000
set_option maxHeartbeats 1600000

theorem c65 (l : List Sp.Ride) (hlen : l.length ≤ 100000) : SC (fun _ => Tryz.prog) 30 [lst 3 encRide default l, lst 3 encRide default l] [] fun v h => v = .bool (fun _ => true) ∧ h = [] := by
  obtain ⟨nt, hnt⟩ := nth_ex
  refine con Tryz.func30 (body := bodyOf Tryz.f30) rfl (by decide +kernel) ?_
  simp only [lst_nt hnt]
  (cbv; (try simp only [nc] at *); (try refine Chk.mk (okc) ?_))
  refine Br.isF (by simp) ?_
  (cbv; (try simp only [nc] at *); (try refine Chk.mk (okc) ?_))
  refine loopS false false [] [0, 1, 5] [] (fun (i : Nat) => [(5, .int .i64 fun _ => (i : Int))]) (fun _ => []) (fun i => i ≤ l.length) (fun i => l.length - i + 0) 0 (Nat.zero_le _) ?_ ?_
  · (refine To.of [] ?_; cbv; (try simp only [nc]); (repeat' (first | exact trivial | exact WkN.refl _ | exact WkB.refl _ | refine ⟨?_, ?_⟩ | refine WkB.cells ?_ | refine WkN.agg ?_ | refine WkN.tup ?_)); (all_goals (first | exact okt | skip)))
  intro i hi
  (cbv; (try simp only [nc] at *); (try refine Chk.mk (okc) ?_))
  refine ⟨fun hb => ?_, fun hb => ?_⟩
  · simp only [decide_eq_true_eq] at hb
    (cbv; (try simp only [nc] at *); (try refine Chk.mk (okc) ?_))
    refine Br.isF (by simp) ?_
    (cbv; (try simp only [nc] at *); (try refine Chk.mk (okc) ?_))
    refine ⟨i + 1, by omega, by omega, ?_⟩
    (refine To.of [] ?_; cbv; (try simp only [nc]); (repeat' (first | exact trivial | exact WkN.refl _ | exact WkB.refl _ | refine ⟨?_, ?_⟩ | refine WkB.cells ?_ | refine WkN.agg ?_ | refine WkN.tup ?_)); (all_goals (first | exact okt | skip)))
  · (cbv; (try simp only [nc] at *); (try refine Chk.mk (okc) ?_))
    (try first | exact ⟨rfl, trivial⟩ | exact ⟨trivial, trivial⟩)

theorem c210 (l : List Sp.Leg) (hlen : l.length ≤ 100000) : SC (fun _ => Tryz.prog) 31 [lst 3 encLeg default l, lst 3 encLeg default l] [] fun v h => v = .bool (fun _ => true) ∧ h = [] := by
  obtain ⟨nt, hnt⟩ := nth_ex
  refine con Tryz.func31 (body := bodyOf Tryz.f31) rfl (by decide +kernel) ?_
  simp only [lst_nt hnt]
  (cbv; (try simp only [nc] at *); (try refine Chk.mk (okc) ?_))
  refine Br.isF (by simp) ?_
  (cbv; (try simp only [nc] at *); (try refine Chk.mk (okc) ?_))
  refine loopS false false [] [0, 1, 5] [] (fun (i : Nat) => [(5, .int .i64 fun _ => (i : Int))]) (fun _ => []) (fun i => i ≤ l.length) (fun i => l.length - i + 0) 0 (Nat.zero_le _) ?_ ?_
  · (refine To.of [] ?_; cbv; (try simp only [nc]); (repeat' (first | exact trivial | exact WkN.refl _ | exact WkB.refl _ | refine ⟨?_, ?_⟩ | refine WkB.cells ?_ | refine WkN.agg ?_ | refine WkN.tup ?_)); (all_goals (first | exact okt | skip)))
  intro i hi
  (cbv; (try simp only [nc] at *); (try refine Chk.mk (okc) ?_))
  refine ⟨fun hb => ?_, fun hb => ?_⟩
  · simp only [decide_eq_true_eq] at hb
    (cbv; (try simp only [nc] at *); (try refine Chk.mk (okc) ?_))
    refine Br.isF (by simp) ?_
    (cbv; (try simp only [nc] at *); (try refine Chk.mk (okc) ?_))
    refine ⟨i + 1, by omega, by omega, ?_⟩
    (refine To.of [] ?_; cbv; (try simp only [nc]); (repeat' (first | exact trivial | exact WkN.refl _ | exact WkB.refl _ | refine ⟨?_, ?_⟩ | refine WkB.cells ?_ | refine WkN.agg ?_ | refine WkN.tup ?_)); (all_goals (first | exact okt | skip)))
  · (cbv; (try simp only [nc] at *); (try refine Chk.mk (okc) ?_))
    (try first | exact ⟨rfl, trivial⟩ | exact ⟨trivial, trivial⟩)

theorem c87 (x n : Int) (hn : n ≤ 1000000) : SC (fun _ => Tryz.prog) 23 [.int .i64 fun _ => x, .int .i64 fun _ => n] [] fun v h => ∃ y : Int, 0 ≤ y ∧ (y < n ∨ y = 0) ∧ v = .int .i64 (fun _ => y) ∧ h = [] := by
  refine con Tryz.func23 (body := bodyOf Tryz.f23) rfl (by decide +kernel) ?_
  (cbv; (try simp only [nc] at *); (try refine Chk.mk (okc) ?_))
  refine ⟨fun hb => ?_, fun hb => ?_⟩
  · (cbv; (try simp only [nc] at *); (try refine Chk.mk (okc) ?_))
    exact ⟨0, by omega, .inr rfl, rfl, trivial⟩
  · simp only [decide_eq_false_iff_not] at hb
    have h1 := (tmodE x n).1
    have h2 := (tmodE x n).2
    have h3 : -n < x.tmod n ∧ x.tmod n < n := by
      by_cases hx : 0 ≤ x
      · rw [h1 hx]
        have := Int.emod_nonneg x (show n ≠ 0 by omega)
        have := Int.emod_lt_of_pos x (show 0 < n by omega)
        omega
      · rw [h2 (by omega)]
        have := Int.emod_nonneg (-x) (show n ≠ 0 by omega)
        have := Int.emod_lt_of_pos (-x) (show 0 < n by omega)
        omega
    clear h1 h2
    (cbv; try simp only [nc] at *)
    generalize x.tmod n = q at *
    refine Chk.mk (okc) ?_
    (cbv; (try simp only [nc] at *); (try refine Chk.mk (okc) ?_))
    refine ⟨(q + n).tmod n, ?_, .inl ?_, rfl, trivial⟩
    · rw [Int.tmod_eq_emod_of_nonneg (by omega)]
      exact Int.emod_nonneg _ (by omega)
    · rw [Int.tmod_eq_emod_of_nonneg (by omega)]
      exact Int.emod_lt_of_pos _ (by omega)
end Go.Proofs.YtlcgliadpalgfaaGreat.Vm

/- The abstract machine: slices of which the elements are told with less. -/
namespace Go.Proofs.YtlcgliadpalgfaaGreat.Vm
open Go Go.Proofs Sp

/-- Rows of which the second tell less. -/
def RowLe (r r' : List AV) : Prop := r'.length = r.length ∧ ∀ (j : Nat) (c' : AV), r'[j]? = some c' → ∃ c, r[j]? = some c ∧ ∀ w ok v, PR w ok c v → PR w ok c' v
theorem RowLe.refl (r : List AV) : RowLe r r := ⟨rfl, fun j c h => ⟨c, h, fun _ _ _ h => h⟩⟩
theorem RowLe.two {a b b' : AV} (h : ∀ w ok v, PR w ok b v → PR w ok b' v) : RowLe [a, b] [a, b'] := ⟨rfl, fun j c hj => by
  match j with
  | 0 => simp only [List.getElem?_cons_zero, Option.some.injEq] at hj; subst hj; exact ⟨_, rfl, fun _ _ _ h => h⟩
  | 1 => simp only [List.getElem?_cons_succ, List.getElem?_cons_zero, Option.some.injEq] at hj; subst hj; exact ⟨_, rfl, h⟩
  | j + 2 => simp at hj⟩
theorem PR.elems {w : World} {ok : Nat → Nat → Nat → Prop} {s : Nat} {m m' : Unit → Int} {f f' : (Unit → Int) → List AV} {v : Value} (hm : m () = m' ()) (hf : ∀ i : Nat, (i : Int) < m () → RowLe (f fun _ => (i : Int)) (f' fun _ => (i : Int))) (hv : PR w ok (.isl s m f .none) v) : PR w ok (.isl s m' f' .none) v := by
  cases hv with
  | isl0 _ _ _ _ hz h1 => exact .isl0 _ _ _ _ (by omega) (fun id e => by cases e)
  | islE _ _ _ _ a hz h1 => exact .islE _ _ _ _ a (by omega) (.inl rfl)
  | isl _ _ _ _ b o len cap us hn hc h1 he hl h2 h3 h4 =>
    refine .isl _ _ _ _ b o len cap us (by omega) hc (.inl rfl) (fun e => by cases e) (fun i hi => ?_) (fun i j c hi hj => ?_) (fun i j c hi hj => ?_) h4
    · rw [(hf i (by omega)).1]; exact hl i hi
    · obtain ⟨c0, g1, _⟩ := (hf i (by omega)).2 j c hj
      exact h2 i j c0 hi g1
    · obtain ⟨c0, g1, g2⟩ := (hf i (by omega)).2 j c hj
      exact g2 _ _ _ (h3 i j c0 hi g1)
theorem WkN.elemsO {n k s id : Nat} {m m' : Unit → Int} {f f' : (Unit → Int) → List AV} (hm : m () = m' ()) (hf : ∀ i : Nat, (i : Int) < m () → RowLe (f fun _ => (i : Int)) (f' fun _ => (i : Int))) : WkN n k (.isl s m f (.own id)) (.isl s m' f' (.own id)) := ⟨fun R v _ hv => by
  cases hv with
  | pure _ _ hp =>
    cases hp with
    | isl0 _ _ _ _ hz h1 => exact absurd rfl (h1 id)
    | islE _ _ _ _ _ _ h1 => rcases h1 with h | h <;> cases h
    | isl _ _ _ _ b o len cap us hn hc h1 => rcases h1 with h | h <;> cases h
  | own _ _ _ id _ h1 h2 h3 h4 => exact .own _ _ _ id v h1 (h2.elems hm hf) (by omega) (fun e => h4 (by omega))⟩
theorem RowLe.three {a b c c' : AV} (h : ∀ w ok v, PR w ok c v → PR w ok c' v) : RowLe [a, b, c] [a, b, c'] := ⟨rfl, fun j d hj => by
  match j with
  | 0 => simp only [List.getElem?_cons_zero, Option.some.injEq] at hj; subst hj; exact ⟨_, rfl, fun _ _ _ h => h⟩
  | 1 => simp only [List.getElem?_cons_succ, List.getElem?_cons_zero, Option.some.injEq] at hj; subst hj; exact ⟨_, rfl, fun _ _ _ h => h⟩
  | 2 => simp only [List.getElem?_cons_succ, List.getElem?_cons_zero, Option.some.injEq] at hj; subst hj; exact ⟨_, rfl, h⟩
  | j + 3 => simp at hj⟩
/-- One more element, of which less is told. -/
theorem WkN.snocO {nt : (α : Type) → α → List α → Int → α} (hnt : ∀ (α : Type) (d : α) (l : List α) (i : Int), nt α d l i = l.getD i.toNat d) {α : Type} {n k s id : Nat} {enc : α → List AV} {d x : α} {l : List α} {n0 m m' : Unit → Int} {g : (Unit → Int) → List AV} (h0 : n0 () = (l.length : Int)) (hm : m () = (l.length : Int) + 1) (hm' : m' () = (l.length : Int) + 1) (hg : RowLe (g (fun _ => 0)) (enc x)) :
    WkN n k (.isl s m (snocF n0 (fun e => enc (nt α d l (e ()))) g) (.own id)) (.isl s m' (fun e => enc (nt α d (l ++ [x]) (e ()))) (.own id)) := .elemsO (by omega) fun i hi => by
  have hi : i < l.length + 1 := by omega
  by_cases h : i < l.length
  · rw [snocF_lt h0 h]
    simp only [hnt, Int.toNat_natCast, List.getD_eq_getElem?_getD, List.getElem?_append_left h]
    exact .refl _
  · obtain rfl : i = l.length := by omega
    rw [snocF_ge h0 (Nat.le_refl _)]
    simpa [hnt] using hg
/-- What is appended to nothing. -/
theorem nil_app {w : World} {ok : Nat → Nat → Nat → Prop} {s : Nat} {m m' n0 : Unit → Int} {f0 f f' : (Unit → Int) → List AV} {v : Value} (h0 : n0 () = 0) (hm : m () = m' ()) (hf : ∀ i : Nat, (i : Int) < m () → f (fun _ => (i : Int)) = f' (fun _ => (i : Int))) (h : PR w ok (.isl s m (snocF n0 f0 f) .none) v) : PR w ok (.isl s m' f' .none) v :=
  h.elems hm fun i hi => by
    rw [snocF_ge (len := 0) h0 (Nat.zero_le _), Nat.sub_zero, ← hf i hi]
    exact .refl _
theorem WkN.elems {n k s : Nat} {m m' : Unit → Int} {f f' : (Unit → Int) → List AV} {tk : Tk} (hm : m () = m' ()) (hf : ∀ i : Nat, (i : Int) < m () → RowLe (f fun _ => (i : Int)) (f' fun _ => (i : Int))) : WkN n k (.isl s m f tk) (.isl s m' f' .none) := ⟨fun R v _ hv => .pure _ _ (hv.isl_inv.elems hm hf)⟩
theorem lit_el {nt : (α : Type) → α → List α → Int → α} (hnt : ∀ (α : Type) (d : α) (l : List α) (i : Int), nt α d l i = l.getD i.toNat d) {α : Type} {n k sz : Nat} (enc : α → List AV) (d : α) (l : List α) (rows : List (List AV)) (hl : rows.length = l.length) (hr : ∀ i, i < l.length → RowLe (rows.getD i (rows.headD [])) (enc (l.getD i d))) :
    WkN n k (.isl sz (fun _ => (rows.length : Int)) (fun e => rows.getD (e ()).toNat (rows.headD [])) .exact) (.isl sz (fun _ => (l.length : Int)) (fun e => enc (nt α d l (e ()))) .none) :=
  .elems (by simp [hl]) fun i hi => by
    have hi : i < l.length := by have : (i : Int) < (rows.length : Int) := hi; omega
    simp only [hnt, Int.toNat_natCast]
    exact hr i hi

theorem snoc_pr {nt : (α : Type) → α → List α → Int → α} (hnt : ∀ (α : Type) (d : α) (l : List α) (i : Int), nt α d l i = l.getD i.toNat d) {α : Type} {s : Nat} {enc : α → List AV} {d x : α} {l : List α} {n0 m' : Unit → Int} {g : (Unit → Int) → List AV} {tk : Tk} (h0 : n0 () = (l.length : Int)) (hm : m' () = (l.length : Int) + 1) (hg : g (fun _ => 0) = enc x) (w : World) (ok : Nat → Nat → Nat → Prop) (v : Value) (h : PR w ok (.isl s m' (snocF n0 (fun e => enc (nt α d l (e ()))) g) tk) v) :
    PR w ok (.isl s (fun _ => ((l ++ [x]).length : Int)) (fun e => enc (nt α d (l ++ [x]) (e ()))) .none) v := by
  rw [← lst_nt hnt]
  refine h.wk (by simp [hm]) (fun i hi => ?_) (.inl rfl)
  have hi : i < l.length + 1 := by omega
  unfold lstR
  simp only [Int.toNat_natCast]
  by_cases h : i < l.length
  · rw [snocF_lt h0 h]
    simp only [hnt, Int.toNat_natCast, List.getD_eq_getElem?_getD, List.getElem?_append_left h]
  · obtain rfl : i = l.length := by omega
    rw [snocF_ge h0 (Nat.le_refl _)]
    simp [hg]
end Go.Proofs.YtlcgliadpalgfaaGreat.Vm

/- Contracts: books that are copied, and whether they are equal. -/
namespace Go.Proofs.YtlcgliadpalgfaaGreat.Vm
open Go Go.Proofs Sp
set_option maxRecDepth 100000
set_option maxHeartbeats 1600000

theorem c30n (z : Zone) (hlen : z.chs.length ≤ 1000000) : SC (fun _ => Tryz.prog) 48 [zoneA z] [] fun v h => v = zoneA z ∧ h = [] := by
  obtain ⟨nt, hnt⟩ := nth_ex
  refine SC.less (conX false false [] Tryz.func48 (body := bodyOf Tryz.f48) rfl (by decide +kernel) ?_)
  unfold zoneA
  simp only [lst_nt hnt, lstR_nt hnt]
  (cbv; (try simp only [nc] at *); (try refine Chk.mk (okc) ?_))
  refine ⟨_, _, ?_, rfl, rfl⟩
  (refine To.of [] ?_; cbv; (try simp only [nc]); (repeat' (first | exact trivial | exact WkN.refl _ | exact WkB.refl _ | refine ⟨?_, ?_⟩ | refine WkB.cells ?_ | refine WkN.agg ?_ | refine WkN.tup ?_)); (all_goals (first | exact okt | skip)))
  · refine .isl (by simp) fun i hi => ?_
    show (if ((i : Nat) : Int) < (([] : List Chg).length : Int) then _ else _) = _
    rw [if_neg (by simp)]
    simp

theorem c69 (l : List Train) (hl : l.length ≤ 1000000) (hs : ∀ t ∈ l, t.stops.length ≤ 1000000) : SC (fun _ => Tryz.prog) 49 [lst 3 encTrain default l] [] fun v h => v = lst 3 encTrain default l ∧ h = [] := by
  obtain ⟨nt, hnt⟩ := nth_ex
  refine SC.less (conX false false [] Tryz.func49 (body := bodyOf Tryz.f49) rfl (by decide +kernel) ?_)
  simp only [lst_nt hnt]
  (cbv; (try simp only [nc] at *); (try refine Chk.mk (okc) ?_))
  refine loopS false false [] [0, 3, 4] [.tok 3 fun _ => 0] (fun (i : Nat) => [(3, .isl 3 (fun _ => ((l.take i).length : Int)) (fun e => encTrain (nt Train default (l.take i) (e ()))) (.own 0)), (4, .int .i64 fun _ => (i : Int))])
    (fun i => [(0, .tok 3 fun _ => ((l.take i).length : Int))]) (fun i => i ≤ l.length) (fun i => l.length - i + 0) 0 (Nat.zero_le _) ?_ ?_
  · (refine To.of [(3,false)] ?_; cbv; (try simp only [nc]); (repeat' (first | exact trivial | exact WkN.refl _ | exact WkB.refl _ | refine ⟨?_, ?_⟩ | refine WkB.cells ?_ | refine WkN.agg ?_ | refine WkN.tup ?_)); (all_goals (first | exact okt | skip)))
  intro i hi
  (cbv; (try simp only [nc] at *); (try refine Chk.mk (okc) ?_))
  refine ⟨fun hb => ?_, fun hb => ?_⟩
  · simp only [decide_eq_true_eq] at hb
    have hst := hs _ (nt_mem (d := default) hnt (l := l) (i := i) (by omega))
    have htk := nt_take (d := default) hnt (l := l) (i := i) (by omega)
    have hti : (l.take i).length = i := by rw [List.length_take]; omega
    (cbv; try simp only [nc] at *)
    generalize nt Train default l (i : Int) = t at *
    have hul : (t.stops.length : Int) ≤ 1000000 := by omega
    have hul0 : ((0 : Nat) : Int) + (t.stops.length : Int) ≤ 1000000 := by omega
    refine Chk.mk (okc) ?_
    refine ⟨i + 1, by omega, by omega, ?_⟩
    rw [htk]
    (refine To.of [] ?_; cbv; (try simp only [nc]); (repeat' (first | exact trivial | exact WkN.refl _ | exact WkB.refl _ | refine ⟨?_, ?_⟩ | refine WkB.cells ?_ | refine WkN.agg ?_ | refine WkN.tup ?_)); (all_goals (first | exact okt | skip)))
    · refine .snocO hnt rfl rfl (by simp) (.three fun w ok v h => ?_)
      rw [lst_nt hnt]
      exact nil_app rfl (by simp) (fun j hj => by rw [lstR_nt hnt]; rfl) h
  · obtain rfl : i = l.length := by simp only [decide_eq_false_iff_not] at hb; omega
    rw [List.take_length]
    (cbv; (try simp only [nc] at *); (try refine Chk.mk (okc) ?_))
    refine ⟨_, [], ?_, rfl, rfl⟩
    (refine To.of [] ?_; cbv; (try simp only [nc]); (repeat' (first | exact trivial | exact WkN.refl _ | exact WkB.refl _ | refine ⟨?_, ?_⟩ | refine WkB.cells ?_ | refine WkN.agg ?_ | refine WkN.tup ?_)); (all_goals (first | exact okt | skip)))

theorem c23 (b : Book) (hf : BookFit b) : SC (fun _ => Tryz.prog) 10 [bookA b] [] fun v h => v = bookA b ∧ h = [] := by
  obtain ⟨nt, hnt⟩ := nth_ex
  have k1 := c69 b.old hf.old hf.stops.1
  have k2 := c69 b.new hf.new hf.stops.2
  have hz := hf.zones
  have hc := hf.chs
  refine SC.less (conX false false [] Tryz.func10 (body := bodyOf Tryz.f10) rfl (by decide +kernel) ?_)
  unfold bookA at *
  simp only [lst_nt hnt] at *
  (cbv; (try simp only [nc] at *); (try refine Chk.mk (okc) ?_))
  refine loopS false false [] [1, 2, 3, 4] [.tok 2 fun _ => 0] (fun (i : Nat) => [(4, .int .i64 fun _ => (i : Int))])
    (fun i => [(0, .cells [.isl 2 (fun _ => ((b.zones.take i).length : Int)) (fun e => encZone (nt Zone default (b.zones.take i) (e ()))) (.own 2), .isl 3 (fun _ => (b.old.length : Int)) (fun e => encTrain (nt Train default b.old (e ()))) .none, .isl 3 (fun _ => (b.new.length : Int)) (fun e => encTrain (nt Train default b.new (e ()))) .none, .int .i64 fun _ => b.night, .int .i64 fun _ => b.last]), (2, .tok 2 fun _ => ((b.zones.take i).length : Int))]) (fun i => i ≤ b.zones.length) (fun i => b.zones.length - i + 0) 0 (Nat.zero_le _) ?_ ?_
  · (refine To.of [(2,false)] ?_; cbv; (try simp only [nc]); (repeat' (first | exact trivial | exact WkN.refl _ | exact WkB.refl _ | refine ⟨?_, ?_⟩ | refine WkB.cells ?_ | refine WkN.agg ?_ | refine WkN.tup ?_)); (all_goals (first | exact okt | skip)))
  intro i hi
  (cbv; (try simp only [nc] at *); (try refine Chk.mk (okc) ?_))
  refine ⟨fun hb => ?_, fun hb => ?_⟩
  · simp only [decide_eq_true_eq] at hb
    have hch := hc _ (nt_mem (d := default) hnt (l := b.zones) (i := i) (by omega))
    have htk := nt_take (d := default) hnt (l := b.zones) (i := i) (by omega)
    have hti : (b.zones.take i).length = i := by rw [List.length_take]; omega
    (cbv; try simp only [nc] at *)
    generalize nt Zone default b.zones (i : Int) = z at *
    refine Chk.mk (okc) ?_
    refine call0 (c30n z hch) (by first | rfl | (simp only [zoneA, bookA, lst_nt hnt]; rfl)) fun r h₂ hp => ?_
    (try simp only [zoneA, bookA, lst_nt hnt] at hp)
    obtain ⟨rfl, rfl⟩ := hp
    (cbv; (try simp only [nc] at *); (try refine Chk.mk (okc) ?_))
    refine ⟨i + 1, by omega, by omega, ?_⟩
    rw [htk]
    (refine To.of [] ?_; cbv; (try simp only [nc]); (repeat' (first | exact trivial | exact WkN.refl _ | exact WkB.refl _ | refine ⟨?_, ?_⟩ | refine WkB.cells ?_ | refine WkN.agg ?_ | refine WkN.tup ?_)); (all_goals (first | exact okt | skip)))
  · obtain rfl : i = b.zones.length := by simp only [decide_eq_false_iff_not] at hb; omega
    rw [List.take_length]
    (cbv; (try simp only [nc] at *); (try refine Chk.mk (okc) ?_))
    refine call0 (k1) (by first | rfl | (simp only [zoneA, bookA, lst_nt hnt]; rfl)) fun r h₂ hp => ?_
    (try simp only [zoneA, bookA, lst_nt hnt] at hp)
    obtain ⟨rfl, rfl⟩ := hp
    (cbv; (try simp only [nc] at *); (try refine Chk.mk (okc) ?_))
    refine call0 (k2) (by first | rfl | (simp only [zoneA, bookA, lst_nt hnt]; rfl)) fun r h₂ hp => ?_
    (try simp only [zoneA, bookA, lst_nt hnt] at hp)
    obtain ⟨rfl, rfl⟩ := hp
    (cbv; (try simp only [nc] at *); (try refine Chk.mk (okc) ?_))
    refine ⟨_, [], ?_, rfl, rfl⟩
    (refine To.of [] ?_; cbv; (try simp only [nc]); (repeat' (first | exact trivial | exact WkN.refl _ | exact WkB.refl _ | refine ⟨?_, ?_⟩ | refine WkB.cells ?_ | refine WkN.agg ?_ | refine WkN.tup ?_)); (all_goals (first | exact okt | skip)))
/-- A book's cells. -/
def bookN (nt : (α : Type) → α → List α → Int → α) (b : Book) : List AV := [.isl 2 (fun _ => (b.zones.length : Int)) (fun e => encZone (nt Zone default b.zones (e ()))) .none, .isl 3 (fun _ => (b.old.length : Int)) (fun e => encTrain (nt Train default b.old (e ()))) .none, .isl 3 (fun _ => (b.new.length : Int)) (fun e => encTrain (nt Train default b.new (e ()))) .none, .int .i64 fun _ => b.night, .int .i64 fun _ => b.last]
end Go.Proofs.YtlcgliadpalgfaaGreat.Vm

/- Contracts: equal books; books with long lists. -/
namespace Go.Proofs.YtlcgliadpalgfaaGreat.Vm
open Go Go.Proofs Sp
set_option maxRecDepth 100000
set_option maxHeartbeats 1600000

theorem c220 (l : List Train) (hl : l.length ≤ 1000000) (hs : ∀ t ∈ l, t.stops.length ≤ 1000000) : SC (fun _ => Tryz.prog) 71 [lst 3 encTrain default l, lst 3 encTrain default l] [] fun v h => v = .bool (fun _ => true) ∧ h = [] := by
  obtain ⟨nt, hnt⟩ := nth_ex
  refine con Tryz.func71 (body := bodyOf Tryz.f71) rfl (by decide +kernel) ?_
  simp only [lst_nt hnt, encTrain_nt hnt]
  (cbv; (try simp only [nc] at *); (try refine Chk.mk (okc) ?_))
  refine Br.isF (by simp) ?_
  (cbv; (try simp only [nc] at *); (try refine Chk.mk (okc) ?_))
  refine loopS false false [] [0, 1, 5] [] (fun (i : Nat) => [(5, .int .i64 fun _ => (i : Int))]) (fun _ => []) (fun i => i ≤ l.length) (fun i => l.length - i + 0) 0 (Nat.zero_le _) ?_ ?_
  · (refine To.of [] ?_; cbv; (try simp only [nc]); (repeat' (first | exact trivial | exact WkN.refl _ | exact WkB.refl _ | refine ⟨?_, ?_⟩ | refine WkB.cells ?_ | refine WkN.agg ?_ | refine WkN.tup ?_)); (all_goals (first | exact okt | skip)))
  intro i hi
  (cbv; (try simp only [nc] at *); (try refine Chk.mk (okc) ?_))
  refine ⟨fun hb => ?_, fun hb => ?_⟩
  · simp only [decide_eq_true_eq] at hb
    have hst := hs _ (nt_mem (d := default) hnt (l := l) (i := i) (by omega))
    have hul : ((nt Train default l (i : Int)).stops.length : Int) ≤ 1000000 := by omega
    (cbv; (try simp only [nc] at *); (try refine Chk.mk (okc) ?_))
    refine Br.isF (by simp) ?_
    (cbv; (try simp only [nc] at *); (try refine Chk.mk (okc) ?_))
    refine loopQ fun Q hQ => ?_
    refine loopS false false [] [0, 1, 5, 6] [] (fun (k : Nat) => [(6, .int .i64 fun _ => (k : Int))]) (fun _ => []) (fun k => k ≤ (nt Train default l (i : Int)).stops.length) (fun k => (nt Train default l (i : Int)).stops.length - k + 0) 0 (Nat.zero_le _) ?_ ?_
    · (refine To.of [] ?_; cbv; (try simp only [nc]); (repeat' (first | exact trivial | exact WkN.refl _ | exact WkB.refl _ | refine ⟨?_, ?_⟩ | refine WkB.cells ?_ | refine WkN.agg ?_ | refine WkN.tup ?_)); (all_goals (first | exact okt | skip)))
    intro k hk
    (cbv; (try simp only [nc] at *); (try refine Chk.mk (okc) ?_))
    refine ⟨fun hb => ?_, fun hb => ?_⟩
    · simp only [decide_eq_true_eq] at hb
      have hb' : (k : Int) < ((nt Train default l (i : Int)).stops.length : Int) := hb
      (cbv; (try simp only [nc] at *); (try refine Chk.mk (okc) ?_))
      refine Br.isF (by simp) ?_
      (cbv; (try simp only [nc] at *); (try refine Chk.mk (okc) ?_))
      refine ⟨k + 1, by omega, by omega, ?_⟩
      (refine To.of [] ?_; cbv; (try simp only [nc]); (repeat' (first | exact trivial | exact WkN.refl _ | exact WkB.refl _ | refine ⟨?_, ?_⟩ | refine WkB.cells ?_ | refine WkN.agg ?_ | refine WkN.tup ?_)); (all_goals (first | exact okt | skip)))
    · (cbv; (try simp only [nc] at *); (try refine Chk.mk (okc) ?_))
      refine hQ _ _ _ ?_
      (cbv; (try simp only [nc] at *); (try refine Chk.mk (okc) ?_))
      refine ⟨i + 1, by omega, by omega, ?_⟩
      (refine To.of [] ?_; cbv; (try simp only [nc]); (repeat' (first | exact trivial | exact WkN.refl _ | exact WkB.refl _ | refine ⟨?_, ?_⟩ | refine WkB.cells ?_ | refine WkN.agg ?_ | refine WkN.tup ?_)); (all_goals (first | exact okt | skip)))
  · (cbv; (try simp only [nc] at *); (try refine Chk.mk (okc) ?_))
    (try first | exact ⟨rfl, trivial⟩ | exact ⟨trivial, trivial⟩)

theorem c206 (b : Book) (hf : BookFit b) : SC (fun _ => Tryz.prog) 21 [bookA b, bookA b] [] fun v h => v = .bool (fun _ => true) ∧ h = [] := by
  obtain ⟨nt, hnt⟩ := nth_ex
  have k1 := c220 b.old hf.old hf.stops.1
  have k2 := c220 b.new hf.new hf.stops.2
  have hz := hf.zones
  have hc := hf.chs
  refine con Tryz.func21 (body := bodyOf Tryz.f21) rfl (by decide +kernel) ?_
  unfold bookA at *
  simp only [lst_nt hnt] at *
  (cbv; (try simp only [nc] at *); (try refine Chk.mk (okc) ?_))
  refine Br.isF (by simp) ?_
  (cbv; (try simp only [nc] at *); (try refine Chk.mk (okc) ?_))
  refine loopS false false [] [2, 3, 5] [] (fun (i : Nat) => [(5, .int .i64 fun _ => (i : Int))]) (fun _ => []) (fun i => i ≤ b.zones.length) (fun i => b.zones.length - i + 0) 0 (Nat.zero_le _) ?_ ?_
  · (refine To.of [] ?_; cbv; (try simp only [nc]); (repeat' (first | exact trivial | exact WkN.refl _ | exact WkB.refl _ | refine ⟨?_, ?_⟩ | refine WkB.cells ?_ | refine WkN.agg ?_ | refine WkN.tup ?_)); (all_goals (first | exact okt | skip)))
  intro i hi
  (cbv; (try simp only [nc] at *); (try refine Chk.mk (okc) ?_))
  refine ⟨fun hb => ?_, fun hb => ?_⟩
  · simp only [decide_eq_true_eq] at hb
    have hch := hc _ (nt_mem (d := default) hnt (l := b.zones) (i := i) (by omega))
    (cbv; try simp only [nc] at *)
    generalize nt Zone default b.zones (i : Int) = z at *
    refine Chk.mk (okc) ?_
    refine call0 (c36 z hch) (by first | rfl | (simp only [zoneA, bookA, lst_nt hnt]; rfl)) fun r h₂ hp => ?_
    (try simp only [zoneA, bookA, lst_nt hnt] at hp)
    obtain ⟨rfl, rfl⟩ := hp
    (cbv; (try simp only [nc] at *); (try refine Chk.mk (okc) ?_))
    refine Br.isF (by simp) ?_
    (cbv; (try simp only [nc] at *); (try refine Chk.mk (okc) ?_))
    refine ⟨i + 1, by omega, by omega, ?_⟩
    (refine To.of [] ?_; cbv; (try simp only [nc]); (repeat' (first | exact trivial | exact WkN.refl _ | exact WkB.refl _ | refine ⟨?_, ?_⟩ | refine WkB.cells ?_ | refine WkN.agg ?_ | refine WkN.tup ?_)); (all_goals (first | exact okt | skip)))
  · (cbv; (try simp only [nc] at *); (try refine Chk.mk (okc) ?_))
    refine call0 (k1) (by first | rfl | (simp only [zoneA, bookA, lst_nt hnt]; rfl)) fun r h₂ hp => ?_
    (try simp only [zoneA, bookA, lst_nt hnt] at hp)
    obtain ⟨rfl, rfl⟩ := hp
    (cbv; (try simp only [nc] at *); (try refine Chk.mk (okc) ?_))
    refine Br.isT rfl ?_
    (cbv; (try simp only [nc] at *); (try refine Chk.mk (okc) ?_))
    refine call0 (k2) (by first | rfl | (simp only [zoneA, bookA, lst_nt hnt]; rfl)) fun r h₂ hp => ?_
    (try simp only [zoneA, bookA, lst_nt hnt] at hp)
    obtain ⟨rfl, rfl⟩ := hp
    (cbv; (try simp only [nc] at *); (try refine Chk.mk (okc) ?_))
    (try first | exact ⟨rfl, trivial⟩ | exact ⟨trivial, trivial⟩)

/-- A book that came in. -/
structure BookI (b : Book) : Prop where
  zones : (b.zones.length : Int) ≤ 9223372036854775807
  old : (b.old.length : Int) ≤ 9223372036854775807
  new : (b.new.length : Int) ≤ 9223372036854775807
  chs : ∀ z ∈ b.zones, (z.chs.length : Int) ≤ 9223372036854775807
  stops : ∀ t ∈ b.old ++ b.new, (t.stops.length : Int) ≤ 9223372036854775807

/-- A book whose lists are longer than the statements go through. -/
def largeB (b : Book) : Bool := decide (20 < b.zones.length) || decide (20 < b.old.length) || decide (20 < b.new.length) || b.zones.any (fun z => decide (20 < z.chs.length)) || (b.old ++ b.new).any (fun t => decide (20 < t.stops.length))
theorem large_fit {b : Book} (h : largeB b = false) : BookFit b ∧ (b.zones.length ≤ 20 ∧ b.old.length ≤ 20 ∧ b.new.length ≤ 20) ∧ (∀ z ∈ b.zones, z.chs.length ≤ 20) ∧ ∀ t ∈ b.old ++ b.new, t.stops.length ≤ 20 := by
  unfold largeB at h
  simp only [Bool.or_eq_false_iff, decide_eq_false_iff_not, List.any_eq_false, decide_eq_true_eq] at h
  obtain ⟨⟨⟨⟨h1, h2⟩, h3⟩, h4⟩, h5⟩ := h
  have h4 : ∀ z ∈ b.zones, z.chs.length ≤ 20 := fun z hz => by have := h4 z hz; omega
  have h5 : ∀ t ∈ b.old ++ b.new, t.stops.length ≤ 20 := fun t ht => by have := h5 t ht; omega
  refine ⟨⟨by omega, by omega, by omega, fun z hz => by have := h4 z hz; omega, fun t ht => ?_, fun t ht => ?_⟩, ⟨by omega, by omega, by omega⟩, h4, h5⟩
  · have := h5 t (List.mem_append_left _ ht); omega
  · have := h5 t (List.mem_append_right _ ht); omega

theorem any_drop {α : Type} {d : α} {nt : (α : Type) → α → List α → Int → α} (hnt : ∀ (α : Type) (d : α) (l : List α) (i : Int), nt α d l i = l.getD i.toNat d) {q : α → Bool} {l : List α} {i : Nat} (hi : i < l.length) : (l.drop i).any q = (q (nt α d l (i : Int)) || (l.drop (i + 1)).any q) := by
  rw [nt_drop (d := d) hnt hi, List.any_cons]

theorem c203 (b : Book) (hf : BookI b) : SC (fun _ => Tryz.prog) 6 [bookA b] [] fun v h => v = .bool (fun _ => largeB b) ∧ h = [] := by
  obtain ⟨nt, hnt⟩ := nth_ex
  obtain ⟨hz, ho, hn, hc, hs⟩ := hf
  unfold largeB
  have e1 : decide (20 < b.zones.length) = decide ((20 : Int) < (b.zones.length : Int)) := decide_eq_decide.2 (by omega)
  have e2 : decide (20 < b.old.length) = decide ((20 : Int) < (b.old.length : Int)) := decide_eq_decide.2 (by omega)
  have e3 : decide (20 < b.new.length) = decide ((20 : Int) < (b.new.length : Int)) := decide_eq_decide.2 (by omega)
  rw [e1, e2, e3]
  clear e1 e2 e3
  generalize hE : (decide ((20 : Int) < (b.zones.length : Int)) || decide ((20 : Int) < (b.old.length : Int)) || decide ((20 : Int) < (b.new.length : Int)) || b.zones.any (fun z => decide (20 < z.chs.length)) || (b.old ++ b.new).any (fun t => decide (20 < t.stops.length))) = E
  refine con Tryz.func6 (body := bodyOf Tryz.f6) rfl (by decide +kernel) ?_
  unfold bookA at *
  simp only [lst_nt hnt] at *
  (cbv; (try simp only [nc] at *); (try refine Chk.mk (okc) ?_))
  refine ⟨fun h1 => ?_, fun h1 => ?_⟩
  · have hE' : E = true := by
      rw [← hE]
      revert h1
      cases decide ((20 : Int) < (b.zones.length : Int)) <;> cases decide ((20 : Int) < (b.old.length : Int)) <;> cases decide ((20 : Int) < (b.new.length : Int)) <;> simp
    rw [hE']
    (cbv; (try simp only [nc] at *); (try refine Chk.mk (okc) ?_))
    (try first | exact ⟨rfl, trivial⟩ | exact ⟨trivial, trivial⟩)
  have h1' : ¬ (20 : Int) < (b.zones.length : Int) ∧ ¬ (20 : Int) < (b.old.length : Int) ∧ ¬ (20 : Int) < (b.new.length : Int) := by
    simp only [← decide_eq_false_iff_not]
    revert h1
    cases decide ((20 : Int) < (b.zones.length : Int)) <;> cases decide ((20 : Int) < (b.old.length : Int)) <;> cases decide ((20 : Int) < (b.new.length : Int)) <;> simp
  obtain ⟨g1, g2, g3⟩ := h1'
  clear h1
  rw [decide_eq_false g1, decide_eq_false g2, decide_eq_false g3, Bool.false_or, Bool.false_or, Bool.false_or] at hE
  generalize hA1 : b.zones.any (fun z => decide (20 < z.chs.length)) = A1 at *
  generalize hA2 : (b.old ++ b.new).any (fun t => decide (20 < t.stops.length)) = A2 at *
  (cbv; (try simp only [nc] at *); (try refine Chk.mk (okc) ?_))
  refine loopQ fun Q hQ => ?_
  refine loopS false false [] [1, 3] [] (fun (i : Nat) => [(3, .int .i64 fun _ => (i : Int))]) (fun _ => []) (fun i => i ≤ b.zones.length ∧ (b.zones.drop i).any (fun z => decide (20 < z.chs.length)) = A1) (fun i => b.zones.length - i + 0) 0 ⟨Nat.zero_le _, by simpa using hA1⟩ ?_ ?_
  · (refine To.of [] ?_; cbv; (try simp only [nc]); (repeat' (first | exact trivial | exact WkN.refl _ | exact WkB.refl _ | refine ⟨?_, ?_⟩ | refine WkB.cells ?_ | refine WkN.agg ?_ | refine WkN.tup ?_)); (all_goals (first | exact okt | skip)))
  rintro i ⟨hi, hp⟩
  (cbv; (try simp only [nc] at *); (try refine Chk.mk (okc) ?_))
  refine ⟨fun hb => ?_, fun hb => ?_⟩
  · simp only [decide_eq_true_eq] at hb
    have hil : i < b.zones.length := by omega
    rw [any_drop (d := default) hnt hil] at hp
    (cbv; try simp only [nc] at *)
    generalize nt Zone default b.zones (i : Int) = z at *
    refine Chk.mk (okc) ?_
    refine ⟨fun h2 => ?_, fun h2 => ?_⟩
    · have h2 : 20 < z.chs.length := by have h3 : (20 : Int) < (z.chs.length : Int) := of_decide_eq_true h2; omega
      rw [decide_eq_true h2, Bool.true_or] at hp
      subst hp
      rw [Bool.true_or] at hE
      subst hE
      (cbv; (try simp only [nc] at *); (try refine Chk.mk (okc) ?_))
      refine hQ _ _ _ ?_
      (cbv; (try simp only [nc] at *); (try refine Chk.mk (okc) ?_))
      (try first | exact ⟨rfl, trivial⟩ | exact ⟨trivial, trivial⟩)
    · have h2 : ¬ 20 < z.chs.length := by have h3 : ¬ (20 : Int) < (z.chs.length : Int) := of_decide_eq_false h2; omega
      rw [decide_eq_false h2, Bool.false_or] at hp
      (cbv; (try simp only [nc] at *); (try refine Chk.mk (okc) ?_))
      refine ⟨i + 1, ⟨by omega, hp⟩, by show b.zones.length - (i + 1) + 0 < b.zones.length - i + 0; omega, ?_⟩
      (refine To.of [] ?_; cbv; (try simp only [nc]); (repeat' (first | exact trivial | exact WkN.refl _ | exact WkB.refl _ | refine ⟨?_, ?_⟩ | refine WkB.cells ?_ | refine WkN.agg ?_ | refine WkN.tup ?_)); (all_goals (first | exact okt | skip)))
  simp only [decide_eq_false_iff_not] at hb
  rw [List.drop_eq_nil_of_le (by omega)] at hp
  have hp : A1 = false := hp.symm
  rw [hp, Bool.false_or] at hE
  (cbv; (try simp only [nc] at *); (try refine Chk.mk (okc) ?_))
  refine hQ _ _ _ ?_
  clear hQ
  (cbv; (try simp only [nc] at *); (try refine Chk.mk (okc) ?_))
  have hAl : (b.old ++ b.new).length ≤ 40 := by rw [List.length_append]; omega
  refine loopS false false [] [4, 5] [] (fun (i : Nat) => [(4, .isl 3 (fun _ => ((b.old ++ b.new).length : Int)) (fun e => encTrain (nt Train default (b.old ++ b.new) (e ()))) .none), (5, .int .i64 fun _ => (i : Int))]) (fun _ => []) (fun i => i ≤ (b.old ++ b.new).length ∧ ((b.old ++ b.new).drop i).any (fun t => decide (20 < t.stops.length)) = A2) (fun i => (b.old ++ b.new).length - i + 0) 0 ⟨Nat.zero_le _, by simpa using hA2⟩ ?_ ?_
  · (refine To.of [] ?_; cbv; (try simp only [nc]); (repeat' (first | exact trivial | exact WkN.refl _ | exact WkB.refl _ | refine ⟨?_, ?_⟩ | refine WkB.cells ?_ | refine WkN.agg ?_ | refine WkN.tup ?_)); (all_goals (first | exact okt | skip)))
    exact app_nt hnt rfl (by simp) (by simp)
  generalize b.old ++ b.new = A at *
  rintro i ⟨hi, hp⟩
  (cbv; (try simp only [nc] at *); (try refine Chk.mk (okc) ?_))
  refine ⟨fun hb => ?_, fun hb => ?_⟩
  · simp only [decide_eq_true_eq] at hb
    have hil : i < A.length := by omega
    rw [any_drop (d := default) hnt hil] at hp
    (cbv; try simp only [nc] at *)
    generalize nt Train default A (i : Int) = t at *
    refine Chk.mk (okc) ?_
    refine ⟨fun h2 => ?_, fun h2 => ?_⟩
    · have h2 : 20 < t.stops.length := by have h3 : (20 : Int) < (t.stops.length : Int) := of_decide_eq_true h2; omega
      rw [decide_eq_true h2, Bool.true_or] at hp
      rw [← hp] at hE
      subst hE
      (cbv; (try simp only [nc] at *); (try refine Chk.mk (okc) ?_))
      (try first | exact ⟨rfl, trivial⟩ | exact ⟨trivial, trivial⟩)
    · have h2 : ¬ 20 < t.stops.length := by have h3 : ¬ (20 : Int) < (t.stops.length : Int) := of_decide_eq_false h2; omega
      rw [decide_eq_false h2, Bool.false_or] at hp
      (cbv; (try simp only [nc] at *); (try refine Chk.mk (okc) ?_))
      refine ⟨i + 1, ⟨by omega, hp⟩, by show A.length - (i + 1) + 0 < A.length - i + 0; omega, ?_⟩
      (refine To.of [] ?_; cbv; (try simp only [nc]); (repeat' (first | exact trivial | exact WkN.refl _ | exact WkB.refl _ | refine ⟨?_, ?_⟩ | refine WkB.cells ?_ | refine WkN.agg ?_ | refine WkN.tup ?_)); (all_goals (first | exact okt | skip)))
  · simp only [decide_eq_false_iff_not] at hb
    rw [List.drop_eq_nil_of_le (by omega)] at hp
    rw [← hp] at hE
    have hE : E = false := hE.symm
    subst hE
    (cbv; (try simp only [nc] at *); (try refine Chk.mk (okc) ?_))
    (try first | exact ⟨rfl, trivial⟩ | exact ⟨trivial, trivial⟩)
end Go.Proofs.YtlcgliadpalgfaaGreat.Vm

/- Contract: the statement on trips. -/
namespace Go.Proofs.YtlcgliadpalgfaaGreat.Vm
open Go Go.Proofs Sp
set_option maxRecDepth 100000
set_option maxHeartbeats 6400000

theorem leg_put {nt : (α : Type) → α → List α → Int → α} (hnt : ∀ (α : Type) (d : α) (l : List α) (i : Int), nt α d l i = l.getD i.toNat d) {sm : List Sp.Leg} {x : Sp.Leg} {y : Int} (hy : 0 ≤ y) (i : Nat) (hi : i < sm.length) :
    [AV.int .i64 fun _ => bif decide ((i : Int) = y) then x.number else (nt Sp.Leg default sm (i : Int)).number, .int .i64 fun _ => bif decide ((i : Int) = y) then x.from_ else (nt Sp.Leg default sm (i : Int)).from_, .int .i64 fun _ => bif decide ((i : Int) = y) then x.to_ else (nt Sp.Leg default sm (i : Int)).to_] = encLeg (nt Sp.Leg default (sm.set y.toNat x) (i : Int)) := by
  have e : nt Sp.Leg default (sm.set y.toNat x) (i : Int) = if (i : Int) = y then x else nt Sp.Leg default sm (i : Int) := by
    rw [hnt, hnt, Int.toNat_natCast, List.getD_eq_getElem?_getD, List.getElem?_set]
    by_cases h : (i : Int) = y
    · rw [if_pos (by omega), if_pos h]
      simp [show y.toNat < sm.length by omega]
    · rw [if_neg (by omega), if_neg h, List.getD_eq_getElem?_getD]
  rw [e]
  by_cases h : (i : Int) = y
  · rw [if_pos h, decide_eq_true h]; rfl
  · rw [if_neg h, decide_eq_false h]; rfl

theorem WkN.nilApp {n k s : Nat} {nt : (α : Type) → α → List α → Int → α} {α : Type} {enc : α → List AV} {d : α} {l : List α} {n0 m : Unit → Int} {f0 : (Unit → Int) → List AV} {tk : Tk} (h0 : n0 () = 0) (hm : m () = (l.length : Int)) :
    WkN n k (.isl s m (snocF n0 f0 fun e => enc (nt α d l (e ()))) tk) (.isl s (fun _ => (l.length : Int)) (fun e => enc (nt α d l (e ()))) .none) := .none hm fun i hi => by
  rw [snocF_ge (len := 0) h0 (Nat.zero_le _)]
  rfl
theorem Trip_len (b : Book) (l : List Sp.Leg) (a : Int) : (Trip b l a).1.length ≤ l.length := by
  unfold Trip
  split
  · exact Nat.zero_le _
  rename_i hn
  have hok := (checkLegs_ok (Decidable.of_not_not hn)).1
  split
  · exact Nat.zero_le _
  split
  · exact Nat.zero_le _
  · have := (trip_bd hok l a [] (fun x hx => by cases hx)).2.2
    simpa using this
theorem Lost_len (b : Book) (l : List Sp.Leg) : (Lost b l).1.length ≤ 100 := by
  unfold Lost
  split
  · exact Nat.zero_le _
  rename_i hn
  have hok := (checkLegs_ok (Decidable.of_not_not hn)).1
  show (List.map _ _).length ≤ 100
  rw [List.length_map]
  exact Nat.le_trans (List.length_filter_le _ _) (rides_len hok _)
/-- A cell that holds legs. -/
def legsE (nt : (α : Type) → α → List α → Int → α) (L : List Sp.Leg) : List AV := [.isl 3 (fun _ => (L.length : Int)) (fun e => encLeg (nt Sp.Leg default L (e ()))) .none]

theorem c201 (b : Book) (legs : List Sp.Leg) (x : Sp.Leg) (t a : Int) (l : List Int) (hb : BookI b) (hlg : (legs.length : Int) ≤ 9223372036854775807) (hl : (l.length : Int) ≤ 9223372036854775807) : SC (fun _ => Tryz.prog) 4 [bookA b, lst 3 encLeg default legs, legA x, .int .i64 fun _ => t, .int .i64 fun _ => a, lst 1 encI 0 l] [] fun r h => r = .bool (fun _ => true) := by
  obtain ⟨nt, hnt⟩ := nth_ex
  have k203 := c203 b hb
  refine conG false false [9] Tryz.func4 (body := bodyOf Tryz.f4) rfl (by decide +kernel) ?_
  unfold legA
  simp only [bookA_nt hnt, lst_nt hnt] at *
  (cbv; (try simp only [nc] at *); (try refine Chk.mk (okc) ?_))
  rcases hlb : largeB b with _ | _
  rotate_left
  · rw [hlb] at k203
    refine call0 (k203) (by first | rfl | (simp only [zoneA, bookA, lst_nt hnt]; rfl)) fun r h₂ hp => ?_
    (try simp only [zoneA, bookA, lst_nt hnt] at hp)
    obtain ⟨rfl, rfl⟩ := hp
    (cbv; (try simp only [nc] at *); (try refine Chk.mk (okc) ?_))
    refine Br.isT (by rfl) ?_
    (cbv; (try simp only [nc] at *); (try refine Chk.mk (okc) ?_))
    refine call0 (c18) (by first | rfl | (simp only [zoneA, bookA, lst_nt hnt]; rfl)) fun r h₂ hp => ?_
    (try simp only [zoneA, bookA, lst_nt hnt] at hp)
    obtain ⟨rfl, rfl⟩ := hp
    (cbv; (try simp only [nc] at *); (try refine Chk.mk (okc) ?_))
  rw [hlb] at k203
  have hbf := (large_fit hlb).1
  refine call0 (k203) (by first | rfl | (simp only [zoneA, bookA, lst_nt hnt]; rfl)) fun r h₂ hp => ?_
  (try simp only [zoneA, bookA, lst_nt hnt] at hp)
  obtain ⟨rfl, rfl⟩ := hp
  (cbv; (try simp only [nc] at *); (try refine Chk.mk (okc) ?_))
  refine ⟨fun h1 => ?_, fun h1 => ?_⟩
  · (cbv; (try simp only [nc] at *); (try refine Chk.mk (okc) ?_))
    refine call0 (c18) (by first | rfl | (simp only [zoneA, bookA, lst_nt hnt]; rfl)) fun r h₂ hp => ?_
    (try simp only [zoneA, bookA, lst_nt hnt] at hp)
    obtain ⟨rfl, rfl⟩ := hp
    (cbv; (try simp only [nc] at *); (try refine Chk.mk (okc) ?_))
  have hll : legs.length ≤ 20 := by have h3 : ¬ (20 : Int) < (legs.length : Int) := of_decide_eq_false h1; omega
  (cbv; (try simp only [nc] at *); (try refine Chk.mk (okc) ?_))
  refine call0 (c14 l hl) (by first | rfl | (simp only [zoneA, bookA, lst_nt hnt]; rfl)) fun r h₂ hp => ?_
  (try simp only [zoneA, bookA, lst_nt hnt] at hp)
  obtain ⟨s, rfl, rfl⟩ := hp
  (cbv; (try simp only [nc] at *); (try refine Chk.mk (okc) ?_))
  refine callL [2] (c15 s 2 4 (by omega) (by omega)) (by decide) (by simp) (by first | rfl | (simp only [zoneA, bookA, lst_nt hnt]; rfl)) (by first | rfl | (simp only [zoneA, bookA, lst_nt hnt]; rfl)) fun r h₂ hp => ?_
  (try simp only [zoneA, bookA, lst_nt hnt] at hp)
  obtain ⟨mb, s1, hmade, rfl, rfl⟩ := hp
  have hmf := made_fit hmade (by omega) (by omega)
  (cbv; (try simp only [nc] at *); (try refine Chk.mk (okc) ?_))
  refine callL [2] (c16 s1 3 mb hmade (by omega) (by omega)) (by decide) (by simp) (by first | rfl | (simp only [zoneA, bookA, lst_nt hnt]; rfl)) (by first | rfl | (simp only [zoneA, bookA, lst_nt hnt]; rfl)) fun r h₂ hp => ?_
  (try simp only [zoneA, bookA, lst_nt hnt] at hp)
  obtain ⟨sm, s2, hsm, rfl, rfl⟩ := hp
  have hsl := hsm.len
  (cbv; (try simp only [nc] at *); (try refine Chk.mk (okc) ?_))
  refine callL [2] (c16 s2 2 mb hmade (by omega) (by omega)) (by decide) (by simp) (by first | rfl | (simp only [zoneA, bookA, lst_nt hnt]; rfl)) (by first | rfl | (simp only [zoneA, bookA, lst_nt hnt]; rfl)) fun r h₂ hp => ?_
  (try simp only [zoneA, bookA, lst_nt hnt] at hp)
  obtain ⟨two, s3, htw, rfl, rfl⟩ := hp
  have htl := htw.len
  (cbv; (try simp only [nc] at *); (try refine Chk.mk (okc) ?_))
  refine cutD false false [] 50 [1, 4, 6, 13, 14, 15, 16, 17] (fun o : List Sp.Leg => [(17, .isl 3 (fun _ => (o.length : Int)) (fun e => encLeg (nt Sp.Leg default o (e ()))) .none)]) (fun o => [(4, .fro 3 (fun _ => (o.length : Int)) (fun e => encLeg (nt Sp.Leg default o (e ()))))]) (fun o => o.length ≤ 3) (fun _ _ h => h) (by decide) ?_ ?_
  · (cbv; (try simp only [nc] at *); (try refine Chk.mk (okc) ?_))
    refine ⟨fun h2 => ?_, fun h2 => ?_⟩
    · have h2 : 0 < sm.length := by simpa using h2
      (cbv; (try simp only [nc] at *); (try refine Chk.mk (okc) ?_))
      refine call0 (c87 t _ (show ((([] : List (List AV)).length : Nat) : Int) + (sm.length : Int) ≤ 1000000 by simp; omega)) rfl fun r h₂ hp => ?_
      obtain ⟨y, hy0, hy1, rfl, rfl⟩ := hp
      have hy : 0 ≤ y ∧ y < sm.length := by simp at hy1; omega
      (cbv; (try simp only [nc] at *); (try refine Chk.mk (okc) ?_))
      refine ⟨sm.set y.toNat x, by rw [List.length_set]; omega, ?_⟩
      refine (To.froze (id := 4) rfl).trans ?_
      have hrow : ∀ i : Nat, i < sm.length → putC (snocF (fun _ => (([] : List (List AV)).length : Int)) (fun e => ([] : List (List AV)).getD (e ()).toNat (([] : List (List AV)).headD [])) (fun e => encLeg (nt Sp.Leg default sm (e ()))) (fun _ => (i : Int))) 0 ((mixRow (fun _ => decide ((i : Int) = y)) (List.map purify (AV.agg [.int .i64 fun _ => x.number, .int .i64 fun _ => x.from_, .int .i64 fun _ => x.to_]).cellsOf) (List.take 3 (List.drop 0 (snocF (fun _ => (([] : List (List AV)).length : Int)) (fun e => ([] : List (List AV)).getD (e ()).toNat (([] : List (List AV)).headD [])) (fun e => encLeg (nt Sp.Leg default sm (e ()))) (fun _ => (i : Int)))))).getD []) = encLeg (nt Sp.Leg default (sm.set y.toNat x) (i : Int)) := fun i hi => by
        refine Eq.trans ?_ (leg_put hnt hy0 i hi)
        rw [snocF_ge (len := 0) rfl (Nat.zero_le i)]
        rfl
      (refine To.of [] ?_; cbv; (try simp only [nc]); (repeat' (first | exact trivial | exact WkN.refl _ | exact WkB.refl _ | refine ⟨?_, ?_⟩ | refine WkB.cells ?_ | refine WkN.agg ?_ | refine WkN.tup ?_)); (all_goals (first | exact okt | skip)))
      · exact .gd (by simp) (.none (by simp) fun i hi => hrow i (by simp at hi; omega))
      · exact .fro (by simp) fun i hi => hrow i (by simp at hi; omega)
    · have h2 : sm = [] := by simpa using h2
      (cbv; (try simp only [nc] at *); (try refine Chk.mk (okc) ?_))
      refine ⟨sm, by omega, ?_⟩
      refine (To.froze (id := 4) rfl).trans ?_
      subst h2
      (refine To.of [] ?_; cbv; (try simp only [nc]); (repeat' (first | exact trivial | exact WkN.refl _ | exact WkB.refl _ | refine ⟨?_, ?_⟩ | refine WkB.cells ?_ | refine WkN.agg ?_ | refine WkN.tup ?_)); (all_goals (first | exact okt | skip)))
      · exact .gd (by simp) (.none (by simp) fun i hi => by simp at hi; omega)
      · exact .fro (by simp) fun i hi => by simp at hi; omega
  intro o ho
  have ho : o.length ≤ 3 := ho
  (cbv; (try simp only [nc] at *); (try refine Chk.mk (okc) ?_))
  refine callL [2] (c17 s3 2000 (by omega)) (by decide) (by simp) (by first | rfl | (simp only [zoneA, bookA, lst_nt hnt]; rfl)) (by first | rfl | (simp only [zoneA, bookA, lst_nt hnt]; rfl)) fun r h₂ hp => ?_
  (try simp only [zoneA, bookA, lst_nt hnt] at hp)
  obtain ⟨y1, s4, hy1, rfl, rfl⟩ := hp
  (cbv; (try simp only [nc] at *); (try refine Chk.mk (okc) ?_))
  refine callL [2] (c17 s4 1000 (by omega)) (by decide) (by simp) (by first | rfl | (simp only [zoneA, bookA, lst_nt hnt]; rfl)) (by first | rfl | (simp only [zoneA, bookA, lst_nt hnt]; rfl)) fun r h₂ hp => ?_
  (try simp only [zoneA, bookA, lst_nt hnt] at hp)
  obtain ⟨y2, s5, hy2, rfl, rfl⟩ := hp
  (cbv; (try simp only [nc] at *); (try refine Chk.mk (okc) ?_))
  obtain ⟨bs, hbs⟩ : ∃ l : List Book, l = [b, mb, mb, mb, mb] := ⟨_, rfl⟩
  obtain ⟨ls, hls⟩ : ∃ l : List (List Sp.Leg), l = [legs, sm, two, o, legs] := ⟨_, rfl⟩
  obtain ⟨fs, hfs⟩ : ∃ l : List Int, l = [a, y1, 0, y2, a] := ⟨_, rfl⟩
  have hb5 : bs.length = 5 := by rw [hbs]; rfl
  have hl5 : ls.length = 5 := by rw [hls]; rfl
  have hf5 : fs.length = 5 := by rw [hfs]; rfl
  have hbfit : ∀ q ∈ bs, BookFit q := fun q hq => by
    rw [hbs] at hq
    simp only [List.mem_cons, List.not_mem_nil, or_false] at hq
    rcases hq with rfl | rfl | rfl | rfl | rfl
    · exact hbf
    · exact hmf
    · exact hmf
    · exact hmf
    · exact hmf
  have hlfit : ∀ q ∈ ls, q.length ≤ 20 := fun q hq => by
    rw [hls] at hq
    simp only [List.mem_cons, List.not_mem_nil, or_false] at hq
    rcases hq with rfl | rfl | rfl | rfl | rfl
    · exact hll
    · omega
    · omega
    · omega
    · exact hll
  refine loopS false false [] [18, 19, 20, 21] [] (fun (i : Nat) => [(18, .isl 5 (fun _ => (bs.length : Int)) (fun e => bookN nt (nt Book default bs (e ()))) .none), (19, .isl 1 (fun _ => (ls.length : Int)) (fun e => legsE nt (nt (List Sp.Leg) default ls (e ()))) .none), (20, .isl 1 (fun _ => (fs.length : Int)) (fun e => encI (nt Int 0 fs (e ()))) .none), (21, .int .i64 fun _ => (i : Int))]) (fun _ => []) (fun i => i ≤ 5) (fun i => 5 - i + 0) 0 (Nat.zero_le _) ?_ ?_
  · (refine To.of [] ?_; cbv; (try simp only [nc]); (repeat' (first | exact trivial | exact WkN.refl _ | exact WkB.refl _ | refine ⟨?_, ?_⟩ | refine WkB.cells ?_ | refine WkN.agg ?_ | refine WkN.tup ?_)); (all_goals (first | exact okt | skip)))
    · refine lit_el hnt (bookN nt) default bs _ (by rw [hb5]; rfl) fun i hi => ?_
      subst hbs
      match i with
      | 0 | 1 | 2 | 3 | 4 => exact .refl _
      | i + 5 => simp only [List.length_cons, List.length_nil] at hi; omega
    · refine lit_el hnt (legsE nt) default ls _ (by rw [hl5]; rfl) fun i hi => ?_
      subst hls
      match i with
      | 0 | 1 | 2 | 3 | 4 => exact .refl _
      | i + 5 => simp only [List.length_cons, List.length_nil] at hi; omega
    · subst hfs
      exact lit_nt hnt encI 0 [a, y1, 0, y2, a] _ rfl
  clear hbs hls hfs
  intro i hi
  (cbv; (try simp only [nc] at *); (try refine Chk.mk (okc) ?_))
  refine ⟨fun hb => ?_, fun hb => ?_⟩
  · simp only [decide_eq_true_eq] at hb
    have hi5 : i < 5 := by omega
    have hqf := hbfit _ (nt_mem hnt (show i < bs.length by omega) : nt Book default bs (i : Int) ∈ bs)
    have hMl := hlfit _ (nt_mem hnt (show i < ls.length by omega) : nt (List Sp.Leg) default ls (i : Int) ∈ ls)
    generalize hq : nt Book default bs (i : Int) = q at *
    generalize hM : nt (List Sp.Leg) default ls (i : Int) = M at *
    generalize hA : nt Int 0 fs (i : Int) = A at *
    have hMi : (M.length : Int) ≤ 20 := by omega
    have k23 := c23 q hqf
    have k19 := c19 q hqf M A (by omega)
    have k207 := c207 q hqf M A (by omega)
    have k49 := c49 q hqf M (by omega)
    have k208 := c208 q hqf M (by omega)
    have k50 := c50 q hqf M (by omega)
    have k209 := c209 q hqf M (by omega)
    have k206 := c206 q hqf
    have k210 := c210 M (by omega)
    have hTl := Trip_len q M A
    have hLl := Lost_len q M
    generalize Trip q M A = T at *
    generalize Lost q M = Lo at *
    generalize Waits q M = Wa at *
    obtain ⟨T1, T2⟩ := T
    obtain ⟨L1, L2⟩ := Lo
    obtain ⟨W1, W2⟩ := Wa
    have k65 := c65 T1 (by have : T1.length ≤ M.length := hTl; omega)
    have k39 := c39 L1 L1 (by have : L1.length ≤ 100 := hLl; omega)
    rw [decide_eq_true rfl] at k39
    simp only [bookA_nt hnt, lst_nt hnt] at k23 k19 k207 k49 k208 k50 k209 k206 k210 k65 k39
    have hMn : (M.length : Int) ≤ 1000000 := by omega
    have hMn0 : ((0 : Nat) : Int) + (M.length : Int) ≤ 1000000 := by omega
    (cbv; try simp only [nc] at *)
    simp only [hq, hM]
    refine Chk.mk (okc) ?_
    refine ⟨?_, ?_⟩
    · skip
      refine call0 (k23) (by first | rfl | (simp only [zoneA, bookA, lst_nt hnt]; rfl)) fun r h₂ hp => ?_
      (try simp only [zoneA, bookA, lst_nt hnt] at hp)
      obtain ⟨rfl, rfl⟩ := hp
      (cbv; try simp only [nc] at *)
      (try simp only [hq, hM])
      (try refine Chk.mk (okc) ?_)
      refine ⟨?_, ?_⟩
      · refine Chk.mk (okc) ?_
        (cbv; try simp only [nc] at *)
        (try simp only [hq, hM, hA, bne_self_eq_false, cond_false, cond_true, decide_true, Bool.not_false, Bool.not_true, Bool.and_self, Bool.true_and, beq_self_eq_true])
        (try refine Chk.mk (okc) ?_)
        refine call0T k19 (by (refine To.of [] ?_; cbv; (try simp only [nc]); (repeat' (first | exact trivial | exact WkN.refl _ | exact WkB.refl _ | refine ⟨?_, ?_⟩ | refine WkB.cells ?_ | refine WkN.agg ?_ | refine WkN.tup ?_)); (all_goals (first | exact okt | skip))); exact .nilApp (by simp) (by simp)) rfl fun r h₂ hp => ?_
        obtain ⟨rfl, rfl⟩ := hp
        (cbv; try simp only [nc] at *)
        (try simp only [hq, hM, hA, bne_self_eq_false, cond_false, cond_true, decide_true, Bool.not_false, Bool.not_true, Bool.and_self, Bool.true_and, beq_self_eq_true])
        (try refine Chk.mk (okc) ?_)
        refine call0 (k207) (by first | rfl | (simp only [zoneA, bookA, lst_nt hnt]; rfl)) fun r h₂ hp => ?_
        (try simp only [zoneA, bookA, lst_nt hnt] at hp)
        obtain ⟨rfl, rfl⟩ := hp
        (cbv; try simp only [nc] at *)
        (try simp only [hq, hM, hA, bne_self_eq_false, cond_false, cond_true, decide_true, Bool.not_false, Bool.not_true, Bool.and_self, Bool.true_and, beq_self_eq_true])
        (try refine Chk.mk (okc) ?_)
        refine call0T k49 (by (refine To.of [] ?_; cbv; (try simp only [nc]); (repeat' (first | exact trivial | exact WkN.refl _ | exact WkB.refl _ | refine ⟨?_, ?_⟩ | refine WkB.cells ?_ | refine WkN.agg ?_ | refine WkN.tup ?_)); (all_goals (first | exact okt | skip))); exact .nilApp (by simp) (by simp)) rfl fun r h₂ hp => ?_
        obtain ⟨rfl, rfl⟩ := hp
        (cbv; try simp only [nc] at *)
        (try simp only [hq, hM, hA, bne_self_eq_false, cond_false, cond_true, decide_true, Bool.not_false, Bool.not_true, Bool.and_self, Bool.true_and, beq_self_eq_true])
        (try refine Chk.mk (okc) ?_)
        refine call0 (k208) (by first | rfl | (simp only [zoneA, bookA, lst_nt hnt]; rfl)) fun r h₂ hp => ?_
        (try simp only [zoneA, bookA, lst_nt hnt] at hp)
        obtain ⟨rfl, rfl⟩ := hp
        (cbv; try simp only [nc] at *)
        (try simp only [hq, hM, hA, bne_self_eq_false, cond_false, cond_true, decide_true, Bool.not_false, Bool.not_true, Bool.and_self, Bool.true_and, beq_self_eq_true])
        (try refine Chk.mk (okc) ?_)
        refine call0T k50 (by (refine To.of [] ?_; cbv; (try simp only [nc]); (repeat' (first | exact trivial | exact WkN.refl _ | exact WkB.refl _ | refine ⟨?_, ?_⟩ | refine WkB.cells ?_ | refine WkN.agg ?_ | refine WkN.tup ?_)); (all_goals (first | exact okt | skip))); exact .nilApp (by simp) (by simp)) rfl fun r h₂ hp => ?_
        obtain ⟨rfl, rfl⟩ := hp
        (cbv; try simp only [nc] at *)
        (try simp only [hq, hM, hA, bne_self_eq_false, cond_false, cond_true, decide_true, Bool.not_false, Bool.not_true, Bool.and_self, Bool.true_and, beq_self_eq_true])
        (try refine Chk.mk (okc) ?_)
        refine ⟨?_, ?_⟩
        · skip
          refine call0 (k209) (by first | rfl | (simp only [zoneA, bookA, lst_nt hnt]; rfl)) fun r h₂ hp => ?_
          (try simp only [zoneA, bookA, lst_nt hnt] at hp)
          obtain ⟨rfl, rfl⟩ := hp
          (cbv; try simp only [nc] at *)
          (try simp only [hq, hM, hA, bne_self_eq_false, cond_false, cond_true, decide_true, Bool.not_false, Bool.not_true, Bool.and_self, Bool.true_and, beq_self_eq_true])
          (try refine Chk.mk (okc) ?_)
          refine Br.isT rfl ?_
          (cbv; try simp only [nc] at *)
          (try simp only [hq, hM, hA, bne_self_eq_false, cond_false, cond_true, decide_true, Bool.not_false, Bool.not_true, Bool.and_self, Bool.true_and, beq_self_eq_true])
          (try refine Chk.mk (okc) ?_)
          refine call0 (k65) (by first | rfl | (simp only [zoneA, bookA, lst_nt hnt]; rfl)) fun r h₂ hp => ?_
          (try simp only [zoneA, bookA, lst_nt hnt] at hp)
          obtain ⟨rfl, rfl⟩ := hp
          (cbv; try simp only [nc] at *)
          (try simp only [hq, hM, hA, bne_self_eq_false, cond_false, cond_true, decide_true, Bool.not_false, Bool.not_true, Bool.and_self, Bool.true_and, beq_self_eq_true])
          (try refine Chk.mk (okc) ?_)
          refine Br.isT rfl ?_
          (cbv; try simp only [nc] at *)
          (try simp only [hq, hM, hA, bne_self_eq_false, cond_false, cond_true, decide_true, Bool.not_false, Bool.not_true, Bool.and_self, Bool.true_and, beq_self_eq_true])
          (try refine Chk.mk (okc) ?_)
          refine call0 (k39) (by first | rfl | (simp only [zoneA, bookA, lst_nt hnt]; rfl)) fun r h₂ hp => ?_
          (try simp only [zoneA, bookA, lst_nt hnt] at hp)
          obtain ⟨rfl, rfl⟩ := hp
          (cbv; try simp only [nc] at *)
          (try simp only [hq, hM, hA, bne_self_eq_false, cond_false, cond_true, decide_true, Bool.not_false, Bool.not_true, Bool.and_self, Bool.true_and, beq_self_eq_true])
          (try refine Chk.mk (okc) ?_)
          refine Br.isT rfl ?_
          (cbv; try simp only [nc] at *)
          (try simp only [hq, hM, hA, bne_self_eq_false, cond_false, cond_true, decide_true, Bool.not_false, Bool.not_true, Bool.and_self, Bool.true_and, beq_self_eq_true])
          (try refine Chk.mk (okc) ?_)
          refine call0 (k206) (by first | rfl | (simp only [zoneA, bookA, lst_nt hnt]; rfl)) fun r h₂ hp => ?_
          (try simp only [zoneA, bookA, lst_nt hnt] at hp)
          obtain ⟨rfl, rfl⟩ := hp
          (cbv; try simp only [nc] at *)
          (try simp only [hq, hM, hA, bne_self_eq_false, cond_false, cond_true, decide_true, Bool.not_false, Bool.not_true, Bool.and_self, Bool.true_and, beq_self_eq_true])
          (try refine Chk.mk (okc) ?_)
          refine Br.isT rfl ?_
          (cbv; try simp only [nc] at *)
          (try simp only [hq, hM, hA, bne_self_eq_false, cond_false, cond_true, decide_true, Bool.not_false, Bool.not_true, Bool.and_self, Bool.true_and, beq_self_eq_true])
          (try refine Chk.mk (okc) ?_)
          refine call0T k210 (by (refine To.of [] ?_; cbv; (try simp only [nc]); (repeat' (first | exact trivial | exact WkN.refl _ | exact WkB.refl _ | refine ⟨?_, ?_⟩ | refine WkB.cells ?_ | refine WkN.agg ?_ | refine WkN.tup ?_)); (all_goals (first | exact okt | skip))); exact .nilApp (by simp) (by simp)) rfl fun r h₂ hp => ?_
          obtain ⟨rfl, rfl⟩ := hp
          (cbv; try simp only [nc] at *)
          (try simp only [hq, hM, hA, bne_self_eq_false, cond_false, cond_true, decide_true, Bool.not_false, Bool.not_true, Bool.and_self, Bool.true_and, beq_self_eq_true])
          (try refine Chk.mk (okc) ?_)
          refine Br.isF rfl ?_
          (cbv; (try simp only [nc] at *); (try refine Chk.mk (okc) ?_))
          refine ⟨i + 1, by omega, by omega, ?_⟩
          (refine To.of [] ?_; cbv; (try simp only [nc]); (repeat' (first | exact trivial | exact WkN.refl _ | exact WkB.refl _ | refine ⟨?_, ?_⟩ | refine WkB.cells ?_ | refine WkN.agg ?_ | refine WkN.tup ?_)); (all_goals (first | exact okt | skip)))
        · skip
          (cbv; try simp only [nc] at *)
          (try simp only [hq, hM, hA, bne_self_eq_false, cond_false, cond_true, decide_true, Bool.not_false, Bool.not_true, Bool.and_self, Bool.true_and, beq_self_eq_true])
          (try refine Chk.mk (okc) ?_)
          refine call0 (k209) (by first | rfl | (simp only [zoneA, bookA, lst_nt hnt]; rfl)) fun r h₂ hp => ?_
          (try simp only [zoneA, bookA, lst_nt hnt] at hp)
          obtain ⟨rfl, rfl⟩ := hp
          (cbv; try simp only [nc] at *)
          (try simp only [hq, hM, hA, bne_self_eq_false, cond_false, cond_true, decide_true, Bool.not_false, Bool.not_true, Bool.and_self, Bool.true_and, beq_self_eq_true])
          (try refine Chk.mk (okc) ?_)
          refine Br.isT rfl ?_
          (cbv; try simp only [nc] at *)
          (try simp only [hq, hM, hA, bne_self_eq_false, cond_false, cond_true, decide_true, Bool.not_false, Bool.not_true, Bool.and_self, Bool.true_and, beq_self_eq_true])
          (try refine Chk.mk (okc) ?_)
          refine call0 (k65) (by first | rfl | (simp only [zoneA, bookA, lst_nt hnt]; rfl)) fun r h₂ hp => ?_
          (try simp only [zoneA, bookA, lst_nt hnt] at hp)
          obtain ⟨rfl, rfl⟩ := hp
          (cbv; try simp only [nc] at *)
          (try simp only [hq, hM, hA, bne_self_eq_false, cond_false, cond_true, decide_true, Bool.not_false, Bool.not_true, Bool.and_self, Bool.true_and, beq_self_eq_true])
          (try refine Chk.mk (okc) ?_)
          refine Br.isT rfl ?_
          (cbv; try simp only [nc] at *)
          (try simp only [hq, hM, hA, bne_self_eq_false, cond_false, cond_true, decide_true, Bool.not_false, Bool.not_true, Bool.and_self, Bool.true_and, beq_self_eq_true])
          (try refine Chk.mk (okc) ?_)
          refine call0 (k39) (by first | rfl | (simp only [zoneA, bookA, lst_nt hnt]; rfl)) fun r h₂ hp => ?_
          (try simp only [zoneA, bookA, lst_nt hnt] at hp)
          obtain ⟨rfl, rfl⟩ := hp
          (cbv; try simp only [nc] at *)
          (try simp only [hq, hM, hA, bne_self_eq_false, cond_false, cond_true, decide_true, Bool.not_false, Bool.not_true, Bool.and_self, Bool.true_and, beq_self_eq_true])
          (try refine Chk.mk (okc) ?_)
          refine Br.isT rfl ?_
          (cbv; try simp only [nc] at *)
          (try simp only [hq, hM, hA, bne_self_eq_false, cond_false, cond_true, decide_true, Bool.not_false, Bool.not_true, Bool.and_self, Bool.true_and, beq_self_eq_true])
          (try refine Chk.mk (okc) ?_)
          refine call0 (k206) (by first | rfl | (simp only [zoneA, bookA, lst_nt hnt]; rfl)) fun r h₂ hp => ?_
          (try simp only [zoneA, bookA, lst_nt hnt] at hp)
          obtain ⟨rfl, rfl⟩ := hp
          (cbv; try simp only [nc] at *)
          (try simp only [hq, hM, hA, bne_self_eq_false, cond_false, cond_true, decide_true, Bool.not_false, Bool.not_true, Bool.and_self, Bool.true_and, beq_self_eq_true])
          (try refine Chk.mk (okc) ?_)
          refine Br.isT rfl ?_
          (cbv; try simp only [nc] at *)
          (try simp only [hq, hM, hA, bne_self_eq_false, cond_false, cond_true, decide_true, Bool.not_false, Bool.not_true, Bool.and_self, Bool.true_and, beq_self_eq_true])
          (try refine Chk.mk (okc) ?_)
          refine call0T k210 (by (refine To.of [] ?_; cbv; (try simp only [nc]); (repeat' (first | exact trivial | exact WkN.refl _ | exact WkB.refl _ | refine ⟨?_, ?_⟩ | refine WkB.cells ?_ | refine WkN.agg ?_ | refine WkN.tup ?_)); (all_goals (first | exact okt | skip))); exact .nilApp (by simp) (by simp)) rfl fun r h₂ hp => ?_
          obtain ⟨rfl, rfl⟩ := hp
          (cbv; try simp only [nc] at *)
          (try simp only [hq, hM, hA, bne_self_eq_false, cond_false, cond_true, decide_true, Bool.not_false, Bool.not_true, Bool.and_self, Bool.true_and, beq_self_eq_true])
          (try refine Chk.mk (okc) ?_)
          refine Br.isF rfl ?_
          (cbv; (try simp only [nc] at *); (try refine Chk.mk (okc) ?_))
          refine ⟨i + 1, by omega, by omega, ?_⟩
          (refine To.of [] ?_; cbv; (try simp only [nc]); (repeat' (first | exact trivial | exact WkN.refl _ | exact WkB.refl _ | refine ⟨?_, ?_⟩ | refine WkB.cells ?_ | refine WkN.agg ?_ | refine WkN.tup ?_)); (all_goals (first | exact okt | skip)))
      · skip
        (cbv; try simp only [nc] at *)
        (try simp only [hq, hM, hA, bne_self_eq_false, cond_false, cond_true, decide_true, Bool.not_false, Bool.not_true, Bool.and_self, Bool.true_and, beq_self_eq_true])
        (try refine Chk.mk (okc) ?_)
        (cbv; try simp only [nc] at *)
        (try simp only [hq, hM, hA, bne_self_eq_false, cond_false, cond_true, decide_true, Bool.not_false, Bool.not_true, Bool.and_self, Bool.true_and, beq_self_eq_true])
        (try refine Chk.mk (okc) ?_)
        refine call0T k19 (by (refine To.of [] ?_; cbv; (try simp only [nc]); (repeat' (first | exact trivial | exact WkN.refl _ | exact WkB.refl _ | refine ⟨?_, ?_⟩ | refine WkB.cells ?_ | refine WkN.agg ?_ | refine WkN.tup ?_)); (all_goals (first | exact okt | skip))); exact .nilApp (by simp) (by simp)) rfl fun r h₂ hp => ?_
        obtain ⟨rfl, rfl⟩ := hp
        (cbv; try simp only [nc] at *)
        (try simp only [hq, hM, hA, bne_self_eq_false, cond_false, cond_true, decide_true, Bool.not_false, Bool.not_true, Bool.and_self, Bool.true_and, beq_self_eq_true])
        (try refine Chk.mk (okc) ?_)
        refine call0 (k207) (by first | rfl | (simp only [zoneA, bookA, lst_nt hnt]; rfl)) fun r h₂ hp => ?_
        (try simp only [zoneA, bookA, lst_nt hnt] at hp)
        obtain ⟨rfl, rfl⟩ := hp
        (cbv; try simp only [nc] at *)
        (try simp only [hq, hM, hA, bne_self_eq_false, cond_false, cond_true, decide_true, Bool.not_false, Bool.not_true, Bool.and_self, Bool.true_and, beq_self_eq_true])
        (try refine Chk.mk (okc) ?_)
        refine call0T k49 (by (refine To.of [] ?_; cbv; (try simp only [nc]); (repeat' (first | exact trivial | exact WkN.refl _ | exact WkB.refl _ | refine ⟨?_, ?_⟩ | refine WkB.cells ?_ | refine WkN.agg ?_ | refine WkN.tup ?_)); (all_goals (first | exact okt | skip))); exact .nilApp (by simp) (by simp)) rfl fun r h₂ hp => ?_
        obtain ⟨rfl, rfl⟩ := hp
        (cbv; try simp only [nc] at *)
        (try simp only [hq, hM, hA, bne_self_eq_false, cond_false, cond_true, decide_true, Bool.not_false, Bool.not_true, Bool.and_self, Bool.true_and, beq_self_eq_true])
        (try refine Chk.mk (okc) ?_)
        refine call0 (k208) (by first | rfl | (simp only [zoneA, bookA, lst_nt hnt]; rfl)) fun r h₂ hp => ?_
        (try simp only [zoneA, bookA, lst_nt hnt] at hp)
        obtain ⟨rfl, rfl⟩ := hp
        (cbv; try simp only [nc] at *)
        (try simp only [hq, hM, hA, bne_self_eq_false, cond_false, cond_true, decide_true, Bool.not_false, Bool.not_true, Bool.and_self, Bool.true_and, beq_self_eq_true])
        (try refine Chk.mk (okc) ?_)
        refine call0T k50 (by (refine To.of [] ?_; cbv; (try simp only [nc]); (repeat' (first | exact trivial | exact WkN.refl _ | exact WkB.refl _ | refine ⟨?_, ?_⟩ | refine WkB.cells ?_ | refine WkN.agg ?_ | refine WkN.tup ?_)); (all_goals (first | exact okt | skip))); exact .nilApp (by simp) (by simp)) rfl fun r h₂ hp => ?_
        obtain ⟨rfl, rfl⟩ := hp
        (cbv; try simp only [nc] at *)
        (try simp only [hq, hM, hA, bne_self_eq_false, cond_false, cond_true, decide_true, Bool.not_false, Bool.not_true, Bool.and_self, Bool.true_and, beq_self_eq_true])
        (try refine Chk.mk (okc) ?_)
        refine ⟨?_, ?_⟩
        · skip
          refine call0 (k209) (by first | rfl | (simp only [zoneA, bookA, lst_nt hnt]; rfl)) fun r h₂ hp => ?_
          (try simp only [zoneA, bookA, lst_nt hnt] at hp)
          obtain ⟨rfl, rfl⟩ := hp
          (cbv; try simp only [nc] at *)
          (try simp only [hq, hM, hA, bne_self_eq_false, cond_false, cond_true, decide_true, Bool.not_false, Bool.not_true, Bool.and_self, Bool.true_and, beq_self_eq_true])
          (try refine Chk.mk (okc) ?_)
          refine Br.isT rfl ?_
          (cbv; try simp only [nc] at *)
          (try simp only [hq, hM, hA, bne_self_eq_false, cond_false, cond_true, decide_true, Bool.not_false, Bool.not_true, Bool.and_self, Bool.true_and, beq_self_eq_true])
          (try refine Chk.mk (okc) ?_)
          refine call0 (k65) (by first | rfl | (simp only [zoneA, bookA, lst_nt hnt]; rfl)) fun r h₂ hp => ?_
          (try simp only [zoneA, bookA, lst_nt hnt] at hp)
          obtain ⟨rfl, rfl⟩ := hp
          (cbv; try simp only [nc] at *)
          (try simp only [hq, hM, hA, bne_self_eq_false, cond_false, cond_true, decide_true, Bool.not_false, Bool.not_true, Bool.and_self, Bool.true_and, beq_self_eq_true])
          (try refine Chk.mk (okc) ?_)
          refine Br.isT rfl ?_
          (cbv; try simp only [nc] at *)
          (try simp only [hq, hM, hA, bne_self_eq_false, cond_false, cond_true, decide_true, Bool.not_false, Bool.not_true, Bool.and_self, Bool.true_and, beq_self_eq_true])
          (try refine Chk.mk (okc) ?_)
          refine call0 (k39) (by first | rfl | (simp only [zoneA, bookA, lst_nt hnt]; rfl)) fun r h₂ hp => ?_
          (try simp only [zoneA, bookA, lst_nt hnt] at hp)
          obtain ⟨rfl, rfl⟩ := hp
          (cbv; try simp only [nc] at *)
          (try simp only [hq, hM, hA, bne_self_eq_false, cond_false, cond_true, decide_true, Bool.not_false, Bool.not_true, Bool.and_self, Bool.true_and, beq_self_eq_true])
          (try refine Chk.mk (okc) ?_)
          refine Br.isT rfl ?_
          (cbv; try simp only [nc] at *)
          (try simp only [hq, hM, hA, bne_self_eq_false, cond_false, cond_true, decide_true, Bool.not_false, Bool.not_true, Bool.and_self, Bool.true_and, beq_self_eq_true])
          (try refine Chk.mk (okc) ?_)
          refine call0 (k206) (by first | rfl | (simp only [zoneA, bookA, lst_nt hnt]; rfl)) fun r h₂ hp => ?_
          (try simp only [zoneA, bookA, lst_nt hnt] at hp)
          obtain ⟨rfl, rfl⟩ := hp
          (cbv; try simp only [nc] at *)
          (try simp only [hq, hM, hA, bne_self_eq_false, cond_false, cond_true, decide_true, Bool.not_false, Bool.not_true, Bool.and_self, Bool.true_and, beq_self_eq_true])
          (try refine Chk.mk (okc) ?_)
          refine Br.isT rfl ?_
          (cbv; try simp only [nc] at *)
          (try simp only [hq, hM, hA, bne_self_eq_false, cond_false, cond_true, decide_true, Bool.not_false, Bool.not_true, Bool.and_self, Bool.true_and, beq_self_eq_true])
          (try refine Chk.mk (okc) ?_)
          refine call0T k210 (by (refine To.of [] ?_; cbv; (try simp only [nc]); (repeat' (first | exact trivial | exact WkN.refl _ | exact WkB.refl _ | refine ⟨?_, ?_⟩ | refine WkB.cells ?_ | refine WkN.agg ?_ | refine WkN.tup ?_)); (all_goals (first | exact okt | skip))); exact .nilApp (by simp) (by simp)) rfl fun r h₂ hp => ?_
          obtain ⟨rfl, rfl⟩ := hp
          (cbv; try simp only [nc] at *)
          (try simp only [hq, hM, hA, bne_self_eq_false, cond_false, cond_true, decide_true, Bool.not_false, Bool.not_true, Bool.and_self, Bool.true_and, beq_self_eq_true])
          (try refine Chk.mk (okc) ?_)
          refine Br.isF rfl ?_
          (cbv; (try simp only [nc] at *); (try refine Chk.mk (okc) ?_))
          refine ⟨i + 1, by omega, by omega, ?_⟩
          (refine To.of [] ?_; cbv; (try simp only [nc]); (repeat' (first | exact trivial | exact WkN.refl _ | exact WkB.refl _ | refine ⟨?_, ?_⟩ | refine WkB.cells ?_ | refine WkN.agg ?_ | refine WkN.tup ?_)); (all_goals (first | exact okt | skip)))
        · skip
          (cbv; try simp only [nc] at *)
          (try simp only [hq, hM, hA, bne_self_eq_false, cond_false, cond_true, decide_true, Bool.not_false, Bool.not_true, Bool.and_self, Bool.true_and, beq_self_eq_true])
          (try refine Chk.mk (okc) ?_)
          refine call0 (k209) (by first | rfl | (simp only [zoneA, bookA, lst_nt hnt]; rfl)) fun r h₂ hp => ?_
          (try simp only [zoneA, bookA, lst_nt hnt] at hp)
          obtain ⟨rfl, rfl⟩ := hp
          (cbv; try simp only [nc] at *)
          (try simp only [hq, hM, hA, bne_self_eq_false, cond_false, cond_true, decide_true, Bool.not_false, Bool.not_true, Bool.and_self, Bool.true_and, beq_self_eq_true])
          (try refine Chk.mk (okc) ?_)
          refine Br.isT rfl ?_
          (cbv; try simp only [nc] at *)
          (try simp only [hq, hM, hA, bne_self_eq_false, cond_false, cond_true, decide_true, Bool.not_false, Bool.not_true, Bool.and_self, Bool.true_and, beq_self_eq_true])
          (try refine Chk.mk (okc) ?_)
          refine call0 (k65) (by first | rfl | (simp only [zoneA, bookA, lst_nt hnt]; rfl)) fun r h₂ hp => ?_
          (try simp only [zoneA, bookA, lst_nt hnt] at hp)
          obtain ⟨rfl, rfl⟩ := hp
          (cbv; try simp only [nc] at *)
          (try simp only [hq, hM, hA, bne_self_eq_false, cond_false, cond_true, decide_true, Bool.not_false, Bool.not_true, Bool.and_self, Bool.true_and, beq_self_eq_true])
          (try refine Chk.mk (okc) ?_)
          refine Br.isT rfl ?_
          (cbv; try simp only [nc] at *)
          (try simp only [hq, hM, hA, bne_self_eq_false, cond_false, cond_true, decide_true, Bool.not_false, Bool.not_true, Bool.and_self, Bool.true_and, beq_self_eq_true])
          (try refine Chk.mk (okc) ?_)
          refine call0 (k39) (by first | rfl | (simp only [zoneA, bookA, lst_nt hnt]; rfl)) fun r h₂ hp => ?_
          (try simp only [zoneA, bookA, lst_nt hnt] at hp)
          obtain ⟨rfl, rfl⟩ := hp
          (cbv; try simp only [nc] at *)
          (try simp only [hq, hM, hA, bne_self_eq_false, cond_false, cond_true, decide_true, Bool.not_false, Bool.not_true, Bool.and_self, Bool.true_and, beq_self_eq_true])
          (try refine Chk.mk (okc) ?_)
          refine Br.isT rfl ?_
          (cbv; try simp only [nc] at *)
          (try simp only [hq, hM, hA, bne_self_eq_false, cond_false, cond_true, decide_true, Bool.not_false, Bool.not_true, Bool.and_self, Bool.true_and, beq_self_eq_true])
          (try refine Chk.mk (okc) ?_)
          refine call0 (k206) (by first | rfl | (simp only [zoneA, bookA, lst_nt hnt]; rfl)) fun r h₂ hp => ?_
          (try simp only [zoneA, bookA, lst_nt hnt] at hp)
          obtain ⟨rfl, rfl⟩ := hp
          (cbv; try simp only [nc] at *)
          (try simp only [hq, hM, hA, bne_self_eq_false, cond_false, cond_true, decide_true, Bool.not_false, Bool.not_true, Bool.and_self, Bool.true_and, beq_self_eq_true])
          (try refine Chk.mk (okc) ?_)
          refine Br.isT rfl ?_
          (cbv; try simp only [nc] at *)
          (try simp only [hq, hM, hA, bne_self_eq_false, cond_false, cond_true, decide_true, Bool.not_false, Bool.not_true, Bool.and_self, Bool.true_and, beq_self_eq_true])
          (try refine Chk.mk (okc) ?_)
          refine call0T k210 (by (refine To.of [] ?_; cbv; (try simp only [nc]); (repeat' (first | exact trivial | exact WkN.refl _ | exact WkB.refl _ | refine ⟨?_, ?_⟩ | refine WkB.cells ?_ | refine WkN.agg ?_ | refine WkN.tup ?_)); (all_goals (first | exact okt | skip))); exact .nilApp (by simp) (by simp)) rfl fun r h₂ hp => ?_
          obtain ⟨rfl, rfl⟩ := hp
          (cbv; try simp only [nc] at *)
          (try simp only [hq, hM, hA, bne_self_eq_false, cond_false, cond_true, decide_true, Bool.not_false, Bool.not_true, Bool.and_self, Bool.true_and, beq_self_eq_true])
          (try refine Chk.mk (okc) ?_)
          refine Br.isF rfl ?_
          (cbv; (try simp only [nc] at *); (try refine Chk.mk (okc) ?_))
          refine ⟨i + 1, by omega, by omega, ?_⟩
          (refine To.of [] ?_; cbv; (try simp only [nc]); (repeat' (first | exact trivial | exact WkN.refl _ | exact WkB.refl _ | refine ⟨?_, ?_⟩ | refine WkB.cells ?_ | refine WkN.agg ?_ | refine WkN.tup ?_)); (all_goals (first | exact okt | skip)))
    · skip
      (cbv; try simp only [nc] at *)
      (try simp only [hq, hM, hA, bne_self_eq_false, cond_false, cond_true, decide_true, Bool.not_false, Bool.not_true, Bool.and_self, Bool.true_and, beq_self_eq_true])
      (try refine Chk.mk (okc) ?_)
      refine call0 (k23) (by first | rfl | (simp only [zoneA, bookA, lst_nt hnt]; rfl)) fun r h₂ hp => ?_
      (try simp only [zoneA, bookA, lst_nt hnt] at hp)
      obtain ⟨rfl, rfl⟩ := hp
      (cbv; try simp only [nc] at *)
      (try simp only [hq, hM, hA, bne_self_eq_false, cond_false, cond_true, decide_true, Bool.not_false, Bool.not_true, Bool.and_self, Bool.true_and, beq_self_eq_true])
      (try refine Chk.mk (okc) ?_)
      refine call0T k19 (by (refine To.of [] ?_; cbv; (try simp only [nc]); (repeat' (first | exact trivial | exact WkN.refl _ | exact WkB.refl _ | refine ⟨?_, ?_⟩ | refine WkB.cells ?_ | refine WkN.agg ?_ | refine WkN.tup ?_)); (all_goals (first | exact okt | skip))); exact .nilApp (by simp) (by simp)) rfl fun r h₂ hp => ?_
      obtain ⟨rfl, rfl⟩ := hp
      (cbv; try simp only [nc] at *)
      (try simp only [hq, hM, hA, bne_self_eq_false, cond_false, cond_true, decide_true, Bool.not_false, Bool.not_true, Bool.and_self, Bool.true_and, beq_self_eq_true])
      (try refine Chk.mk (okc) ?_)
      refine call0 (k207) (by first | rfl | (simp only [zoneA, bookA, lst_nt hnt]; rfl)) fun r h₂ hp => ?_
      (try simp only [zoneA, bookA, lst_nt hnt] at hp)
      obtain ⟨rfl, rfl⟩ := hp
      (cbv; try simp only [nc] at *)
      (try simp only [hq, hM, hA, bne_self_eq_false, cond_false, cond_true, decide_true, Bool.not_false, Bool.not_true, Bool.and_self, Bool.true_and, beq_self_eq_true])
      (try refine Chk.mk (okc) ?_)
      refine call0T k49 (by (refine To.of [] ?_; cbv; (try simp only [nc]); (repeat' (first | exact trivial | exact WkN.refl _ | exact WkB.refl _ | refine ⟨?_, ?_⟩ | refine WkB.cells ?_ | refine WkN.agg ?_ | refine WkN.tup ?_)); (all_goals (first | exact okt | skip))); exact .nilApp (by simp) (by simp)) rfl fun r h₂ hp => ?_
      obtain ⟨rfl, rfl⟩ := hp
      (cbv; try simp only [nc] at *)
      (try simp only [hq, hM, hA, bne_self_eq_false, cond_false, cond_true, decide_true, Bool.not_false, Bool.not_true, Bool.and_self, Bool.true_and, beq_self_eq_true])
      (try refine Chk.mk (okc) ?_)
      refine call0 (k208) (by first | rfl | (simp only [zoneA, bookA, lst_nt hnt]; rfl)) fun r h₂ hp => ?_
      (try simp only [zoneA, bookA, lst_nt hnt] at hp)
      obtain ⟨rfl, rfl⟩ := hp
      (cbv; try simp only [nc] at *)
      (try simp only [hq, hM, hA, bne_self_eq_false, cond_false, cond_true, decide_true, Bool.not_false, Bool.not_true, Bool.and_self, Bool.true_and, beq_self_eq_true])
      (try refine Chk.mk (okc) ?_)
      refine call0T k50 (by (refine To.of [] ?_; cbv; (try simp only [nc]); (repeat' (first | exact trivial | exact WkN.refl _ | exact WkB.refl _ | refine ⟨?_, ?_⟩ | refine WkB.cells ?_ | refine WkN.agg ?_ | refine WkN.tup ?_)); (all_goals (first | exact okt | skip))); exact .nilApp (by simp) (by simp)) rfl fun r h₂ hp => ?_
      obtain ⟨rfl, rfl⟩ := hp
      (cbv; try simp only [nc] at *)
      (try simp only [hq, hM, hA, bne_self_eq_false, cond_false, cond_true, decide_true, Bool.not_false, Bool.not_true, Bool.and_self, Bool.true_and, beq_self_eq_true])
      (try refine Chk.mk (okc) ?_)
      refine ⟨?_, ?_⟩
      · skip
        refine call0 (k209) (by first | rfl | (simp only [zoneA, bookA, lst_nt hnt]; rfl)) fun r h₂ hp => ?_
        (try simp only [zoneA, bookA, lst_nt hnt] at hp)
        obtain ⟨rfl, rfl⟩ := hp
        (cbv; try simp only [nc] at *)
        (try simp only [hq, hM, hA, bne_self_eq_false, cond_false, cond_true, decide_true, Bool.not_false, Bool.not_true, Bool.and_self, Bool.true_and, beq_self_eq_true])
        (try refine Chk.mk (okc) ?_)
        refine Br.isT rfl ?_
        (cbv; try simp only [nc] at *)
        (try simp only [hq, hM, hA, bne_self_eq_false, cond_false, cond_true, decide_true, Bool.not_false, Bool.not_true, Bool.and_self, Bool.true_and, beq_self_eq_true])
        (try refine Chk.mk (okc) ?_)
        refine call0 (k65) (by first | rfl | (simp only [zoneA, bookA, lst_nt hnt]; rfl)) fun r h₂ hp => ?_
        (try simp only [zoneA, bookA, lst_nt hnt] at hp)
        obtain ⟨rfl, rfl⟩ := hp
        (cbv; try simp only [nc] at *)
        (try simp only [hq, hM, hA, bne_self_eq_false, cond_false, cond_true, decide_true, Bool.not_false, Bool.not_true, Bool.and_self, Bool.true_and, beq_self_eq_true])
        (try refine Chk.mk (okc) ?_)
        refine Br.isT rfl ?_
        (cbv; try simp only [nc] at *)
        (try simp only [hq, hM, hA, bne_self_eq_false, cond_false, cond_true, decide_true, Bool.not_false, Bool.not_true, Bool.and_self, Bool.true_and, beq_self_eq_true])
        (try refine Chk.mk (okc) ?_)
        refine call0 (k39) (by first | rfl | (simp only [zoneA, bookA, lst_nt hnt]; rfl)) fun r h₂ hp => ?_
        (try simp only [zoneA, bookA, lst_nt hnt] at hp)
        obtain ⟨rfl, rfl⟩ := hp
        (cbv; try simp only [nc] at *)
        (try simp only [hq, hM, hA, bne_self_eq_false, cond_false, cond_true, decide_true, Bool.not_false, Bool.not_true, Bool.and_self, Bool.true_and, beq_self_eq_true])
        (try refine Chk.mk (okc) ?_)
        refine Br.isT rfl ?_
        (cbv; try simp only [nc] at *)
        (try simp only [hq, hM, hA, bne_self_eq_false, cond_false, cond_true, decide_true, Bool.not_false, Bool.not_true, Bool.and_self, Bool.true_and, beq_self_eq_true])
        (try refine Chk.mk (okc) ?_)
        refine call0 (k206) (by first | rfl | (simp only [zoneA, bookA, lst_nt hnt]; rfl)) fun r h₂ hp => ?_
        (try simp only [zoneA, bookA, lst_nt hnt] at hp)
        obtain ⟨rfl, rfl⟩ := hp
        (cbv; try simp only [nc] at *)
        (try simp only [hq, hM, hA, bne_self_eq_false, cond_false, cond_true, decide_true, Bool.not_false, Bool.not_true, Bool.and_self, Bool.true_and, beq_self_eq_true])
        (try refine Chk.mk (okc) ?_)
        refine Br.isT rfl ?_
        (cbv; try simp only [nc] at *)
        (try simp only [hq, hM, hA, bne_self_eq_false, cond_false, cond_true, decide_true, Bool.not_false, Bool.not_true, Bool.and_self, Bool.true_and, beq_self_eq_true])
        (try refine Chk.mk (okc) ?_)
        refine call0T k210 (by (refine To.of [] ?_; cbv; (try simp only [nc]); (repeat' (first | exact trivial | exact WkN.refl _ | exact WkB.refl _ | refine ⟨?_, ?_⟩ | refine WkB.cells ?_ | refine WkN.agg ?_ | refine WkN.tup ?_)); (all_goals (first | exact okt | skip))); exact .nilApp (by simp) (by simp)) rfl fun r h₂ hp => ?_
        obtain ⟨rfl, rfl⟩ := hp
        (cbv; try simp only [nc] at *)
        (try simp only [hq, hM, hA, bne_self_eq_false, cond_false, cond_true, decide_true, Bool.not_false, Bool.not_true, Bool.and_self, Bool.true_and, beq_self_eq_true])
        (try refine Chk.mk (okc) ?_)
        refine Br.isF rfl ?_
        (cbv; (try simp only [nc] at *); (try refine Chk.mk (okc) ?_))
        refine ⟨i + 1, by omega, by omega, ?_⟩
        (refine To.of [] ?_; cbv; (try simp only [nc]); (repeat' (first | exact trivial | exact WkN.refl _ | exact WkB.refl _ | refine ⟨?_, ?_⟩ | refine WkB.cells ?_ | refine WkN.agg ?_ | refine WkN.tup ?_)); (all_goals (first | exact okt | skip)))
      · skip
        (cbv; try simp only [nc] at *)
        (try simp only [hq, hM, hA, bne_self_eq_false, cond_false, cond_true, decide_true, Bool.not_false, Bool.not_true, Bool.and_self, Bool.true_and, beq_self_eq_true])
        (try refine Chk.mk (okc) ?_)
        refine call0 (k209) (by first | rfl | (simp only [zoneA, bookA, lst_nt hnt]; rfl)) fun r h₂ hp => ?_
        (try simp only [zoneA, bookA, lst_nt hnt] at hp)
        obtain ⟨rfl, rfl⟩ := hp
        (cbv; try simp only [nc] at *)
        (try simp only [hq, hM, hA, bne_self_eq_false, cond_false, cond_true, decide_true, Bool.not_false, Bool.not_true, Bool.and_self, Bool.true_and, beq_self_eq_true])
        (try refine Chk.mk (okc) ?_)
        refine Br.isT rfl ?_
        (cbv; try simp only [nc] at *)
        (try simp only [hq, hM, hA, bne_self_eq_false, cond_false, cond_true, decide_true, Bool.not_false, Bool.not_true, Bool.and_self, Bool.true_and, beq_self_eq_true])
        (try refine Chk.mk (okc) ?_)
        refine call0 (k65) (by first | rfl | (simp only [zoneA, bookA, lst_nt hnt]; rfl)) fun r h₂ hp => ?_
        (try simp only [zoneA, bookA, lst_nt hnt] at hp)
        obtain ⟨rfl, rfl⟩ := hp
        (cbv; try simp only [nc] at *)
        (try simp only [hq, hM, hA, bne_self_eq_false, cond_false, cond_true, decide_true, Bool.not_false, Bool.not_true, Bool.and_self, Bool.true_and, beq_self_eq_true])
        (try refine Chk.mk (okc) ?_)
        refine Br.isT rfl ?_
        (cbv; try simp only [nc] at *)
        (try simp only [hq, hM, hA, bne_self_eq_false, cond_false, cond_true, decide_true, Bool.not_false, Bool.not_true, Bool.and_self, Bool.true_and, beq_self_eq_true])
        (try refine Chk.mk (okc) ?_)
        refine call0 (k39) (by first | rfl | (simp only [zoneA, bookA, lst_nt hnt]; rfl)) fun r h₂ hp => ?_
        (try simp only [zoneA, bookA, lst_nt hnt] at hp)
        obtain ⟨rfl, rfl⟩ := hp
        (cbv; try simp only [nc] at *)
        (try simp only [hq, hM, hA, bne_self_eq_false, cond_false, cond_true, decide_true, Bool.not_false, Bool.not_true, Bool.and_self, Bool.true_and, beq_self_eq_true])
        (try refine Chk.mk (okc) ?_)
        refine Br.isT rfl ?_
        (cbv; try simp only [nc] at *)
        (try simp only [hq, hM, hA, bne_self_eq_false, cond_false, cond_true, decide_true, Bool.not_false, Bool.not_true, Bool.and_self, Bool.true_and, beq_self_eq_true])
        (try refine Chk.mk (okc) ?_)
        refine call0 (k206) (by first | rfl | (simp only [zoneA, bookA, lst_nt hnt]; rfl)) fun r h₂ hp => ?_
        (try simp only [zoneA, bookA, lst_nt hnt] at hp)
        obtain ⟨rfl, rfl⟩ := hp
        (cbv; try simp only [nc] at *)
        (try simp only [hq, hM, hA, bne_self_eq_false, cond_false, cond_true, decide_true, Bool.not_false, Bool.not_true, Bool.and_self, Bool.true_and, beq_self_eq_true])
        (try refine Chk.mk (okc) ?_)
        refine Br.isT rfl ?_
        (cbv; try simp only [nc] at *)
        (try simp only [hq, hM, hA, bne_self_eq_false, cond_false, cond_true, decide_true, Bool.not_false, Bool.not_true, Bool.and_self, Bool.true_and, beq_self_eq_true])
        (try refine Chk.mk (okc) ?_)
        refine call0T k210 (by (refine To.of [] ?_; cbv; (try simp only [nc]); (repeat' (first | exact trivial | exact WkN.refl _ | exact WkB.refl _ | refine ⟨?_, ?_⟩ | refine WkB.cells ?_ | refine WkN.agg ?_ | refine WkN.tup ?_)); (all_goals (first | exact okt | skip))); exact .nilApp (by simp) (by simp)) rfl fun r h₂ hp => ?_
        obtain ⟨rfl, rfl⟩ := hp
        (cbv; try simp only [nc] at *)
        (try simp only [hq, hM, hA, bne_self_eq_false, cond_false, cond_true, decide_true, Bool.not_false, Bool.not_true, Bool.and_self, Bool.true_and, beq_self_eq_true])
        (try refine Chk.mk (okc) ?_)
        refine Br.isF rfl ?_
        (cbv; (try simp only [nc] at *); (try refine Chk.mk (okc) ?_))
        refine ⟨i + 1, by omega, by omega, ?_⟩
        (refine To.of [] ?_; cbv; (try simp only [nc]); (repeat' (first | exact trivial | exact WkN.refl _ | exact WkB.refl _ | refine ⟨?_, ?_⟩ | refine WkB.cells ?_ | refine WkN.agg ?_ | refine WkN.tup ?_)); (all_goals (first | exact okt | skip)))
  · (cbv; (try simp only [nc] at *); (try refine Chk.mk (okc) ?_))
    refine call0 (c18) (by first | rfl | (simp only [zoneA, bookA, lst_nt hnt]; rfl)) fun r h₂ hp => ?_
    (try simp only [zoneA, bookA, lst_nt hnt] at hp)
    obtain ⟨rfl, rfl⟩ := hp
    (cbv; (try simp only [nc] at *); (try refine Chk.mk (okc) ?_))
end Go.Proofs.YtlcgliadpalgfaaGreat.Vm

/- The contract of the statement on trips, as the law asks for it. -/
namespace Go.Proofs.YtlcgliadpalgfaaGreat.Vm
open Go Go.Proofs Sp

theorem BookJ.i {b : Book} (h : BookJ b) : BookI b := ⟨h.zs.2, h.os.2, h.ns.2, fun z hz => (h.zs.1 z hz).2.2, fun t ht => by
  rcases List.mem_append.1 ht with ht | ht
  · exact (h.os.1 t ht).2.2.2
  · exact (h.ns.1 t ht).2.2.2⟩
theorem c201L (b : Book) (g : List Sp.Leg) (x : Sp.Leg) (t a : Int) (l : List Int) (kb : BookJ b) (kg : (∀ x ∈ g, LegI x) ∧ (g.length : Int) ≤ 9223372036854775807) (_ : LegI x) (_ : I64 t) (_ : I64 a) (kl : (l.length : Int) ≤ 9223372036854775807) : SC (fun _ => Tryz.prog) 4 [bookA b, lst 3 encLegO default g, legA x, .int .i64 fun _ => t, .int .i64 fun _ => a, lst 1 encI 0 l] [] fun r h => r = .bool (fun _ => true) :=
  c201 b g x t a l kb.i kg.2 kl
end Go.Proofs.YtlcgliadpalgfaaGreat.Vm
