/- Contracts: when a train goes next. -/
import Derived.Calls
import Derived.Laws.Entries
import Derived.Laws.Cells
import Derived.Laws.BitsLemmas
import Derived.Laws.Slices
import Derived.Laws.StructEq
import Derived.ChangeKeysEq
import Derived.Laws.CopyRow
import Derived.Laws.AppendOwn
import Derived.Orders
import Derived.Test.YtlcgliadpalgfaaGreatRows
import Derived.RangeFuncIn
import Derived.RangeFuncRecord
import Derived.WalkKit
import Derived.ProofKit
import Derived.OpenShut
import Derived.ShutString
import Derived.ChangeOld
import Derived.Below
import Derived.Deep.Slices
import Derived.KernelRfl
import Derived.Test.YtlcgliadpalgfaaGreatB0
import Derived.Test.YtlcgliadpalgfaaGreatB1
import Derived.Test.YtlcgliadpalgfaaGreatB2
import Derived.Test.YtlcgliadpalgfaaGreatB3
import Derived.Test.YtlcgliadpalgfaaGreatB4
import Derived.Test.YtlcgliadpalgfaaGreatB5
import Derived.Test.YtlcgliadpalgfaaGreatB6
import Derived.Test.YtlcgliadpalgfaaGreatB7
import Derived.Test.YtlcgliadpalgfaaGreatB8
import Derived.Test.YtlcgliadpalgfaaGreatB9
import Derived.Test.YtlcgliadpalgfaaGreatB10
set_option linter.unusedSimpArgs false
set_option linter.unusedVariables false
namespace Go.Proofs.YtlcgliadpalgfaaGreat.Vm
open Go Go.Proofs Sp
set_option maxRecDepth 100000
set_option maxHeartbeats 1600000

theorem c224 (x : Sp.Ride) : SC (fun _ => Tryz.prog) 80 [.agg (encRide x)] [] fun v h => v = .int .i64 (fun _ => x.depart) ∧ h = [] := by
  refine con Tryz.func80 (body := bodyOf Tryz.f80) rfl (by decide +kernel) ?_
  (cbv; (try simp only [nc] at *); (try refine Chk.mk (okc) ?_))
  (try first | exact ⟨rfl, trivial⟩ | exact ⟨trivial, trivial⟩)
theorem c108n (l : List Sp.Ride) (hl : l.length ≤ 1000) : SC (fun _ => Tryz.prog) 79 [lst 3 encRide default l, .fn 80 [] []] [] fun v h => v = .tup [.agg (encRide (least l)), .bool fun _ => decide (0 < l.length)] ∧ h = [] := c108g _ c224 l hl

/-- When a run of a train goes from a station, if not too early. -/
def nextC (n st a : Int) (t : Train) (d : Int) (C : List Sp.Call) : Option Sp.Ride :=
  if t.number = n then (if 0 ≤ callAt C st 0 then (if callAt C st 0 < C.length - 1 then (if a ≤ (C.getD (callAt C st 0).toNat default).depart then some ⟨d, (C.getD (callAt C st 0).toNat default).depart, 0⟩ else none) else none) else none) else none
def nextOf (b : Book) (n st a : Int) (x : Train × Int) : Option Sp.Ride := nextC n st a x.1 x.2 (calls b.zones x.1 x.2)
def nextL (b : Book) (n st a : Int) (l : List (Train × Int)) : List Sp.Ride := l.filterMap (nextOf b n st a)
theorem nextL_snoc (b : Book) (n st a : Int) (l : List (Train × Int)) (x : Train × Int) : nextL b n st a (l ++ [x]) = nextL b n st a l ++ (match nextOf b n st a x with | some r => [r] | none => []) := by
  unfold nextL
  rw [List.filterMap_append]
  congr 1
  cases h : nextOf b n st a x <;> simp [h]
def Next (b : Book) (n st a : Int) : Int × Int × Int :=
  if checkNumber b n ≠ 0 then (0, 0, checkNumber b n) else if !inB st 0 9 || !inB a 0 43200 then (0, 0, 1)
  else if (nextL b n st a (runsTo b (b.last + 1).toNat)).length = 0 then (0, 0, 11)
  else ((least (nextL b n st a (runsTo b (b.last + 1).toNat))).day, (least (nextL b n st a (runsTo b (b.last + 1).toNat))).depart, 0)

theorem c212 (b : Book) (n st a : Int) (hb : BookFit b) : SC (fun _ => Tryz.prog) 34 [bookA b, .int .i64 fun _ => n, .int .i64 fun _ => st, .int .i64 fun _ => a] [] fun v h => v = .tup [.int .i64 fun _ => (Next b n st a).1, .int .i64 fun _ => (Next b n st a).2.1, .int .i64 fun _ => (Next b n st a).2.2] ∧ h = [] := by
  obtain ⟨nt, hnt⟩ := nth_ex
  have k88 := c88 b n hb
  have k86 := c86 b
  have hok0 : checkNumber b n = 0 → BookOk b := fun h => by
    unfold checkNumber at h
    split at h
    · rename_i hne; exact absurd h hne
    · rename_i hne; exact book_ok (Decidable.of_not_not hne)
  unfold Next
  generalize checkNumber b n = C at *
  refine SC.less (conX false false [] Tryz.func34 (body := bodyOf Tryz.f34) rfl (by decide +kernel) ?_)
  unfold bookA bookI at *
  (cbv; (try simp only [nc] at *); (try refine Chk.mk (okc) ?_))
  refine call0 (k88) (by first | rfl | (simp only [zoneA, bookA, lst_nt hnt]; rfl)) fun r h₂ hp => ?_
  (try simp only [zoneA, bookA, lst_nt hnt] at hp)
  obtain ⟨rfl, rfl⟩ := hp
  (cbv; (try simp only [nc] at *); (try refine Chk.mk (okc) ?_))
  refine ⟨fun hb => ?_, fun hb => ?_⟩
  · simp only [bne_iff_ne, ne_eq] at hb
    rw [if_pos hb]
    (cbv; (try simp only [nc] at *); (try refine Chk.mk (okc) ?_))
    refine ⟨_, [], ?_, rfl, rfl⟩
    (refine To.of [] ?_; cbv; (try simp only [nc]); (repeat' (first | exact trivial | exact WkN.refl _ | exact WkB.refl _ | refine ⟨?_, ?_⟩ | refine WkB.cells ?_ | refine WkN.agg ?_ | refine WkN.tup ?_)); (all_goals (first | exact okt | skip)))
  have hC : C = 0 := by simpa using hb
  have hok := hok0 hC
  have hlast := hok.last
  rw [if_neg (fun h => h hC)]
  (cbv; (try simp only [nc] at *); (try refine Chk.mk (okc) ?_))
  refine call0 (c67 st 0 9) (by first | rfl | (simp only [zoneA, bookA, lst_nt hnt]; rfl)) fun r h₂ hp => ?_
  (try simp only [zoneA, bookA, lst_nt hnt] at hp)
  obtain ⟨rfl, rfl⟩ := hp
  (cbv; (try simp only [nc] at *); (try refine Chk.mk (okc) ?_))
  refine ⟨fun h1 => ?_, fun h1 => ?_⟩
  rotate_left
  · have h1 : inB st 0 9 = false := by simpa using h1
    rw [h1]
    simp only [Bool.not_false, Bool.true_or, if_true]
    (cbv; (try simp only [nc] at *); (try refine Chk.mk (okc) ?_))
    refine Br.isT (by rfl) ?_
    (cbv; (try simp only [nc] at *); (try refine Chk.mk (okc) ?_))
    refine ⟨_, [], ?_, rfl, rfl⟩
    (refine To.of [] ?_; cbv; (try simp only [nc]); (repeat' (first | exact trivial | exact WkN.refl _ | exact WkB.refl _ | refine ⟨?_, ?_⟩ | refine WkB.cells ?_ | refine WkN.agg ?_ | refine WkN.tup ?_)); (all_goals (first | exact okt | skip)))
  have h1 : inB st 0 9 = true := by simpa using h1
  rw [h1]
  simp only [Bool.not_true, Bool.false_or]
  (cbv; (try simp only [nc] at *); (try refine Chk.mk (okc) ?_))
  refine call0 (c67 a 0 43200) (by first | rfl | (simp only [zoneA, bookA, lst_nt hnt]; rfl)) fun r h₂ hp => ?_
  (try simp only [zoneA, bookA, lst_nt hnt] at hp)
  obtain ⟨rfl, rfl⟩ := hp
  (cbv; (try simp only [nc] at *); (try refine Chk.mk (okc) ?_))
  refine ⟨fun h2 => ?_, fun h2 => ?_⟩
  · have h2 : inB a 0 43200 = false := by simpa [h1] using h2
    rw [h2]
    simp only [Bool.not_false, if_true]
    (cbv; (try simp only [nc] at *); (try refine Chk.mk (okc) ?_))
    refine ⟨_, [], ?_, rfl, rfl⟩
    (refine To.of [] ?_; cbv; (try simp only [nc]); (repeat' (first | exact trivial | exact WkN.refl _ | exact WkB.refl _ | refine ⟨?_, ?_⟩ | refine WkB.cells ?_ | refine WkN.agg ?_ | refine WkN.tup ?_)); (all_goals (first | exact okt | skip)))
  have h2 : inB a 0 43200 = true := by simpa [h1] using h2
  rw [h2]
  simp only [Bool.not_true, Bool.false_eq_true, if_false]
  (cbv; (try simp only [nc] at *); (try refine Chk.mk (okc) ?_))
  refine call0 (k86) (by first | rfl | (simp only [zoneA, bookA, lst_nt hnt]; rfl)) fun r h₂ hp => ?_
  (try simp only [zoneA, bookA, lst_nt hnt] at hp)
  obtain ⟨rfl, rfl⟩ := hp
  (cbv; (try simp only [nc] at *); (try refine Chk.mk (okc) ?_))
  refine rangeT [4, 5, 6, 7, 12, 32] [.tok 3 fun _ => 0] [(4, .cells [.isl 3 (fun _ => 0) (fun e => encRide (nt Sp.Ride default [] (e ()))) (.own 5)])] (fid := 91) (first := []) ?_ rfl ?_ ?_
  · (refine To.of [(3,false)] ?_; cbv; (try simp only [nc]); (repeat' (first | exact trivial | exact WkN.refl _ | exact WkB.refl _ | refine ⟨?_, ?_⟩ | refine WkB.cells ?_ | refine WkN.agg ?_ | refine WkN.tup ?_)); (all_goals (first | exact okt | skip)))
  · exact allc_nil
  have k117 := fun s ps aa x => c117_6 b (by have := hok.last; omega) hok s ps aa x (fun _ => .cells (bookC b)) (fun _ => .cells [.int .i64 fun _ => n]) (fun _ => .cells [.int .i64 fun _ => st]) (fun _ => .cells [.int .i64 fun _ => a]) (fun acc => .cells [.isl 3 (fun _ => ((nextL b n st a acc).length : Int)) (fun e => encRide (nt Sp.Ride default (nextL b n st a acc) (e ()))) (.own 5)]) (fun acc => .tok 3 fun _ => ((nextL b n st a acc).length : Int))
  unfold bookI bookC at k117
  simp only [lst_nt hnt] at k117
  simp only [lstR_nt hnt]
  refine SC.mono (k117 _ _ _ _ ?_ ?_ ?_) ?_
  · intro acc; cbv
  · intro acc t; cbv
  · intro acc t day ha hm hs hd
    have hlen : 2 ≤ (calls b.zones t day).length := by rw [calls_len]; exact (tabOk hok hm).len.1
    have hlen4 : (calls b.zones t day).length ≤ 4 := by rw [calls_len]; exact (tabOk hok hm).len.2
    simp only [nextL_snoc]
    have hnx : nextOf b n st a (t, day) = nextC n st a t day (calls b.zones t day) := rfl
    generalize nextOf b n st a (t, day) = rd at *
    have hO : (nextL b n st a acc).length ≤ 1000 := Nat.le_trans (List.length_filterMap_le _ _) ha
    generalize nextL b n st a acc = O at *
    generalize calls b.zones t day = C at *
    have k0 := c119 t day C st 0 (by omega) (by omega)
    have b0 := callAt_lt (C := C) (st := st) (k := 0) (by omega)
    unfold runV encTrain at *
    simp only [lst_nt hnt] at *
    unfold nextC at hnx
    refine YC.less (yieldR false false [] rfl rfl ?_)
    (cbv; (try simp only [nc] at *); (try refine Chk.mk (okc) ?_))
    refine call0 (k0) (by first | rfl | (simp only [zoneA, bookA, lst_nt hnt]; rfl)) fun r h₂ hp => ?_
    (try simp only [zoneA, bookA, lst_nt hnt] at hp)
    obtain ⟨rfl, rfl⟩ := hp
    generalize hf : callAt C st 0 = f at *
    have hG : (bif bif t.number == n then decide (0 ≤ f) else false then decide (f < (C.length : Int) - 1) else false) = true → t.number = n ∧ 0 ≤ f ∧ f < (C.length : Int) - 1 := fun h => by
      by_cases g1 : t.number = n <;> by_cases g2 : 0 ≤ f <;> by_cases g3 : f < (C.length : Int) - 1 <;> simp [g1, g2, g3] at h ⊢
    (cbv; try simp only [nc] at *)
    refine Chk.mk (by (try simp only [nc, allc0, allc1, allcE, allcI, Cn.p, and_true, true_and, decide_eq_true_eq, imp_self, List.length_cons, List.length_nil]); (repeat' (first | apply And.intro | intro _)) <;> first | omega | rfl | assumption | (have := hG (by assumption); omega) | decide +kernel) ?_
    have e1 : C.getD f.toNat default = nt Sp.Call default C f := by rw [hnt]
    rw [e1] at hnx
    refine ⟨fun h3 => ?_, fun h3 => ?_⟩
    · have hc : t.number = n ∧ 0 ≤ f ∧ f < (C.length : Int) - 1 ∧ a ≤ (nt Sp.Call default C f).depart := by
        by_cases g1 : t.number = n <;> by_cases g2 : 0 ≤ f <;> by_cases g3 : f < (C.length : Int) - 1 <;> by_cases g4 : a ≤ (nt Sp.Call default C f).depart <;> simp [g1, g2, g3, g4] at h3 ⊢
      have g1 := hc.1
      have g2 := hc.2.1
      have g3 := hc.2.2.1
      have g4 := hc.2.2.2
      rw [if_pos g1, if_pos g2, if_pos g3, if_pos g4] at hnx
      rw [hnx]
      clear hnx e1
      (cbv; (try simp only [nc] at *); (try refine Chk.mk (okc) ?_))
      refine ⟨_, _, ?_, rfl, rfl⟩
      (refine To.of [] ?_; cbv; (try simp only [nc]); (repeat' (first | exact trivial | exact WkN.refl _ | exact WkB.refl _ | refine ⟨?_, ?_⟩ | refine WkB.cells ?_ | refine WkN.agg ?_ | refine WkN.tup ?_)); (all_goals (first | exact okt | skip)))
    · have hr : rd = none := by
        rw [hnx]
        by_cases g1 : t.number = n <;> by_cases g2 : 0 ≤ f <;> by_cases g3 : f < (C.length : Int) - 1 <;> by_cases g4 : a ≤ (nt Sp.Call default C f).depart <;> simp [g1, g2, g3, g4] at h3 ⊢
      rw [hr]
      (cbv; (try simp only [nc] at *); (try refine Chk.mk (okc) ?_))
      refine ⟨_, _, ?_, rfl, rfl⟩
      simp only [List.append_nil]
      (refine To.of [] ?_; cbv; (try simp only [nc]); (repeat' (first | exact trivial | exact WkN.refl _ | exact WkB.refl _ | refine ⟨?_, ?_⟩ | refine WkB.cells ?_ | refine WkN.agg ?_ | refine WkN.tup ?_)); (all_goals (first | exact okt | skip)))
  · intro r h hh
    subst hh
    have hRl : (nextL b n st a (runsTo b (b.last + 1).toNat)).length ≤ 1000 := Nat.le_trans (List.length_filterMap_le _ _) (by have := runsTo_len hok (b.last + 1).toNat; omega)
    generalize nextL b n st a (runsTo b (b.last + 1).toNat) = R at *
    (cbv; (try simp only [nc] at *); (try refine Chk.mk (okc) ?_))
    refine call0 (c108n R (by omega)) (by first | rfl | (simp only [zoneA, bookA, lst_nt hnt]; rfl)) fun r h₂ hp => ?_
    (try simp only [zoneA, bookA, lst_nt hnt] at hp)
    obtain ⟨rfl, rfl⟩ := hp
    generalize least R = X at *
    (cbv; (try simp only [nc] at *); (try refine Chk.mk (okc) ?_))
    refine ⟨fun h3 => ?_, fun h3 => ?_⟩
    · have h3 : R.length = 0 := by simpa using h3
      rw [if_pos h3]
      (cbv; (try simp only [nc] at *); (try refine Chk.mk (okc) ?_))
      refine ⟨_, [], ?_, rfl, rfl⟩
      (refine To.of [] ?_; cbv; (try simp only [nc]); (repeat' (first | exact trivial | exact WkN.refl _ | exact WkB.refl _ | refine ⟨?_, ?_⟩ | refine WkB.cells ?_ | refine WkN.agg ?_ | refine WkN.tup ?_)); (all_goals (first | exact okt | skip)))
    · have h3 : ¬ R.length = 0 := by have h4 : decide (0 < R.length) = true := by simpa using h3
                                     have := of_decide_eq_true h4; omega
      rw [if_neg h3]
      (cbv; (try simp only [nc] at *); (try refine Chk.mk (okc) ?_))
      refine ⟨_, [], ?_, rfl, rfl⟩
      (refine To.of [] ?_; cbv; (try simp only [nc]); (repeat' (first | exact trivial | exact WkN.refl _ | exact WkB.refl _ | refine ⟨?_, ?_⟩ | refine WkB.cells ?_ | refine WkN.agg ?_ | refine WkN.tup ?_)); (all_goals (first | exact okt | skip)))
end Go.Proofs.YtlcgliadpalgfaaGreat.Vm

/- Plain: the reference's rides. -/
namespace Go.Proofs.YtlcgliadpalgfaaGreat.Vm
open Sp

/-- The rides from a call on to the calls of a station. -/
def goM (g : Sp.Leg) (d dep : Int) : List Sp.Call → List Sp.Ride
  | [] => []
  | c :: r => (if c.station = g.to_ then [⟨d, dep, c.arrive⟩] else []) ++ goM g d dep r
def rowK (C : List Sp.Call) (g : Sp.Leg) (d : Int) (k : Nat) : List Sp.Ride :=
  if (C.getD k default).station ≠ g.from_ then [] else (if g.to_ < 0 then [⟨d, (C.getD k default).depart, 0⟩] else []) ++ goM g d (C.getD k default).depart (C.drop (k + 1))
def goK (C : List Sp.Call) (g : Sp.Leg) (d : Int) : Nat → Nat → List Sp.Ride
  | 0, _ => []
  | n + 1, k => rowK C g d k ++ goK C g d n (k + 1)

/-- The rides that calls are. -/
def rideN (C : List Sp.Call) (g : Sp.Leg) (d : Int) : List Sp.Ride :=
  if g.to_ < 0 then (if 0 ≤ callAt C g.from_ 0 ∧ callAt C g.from_ 0 < C.length - 1 then [⟨d, (C.getD (callAt C g.from_ 0).toNat default).depart, 0⟩] else []) else rideC C g d

theorem goM_none {g : Sp.Leg} {d dep : Int} : ∀ {L : List Sp.Call}, (∀ c ∈ L, c.station ≠ g.to_) → goM g d dep L = []
  | [], _ => rfl
  | c :: r, h => by
    unfold goM
    rw [if_neg (h c (List.mem_cons_self ..)), goM_none fun x hx => h x (List.mem_cons_of_mem _ hx)]
    rfl
theorem goM_eq {g : Sp.Leg} {d dep : Int} : ∀ {L : List Sp.Call} {k : Int}, 0 ≤ k → L.Pairwise (fun a c => a.station ≠ c.station) →
    goM g d dep L = if indexFrom (fun c => decide (c.station = g.to_)) k L < 0 then [] else [⟨d, dep, (L.getD (indexFrom (fun c => decide (c.station = g.to_)) k L - k).toNat default).arrive⟩]
  | [], k, _, _ => by simp [goM, indexFrom]
  | c :: r, k, hk, hp => by
    have hp' := List.pairwise_cons.1 hp
    by_cases hc : c.station = g.to_
    · have e1 : indexFrom (fun c : Sp.Call => decide (c.station = g.to_)) k (c :: r) = k := by unfold indexFrom; rw [if_pos (by simpa using hc)]
      rw [e1, if_neg (by omega)]
      unfold goM
      rw [if_pos hc, goM_none fun x hx => by have := hp'.1 x hx; rw [hc] at this; exact Ne.symm this]
      simp
    · have e1 : indexFrom (fun c : Sp.Call => decide (c.station = g.to_)) k (c :: r) = indexFrom (fun c : Sp.Call => decide (c.station = g.to_)) (k + 1) r := by rw [indexFrom.eq_def]; dsimp only; rw [if_neg (by simpa using hc)]
      rw [e1]
      unfold goM
      rw [if_neg hc, List.nil_append, goM_eq (k := k + 1) (by omega) hp'.2]
      by_cases hI : indexFrom (fun c : Sp.Call => decide (c.station = g.to_)) (k + 1) r < 0
      · rw [if_pos hI, if_pos hI]
      · rw [if_neg hI, if_neg hI]
        have := indexFrom_lt (q := fun c : Sp.Call => decide (c.station = g.to_)) (l := r) (i := k + 1) (by omega)
        have e : (indexFrom (fun c : Sp.Call => decide (c.station = g.to_)) (k + 1) r - k).toNat = (indexFrom (fun c : Sp.Call => decide (c.station = g.to_)) (k + 1) r - (k + 1)).toNat + 1 := by omega
        rw [e, List.getD_cons_succ]

theorem dist_of {C : List Sp.Call} (h : C.Pairwise (fun a c => a.station ≠ c.station)) : Dist C := fun i j hi hj e => by
  have hp := List.pairwise_iff_getElem.1 h
  simp only [List.getD_eq_getElem?_getD, List.getElem?_eq_getElem hi, List.getElem?_eq_getElem hj, Option.getD_some] at e
  rcases Nat.lt_trichotomy i j with h1 | h1 | h1
  · exact absurd e (hp i j hi hj h1)
  · exact h1
  · exact absurd e.symm (hp j i hj hi h1)

theorem goK_at {C : List Sp.Call} {g : Sp.Leg} {d : Int} (hd : Dist C) : ∀ (n k : Nat), k + n ≤ C.length → goK C g d n k = if (k : Int) ≤ callAt C g.from_ 0 ∧ callAt C g.from_ 0 < k + n then rowK C g d (callAt C g.from_ 0).toNat else []
  | 0, k, _ => by rw [if_neg (by omega)]; rfl
  | n + 1, k, h => by
    unfold goK
    rw [goK_at hd n (k + 1) (by omega)]
    by_cases hs : (C.getD k default).station = g.from_
    · have hi := (callAt_iff hd (k := 0) (Nat.zero_le _) (show k < C.length by omega)).1 hs
      rw [if_neg (by omega), if_pos (by omega), List.append_nil, hi]
      simp
    · have hi : callAt C g.from_ 0 ≠ k := fun e => hs ((callAt_iff hd (k := 0) (Nat.zero_le _) (show k < C.length by omega)).2 e)
      have e : rowK C g d k = [] := by unfold rowK; rw [if_pos hs]
      rw [e, List.nil_append]
      by_cases hc : ((k + 1 : Nat) : Int) ≤ callAt C g.from_ 0 ∧ callAt C g.from_ 0 < ((k + 1 : Nat) : Int) + n
      · rw [if_pos hc, if_pos (by omega)]
      · rw [if_neg hc, if_neg (by omega)]

theorem callAt_rng (C : List Sp.Call) (st : Int) (k : Nat) : callAt C st k = -1 ∨ (k : Int) ≤ callAt C st k ∧ callAt C st k < C.length := by
  unfold callAt
  have := indexFrom_lt (q := fun c : Sp.Call => decide (c.station = st)) (l := C.drop k) (i := (k : Int)) (by omega)
  rcases Nat.lt_or_ge k C.length with h | h
  · rw [List.length_drop] at this
    omega
  · rw [List.drop_eq_nil_of_le h]; exact .inl rfl

theorem goK_eq {C : List Sp.Call} {g : Sp.Leg} {d : Int} (hp : C.Pairwise (fun a c => a.station ≠ c.station)) (h0 : ∀ c ∈ C, 0 ≤ c.station) : goK C g d (C.length - 1) 0 = rideN C g d := by
  have hd := dist_of hp
  rw [goK_at hd _ _ (by omega)]
  have hr := callAt_rng C g.from_ 0
  unfold rideN
  by_cases hi : 0 ≤ callAt C g.from_ 0 ∧ callAt C g.from_ 0 < C.length - 1
  · rw [if_pos (by omega)]
    have hst : (C.getD (callAt C g.from_ 0).toNat default).station = g.from_ := (callAt_iff hd (k := 0) (Nat.zero_le _) (by omega)).2 (by omega)
    unfold rowK
    rw [if_neg (fun h => h hst)]
    by_cases ht : g.to_ < 0
    · rw [if_pos ht, if_pos ht, if_pos hi, goM_none fun c hc => by have := h0 c (List.mem_of_mem_drop hc); omega]
      rfl
    · rw [if_neg ht, if_neg ht, List.nil_append, goM_eq (k := ((callAt C g.from_ 0).toNat + 1 : Nat)) (by omega) (hp.drop)]
      change (if callAt C g.to_ ((callAt C g.from_ 0).toNat + 1) < 0 then _ else _) = _
      have hr2 := callAt_rng C g.to_ ((callAt C g.from_ 0).toNat + 1)
      unfold rideC
      by_cases hm : callAt C g.to_ ((callAt C g.from_ 0).toNat + 1) < 0
      · rw [if_pos hm, if_neg (by omega)]
      · rw [if_neg hm, if_pos (by omega)]
        have e : (C.drop ((callAt C g.from_ 0).toNat + 1)).getD (callAt C g.to_ ((callAt C g.from_ 0).toNat + 1) - (((callAt C g.from_ 0).toNat + 1 : Nat) : Int)).toNat default = C.getD (callAt C g.to_ ((callAt C g.from_ 0).toNat + 1)).toNat default := by
          rw [List.getD_eq_getElem?_getD, List.getD_eq_getElem?_getD, List.getElem?_drop]
          congr 2
          omega
        show [(⟨d, _, ((C.drop ((callAt C g.from_ 0).toNat + 1)).getD (callAt C g.to_ ((callAt C g.from_ 0).toNat + 1) - (((callAt C g.from_ 0).toNat + 1 : Nat) : Int)).toNat default).arrive⟩ : Sp.Ride)] = _
        rw [e]
  · rw [if_neg (by omega)]
    by_cases ht : g.to_ < 0
    · rw [if_pos ht, if_neg hi]
    · rw [if_neg ht]
      unfold rideC
      rw [if_neg]
      intro h
      have hr2 := callAt_rng C g.to_ ((callAt C g.from_ 0).toNat + 1)
      omega

theorem callsGo_map {zs : List Zone} {day : Int} {many : Nat} : ∀ (S : List Stop) (i : Nat) (now : Int), (callsGo zs day many i now S).map (·.station) = S.map (·.station)
  | [], _, _ => rfl
  | s :: r, i, now => by
    unfold callsGo
    split
    · simp [callsGo_map r]
    · simp [callsGo_map r]
theorem calls_pair {zs : List Zone} {t : Train} {d : Int} (h : t.stops.Pairwise (fun a c => a.station ≠ c.station)) : (calls zs t d).Pairwise (fun a c => a.station ≠ c.station) := by
  have h1 : (t.stops.map (·.station)).Pairwise (· ≠ ·) := List.pairwise_map.2 h
  rw [← callsGo_map (zs := zs) (day := d) (many := t.stops.length) t.stops 0 0] at h1
  exact List.pairwise_map.1 h1
theorem calls_nn {zs : List Zone} {t : Train} {d : Int} (h : ∀ s ∈ t.stops, 0 ≤ s.station) : ∀ c ∈ calls zs t d, 0 ≤ c.station := fun c hc => by
  have h1 : c.station ∈ (calls zs t d).map (·.station) := List.mem_map.2 ⟨c, hc, rfl⟩
  unfold calls at h1
  rw [callsGo_map] at h1
  obtain ⟨s, hs, e⟩ := List.mem_map.1 h1
  rw [← e]
  exact h s hs

/-- The ride of the reference that a run is. -/
def rideRO (b : Book) (g : Sp.Leg) (x : Train × Int) : Option Sp.Ride := if x.1.number = g.number then (rideN (calls b.zones x.1 x.2) g x.2).head? else none
theorem rideN_list (C : List Sp.Call) (g : Sp.Leg) (d : Int) : (rideN C g d).head?.toList = rideN C g d := by
  unfold rideN rideC
  split
  · split <;> rfl
  · split <;> rfl
def refRides (b : Book) (g : Sp.Leg) : List Sp.Ride := (runsTo b (b.last + 1).toNat).filterMap (rideRO b g)
theorem rideRO_rideOf {b : Book} {g : Sp.Leg} (h : 0 ≤ g.to_) (x : Train × Int) : rideRO b g x = rideOf b g x := by
  unfold rideRO
  by_cases hn : x.1.number = g.number
  · rw [if_pos hn]
    unfold rideN
    rw [if_neg (by omega), ← rideOf_C hn]
    cases rideOf b g (x.1, x.2) <;> rfl
  · rw [if_neg hn]
    exact (rideOf_none (d := x.2) hn).symm
theorem refRides_rides {b : Book} {g : Sp.Leg} (h : 0 ≤ g.to_) : refRides b g = rides b g := by
  unfold refRides rides ridesL
  congr 1
  funext x
  exact rideRO_rideOf h x
theorem since_filterMap {α : Type} {a : Int} {f : α → Option Sp.Ride} {f' : α → Option Sp.Ride} (h : ∀ x, f' x = (f x).filter (fun r => !decide (r.depart < a))) : ∀ l : List α, since a (l.filterMap f) = l.filterMap f'
  | [] => rfl
  | x :: l => by
    have ih := since_filterMap h l
    rw [List.filterMap_cons, List.filterMap_cons, h x]
    unfold since at *
    cases hf : f x with
    | none => simpa using ih
    | some r =>
      simp only [List.filter_cons, Option.filter]
      split
      · rename_i hc; simp [ih]
      · rename_i hc; simp [ih]
theorem next_ref (b : Book) (n st a : Int) : nextL b n st a (runsTo b (b.last + 1).toNat) = since a (refRides b ⟨n, st, -1⟩) := by
  unfold nextL refRides
  rw [since_filterMap (f' := nextOf b n st a)]
  intro x
  unfold nextOf nextC rideRO rideN
  simp only
  by_cases h1 : x.1.number = n
  · rw [if_pos h1, if_pos h1, if_pos (show (-1 : Int) < 0 by decide)]
    by_cases h2 : 0 ≤ callAt (calls b.zones x.1 x.2) st 0
    · rw [if_pos h2]
      by_cases h3 : callAt (calls b.zones x.1 x.2) st 0 < (calls b.zones x.1 x.2).length - 1
      · rw [if_pos h3, if_pos (And.intro h2 h3)]
        by_cases h4 : a ≤ ((calls b.zones x.1 x.2).getD (callAt (calls b.zones x.1 x.2) st 0).toNat default).depart
        · rw [if_pos h4]
          simp only [List.head?_cons, Option.filter]
          rw [if_pos (by simpa using h4)]
        · rw [if_neg h4]
          simp only [List.head?_cons, Option.filter]
          rw [if_neg (by simpa using h4)]
      · rw [if_neg h3, if_neg (fun h => h3 h.2)]; rfl
    · rw [if_neg h2, if_neg (fun h => h2 h.1)]; rfl
  · rw [if_neg h1, if_neg h1]; rfl
end Go.Proofs.YtlcgliadpalgfaaGreat.Vm

/- Contracts: the reference's rides, and the one that goes next. -/
namespace Go.Proofs.YtlcgliadpalgfaaGreat.Vm
open Go Go.Proofs Sp
set_option maxRecDepth 100000
set_option maxHeartbeats 1600000

theorem refRides_len {b : Book} (h : BookOk b) (g : Sp.Leg) (d : Nat) (hd : (d : Int) ≤ b.last + 1) : ((runsTo b d).filterMap (rideRO b g)).length ≤ 100 := by
  have h1 := runsTo_len h d
  have h2 := List.length_filterMap_le (rideRO b g) (runsTo b d)
  have h3 := h.last
  omega

theorem c226 (b : Book) (g : Sp.Leg) (hck : Check b = 0) : SC (fun _ => Tryz.prog) 101 [bookA b, legA g] [] fun v h => v = lst 3 encRide default (refRides b g) ∧ h = [] := by
  obtain ⟨nt, hnt⟩ := nth_ex
  have hok := book_ok hck
  have hlast := hok.last
  refine SC.less (conX false false [15] Tryz.func101 (body := bodyOf Tryz.f101) rfl (by decide +kernel) ?_)
  unfold legA
  rw [bookA_nt hnt] at *
  unfold refRides
  (cbv; (try simp only [nc] at *); (try refine Chk.mk (okc) ?_))
  refine loopS false false [15] [2, 3, 5, 6] [.tok 3 fun _ => 0] (fun (d : Nat) => [(5, .isl 3 (fun _ => (((runsTo b d).filterMap (rideRO b g)).length : Int)) (fun e => encRide (nt Sp.Ride default ((runsTo b d).filterMap (rideRO b g)) (e ()))) (.own 2)), (6, .int .i64 fun _ => (d : Int))])
    (fun d => [(2, .tok 3 fun _ => (((runsTo b d).filterMap (rideRO b g)).length : Int))]) (fun d => (d : Int) ≤ b.last + 1) (fun d => (b.last + 1).toNat - d + 0) 0 (by omega) ?_ ?_
  · (refine To.of [(3,false)] ?_; cbv; (try simp only [nc]); (repeat' (first | exact trivial | exact WkN.refl _ | exact WkB.refl _ | refine ⟨?_, ?_⟩ | refine WkB.cells ?_ | refine WkN.agg ?_ | refine WkN.tup ?_)); (all_goals (first | exact okt | skip)))
  intro d hd
  (cbv; (try simp only [nc] at *); (try refine Chk.mk (okc) ?_))
  refine ⟨fun hb => ?_, fun hb => ?_⟩
  · simp only [decide_eq_true_eq] at hb
    have hgn := day_gen hck (n := g.number) (f := rideRO b g) (fun t d h => if_neg h) d
    have hFl := refRides_len hok g (d + 1) (by omega)
    have htab := table_ok hok (d : Int)
    have hpair := check_new hck (d : Int)
    have hpl := place_rng (table b d) g.number
    generalize hF : (runsTo b (d + 1)).filterMap (rideRO b g) = F at *
    generalize (runsTo b d).filterMap (rideRO b g) = O at *
    have k216 := c216 b d
    have k217 := c217 (table b d) g.number (by omega)
    rw [bookA_nt hnt] at k216
    simp only [lst_nt hnt] at k216 k217
    (cbv; (try simp only [nc] at *); (try refine Chk.mk (okc) ?_))
    refine call0 k216 rfl fun r h₂ hp => ?_
    obtain ⟨rfl, rfl⟩ := hp
    generalize hL : table b d = l at *
    (cbv; (try simp only [nc] at *); (try refine Chk.mk (okc) ?_))
    refine call0 k217 rfl fun r h₂ hp => ?_
    obtain ⟨rfl, rfl⟩ := hp
    generalize hP : place l g.number = p at *
    (cbv; try simp only [nc] at *)
    by_cases h1 : 0 ≤ p
    · have hpl : 0 ≤ p ∧ p < l.length := by omega
      refine Chk.mk (okc) ?_
      refine Br.isT (by simp; omega) ?_
      obtain ⟨k, rfl⟩ : ∃ k : Nat, p = k := ⟨p.toNat, by omega⟩
      have hmem : nt Train default l (k : Int) ∈ l := nt_mem (d := default) hnt (l := l) (i := k) (by omega)
      have hTk := htab.2 _ hmem
      have hdays := hTk.days
      have hnum : (nt Train default l (k : Int)).number = g.number := by
        obtain ⟨g1, g2, g3, g4⟩ := indexFrom_some (i := k) (k := 0) hP
        have := g4 _ (by rw [Nat.sub_zero]; exact List.getElem?_eq_getElem (by omega))
        rw [hnt]
        simp only [Int.toNat_natCast, List.getD_eq_getElem?_getD, List.getElem?_eq_getElem (show k < l.length by omega)]
        simpa using this
      rw [if_neg (by omega)] at hgn
      have hgk : l.getD (k : Int).toNat default = nt Train default l k := by rw [hnt]
      rw [hgk] at hgn
      have hro : (rideRO b g (nt Train default l (k : Int), (d : Int))).toList = goK (calls b.zones (nt Train default l (k : Int)) d) g d ((calls b.zones (nt Train default l (k : Int)) d).length - 1) 0 := by
        unfold rideRO
        rw [if_pos hnum, rideN_list, goK_eq (calls_pair (hpair.2 _ hmem)) (calls_nn fun s hs => (hTk.stops s hs).station.1)]
      rw [hro] at hgn
      have k218 := c218 (nt Train default l k) d (by omega) (by omega)
      have hlen := hTk.len
      have hCl := calls_len (zs := b.zones) (t := nt Train default l (k : Int)) (day := (d : Int))
      have hCl2 : 2 ≤ (calls b.zones (nt Train default l (k : Int)) d).length ∧ (calls b.zones (nt Train default l (k : Int)) d).length ≤ 4 := by rw [hCl]; exact hlen
      have k219 := c219 b (nt Train default l (k : Int)) d hok.zones (fun s hs => by obtain ⟨_, h1, h2, h3⟩ := hTk.stops s hs; omega) (by omega) (by omega)
      rw [bookA_nt hnt] at k219
      simp only [lst_nt hnt] at k219
      generalize starts (nt Train default l k) d = st at *
      clear hro
      (cbv; (try simp only [nc] at *); (try refine Chk.mk (okc) ?_))
      refine call0 k218 rfl fun r h₂ hp => ?_
      obtain ⟨rfl, rfl⟩ := hp
      (cbv; (try simp only [nc] at *); (try refine Chk.mk (okc) ?_))
      refine ⟨fun h2 => ?_, fun h2 => ?_⟩
      · have h2 : ¬ st = true := by simpa [show ¬ ((k : Int) < 0) by omega] using h2
        rw [if_neg h2, List.append_nil] at hgn
        (cbv; (try simp only [nc] at *); (try refine Chk.mk (okc) ?_))
        refine ⟨d + 1, by omega, by omega, ?_⟩
        rw [hF, hgn]
        (refine To.of [] ?_; cbv; (try simp only [nc]); (repeat' (first | exact trivial | exact WkN.refl _ | exact WkB.refl _ | refine ⟨?_, ?_⟩ | refine WkB.cells ?_ | refine WkN.agg ?_ | refine WkN.tup ?_)); (all_goals (first | exact okt | skip)))
      · have h2 : st = true := by simpa [show ¬ ((k : Int) < 0) by omega] using h2
        rw [if_pos h2] at hgn
        generalize calls b.zones (nt Train default l (k : Int)) d = Cs at *
        (cbv; (try simp only [nc] at *); (try refine Chk.mk (okc) ?_))
        refine call0 k219 rfl fun r h₂ hp => ?_
        obtain ⟨rfl, rfl⟩ := hp
        (cbv; (try simp only [nc] at *); (try refine Chk.mk (okc) ?_))
        refine loopQ fun Q hQ => ?_
        refine loopS false false [15] [2, 3, 5, 6, 9, 10] [] (fun (⟨j, out⟩ : Nat × List Sp.Ride) => [(5, .isl 3 (fun _ => (out.length : Int)) (fun e => encRide (nt Sp.Ride default out (e ()))) (.own 2)), (10, .int .i64 fun _ => (j : Int))])
          (fun ⟨j, out⟩ => [(2, .tok 3 fun _ => (out.length : Int))]) (fun ⟨j, out⟩ => j ≤ Cs.length - 1 ∧ out ++ goK Cs g d (Cs.length - 1 - j) j = F) (fun i => Cs.length - 1 - i.1 + 0) (0, O) ⟨Nat.zero_le _, by rw [hgn]; rfl⟩ ?_ ?_
        · (refine To.of [] ?_; cbv; (try simp only [nc]); (repeat' (first | exact trivial | exact WkN.refl _ | exact WkB.refl _ | refine ⟨?_, ?_⟩ | refine WkB.cells ?_ | refine WkN.agg ?_ | refine WkN.tup ?_)); (all_goals (first | exact okt | skip)))
        rintro ⟨j, out⟩ hinv
        have hj : j ≤ Cs.length - 1 := hinv.1
        have hp : out ++ goK Cs g d (Cs.length - 1 - j) j = F := hinv.2
        clear hinv
        have hol : out.length ≤ 100 := by rw [← hp, List.length_append] at hFl; omega
        (cbv; (try simp only [nc] at *); (try refine Chk.mk (okc) ?_))
        refine ⟨fun h3 => ?_, fun h3 => ?_⟩
        · simp only [decide_eq_true_eq] at h3
          obtain ⟨n, hn⟩ : ∃ n, Cs.length - 1 - j = n + 1 := ⟨Cs.length - 1 - j - 1, by omega⟩
          rw [hn, goK] at hp
          have hgj : Cs.getD j default = nt Sp.Call default Cs (j : Int) := by rw [hnt]; rfl
          unfold rowK at hp
          rw [hgj] at hp
          (cbv; (try simp only [nc] at *); (try refine Chk.mk (okc) ?_))
          refine ⟨fun h4 => ?_, fun h4 => ?_⟩
          · have h4 : (nt Sp.Call default Cs (j : Int)).station ≠ g.from_ := by simpa using h4
            rw [if_pos h4, List.nil_append] at hp
            (cbv; (try simp only [nc] at *); (try refine Chk.mk (okc) ?_))
            refine ⟨(j + 1, out), ⟨by show j + 1 ≤ Cs.length - 1; omega, by show out ++ goK Cs g d (Cs.length - 1 - (j + 1)) (j + 1) = F; rw [← hp]; congr 2; omega⟩, by show Cs.length - 1 - (j + 1) + 0 < Cs.length - 1 - j + 0; omega, ?_⟩
            (refine To.of [] ?_; cbv; (try simp only [nc]); (repeat' (first | exact trivial | exact WkN.refl _ | exact WkB.refl _ | refine ⟨?_, ?_⟩ | refine WkB.cells ?_ | refine WkN.agg ?_ | refine WkN.tup ?_)); (all_goals (first | exact okt | skip)))
          have h4 : ¬ (nt Sp.Call default Cs (j : Int)).station ≠ g.from_ := by simpa using h4
          rw [if_neg h4] at hp
          obtain ⟨out2, ho2⟩ : ∃ o, o = out ++ (if g.to_ < 0 then [(⟨d, (nt Sp.Call default Cs (j : Int)).depart, 0⟩ : Sp.Ride)] else []) := ⟨_, rfl⟩
          rw [List.append_assoc, ← List.append_assoc, ← ho2] at hp
          have hol2 : out2.length ≤ 100 := by rw [← hp, List.length_append] at hFl; omega
          (cbv; (try simp only [nc] at *); (try refine Chk.mk (okc) ?_))
          refine cutD false false [] 50 [2, 3, 5, 6, 9, 10] (fun _ : Unit => [(5, .isl 3 (fun _ => (out2.length : Int)) (fun e => encRide (nt Sp.Ride default out2 (e ()))) (.own 2))]) (fun _ => [(2, .tok 3 fun _ => (out2.length : Int))]) (fun _ => True) (fun _ _ h => h) (by decide) ?_ ?_
          · (cbv; (try simp only [nc] at *); (try refine Chk.mk (okc) ?_))
            refine ⟨fun h5 => ?_, fun h5 => ?_⟩
            · have h5 : g.to_ < 0 := by simpa using h5
              rw [if_pos h5] at ho2
              (cbv; (try simp only [nc] at *); (try refine Chk.mk (okc) ?_))
              refine ⟨(), trivial, ?_⟩
              rw [ho2]
              (refine To.of [] ?_; cbv; (try simp only [nc]); (repeat' (first | exact trivial | exact WkN.refl _ | exact WkB.refl _ | refine ⟨?_, ?_⟩ | refine WkB.cells ?_ | refine WkN.agg ?_ | refine WkN.tup ?_)); (all_goals (first | exact okt | skip)))
            · have h5 : ¬ g.to_ < 0 := by simpa using h5
              rw [if_neg h5, List.append_nil] at ho2
              (cbv; (try simp only [nc] at *); (try refine Chk.mk (okc) ?_))
              refine ⟨(), trivial, ?_⟩
              rw [ho2]
              (refine To.of [] ?_; cbv; (try simp only [nc]); (repeat' (first | exact trivial | exact WkN.refl _ | exact WkB.refl _ | refine ⟨?_, ?_⟩ | refine WkB.cells ?_ | refine WkN.agg ?_ | refine WkN.tup ?_)); (all_goals (first | exact okt | skip)))
          intro _ _
          clear ho2 hol
          (cbv; (try simp only [nc] at *); (try refine Chk.mk (okc) ?_))
          refine loopQ fun Q2 hQ2 => ?_
          refine loopS false false [] [2, 3, 5, 6, 9, 10, 11] [] (fun (⟨m, o⟩ : Nat × List Sp.Ride) => [(5, .isl 3 (fun _ => (o.length : Int)) (fun e => encRide (nt Sp.Ride default o (e ()))) (.own 2)), (11, .int .i64 fun _ => (m : Int))])
            (fun ⟨m, o⟩ => [(2, .tok 3 fun _ => (o.length : Int))]) (fun ⟨m, o⟩ => m ≤ Cs.length ∧ o ++ (goM g d (nt Sp.Call default Cs (j : Int)).depart (Cs.drop m) ++ goK Cs g d n (j + 1)) = F) (fun i => Cs.length - i.1 + 0) (j + 1, out2) ⟨by show j + 1 ≤ Cs.length; omega, hp⟩ ?_ ?_
          · (refine To.of [] ?_; cbv; (try simp only [nc]); (repeat' (first | exact trivial | exact WkN.refl _ | exact WkB.refl _ | refine ⟨?_, ?_⟩ | refine WkB.cells ?_ | refine WkN.agg ?_ | refine WkN.tup ?_)); (all_goals (first | exact okt | skip)))
          rintro ⟨m, o⟩ hinv
          have hm : m ≤ Cs.length := hinv.1
          have hp2 : o ++ (goM g d (nt Sp.Call default Cs (j : Int)).depart (Cs.drop m) ++ goK Cs g d n (j + 1)) = F := hinv.2
          clear hinv hp
          have hol3 : o.length ≤ 100 := by rw [← hp2, List.length_append] at hFl; omega
          (cbv; (try simp only [nc] at *); (try refine Chk.mk (okc) ?_))
          refine ⟨fun h6 => ?_, fun h6 => ?_⟩
          · simp only [decide_eq_true_eq] at h6
            rw [nt_drop (d := default) hnt (l := Cs) (i := m) (by omega), goM] at hp2
            (cbv; (try simp only [nc] at *); (try refine Chk.mk (okc) ?_))
            refine ⟨fun h7 => ?_, fun h7 => ?_⟩
            · have h7 : (nt Sp.Call default Cs (m : Int)).station = g.to_ := by simpa using h7
              rw [if_pos h7] at hp2
              (cbv; (try simp only [nc] at *); (try refine Chk.mk (okc) ?_))
              refine ⟨(m + 1, o ++ [⟨d, (nt Sp.Call default Cs (j : Int)).depart, (nt Sp.Call default Cs (m : Int)).arrive⟩]), ⟨by show m + 1 ≤ Cs.length; omega, by rw [← hp2]; simp only [List.append_assoc]⟩, by show Cs.length - (m + 1) + 0 < Cs.length - m + 0; omega, ?_⟩
              (refine To.of [] ?_; cbv; (try simp only [nc]); (repeat' (first | exact trivial | exact WkN.refl _ | exact WkB.refl _ | refine ⟨?_, ?_⟩ | refine WkB.cells ?_ | refine WkN.agg ?_ | refine WkN.tup ?_)); (all_goals (first | exact okt | skip)))
            · have h7 : ¬ (nt Sp.Call default Cs (m : Int)).station = g.to_ := by simpa using h7
              rw [if_neg h7, List.nil_append] at hp2
              (cbv; (try simp only [nc] at *); (try refine Chk.mk (okc) ?_))
              refine ⟨(m + 1, o), ⟨by show m + 1 ≤ Cs.length; omega, hp2⟩, by show Cs.length - (m + 1) + 0 < Cs.length - m + 0; omega, ?_⟩
              (refine To.of [] ?_; cbv; (try simp only [nc]); (repeat' (first | exact trivial | exact WkN.refl _ | exact WkB.refl _ | refine ⟨?_, ?_⟩ | refine WkB.cells ?_ | refine WkN.agg ?_ | refine WkN.tup ?_)); (all_goals (first | exact okt | skip)))
          · have hme : m = Cs.length := by simp only [decide_eq_false_iff_not] at h6; omega
            rw [List.drop_eq_nil_of_le (by omega), goM, List.nil_append] at hp2
            (cbv; (try simp only [nc] at *); (try refine Chk.mk (okc) ?_))
            refine hQ2 _ _ _ ?_
            clear hQ2
            (cbv; (try simp only [nc] at *); (try refine Chk.mk (okc) ?_))
            refine ⟨(j + 1, o), ⟨by show j + 1 ≤ Cs.length - 1; omega, by show o ++ goK Cs g d (Cs.length - 1 - (j + 1)) (j + 1) = F; rw [← hp2]; congr 2; omega⟩, by show Cs.length - 1 - (j + 1) + 0 < Cs.length - 1 - j + 0; omega, ?_⟩
            (refine To.of [] ?_; cbv; (try simp only [nc]); (repeat' (first | exact trivial | exact WkN.refl _ | exact WkB.refl _ | refine ⟨?_, ?_⟩ | refine WkB.cells ?_ | refine WkN.agg ?_ | refine WkN.tup ?_)); (all_goals (first | exact okt | skip)))
        · have hje : Cs.length - 1 - j = 0 := by simp only [decide_eq_false_iff_not] at h3; omega
          rw [hje, goK, List.append_nil] at hp
          (cbv; (try simp only [nc] at *); (try refine Chk.mk (okc) ?_))
          refine hQ _ _ _ ?_
          clear hQ
          (cbv; (try simp only [nc] at *); (try refine Chk.mk (okc) ?_))
          refine ⟨d + 1, by omega, by omega, ?_⟩
          rw [hF, ← hp]
          (refine To.of [] ?_; cbv; (try simp only [nc]); (repeat' (first | exact trivial | exact WkN.refl _ | exact WkB.refl _ | refine ⟨?_, ?_⟩ | refine WkB.cells ?_ | refine WkN.agg ?_ | refine WkN.tup ?_)); (all_goals (first | exact okt | skip)))
    · have h1 : p < 0 := by omega
      rw [if_pos h1, List.append_nil] at hgn
      refine Chk.mk (by (try simp only [nc, allc0, allc1, allcE, allcI, Cn.p, and_true, true_and, decide_eq_true_eq, imp_self, List.length_cons, List.length_nil]); simp [h1]) ?_
      refine Br.isF (by simp [h1]) ?_
      (cbv; (try simp only [nc] at *); (try refine Chk.mk (okc) ?_))
      refine Br.isT (by simp [h1]) ?_
      (cbv; (try simp only [nc] at *); (try refine Chk.mk (okc) ?_))
      refine ⟨d + 1, by omega, by omega, ?_⟩
      rw [hF, hgn]
      (refine To.of [] ?_; cbv; (try simp only [nc]); (repeat' (first | exact trivial | exact WkN.refl _ | exact WkB.refl _ | refine ⟨?_, ?_⟩ | refine WkB.cells ?_ | refine WkN.agg ?_ | refine WkN.tup ?_)); (all_goals (first | exact okt | skip)))
  · have hde : d = (b.last + 1).toNat := by simp only [decide_eq_false_iff_not] at hb; omega
    subst hde
    (cbv; (try simp only [nc] at *); (try refine Chk.mk (okc) ?_))
    refine ⟨_, [], ?_, rfl, rfl⟩
    simp only [lst_nt hnt]
    (refine To.of [] ?_; cbv; (try simp only [nc]); (repeat' (first | exact trivial | exact WkN.refl _ | exact WkB.refl _ | refine ⟨?_, ?_⟩ | refine WkB.cells ?_ | refine WkN.agg ?_ | refine WkN.tup ?_)); (all_goals (first | exact okt | skip)))
end Go.Proofs.YtlcgliadpalgfaaGreat.Vm

/- Contracts: the ride that goes next, by the reference. -/
namespace Go.Proofs.YtlcgliadpalgfaaGreat.Vm
open Go Go.Proofs Sp
set_option maxRecDepth 100000
set_option maxHeartbeats 1600000

theorem since_drop {a : Int} {R : List Sp.Ride} {x : Sp.Ride} {r : List Sp.Ride} (h : R = x :: r) : since a R = if a ≤ x.depart then x :: since a r else since a r := by
  subst h
  unfold since
  rw [List.filter_cons]
  by_cases h : a ≤ x.depart
  · rw [if_pos h, if_pos (by simpa using h)]
  · rw [if_neg h, if_neg (by simpa using h)]

theorem c225 (b : Book) (g : Sp.Leg) (a : Int) (hck : Check b = 0) : SC (fun _ => Tryz.prog) 81 [bookA b, legA g, .int .i64 fun _ => a] [] fun v h => v = .tup [.agg (encRide (least (since a (refRides b g)))), .bool fun _ => decide (0 < (since a (refRides b g)).length)] ∧ h = [] := by
  obtain ⟨nt, hnt⟩ := nth_ex
  have k226 := c226 b g hck
  have hRl : (refRides b g).length ≤ 100 := by
    have hok := book_ok hck
    have := hok.last
    exact refRides_len hok g _ (by omega)
  generalize refRides b g = R at *
  refine SC.less (conX false false [] Tryz.func81 (body := bodyOf Tryz.f81) rfl (by decide +kernel) ?_)
  unfold legA at *
  rw [bookA_nt hnt] at *
  simp only [lst_nt hnt] at *
  unfold least
  generalize hL : leastGo 0 ⟨0, 0, 0⟩ (since a R) = L
  generalize hS : (since a R).length = S
  (cbv; (try simp only [nc] at *); (try refine Chk.mk (okc) ?_))
  refine call0 k226 rfl fun r h₂ hp => ?_
  obtain ⟨rfl, rfl⟩ := hp
  (cbv; (try simp only [nc] at *); (try refine Chk.mk (okc) ?_))
  refine loopS false false [] [2, 6, 8, 9, 10, 11] [] (fun (⟨k, i, x⟩ : Nat × Nat × Sp.Ride) => [(10, .bool fun _ => decide (0 < i)), (11, .int .i64 fun _ => (k : Int))]) (fun ⟨k, i, x⟩ => [(3, .cells (encRide x))]) (fun ⟨k, i, x⟩ => k ≤ R.length ∧ leastGo i x (since a (R.drop k)) = L ∧ i + (since a (R.drop k)).length = S) (fun i => R.length - i.1 + 0) (0, 0, ⟨0, 0, 0⟩) ⟨Nat.zero_le _, by simpa using hL, by simpa using hS⟩ ?_ ?_
  · (refine To.of [] ?_; cbv; (try simp only [nc]); (repeat' (first | exact trivial | exact WkN.refl _ | exact WkB.refl _ | refine ⟨?_, ?_⟩ | refine WkB.cells ?_ | refine WkN.agg ?_ | refine WkN.tup ?_)); (all_goals (first | exact okt | skip)))
  rintro ⟨k, i, x⟩ hinv
  have hk : k ≤ R.length := hinv.1
  have hp : leastGo i x (since a (R.drop k)) = L := hinv.2.1
  have hq : i + (since a (R.drop k)).length = S := hinv.2.2
  clear hinv
  (cbv; (try simp only [nc] at *); (try refine Chk.mk (okc) ?_))
  refine ⟨fun hb => ?_, fun hb => ?_⟩
  · simp only [decide_eq_true_eq] at hb
    rw [since_drop (nt_drop (d := default) hnt (l := R) (i := k) (by omega))] at hp hq
    generalize hy : nt Sp.Ride default R (k : Int) = y at *
    (cbv; try simp only [nc] at *)
    simp only [hy]
    (try refine Chk.mk (okc) ?_)
    refine ⟨fun h1 => ?_, fun h1 => ?_⟩
    · have hc : a ≤ y.depart ∧ (i = 0 ∨ y.depart < x.depart) := by
        by_cases g1 : a ≤ y.depart <;> by_cases g2 : i = 0 <;> by_cases g3 : y.depart < x.depart <;> simp [g1, g2, g3] at h1 ⊢
        all_goals omega
      rw [if_pos hc.1, leastGo, if_pos hc.2] at hp
      rw [if_pos hc.1, List.length_cons] at hq
      (cbv; try simp only [nc] at *)
      simp only [hy]
      (try refine Chk.mk (okc) ?_)
      refine ⟨(k + 1, i + 1, y), ⟨by show k + 1 ≤ R.length; omega, hp, by show i + 1 + (since a (R.drop (k + 1))).length = S; omega⟩, by show R.length - (k + 1) + 0 < R.length - k + 0; omega, ?_⟩
      (refine To.of [] ?_; cbv; (try simp only [nc]); (repeat' (first | exact trivial | exact WkN.refl _ | exact WkB.refl _ | refine ⟨?_, ?_⟩ | refine WkB.cells ?_ | refine WkN.agg ?_ | refine WkN.tup ?_)); (all_goals (first | exact okt | skip)))
    · have hc : ¬ a ≤ y.depart ∨ (0 < i ∧ a ≤ y.depart ∧ ¬ y.depart < x.depart) := by
        by_cases g1 : a ≤ y.depart <;> by_cases g2 : i = 0 <;> by_cases g3 : y.depart < x.depart <;> simp [g1, g2, g3] at h1 ⊢
        all_goals omega
      (cbv; (try simp only [nc] at *); (try refine Chk.mk (okc) ?_))
      rcases hc with hc | hc
      · rw [if_neg hc] at hp hq
        refine ⟨(k + 1, i, x), ⟨by show k + 1 ≤ R.length; omega, hp, hq⟩, by show R.length - (k + 1) + 0 < R.length - k + 0; omega, ?_⟩
        (refine To.of [] ?_; cbv; (try simp only [nc]); (repeat' (first | exact trivial | exact WkN.refl _ | exact WkB.refl _ | refine ⟨?_, ?_⟩ | refine WkB.cells ?_ | refine WkN.agg ?_ | refine WkN.tup ?_)); (all_goals (first | exact okt | skip)))
      · rw [if_pos hc.2.1, leastGo, if_neg (by omega)] at hp
        rw [if_pos hc.2.1, List.length_cons] at hq
        refine ⟨(k + 1, i + 1, x), ⟨by show k + 1 ≤ R.length; omega, hp, by show i + 1 + (since a (R.drop (k + 1))).length = S; omega⟩, by show R.length - (k + 1) + 0 < R.length - k + 0; omega, ?_⟩
        (refine To.of [] ?_; cbv; (try simp only [nc]); (repeat' (first | exact trivial | exact WkN.refl _ | exact WkB.refl _ | refine ⟨?_, ?_⟩ | refine WkB.cells ?_ | refine WkN.agg ?_ | refine WkN.tup ?_)); (all_goals (first | exact okt | skip)))
        exact .bool (by simp; omega)
  · rw [List.drop_eq_nil_of_le (by simp only [decide_eq_false_iff_not] at hb; omega)] at hp hq
    have hp : x = L := hp
    have hq : i = S := hq
    subst hp hq
    (cbv; (try simp only [nc] at *); (try refine Chk.mk (okc) ?_))
    refine ⟨_, [], ?_, rfl, rfl⟩
    (refine To.of [] ?_; cbv; (try simp only [nc]); (repeat' (first | exact trivial | exact WkN.refl _ | exact WkB.refl _ | refine ⟨?_, ?_⟩ | refine WkB.cells ?_ | refine WkN.agg ?_ | refine WkN.tup ?_)); (all_goals (first | exact okt | skip)))

theorem c213 (b : Book) (n st a : Int) (hf : BookFit b) : SC (fun _ => Tryz.prog) 35 [bookA b, .int .i64 fun _ => n, .int .i64 fun _ => st, .int .i64 fun _ => a] [] fun v h => v = .tup [.int .i64 fun _ => (Next b n st a).1, .int .i64 fun _ => (Next b n st a).2.1, .int .i64 fun _ => (Next b n st a).2.2] ∧ h = [] := by
  obtain ⟨nt, hnt⟩ := nth_ex
  have k215 := c215 b n hf
  have hok0 : checkNumber b n = 0 → Check b = 0 := fun h => by
    unfold checkNumber at h
    split at h
    · rename_i hne; exact absurd h hne
    · rename_i hne; exact Decidable.of_not_not hne
  have k225 := c225 b ⟨n, st, -1⟩ a
  unfold Next
  rw [next_ref]
  generalize checkNumber b n = C at *
  generalize since a (refRides b ⟨n, st, -1⟩) = R at *
  generalize least R = X at *
  refine SC.less (conX false false [] Tryz.func35 (body := bodyOf Tryz.f35) rfl (by decide +kernel) ?_)
  unfold legA at k225
  rw [bookA_nt hnt] at *
  (cbv; (try simp only [nc] at *); (try refine Chk.mk (okc) ?_))
  refine call0 (k215) (by first | rfl | (simp only [zoneA, bookA, lst_nt hnt]; rfl)) fun r h₂ hp => ?_
  (try simp only [zoneA, bookA, lst_nt hnt] at hp)
  obtain ⟨rfl, rfl⟩ := hp
  (cbv; (try simp only [nc] at *); (try refine Chk.mk (okc) ?_))
  refine ⟨fun hb => ?_, fun hb => ?_⟩
  · simp only [bne_iff_ne, ne_eq] at hb
    rw [if_pos hb]
    (cbv; (try simp only [nc] at *); (try refine Chk.mk (okc) ?_))
    refine ⟨_, [], ?_, rfl, rfl⟩
    (refine To.of [] ?_; cbv; (try simp only [nc]); (repeat' (first | exact trivial | exact WkN.refl _ | exact WkB.refl _ | refine ⟨?_, ?_⟩ | refine WkB.cells ?_ | refine WkN.agg ?_ | refine WkN.tup ?_)); (all_goals (first | exact okt | skip)))
  have hC : C = 0 := by simpa using hb
  have k225 := k225 (hok0 hC)
  rw [if_neg (fun h => h hC)]
  (cbv; (try simp only [nc] at *); (try refine Chk.mk (okc) ?_))
  refine call0 (c72 st 0 9) (by first | rfl | (simp only [zoneA, bookA, lst_nt hnt]; rfl)) fun r h₂ hp => ?_
  (try simp only [zoneA, bookA, lst_nt hnt] at hp)
  obtain ⟨rfl, rfl⟩ := hp
  (cbv; (try simp only [nc] at *); (try refine Chk.mk (okc) ?_))
  refine ⟨fun h1 => ?_, fun h1 => ?_⟩
  rotate_left
  · have h1 : inB st 0 9 = false := by simpa using h1
    rw [h1]
    simp only [Bool.not_false, Bool.true_or, if_true]
    (cbv; (try simp only [nc] at *); (try refine Chk.mk (okc) ?_))
    refine Br.isT (by rfl) ?_
    (cbv; (try simp only [nc] at *); (try refine Chk.mk (okc) ?_))
    refine ⟨_, [], ?_, rfl, rfl⟩
    (refine To.of [] ?_; cbv; (try simp only [nc]); (repeat' (first | exact trivial | exact WkN.refl _ | exact WkB.refl _ | refine ⟨?_, ?_⟩ | refine WkB.cells ?_ | refine WkN.agg ?_ | refine WkN.tup ?_)); (all_goals (first | exact okt | skip)))
  have h1 : inB st 0 9 = true := by simpa using h1
  rw [h1]
  simp only [Bool.not_true, Bool.false_or]
  (cbv; (try simp only [nc] at *); (try refine Chk.mk (okc) ?_))
  refine call0 (c72 a 0 43200) (by first | rfl | (simp only [zoneA, bookA, lst_nt hnt]; rfl)) fun r h₂ hp => ?_
  (try simp only [zoneA, bookA, lst_nt hnt] at hp)
  obtain ⟨rfl, rfl⟩ := hp
  (cbv; (try simp only [nc] at *); (try refine Chk.mk (okc) ?_))
  refine ⟨fun h2 => ?_, fun h2 => ?_⟩
  · have h2 : inB a 0 43200 = false := by simpa [h1] using h2
    rw [h2]
    simp only [Bool.not_false, if_true]
    (cbv; (try simp only [nc] at *); (try refine Chk.mk (okc) ?_))
    refine ⟨_, [], ?_, rfl, rfl⟩
    (refine To.of [] ?_; cbv; (try simp only [nc]); (repeat' (first | exact trivial | exact WkN.refl _ | exact WkB.refl _ | refine ⟨?_, ?_⟩ | refine WkB.cells ?_ | refine WkN.agg ?_ | refine WkN.tup ?_)); (all_goals (first | exact okt | skip)))
  have h2 : inB a 0 43200 = true := by simpa [h1] using h2
  rw [h2]
  simp only [Bool.not_true, Bool.false_eq_true, if_false]
  (cbv; (try simp only [nc] at *); (try refine Chk.mk (okc) ?_))
  refine call0 (k225) (by first | rfl | (simp only [zoneA, bookA, lst_nt hnt]; rfl)) fun r h₂ hp => ?_
  (try simp only [zoneA, bookA, lst_nt hnt] at hp)
  obtain ⟨rfl, rfl⟩ := hp
  (cbv; (try simp only [nc] at *); (try refine Chk.mk (okc) ?_))
  refine ⟨fun h3 => ?_, fun h3 => ?_⟩
  · have h3 : R.length = 0 := by simpa using h3
    rw [if_pos h3]
    (cbv; (try simp only [nc] at *); (try refine Chk.mk (okc) ?_))
    refine ⟨_, [], ?_, rfl, rfl⟩
    (refine To.of [] ?_; cbv; (try simp only [nc]); (repeat' (first | exact trivial | exact WkN.refl _ | exact WkB.refl _ | refine ⟨?_, ?_⟩ | refine WkB.cells ?_ | refine WkN.agg ?_ | refine WkN.tup ?_)); (all_goals (first | exact okt | skip)))
  · have h3 : ¬ R.length = 0 := by
      have h4 : decide (0 < R.length) = true := by simpa using h3
      have := of_decide_eq_true h4
      omega
    rw [if_neg h3]
    (cbv; (try simp only [nc] at *); (try refine Chk.mk (okc) ?_))
    refine ⟨_, [], ?_, rfl, rfl⟩
    (refine To.of [] ?_; cbv; (try simp only [nc]); (repeat' (first | exact trivial | exact WkN.refl _ | exact WkB.refl _ | refine ⟨?_, ?_⟩ | refine WkB.cells ?_ | refine WkN.agg ?_ | refine WkN.tup ?_)); (all_goals (first | exact okt | skip)))
end Go.Proofs.YtlcgliadpalgfaaGreat.Vm

/- Contract: the statement on runs that are on the way. -/
namespace Go.Proofs.YtlcgliadpalgfaaGreat.Vm
open Go Go.Proofs Sp
set_option maxRecDepth 100000
set_option maxHeartbeats 1600000

theorem c202 (b : Book) (t n st a : Int) (l : List Int) (hb : BookI b) (hl : (l.length : Int) ≤ 9223372036854775807) : SC (fun _ => Tryz.prog) 5 [bookA b, .int .i64 fun _ => t, .int .i64 fun _ => n, .int .i64 fun _ => st, .int .i64 fun _ => a, lst 1 encI 0 l] [] fun r h => r = .bool (fun _ => true) := by
  obtain ⟨nt, hnt⟩ := nth_ex
  have k203 := c203 b hb
  refine con Tryz.func5 (body := bodyOf Tryz.f5) rfl (by decide +kernel) ?_
  unfold bookA at *
  simp only [lst_nt hnt] at *
  (cbv; (try simp only [nc] at *); (try refine Chk.mk (okc) ?_))
  rcases hlg : largeB b with _ | _
  rotate_left
  · rw [hlg] at k203
    refine call0 (k203) (by first | rfl | (simp only [zoneA, bookA, lst_nt hnt]; rfl)) fun r h₂ hp => ?_
    (try simp only [zoneA, bookA, lst_nt hnt] at hp)
    obtain ⟨rfl, rfl⟩ := hp
    (cbv; (try simp only [nc] at *); (try refine Chk.mk (okc) ?_))
    refine Br.isT (by rfl) ?_
    (cbv; (try simp only [nc] at *); (try refine Chk.mk (okc) ?_))
    refine call0 (c18) (by first | rfl | (simp only [zoneA, bookA, lst_nt hnt]; rfl)) fun r h₂ hp => ?_
    (try simp only [zoneA, bookA, lst_nt hnt] at hp)
    obtain ⟨rfl, rfl⟩ := hp
    (cbv; (try simp only [nc] at *); (try refine Chk.mk (okc) ?_))
  rw [hlg] at k203
  have hbf := (large_fit hlg).1
  refine call0 (k203) (by first | rfl | (simp only [zoneA, bookA, lst_nt hnt]; rfl)) fun r h₂ hp => ?_
  (try simp only [zoneA, bookA, lst_nt hnt] at hp)
  obtain ⟨rfl, rfl⟩ := hp
  (cbv; (try simp only [nc] at *); (try refine Chk.mk (okc) ?_))
  refine Br.isF (by rfl) ?_
  (cbv; (try simp only [nc] at *); (try refine Chk.mk (okc) ?_))
  refine call0 (c14 l hl) (by first | rfl | (simp only [zoneA, bookA, lst_nt hnt]; rfl)) fun r h₂ hp => ?_
  (try simp only [zoneA, bookA, lst_nt hnt] at hp)
  obtain ⟨s, rfl, rfl⟩ := hp
  (cbv; (try simp only [nc] at *); (try refine Chk.mk (okc) ?_))
  refine callL [1] (c15 s 3 5 (by omega) (by omega)) (by decide) (by simp) (by first | rfl | (simp only [zoneA, bookA, lst_nt hnt]; rfl)) (by first | rfl | (simp only [zoneA, bookA, lst_nt hnt]; rfl)) fun r h₂ hp => ?_
  (try simp only [zoneA, bookA, lst_nt hnt] at hp)
  obtain ⟨mb, s1, hmade, rfl, rfl⟩ := hp
  have hmf := made_fit hmade (by omega) (by omega)
  (cbv; (try simp only [nc] at *); (try refine Chk.mk (okc) ?_))
  refine callL [1] (c17 s1 6000 (by omega)) (by decide) (by simp) (by first | rfl | (simp only [zoneA, bookA, lst_nt hnt]; rfl)) (by first | rfl | (simp only [zoneA, bookA, lst_nt hnt]; rfl)) fun r h₂ hp => ?_
  (try simp only [zoneA, bookA, lst_nt hnt] at hp)
  obtain ⟨y1, s2, hy1, rfl, rfl⟩ := hp
  (cbv; (try simp only [nc] at *); (try refine Chk.mk (okc) ?_))
  refine callL [1] (c22 s2 1 3 (by omega) (by omega)) (by decide) (by simp) (by first | rfl | (simp only [zoneA, bookA, lst_nt hnt]; rfl)) (by first | rfl | (simp only [zoneA, bookA, lst_nt hnt]; rfl)) fun r h₂ hp => ?_
  (try simp only [zoneA, bookA, lst_nt hnt] at hp)
  obtain ⟨y2, s3, hy2, rfl, rfl⟩ := hp
  (cbv; (try simp only [nc] at *); (try refine Chk.mk (okc) ?_))
  refine callL [1] (c17 s3 3 (by omega)) (by decide) (by simp) (by first | rfl | (simp only [zoneA, bookA, lst_nt hnt]; rfl)) (by first | rfl | (simp only [zoneA, bookA, lst_nt hnt]; rfl)) fun r h₂ hp => ?_
  (try simp only [zoneA, bookA, lst_nt hnt] at hp)
  obtain ⟨y3, s4, hy3, rfl, rfl⟩ := hp
  (cbv; (try simp only [nc] at *); (try refine Chk.mk (okc) ?_))
  refine callL [1] (c17 s4 5000 (by omega)) (by decide) (by simp) (by first | rfl | (simp only [zoneA, bookA, lst_nt hnt]; rfl)) (by first | rfl | (simp only [zoneA, bookA, lst_nt hnt]; rfl)) fun r h₂ hp => ?_
  (try simp only [zoneA, bookA, lst_nt hnt] at hp)
  obtain ⟨y4, s5, hy4, rfl, rfl⟩ := hp
  (cbv; (try simp only [nc] at *); (try refine Chk.mk (okc) ?_))
  obtain ⟨bs, hbs⟩ : ∃ l : List Book, l = [b, mb, mb] := ⟨_, rfl⟩
  obtain ⟨ts, hts⟩ : ∃ l : List Int, l = [t, y1, t] := ⟨_, rfl⟩
  obtain ⟨ns, hns⟩ : ∃ l : List Int, l = [n, y2, n] := ⟨_, rfl⟩
  obtain ⟨ss, hss⟩ : ∃ l : List Int, l = [st, y3, st] := ⟨_, rfl⟩
  obtain ⟨fs, has⟩ : ∃ l : List Int, l = [a, y4, a] := ⟨_, rfl⟩
  have hb3 : bs.length = 3 := by rw [hbs]; rfl
  have ht3 : ts.length = 3 := by rw [hts]; rfl
  have hn3 : ns.length = 3 := by rw [hns]; rfl
  have hs3 : ss.length = 3 := by rw [hss]; rfl
  have ha3 : fs.length = 3 := by rw [has]; rfl
  have hbfit : ∀ q ∈ bs, BookFit q := fun q hq => by
    rw [hbs] at hq
    simp only [List.mem_cons, List.not_mem_nil, or_false] at hq
    rcases hq with rfl | rfl | rfl
    · exact hbf
    · exact hmf
    · exact hmf
  refine loopS false false [] [15, 16, 17, 18, 19, 20] [] (fun (i : Nat) => [(15, .isl 5 (fun _ => (bs.length : Int)) (fun e => bookN nt (nt Book default bs (e ()))) .none), (16, .isl 1 (fun _ => (ts.length : Int)) (fun e => encI (nt Int 0 ts (e ()))) .none), (17, .isl 1 (fun _ => (ns.length : Int)) (fun e => encI (nt Int 0 ns (e ()))) .none), (18, .isl 1 (fun _ => (ss.length : Int)) (fun e => encI (nt Int 0 ss (e ()))) .none), (19, .isl 1 (fun _ => (fs.length : Int)) (fun e => encI (nt Int 0 fs (e ()))) .none), (20, .int .i64 fun _ => (i : Int))]) (fun _ => []) (fun i => i ≤ 3) (fun i => 3 - i + 0) 0 (Nat.zero_le _) ?_ ?_
  · (refine To.of [] ?_; cbv; (try simp only [nc]); (repeat' (first | exact trivial | exact WkN.refl _ | exact WkB.refl _ | refine ⟨?_, ?_⟩ | refine WkB.cells ?_ | refine WkN.agg ?_ | refine WkN.tup ?_)); (all_goals (first | exact okt | skip)))
    · refine lit_el hnt (bookN nt) default bs _ (by rw [hb3]; rfl) fun i hi => ?_
      subst hbs
      match i with
      | 0 => exact .refl _
      | 1 => exact .refl _
      | 2 => exact .refl _
      | i + 3 => simp only [List.length_cons, List.length_nil] at hi; omega
    · subst hts
      exact lit_nt hnt encI 0 [t, y1, t] _ rfl
    · subst hns
      exact lit_nt hnt encI 0 [n, y2, n] _ rfl
    · subst hss
      exact lit_nt hnt encI 0 [st, y3, st] _ rfl
    · subst has
      exact lit_nt hnt encI 0 [a, y4, a] _ rfl
  clear hbs hts hns hss has
  intro i hi
  (cbv; (try simp only [nc] at *); (try refine Chk.mk (okc) ?_))
  refine ⟨fun hb => ?_, fun hb => ?_⟩
  · simp only [decide_eq_true_eq] at hb
    have hi3 : i < 3 := by omega
    have hqf := hbfit _ (nt_mem hnt (show i < bs.length by omega) : nt Book default bs (i : Int) ∈ bs)
    generalize hq : nt Book default bs (i : Int) = q at *
    generalize hT : nt Int 0 ts (i : Int) = T at *
    generalize hN : nt Int 0 ns (i : Int) = N at *
    generalize hS : nt Int 0 ss (i : Int) = S at *
    generalize hA : nt Int 0 fs (i : Int) = A at *
    have k23 := c23 q hqf
    have k38 := c38 q hqf T
    have k211 := c211 q hqf T
    have k212 := c212 q N S A hqf
    have k213 := c213 q N S A hqf
    have k206 := c206 q hqf
    have hOl := OnWay_len q T
    generalize OnWay q T = O at *
    generalize Next q N S A = X at *
    obtain ⟨O1, O2⟩ := O
    obtain ⟨X1, X2, X3⟩ := X
    have k214 := c214 O1 (by have : O1.length ≤ 1000 := hOl; omega)
    unfold bookA at k23 k38 k211 k212 k213 k206
    simp only [lst_nt hnt] at k23 k38 k211 k212 k213 k206 k214
    (cbv; try simp only [nc] at *)
    simp only [hq]
    refine Chk.mk (okc) ?_
    refine call0 (k23) (by first | rfl | (simp only [zoneA, bookA, lst_nt hnt]; rfl)) fun r h₂ hp => ?_
    (try simp only [zoneA, bookA, lst_nt hnt] at hp)
    obtain ⟨rfl, rfl⟩ := hp
    (cbv; try simp only [nc] at *)
    simp only [hT]
    refine Chk.mk (okc) ?_
    refine call0 (k38) (by first | rfl | (simp only [zoneA, bookA, lst_nt hnt]; rfl)) fun r h₂ hp => ?_
    (try simp only [zoneA, bookA, lst_nt hnt] at hp)
    obtain ⟨rfl, rfl⟩ := hp
    (cbv; try simp only [nc] at *)
    simp only [hq, hT]
    refine Chk.mk (okc) ?_
    refine call0 (k211) (by first | rfl | (simp only [zoneA, bookA, lst_nt hnt]; rfl)) fun r h₂ hp => ?_
    (try simp only [zoneA, bookA, lst_nt hnt] at hp)
    obtain ⟨rfl, rfl⟩ := hp
    (cbv; try simp only [nc] at *)
    simp only [hN, hS, hA]
    refine Chk.mk (okc) ?_
    refine call0 (k212) (by first | rfl | (simp only [zoneA, bookA, lst_nt hnt]; rfl)) fun r h₂ hp => ?_
    (try simp only [zoneA, bookA, lst_nt hnt] at hp)
    obtain ⟨rfl, rfl⟩ := hp
    (cbv; try simp only [nc] at *)
    simp only [hq, hN, hS, hA]
    refine Chk.mk (okc) ?_
    refine call0 (k213) (by first | rfl | (simp only [zoneA, bookA, lst_nt hnt]; rfl)) fun r h₂ hp => ?_
    (try simp only [zoneA, bookA, lst_nt hnt] at hp)
    obtain ⟨rfl, rfl⟩ := hp
    (cbv; try simp only [nc] at *)
    (try simp only [hq, bne_self_eq_false, cond_false, cond_true, Bool.not_false, Bool.not_true])
    (try refine Chk.mk (okc) ?_)
    refine Br.isT rfl ?_
    (cbv; try simp only [nc] at *)
    (try simp only [hq])
    (try refine Chk.mk (okc) ?_)
    refine call0 (k214) (by first | rfl | (simp only [zoneA, bookA, lst_nt hnt]; rfl)) fun r h₂ hp => ?_
    (try simp only [zoneA, bookA, lst_nt hnt] at hp)
    obtain ⟨rfl, rfl⟩ := hp
    (cbv; try simp only [nc] at *)
    (try simp only [hq, bne_self_eq_false, cond_false, cond_true, Bool.not_false, Bool.not_true])
    (try refine Chk.mk (okc) ?_)
    refine Br.isT rfl ?_
    (cbv; try simp only [nc] at *)
    (try simp only [hq])
    (try refine Chk.mk (okc) ?_)
    refine call0 (k206) (by first | rfl | (simp only [zoneA, bookA, lst_nt hnt]; rfl)) fun r h₂ hp => ?_
    (try simp only [zoneA, bookA, lst_nt hnt] at hp)
    obtain ⟨rfl, rfl⟩ := hp
    (cbv; try simp only [nc] at *)
    (try simp only [hq, bne_self_eq_false, cond_false, cond_true, Bool.not_false, Bool.not_true])
    (try refine Chk.mk (okc) ?_)
    refine Br.isF rfl ?_
    (cbv; (try simp only [nc] at *); (try refine Chk.mk (okc) ?_))
    refine ⟨i + 1, by omega, by omega, ?_⟩
    (refine To.of [] ?_; cbv; (try simp only [nc]); (repeat' (first | exact trivial | exact WkN.refl _ | exact WkB.refl _ | refine ⟨?_, ?_⟩ | refine WkB.cells ?_ | refine WkN.agg ?_ | refine WkN.tup ?_)); (all_goals (first | exact okt | skip)))
  · (cbv; (try simp only [nc] at *); (try refine Chk.mk (okc) ?_))
    refine call0 (c18) (by first | rfl | (simp only [zoneA, bookA, lst_nt hnt]; rfl)) fun r h₂ hp => ?_
    (try simp only [zoneA, bookA, lst_nt hnt] at hp)
    obtain ⟨rfl, rfl⟩ := hp
    (cbv; (try simp only [nc] at *); (try refine Chk.mk (okc) ?_))
end Go.Proofs.YtlcgliadpalgfaaGreat.Vm

/- The contract of the statement on runs that are on the way, as the law asks for it. -/
namespace Go.Proofs.YtlcgliadpalgfaaGreat.Vm
open Go Go.Proofs Sp

theorem BookJ.i {b : Book} (h : BookJ b) : BookI b := ⟨h.zs.2, h.os.2, h.ns.2, fun z hz => (h.zs.1 z hz).2.2, fun t ht => by
  rcases List.mem_append.1 ht with ht | ht
  · exact (h.os.1 t ht).2.2.2
  · exact (h.ns.1 t ht).2.2.2⟩
theorem c202L (b : Book) (t n st a : Int) (l : List Int) (kb : BookJ b) (_ : I64 t) (_ : I64 n) (_ : I64 st) (_ : I64 a) (kl : (l.length : Int) ≤ 9223372036854775807) : SC (fun _ => Tryz.prog) 5 [bookA b, .int .i64 fun _ => t, .int .i64 fun _ => n, .int .i64 fun _ => st, .int .i64 fun _ => a, lst 1 encI 0 l] [] fun r h => r = .bool (fun _ => true) :=
  c202 b t n st a l kb.i kl
end Go.Proofs.YtlcgliadpalgfaaGreat.Vm
