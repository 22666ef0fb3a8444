/- Plain: runs of books that are made of numbers. -/
import Derived.Calls
import Derived.Laws.Entries
import Derived.Laws.Cells
import Derived.Laws.BitsLemmas
import Derived.Laws.Slices
import Derived.Laws.StructEq
import Derived.ChangeKeysEq
import Derived.Laws.CopyRow
import Derived.Laws.AppendOwn
import Derived.Orders
import Derived.Test.YtlcgliadpalgfaaRows
import Derived.RangeFuncIn
import Derived.RangeFuncRecord
import Derived.WalkKit
import Derived.ProofKit
import Derived.OpenShut
import Derived.ShutString
import Derived.ChangeOld
import Derived.Below
import Derived.KernelRfl
import Derived.Test.YtlcgliadpalgfaaB0
import Derived.Test.YtlcgliadpalgfaaB1
import Derived.Test.YtlcgliadpalgfaaB2
import Derived.Test.YtlcgliadpalgfaaB3
import Derived.Test.YtlcgliadpalgfaaB4
import Derived.Test.YtlcgliadpalgfaaB5
import Derived.Test.YtlcgliadpalgfaaB6
import Derived.Test.YtlcgliadpalgfaaB7
import Derived.Test.YtlcgliadpalgfaaB8
import Derived.Test.YtlcgliadpalgfaaB9
set_option linter.unusedSimpArgs false
set_option linter.unusedVariables false
namespace Go.Proofs.Ytlcgliadpalgfaa.Vm
open Sp

theorem keptL_bd {zs : List Zone} {day : Int} {many : Nat} (hm : 2 ≤ many) : ∀ (S : List Stop) (i : Nat) (now : Int) (C : List Sp.Call), i + S.length = many → KeptL zs day many i now S C → ∀ c ∈ C, (0 ≤ c.arrive ∧ c.arrive ≤ 24000) ∧ 0 ≤ c.depart ∧ c.depart ≤ 24000
  | [], _, _, C, _, h => by
    simp only [KeptL] at h
    subst h
    intro c hc; cases hc
  | s :: r, i, now, [], _, h => by simp only [KeptL] at h
  | s :: r, i, now, c :: C, hi, h => by
    simp only [KeptL] at h
    obtain ⟨_, h1, h2, h3, h4, h5⟩ := h
    have ih := keptL_bd hm r (i + 1) c.depart C (by simp only [List.length_cons] at hi; omega) h5
    have hc : (0 ≤ c.arrive ∧ c.arrive ≤ 24000) ∧ 0 ≤ c.depart ∧ c.depart ≤ 24000 := by
      by_cases hz : i = 0
      · have a := h1 hz
        have b := (h3 (by omega)).hi
        omega
      · have a := (h2 (by omega)).hi
        by_cases hl : i + 1 < many
        · have b := (h3 hl).hi
          exact ⟨a, b⟩
        · have b := h4 hl
          omega
    intro x hx
    rcases List.mem_cons.1 hx with rfl | hx
    · exact hc
    · exact ih x hx

theorem calls_bd {b : Book} (hz : ∀ z ∈ b.zones, ZMade 2 z) {t : Train} (ht : TrainOk b.zones.length t) {day : Int} (hd : 0 ≤ day ∧ day ≤ 13) : ∀ c ∈ calls b.zones t day, (0 ≤ c.arrive ∧ c.arrive ≤ 24000) ∧ 0 ≤ c.depart ∧ c.depart ≤ 24000 :=
  keptL_bd ht.len.1 t.stops 0 0 _ (by simp) (kept_calls hz hd ht.len.1 t.stops 0 0 ht.stops (by simp) (fun _ => rfl) (by omega))

theorem indexFrom_at {α : Type} {q : α → Bool} {d : α} : ∀ {l : List α} {i : Nat} {k : Int}, i < l.length → q (l.getD i d) = true → (∀ j, j < i → q (l.getD j d) = false) → indexFrom q k l = k + i
  | [], i, k, h, _, _ => by simp at h
  | a :: l, 0, k, h, hq, _ => by
    unfold indexFrom
    rw [if_pos (by simpa using hq)]
    simp
  | a :: l, i + 1, k, h, hq, hj => by
    unfold indexFrom
    have h0 := hj 0 (by omega)
    rw [if_neg (by simpa using h0), indexFrom_at (d := d) (i := i) (by simpa using h) (by simpa using hq) (fun j hj' => by have := hj (j + 1) (by omega); simpa using this)]
    simp
    omega

theorem place_made {zones n : Int} {l : List Train} (h : LMade zones n l) {i : Nat} (hi : i < l.length) : place l (l.getD i default).number = i := by
  have hg : ∀ j, j < l.length → (l.getD j default).number = n - j := fun j hj => (h.all j _ (by rw [List.getD_eq_getElem?_getD, List.getElem?_eq_getElem hj]; rfl)).number
  unfold place
  rw [indexFrom_at (d := default) hi (by simp) (fun j hj => by
    rw [hg i hi, hg j (by omega)]
    simp
    omega)]
  simp

theorem table_made {tr days : Int} {b : Book} (h : BMade tr days b) (day : Int) : ∃ n, LMade b.zones.length n (table b day) := by
  unfold table
  split
  · exact ⟨_, h.old⟩
  · exact ⟨_, h.new⟩

theorem runsTo_pre (b : Book) {d D : Nat} (h : d ≤ D) : ∃ r, runsTo b D = runsTo b d ++ r := by
  induction D with
  | zero => exact ⟨[], by rw [show d = 0 by omega]; simp⟩
  | succ D ih =>
    by_cases e : d = D + 1
    · exact ⟨[], by rw [e]; simp⟩
    · obtain ⟨r, hr⟩ := ih (by omega)
      exact ⟨r ++ _, by rw [runsTo_succ, hr, List.append_assoc]⟩

theorem runsIn_succ (b : Book) (d i : Nat) (hi : i < (table b d).length) : runsIn b d (i + 1) = runsIn b d i ++ (if starts ((table b d).getD i default) d then [((table b d).getD i default, (d : Int))] else []) := by
  have e : (table b d).take (i + 1) = (table b d).take i ++ [(table b d).getD i default] := by
    rw [List.take_succ_eq_append_getElem hi, List.getD_eq_getElem?_getD, List.getElem?_eq_getElem hi]; rfl
  unfold runsIn
  rw [e, List.filter_append, List.map_append]
  congr 1
  by_cases h : starts ((table b d).getD i default) d = true
  · simp only [List.filter, h, if_true, List.map]
  · simp only [Bool.not_eq_true] at h
    simp only [List.filter, h, List.map, Bool.false_eq_true, if_false]

theorem runsIn_pre (b : Book) (d : Nat) {i n : Nat} (h : i ≤ n) (hn : n ≤ (table b d).length) : ∃ r, runsIn b d n = runsIn b d i ++ r := by
  induction n with
  | zero => exact ⟨[], by rw [show i = 0 by omega]; simp⟩
  | succ n ih =>
    by_cases e : i = n + 1
    · exact ⟨[], by rw [e]; simp⟩
    · obtain ⟨r, hr⟩ := ih (by omega) (by omega)
      exact ⟨r ++ _, by rw [runsIn_succ b d n (by omega), hr, List.append_assoc]⟩

/-- All runs, cut at one of them. -/
theorem runsTo_cut (b : Book) {d D i : Nat} (hd : d < D) (hi : i < (table b d).length) (hs : starts ((table b d).getD i default) d = true) :
    ∃ r, runsTo b D = (runsTo b d ++ runsIn b d i) ++ [((table b d).getD i default, (d : Int))] ++ r := by
  obtain ⟨r1, h1⟩ := runsTo_pre b (d := d + 1) (D := D) hd
  obtain ⟨r2, h2⟩ := runsIn_pre b d (i := i + 1) (n := (table b d).length) hi (Nat.le_refl _)
  refine ⟨r2 ++ r1, ?_⟩
  rw [h1, runsTo_succ, h2, runsIn_succ b d i hi, hs, if_pos rfl]
  simp only [List.append_assoc]

theorem filter_cut {α : Type} {d : α} (p : α → Bool) (A r : List α) (x : α) (hx : p x = true) : (A.filter p).length < ((A ++ [x] ++ r).filter p).length ∧ ((A ++ [x] ++ r).filter p).getD (A.filter p).length d = x := by
  have e : (A ++ [x] ++ r).filter p = A.filter p ++ x :: r.filter p := by
    rw [List.filter_append, List.filter_append]
    simp [hx]
  rw [e]
  refine ⟨by simp, ?_⟩
  rw [List.getD_eq_getElem?_getD, List.getElem?_append_right (Nat.le_refl _)]
  simp

theorem isOn_nt {nt : (α : Type) → α → List α → Int → α} (hnt : ∀ (α : Type) (d : α) (l : List α) (i : Int), nt α d l i = l.getD i.toNat d) {b : Book} {a : Int} {t : Train} {d : Int} (hl : 1 ≤ (calls b.zones t d).length) :
    isOn b a (t, d) = bif decide ((nt Sp.Call default (calls b.zones t d) 0).depart ≤ a) then decide (a < (nt Sp.Call default (calls b.zones t d) ((calls b.zones t d).length - 1)).arrive) else false := by
  unfold isOn
  rw [hnt, hnt]
  have e : ((calls b.zones t d).length - 1 : Int).toNat = (calls b.zones t d).length - 1 := by omega
  rw [e]
  rfl

/-- What Run says of a book that is made of numbers. -/
theorem run_made {tr days : Int} {b : Book} (hb : BMade tr days b) (hchk : Check b = 0) {d i : Nat} (hd : (d : Int) ≤ b.last) (hi : i < (table b d).length) :
    Run b ((table b d).getD i default).number d = if starts ((table b d).getD i default) d then (calls b.zones ((table b d).getD i default) d, 0) else ([], 11) := by
  obtain ⟨n, hn⟩ := table_made hb (d : Int)
  unfold Run
  rw [hchk, if_neg (fun h => h rfl), inB_of (by omega) hd, place_made hn hi]
  rw [if_neg (by simp), if_neg (by omega)]
  rw [Int.toNat_natCast]
  cases h : starts ((table b d).getD i default) d <;> simp
theorem run_bd {tr days : Int} {b : Book} (hb : BMade tr days b) (hchk : Check b = 0) (n d : Int) : (Run b n d).1.length ≤ 4 ∧ ∀ c ∈ (Run b n d).1, (0 ≤ c.arrive ∧ c.arrive ≤ 24000) ∧ 0 ≤ c.depart ∧ c.depart ≤ 24000 := by
  have hok := book_ok hchk
  have hlast := hok.last
  have h0 : ∀ (e : Int), ([] : List Sp.Call).length ≤ 4 ∧ ∀ c ∈ ([] : List Sp.Call), (0 ≤ c.arrive ∧ c.arrive ≤ 24000) ∧ 0 ≤ c.depart ∧ c.depart ≤ 24000 := fun _ => ⟨by simp, fun c hc => by cases hc⟩
  unfold Run
  split
  · exact h0 0
  split
  · exact h0 0
  rename_i hd
  split
  · exact h0 0
  rename_i hp
  split
  · exact h0 0
  have hd := inB_ok (by simpa using hd : inB d 0 b.last = true)
  have hpl : place (table b d) n < (table b d).length := by
    have hl := (table_ok hok d).1
    rcases Nat.eq_zero_or_pos (table b d).length with h | h
    · have e : table b d = [] := List.eq_nil_of_length_eq_zero h
      rw [e] at hp
      exact absurd (show (-1 : Int) < 0 by decide) hp
    · have := indexFrom_lt (q := fun t : Train => decide (t.number = n)) (l := table b d) (i := 0) (by omega)
      unfold place
      omega
  have ht := (table_ok hok d).2 ((table b d).getD (place (table b d) n).toNat default) (by rw [List.getD_eq_getElem?_getD, List.getElem?_eq_getElem (by omega)]; exact List.getElem_mem _)
  refine ⟨by dsimp only; rw [calls_len]; exact ht.len.2, calls_bd hb.zones ht (by omega)⟩
end Go.Proofs.Ytlcgliadpalgfaa.Vm

/- Contracts: rides. -/
namespace Go.Proofs.Ytlcgliadpalgfaa.Vm
open Go Go.Proofs Sp
set_option maxRecDepth 100000
set_option maxHeartbeats 1600000

/-- At which call a station is, from one on. -/
def callAt (C : List Sp.Call) (st : Int) (k : Nat) : Int := indexFrom (fun c => decide (c.station = st)) k (C.drop k)

theorem c119 (t : Train) (day : Int) (C : List Sp.Call) (st : Int) (k : Nat) (hk : k ≤ C.length) (hl : C.length ≤ 1000) : SC (fun _ => Try.prog) 119 [runV t day C, .int .i64 fun _ => st, .int .i64 fun _ => (k : Int)] [] fun v h => v = .int .i64 (fun _ => callAt C st k) ∧ h = [] := by
  obtain ⟨nt, hnt⟩ := nth_ex
  refine con Try.func119 (body := bodyOf Try.f119) rfl (by decide +kernel) ?_
  unfold runV encTrain
  simp only [lst_nt hnt]
  (cbv; (try simp only [nc] at *); (try refine Chk.mk (okc) ?_))
  refine loopS false false [] [1, 3, 7] [] (fun (i : Nat) => [(7, .int .i64 fun _ => i)]) (fun _ => []) (fun i => i ≤ C.length ∧ callAt C st k = indexFrom (fun c => decide (c.station = st)) i (C.drop i)) (fun i => C.length - i + 0) k ⟨hk, rfl⟩ ?_ ?_
  · (refine To.of [] ?_; cbv; (try simp only [nc]); (repeat' (first | exact trivial | exact WkN.refl _ | exact WkB.refl _ | refine ⟨?_, ?_⟩ | refine WkB.cells ?_ | refine WkN.agg ?_ | refine WkN.tup ?_)); (all_goals (first | exact okt | skip)))
  rintro i ⟨hi, hp⟩
  (cbv; (try simp only [nc] at *); (try refine Chk.mk (okc) ?_))
  refine ⟨fun hb => ?_, fun hb => ?_⟩
  · simp only [decide_eq_true_eq] at hb
    have hd := nt_drop (d := default) hnt (l := C) (i := i) (by omega)
    rw [hd, indexFrom] at hp
    (cbv; (try simp only [nc] at *); (try refine Chk.mk (okc) ?_))
    refine ⟨fun hb => ?_, fun hb => ?_⟩
    · rw [if_pos (by simpa using hb)] at hp
      rw [hp]
      (cbv; (try simp only [nc] at *); (try refine Chk.mk (okc) ?_))
      (try first | exact ⟨rfl, trivial⟩ | exact ⟨trivial, trivial⟩)
    · rw [if_neg (by simpa using hb)] at hp
      (cbv; (try simp only [nc] at *); (try refine Chk.mk (okc) ?_))
      refine ⟨i + 1, ⟨by omega, hp⟩, by show C.length - (i + 1) + 0 < C.length - i + 0; omega, ?_⟩
      (refine To.of [] ?_; cbv; (try simp only [nc]); (repeat' (first | exact trivial | exact WkN.refl _ | exact WkB.refl _ | refine ⟨?_, ?_⟩ | refine WkB.cells ?_ | refine WkN.agg ?_ | refine WkN.tup ?_)); (all_goals (first | exact okt | skip)))
  · simp only [decide_eq_false_iff_not] at hb
    rw [List.drop_eq_nil_of_le (by omega), indexFrom] at hp
    rw [hp]
    (cbv; (try simp only [nc] at *); (try refine Chk.mk (okc) ?_))
    (try first | exact ⟨rfl, trivial⟩ | exact ⟨trivial, trivial⟩)

theorem callAt_lt {C : List Sp.Call} {st : Int} {k : Nat} (hk : k ≤ C.length) : (callAt C st k = -1 ∨ (k : Int) ≤ callAt C st k) ∧ callAt C st k < C.length := by
  unfold callAt
  have h : ∀ (l : List Sp.Call) (i : Int), (indexFrom (fun c : Sp.Call => decide (c.station = st)) i l = -1 ∨ i ≤ indexFrom (fun c : Sp.Call => decide (c.station = st)) i l) ∧ (indexFrom (fun c : Sp.Call => decide (c.station = st)) i l = -1 ∨ indexFrom (fun c : Sp.Call => decide (c.station = st)) i l < i + l.length) := by
    intro l
    induction l with
    | nil => intro i; exact ⟨.inl rfl, .inl rfl⟩
    | cons a l ih =>
      intro i
      unfold indexFrom
      split
      · simp
        omega
      · have := ih (i + 1)
        simp only [List.length_cons]
        omega
  have := h (C.drop k) k
  rw [List.length_drop] at this
  omega

def encRide (x : Sp.Ride) : List AV := [.int .i64 fun _ => x.day, .int .i64 fun _ => x.depart, .int .i64 fun _ => x.arrive]
def legA (g : Sp.Leg) : AV := .agg [.int .i64 fun _ => g.number, .int .i64 fun _ => g.from_, .int .i64 fun _ => g.to_]

/-- The ride by a leg that a run is; none if it does not serve it. -/
def rideOf (b : Book) (g : Sp.Leg) (x : Train × Int) : Option Sp.Ride :=
  if x.1.number ≠ g.number then none
  else if callAt (calls b.zones x.1 x.2) g.from_ 0 < 0 then none
  else if callAt (calls b.zones x.1 x.2) g.to_ ((callAt (calls b.zones x.1 x.2) g.from_ 0).toNat + 1) < 0 then none
  else some ⟨x.2, ((calls b.zones x.1 x.2).getD (callAt (calls b.zones x.1 x.2) g.from_ 0).toNat default).depart, ((calls b.zones x.1 x.2).getD (callAt (calls b.zones x.1 x.2) g.to_ ((callAt (calls b.zones x.1 x.2) g.from_ 0).toNat + 1)).toNat default).arrive⟩
def ridesL (b : Book) (g : Sp.Leg) (l : List (Train × Int)) : List Sp.Ride := l.filterMap (rideOf b g)
theorem ridesL_snoc (b : Book) (g : Sp.Leg) (l : List (Train × Int)) (x : Train × Int) : ridesL b g (l ++ [x]) = ridesL b g l ++ (match rideOf b g x with | some r => [r] | none => []) := by
  unfold ridesL
  rw [List.filterMap_append]
  congr 1
  cases h : rideOf b g x <;> simp [h]

theorem c93 (b : Book) (g : Sp.Leg) (hb : BookFit b) (hok : BookOk b) : SC (fun _ => Try.prog) 93 [bookA b, legA g] [] fun v h => v = .gsl 0 (fun _ => ((ridesL b g (runsTo b (b.last + 1).toNat)).length : Int)) ∧ h = [.gar 3 (fun _ => ((ridesL b g (runsTo b (b.last + 1).toNat)).length : Int)) (lstR encRide default (ridesL b g (runsTo b (b.last + 1).toNat)))] := by
  obtain ⟨nt, hnt⟩ := nth_ex
  have k86 := c86 b
  refine SC.less (conX true false [] Try.func93 (body := bodyOf Try.f93) rfl (by decide +kernel) ?_)
  unfold bookA bookI legA at *
  (cbv; (try simp only [nc] at *); (try refine Chk.mk (okc) ?_))
  refine call0 (k86) (by first | rfl | (simp only [zoneA, bookA, lst_nt hnt]; rfl)) fun r h₂ hp => ?_
  (try simp only [zoneA, bookA, lst_nt hnt] at hp)
  obtain ⟨rfl, rfl⟩ := hp
  (cbv; (try simp only [nc] at *); (try refine Chk.mk (okc) ?_))
  refine rangeT [3, 5, 10] [.gar 3 (fun _ => 0) (fun e => encRide (nt Sp.Ride default [] (e ())))] [(2, .cells [.gsl 3 (fun _ => 0)])] (fid := 117) (first := []) ?_ rfl ?_ ?_
  · (refine To.of [(3,true)] ?_; cbv; (try simp only [nc]); (repeat' (first | exact trivial | exact WkN.refl _ | exact WkB.refl _ | refine ⟨?_, ?_⟩ | refine WkB.cells ?_ | refine WkN.agg ?_ | refine WkN.tup ?_)); (all_goals (first | exact okt | skip)))
    exact .gar rfl (fun i hi => absurd hi (by show ¬ ((i : Int) < 0); omega))
  · exact allc_nil
  have k117 := fun s ps a x => c117_4 b (by have := hok.last; omega) hok s ps a x (fun _ => .cells (bookC b)) (fun _ => .cells [.int .i64 fun _ => g.number, .int .i64 fun _ => g.from_, .int .i64 fun _ => g.to_]) (fun acc => .cells [.gsl 3 (fun _ => ((ridesL b g acc).length : Int))]) (fun acc => .gar 3 (fun _ => ((ridesL b g acc).length : Int)) (fun e => encRide (nt Sp.Ride default (ridesL b g acc) (e ()))))
  unfold bookI bookC at k117
  simp only [lst_nt hnt] at k117
  simp only [lstR_nt hnt]
  refine SC.mono (k117 _ _ _ _ ?_ ?_ ?_) ?_
  · intro acc; cbv
  · intro acc t; cbv
  · intro acc t day ha hm hs hd
    have hlen : 2 ≤ (calls b.zones t day).length := by rw [calls_len]; exact (tabOk hok hm).len.1
    have hlen4 : (calls b.zones t day).length ≤ 4 := by rw [calls_len]; exact (tabOk hok hm).len.2
    simp only [ridesL_snoc]
    generalize hr : rideOf b g (t, day) = rd at *
    unfold rideOf at hr
    dsimp only at hr
    have hO : (ridesL b g acc).length ≤ 1000 := Nat.le_trans (List.length_filterMap_le _ _) ha
    generalize ridesL b g acc = O at *
    generalize calls b.zones t day = C at *
    have k0 := c119 t day C g.from_ 0 (by omega) (by omega)
    have k1 := fun k hk => c119 t day C g.to_ k hk (by omega)
    have b0 := callAt_lt (C := C) (st := g.from_) (k := 0) (by omega)
    have b1 := fun k hk => callAt_lt (C := C) (st := g.to_) (k := k) hk
    unfold runV encTrain at *
    simp only [lst_nt hnt] at *
    refine YC.less (yieldR false false [] rfl rfl ?_)
    (cbv; (try simp only [nc] at *); (try refine Chk.mk (okc) ?_))
    refine ⟨fun h1 => ?_, fun h1 => ?_⟩
    · have h1' : t.number ≠ g.number := by simpa using h1
      rw [if_pos h1'] at hr
      rw [← hr]
      (cbv; (try simp only [nc] at *); (try refine Chk.mk (okc) ?_))
      refine ⟨_, _, ?_, rfl, rfl⟩
      simp only [List.append_nil]
      (refine To.of [] ?_; cbv; (try simp only [nc]); (repeat' (first | exact trivial | exact WkN.refl _ | exact WkB.refl _ | refine ⟨?_, ?_⟩ | refine WkB.cells ?_ | refine WkN.agg ?_ | refine WkN.tup ?_)); (all_goals (first | exact okt | skip)))
    have h1' : ¬ t.number ≠ g.number := by simpa using h1
    rw [if_neg h1'] at hr
    (cbv; (try simp only [nc] at *); (try refine Chk.mk (okc) ?_))
    refine call0 (k0) (by first | rfl | (simp only [zoneA, bookA, lst_nt hnt]; rfl)) fun r h₂ hp => ?_
    (try simp only [zoneA, bookA, lst_nt hnt] at hp)
    obtain ⟨rfl, rfl⟩ := hp
    generalize hf : callAt C g.from_ 0 = f at *
    (cbv; (try simp only [nc] at *); (try refine Chk.mk (okc) ?_))
    refine ⟨fun h2 => ?_, fun h2 => ?_⟩
    rotate_left
    · have h2' : f < 0 := by simpa using h2
      rw [if_pos h2'] at hr
      rw [← hr]
      (cbv; (try simp only [nc] at *); (try refine Chk.mk (okc) ?_))
      refine ⟨_, _, ?_, rfl, rfl⟩
      simp only [List.append_nil]
      (refine To.of [] ?_; cbv; (try simp only [nc]); (repeat' (first | exact trivial | exact WkN.refl _ | exact WkB.refl _ | refine ⟨?_, ?_⟩ | refine WkB.cells ?_ | refine WkN.agg ?_ | refine WkN.tup ?_)); (all_goals (first | exact okt | skip)))
    have h2' : ¬ f < 0 := by simpa using h2
    rw [if_neg h2'] at hr
    (cbv; try simp only [nc] at *)
    obtain ⟨f, rfl⟩ : ∃ k : Nat, f = k := ⟨f.toNat, by omega⟩
    rw [Int.toNat_natCast] at hr
    have k1 := k1 (f + 1) (by omega)
    have b1 := b1 (f + 1) (by omega)
    (cbv; (try simp only [nc] at *); (try refine Chk.mk (okc) ?_))
    refine call0 (k1) (by first | rfl | (simp only [zoneA, bookA, lst_nt hnt]; rfl)) fun r h₂ hp => ?_
    (try simp only [zoneA, bookA, lst_nt hnt] at hp)
    obtain ⟨rfl, rfl⟩ := hp
    generalize hm2 : callAt C g.to_ (f + 1) = m at *
    (cbv; (try simp only [nc] at *); (try refine Chk.mk (okc) ?_))
    refine ⟨fun h3 => ?_, fun h3 => ?_⟩
    rotate_left
    · have h3' : m < 0 := by simpa using h3
      rw [if_pos h3'] at hr
      rw [← hr]
      (cbv; (try simp only [nc] at *); (try refine Chk.mk (okc) ?_))
      refine ⟨_, _, ?_, rfl, rfl⟩
      simp only [List.append_nil]
      (refine To.of [] ?_; cbv; (try simp only [nc]); (repeat' (first | exact trivial | exact WkN.refl _ | exact WkB.refl _ | refine ⟨?_, ?_⟩ | refine WkB.cells ?_ | refine WkN.agg ?_ | refine WkN.tup ?_)); (all_goals (first | exact okt | skip)))
    have h3' : ¬ m < 0 := by simpa using h3
    rw [if_neg h3'] at hr
    (cbv; try simp only [nc] at *)
    obtain ⟨m, rfl⟩ : ∃ k : Nat, m = k := ⟨m.toNat, by omega⟩
    have e1 : C.getD ((f : Nat) : Int).toNat default = nt Sp.Call default C (f : Int) := by rw [hnt]
    have e2 : C.getD ((m : Nat) : Int).toNat default = nt Sp.Call default C (m : Int) := by rw [hnt]
    rw [Int.toNat_natCast] at e1
    rw [e1, e2] at hr
    rw [← hr]
    (cbv; (try simp only [nc] at *); (try refine Chk.mk (okc) ?_))
    refine ⟨_, _, ?_, rfl, rfl⟩
    (refine To.of [] ?_; cbv; (try simp only [nc]); (repeat' (first | exact trivial | exact WkN.refl _ | exact WkB.refl _ | refine ⟨?_, ?_⟩ | refine WkB.cells ?_ | refine WkN.agg ?_ | refine WkN.tup ?_)); (all_goals (first | exact okt | skip)))
  · intro r h hh
    subst hh
    (cbv; (try simp only [nc] at *); (try refine Chk.mk (okc) ?_))
    refine ⟨_, _, ?_, rfl, rfl⟩
    (refine To.of [] ?_; cbv; (try simp only [nc]); (repeat' (first | exact trivial | exact WkN.refl _ | exact WkB.refl _ | refine ⟨?_, ?_⟩ | refine WkB.cells ?_ | refine WkN.agg ?_ | refine WkN.tup ?_)); (all_goals (first | exact okt | skip)))
end Go.Proofs.Ytlcgliadpalgfaa.Vm

/- The abstract machine: an array that may grow is frozen. -/
namespace Go.Proofs.Ytlcgliadpalgfaa.Vm
open Go Go.Proofs

theorem To.freeze {s : List AV} {h : List Blk} {id sz : Nat} {n : Unit → Int} {f : (Unit → Int) → List AV} (hid : h[id]? = some (.gar sz n f)) : To s h s (h.set id (.fro sz n f)) := fun G R t H hs => by
  have hlt := (List.getElem?_eq_some_iff.1 hid).1
  let R' : RC := { R with ok := fun b o k => b < R.w.heap.size ∧ G b o k ∧ Avoid R (h.set id (.fro sz n f)) b o k }
  have hget : ∀ {j x}, (h.set id (.fro sz n f))[j]? = some x → (j = id ∧ x = .fro sz n f) ∨ (j ≠ id ∧ h[j]? = some x) := fun {j x} hx => by
    rw [List.getElem?_set] at hx
    split at hx
    · rename_i e
      simp only [Option.some.injEq] at hx
      exact .inl ⟨e.symm, hx.symm⟩
    · rename_i e
      exact .inr ⟨fun e' => e e'.symm, hx⟩
  have hok : ∀ b o k, R.ok b o k → R'.ok b o k := fun b o k hk => by
    obtain ⟨h1, h2, h3⟩ := (H.okd _ _ _).1 hk
    refine ⟨h1, h2, fun j x hx => ?_⟩
    rcases hget hx with ⟨rfl, rfl⟩ | ⟨hne, hx⟩
    · exact fun h => h
    · exact h3 j x hx
  have hle : R.le R' := ⟨Nat.le_refl _, fun _ _ => rfl, fun _ _ => ⟨Int.le_refl _, fun _ => rfl⟩, fun _ _ => .refl _, hok, fun _ _ _ _ _ _ => rfl⟩
  have hph : ∀ {j x b}, (h.set id (.fro sz n f))[j]? = some x → Phys R' j x b → j ≠ id ∧ h[j]? = some x ∧ Phys R j x b := fun {j x b} hx hp => by
    rcases hget hx with ⟨rfl, rfl⟩ | ⟨hne, hx⟩
    · exact hp.elim
    · exact ⟨hne, hx, (Phys.congr (R := R) rfl rfl).1 hp⟩
  refine ⟨R', rfl, ⟨?_, fun _ _ _ => Iff.rfl, fun j x hx => ?_, fun i j bi bj b hij hi hj hp hp' => ?_, H.cl, H.fresh, fun j x b hx hk hp o k => ?_, H.n0m⟩, ⟨rfl, rfl, rfl, rfl, Nat.le_refl _, Nat.le_refl _, fun _ _ => rfl, hok, fun _ _ _ _ _ _ => rfl, fun _ _ _ => rfl, fun j x b hx hp => ?_⟩, hle, hs.mono hle⟩
  · rw [List.length_set]; exact H.len
  · rcases hget hx with ⟨rfl, rfl⟩ | ⟨hne, hx⟩
    · obtain ⟨e1, e2⟩ := H.blk _ _ hid
      refine ⟨e1, ?_⟩
      rcases e2 with ⟨h0, a0, h1⟩ | ⟨b, o, len, cap, arr, ty, a1, a2, a3, a4, a5, a6⟩
      · show PR R'.w R'.ok _ (R.hv _)
        rw [h1]
        cases a0 with
        | none => exact .isl0 _ _ _ _ h0 (fun _ h => by cases h)
        | some a0 => exact .islE _ _ _ _ a0 h0 (.inl rfl)
      · show PR R'.w R'.ok _ (R.hv _)
        rw [a3]
        rcases Nat.eq_zero_or_pos cap with hc0 | hc0
        · rw [hc0, show len = 0 by omega]
          exact .islE _ _ _ _ ⟨b, o, none⟩ (by omega) (.inl rfl)
        have hmul : len * sz ≤ cap * sz := Nat.mul_le_mul_right _ a2
        have hb : Phys R j (.gar sz n f) b := ⟨_, _, _, a3, hc0, rfl⟩
        refine .isl _ _ _ _ b o len cap (fun i j => arr.getD (o + i * sz + j) undef) a1 a2 (.inl rfl) (fun h => by cases h) (fun i hi => (a6 i hi).1) (fun i j c hi hj => ?_) (fun i j c hi hj => ?_) ?_
        · have hjs : j < sz := by rw [← (a6 i hi).1]; exact (List.getElem?_eq_some_iff.1 hj).1
          have : (i + 1) * sz ≤ len * sz := Nat.mul_le_mul_right _ hi
          rw [Nat.succ_mul] at this
          exact cell_of_heap (w := R.w) a4 (by omega)
        · exact ((a6 i hi).2 j c hj).mono hok (fun _ _ _ _ _ _ => rfl)
        · refine ⟨H.phys_lt hid hb, H.tokG _ _ _ hid rfl hb _ _, fun i x hx => ?_⟩
          rcases hget hx with ⟨rfl, rfl⟩ | ⟨hne, hx⟩
          · exact fun h => h
          · exact avoid_of_not fun hp => H.dis _ _ _ _ b (fun e => hne e.symm) hid hx hb hp
    · exact (H.blk j x hx).mono hle rfl rfl rfl rfl (fun _ _ => rfl)
  · obtain ⟨_, hx, hp⟩ := hph hi hp
    obtain ⟨_, hx', hp'⟩ := hph hj hp'
    exact H.dis i j bi bj b hij hx hx' hp hp'
  · obtain ⟨_, hx, hp⟩ := hph hx hp
    exact H.tokG j x b hx hk hp o k
  · obtain ⟨_, hx, hp⟩ := hph hx hp
    exact .inr ⟨j, x, hx, hp, .inl rfl⟩

/-- The same, and slices of it are immutable ones. -/
theorem To.froze {s : List AV} {h : List Blk} {id sz : Nat} {n : Unit → Int} {f : (Unit → Int) → List AV} (hid : h[id]? = some (.gar sz n f)) : To s h (s.map (rsv (h.set id (.fro sz n f)))) (h.set id (.fro sz n f)) := fun G R t H hs => by
  obtain ⟨R', a1, a2, a3, a4, a5⟩ := To.freeze (s := s) hid G R t H hs
  have := SL.rsv a2 a5 { tb with rs := true }
  exact ⟨R', a1, a2, a3, a4, this⟩
end Go.Proofs.Ytlcgliadpalgfaa.Vm

/- Contracts: trips. -/
namespace Go.Proofs.Ytlcgliadpalgfaa.Vm
open Go Go.Proofs Sp
set_option maxRecDepth 100000
set_option maxHeartbeats 1600000

theorem c107 (x : Sp.Ride) (a : Int) : SC (fun _ => Try.prog) 107 [.agg (encRide x), .ptr 0 0] [.cells [.int .i64 fun _ => a]] fun v h => v = .bool (fun _ => decide (x.depart < a)) ∧ h = [.cells [.int .i64 fun _ => a]] := by
  refine con Try.func107 (body := bodyOf Try.f107) rfl (by decide +kernel) ?_
  (cbv; (try simp only [nc] at *); (try refine Chk.mk (okc) ?_))
  (try first | exact ⟨rfl, trivial⟩ | exact ⟨trivial, trivial⟩)
theorem c109 (x : Sp.Ride) : SC (fun _ => Try.prog) 109 [.agg (encRide x)] [] fun v h => v = .int .i64 (fun _ => x.depart) ∧ h = [] := by
  refine con Try.func109 (body := bodyOf Try.f109) rfl (by decide +kernel) ?_
  (cbv; (try simp only [nc] at *); (try refine Chk.mk (okc) ?_))
  (try first | exact ⟨rfl, trivial⟩ | exact ⟨trivial, trivial⟩)

theorem c120 (l : List Sp.Ride) (a c : Int) (hl : l.length ≤ 1000) : SC (fun _ => Try.prog) 120 [.msl 0 3 (fun _ => 0) (fun _ => (l.length : Int)) (fun _ => c), .fn 107 [] [.ptr 1 0]] [.arr 3 (fun _ => (l.length : Int)) (lstR encRide default l), .cells [.int .i64 fun _ => a]]
    fun v h => v = .int .i64 (fun _ => indexFrom (fun x => decide (x.depart < a)) 0 l) ∧ h = [.arr 3 (fun _ => (l.length : Int)) (lstR encRide default l), .cells [.int .i64 fun _ => a]] := by
  obtain ⟨nt, hnt⟩ := nth_ex
  refine con Try.func120 (body := bodyOf Try.f120) rfl (by decide +kernel) ?_
  simp only [lstR_nt hnt]
  (cbv; (try simp only [nc] at *); (try refine Chk.mk (okc) ?_))
  refine loopS false false [] [0, 1, 7, 8] [] (fun (i : Nat) => [(8, .int .i64 fun _ => i)]) (fun _ => []) (fun i => i ≤ l.length ∧ indexFrom (fun x : Sp.Ride => decide (x.depart < a)) 0 l = indexFrom (fun x => decide (x.depart < a)) i (l.drop i)) (fun i => l.length - i + 0) 0 ⟨Nat.zero_le _, by simp⟩ ?_ ?_
  · (refine To.of [] ?_; cbv; (try simp only [nc]); (repeat' (first | exact trivial | exact WkN.refl _ | exact WkB.refl _ | refine ⟨?_, ?_⟩ | refine WkB.cells ?_ | refine WkN.agg ?_ | refine WkN.tup ?_)); (all_goals (first | exact okt | skip)))
  rintro i ⟨hi, hp⟩
  (cbv; (try simp only [nc] at *); (try refine Chk.mk (okc) ?_))
  refine ⟨fun hb => ?_, fun hb => ?_⟩
  · simp only [decide_eq_true_eq] at hb
    have hd := nt_drop (d := default) hnt (l := l) (i := i) (by omega)
    rw [hd, indexFrom] at hp
    have k := c107 (nt Sp.Ride default l (i : Int)) a
    (cbv; (try simp only [nc] at *); (try refine Chk.mk (okc) ?_))
    simp only [Int.zero_add]
    refine callL [1] (k) (by decide) (by simp) (by first | rfl | (simp only [zoneA, bookA, lst_nt hnt]; rfl)) (by first | rfl | (simp only [zoneA, bookA, lst_nt hnt]; rfl)) fun r h₂ hp => ?_
    (try simp only [zoneA, bookA, lst_nt hnt] at hp)
    obtain ⟨rfl, rfl⟩ := hp
    (cbv; (try simp only [nc] at *); (try refine Chk.mk (okc) ?_))
    refine ⟨fun hb => ?_, fun hb => ?_⟩
    · rw [if_pos (by simpa using hb)] at hp
      rw [hp]
      (cbv; (try simp only [nc] at *); (try refine Chk.mk (okc) ?_))
    · rw [if_neg (by simpa using hb)] at hp
      (cbv; (try simp only [nc] at *); (try refine Chk.mk (okc) ?_))
      refine ⟨i + 1, ⟨by omega, hp⟩, by show l.length - (i + 1) + 0 < l.length - i + 0; omega, ?_⟩
      (refine To.of [] ?_; cbv; (try simp only [nc]); (repeat' (first | exact trivial | exact WkN.refl _ | exact WkB.refl _ | refine ⟨?_, ?_⟩ | refine WkB.cells ?_ | refine WkN.agg ?_ | refine WkN.tup ?_)); (all_goals (first | exact okt | skip)))
  · simp only [decide_eq_false_iff_not] at hb
    rw [List.drop_eq_nil_of_le (by omega), indexFrom] at hp
    rw [hp]
    (cbv; (try simp only [nc] at *); (try refine Chk.mk (okc) ?_))

theorem set_nt {nt : (α : Type) → α → List α → Int → α} (hnt : ∀ (α : Type) (d : α) (l : List α) (i : Int), nt α d l i = l.getD i.toNat d) {α : Type} {d : α} {L : List α} {i x : Nat} {v : α} (hi : i < L.length) : nt α d (L.set i v) (x : Int) = if (x : Int) = i then v else nt α d L (x : Int) := by
  rw [hnt, hnt]
  simp only [Int.toNat_natCast, List.getD_eq_getElem?_getD, List.getElem?_set]
  by_cases h : i = x
  · subst h
    simp [hi]
  · rw [if_neg h, if_neg (by omega)]

theorem set_take {α : Type} {E : List α} {i : Nat} {x : α} (hi : i < E.length) : (E.set i x).take (i + 1) = E.take i ++ [x] := by
  rw [List.take_succ_eq_append_getElem (by simpa using hi)]
  simp [List.take_set_of_le]

/-- What is left of rides when those ahead of an instant go. -/
def since (a : Int) (l : List Sp.Ride) : List Sp.Ride := l.filter fun x => !decide (x.depart < a)

theorem indexFrom_none {α : Type} {q : α → Bool} : ∀ {l : List α} {k : Int}, 0 ≤ k → indexFrom q k l = -1 → ∀ x ∈ l, q x = false
  | [], _, _, _, x, hx => by cases hx
  | a :: l, k, hk, h, x, hx => by
    unfold indexFrom at h
    split at h
    · omega
    · rename_i hq
      rcases List.mem_cons.1 hx with rfl | hx
      · simpa using hq
      · exact indexFrom_none (by omega) h x hx
theorem indexFrom_some {α : Type} {q : α → Bool} : ∀ {l : List α} {k i : Nat}, indexFrom q k l = i → k ≤ i ∧ i - k < l.length ∧ (∀ x ∈ l.take (i - k), q x = false) ∧ ∀ x, l[i - k]? = some x → q x = true
  | [], k, i, h => by unfold indexFrom at h; omega
  | a :: l, k, i, h => by
    unfold indexFrom at h
    split at h
    · rename_i hq
      have : i = k := by omega
      subst this
      simp only [Nat.sub_self]
      exact ⟨Nat.le_refl _, by simp, (fun x hx => by simp at hx), fun x hx => by simp at hx; subst hx; exact hq⟩
    · rename_i hq
      obtain ⟨h1, h2, h3, h4⟩ := indexFrom_some (l := l) (k := k + 1) (i := i) (by simpa using h)
      have e : i - k = (i - (k + 1)) + 1 := by omega
      rw [e]
      refine ⟨by omega, by simp; omega, fun x hx => ?_, fun x hx => h4 x (by simpa using hx)⟩
      simp only [List.take_succ_cons, List.mem_cons] at hx
      rcases hx with rfl | hx
      · simpa using hq
      · exact h3 x hx

theorem c106m (l : List Sp.Ride) (a c : Int) (hc : (l.length : Int) ≤ c) (hl : l.length ≤ 1000) : SC (fun _ => Try.prog) 106 [.msl 0 3 (fun _ => 0) (fun _ => (l.length : Int)) (fun _ => c), .fn 107 [] [.ptr 1 0]] [.arr 3 (fun _ => (l.length : Int)) (lstR encRide default l), .cells [.int .i64 fun _ => a]]
    fun v h => ∃ E : List Sp.Ride, E.length = l.length ∧ E.take (since a l).length = since a l ∧ v = .msl 0 3 (fun _ => 0) (fun _ => ((since a l).length : Int)) (fun _ => c) ∧ h = [.arr 3 (fun _ => (l.length : Int)) (lstR encRide default E), .cells [.int .i64 fun _ => a]] := by
  obtain ⟨nt, hnt⟩ := nth_ex
  have k120 := c120 l a c hl
  refine SC.less (con Try.func106 (body := bodyOf Try.f106) rfl (by decide +kernel) ?_)
  simp only [lstR_nt hnt] at *
  (cbv; (try simp only [nc] at *); (try refine Chk.mk (okc) ?_))
  refine callL [0, 1] (k120) (by decide) (by simp) (by first | rfl | (simp only [zoneA, bookA, lst_nt hnt]; rfl)) (by first | rfl | (simp only [zoneA, bookA, lst_nt hnt]; rfl)) fun r h₂ hp => ?_
  (try simp only [zoneA, bookA, lst_nt hnt] at hp)
  obtain ⟨rfl, rfl⟩ := hp
  generalize hI : indexFrom (fun x : Sp.Ride => decide (x.depart < a)) 0 l = I at *
  have hI2 : I = -1 ∨ (0 ≤ I ∧ I < l.length) := by
    rw [← hI]
    rcases Nat.eq_zero_or_pos l.length with h | h
    · rw [List.eq_nil_of_length_eq_zero h]; exact .inl rfl
    · have := indexFrom_lt (q := fun x : Sp.Ride => decide (x.depart < a)) (l := l) (i := 0) (by omega)
      omega
  (cbv; (try simp only [nc] at *); (try refine Chk.mk (okc) ?_))
  refine ⟨fun hb => ?_, fun hb => ?_⟩
  · simp only [beq_iff_eq] at hb
    have hall := indexFrom_none (by omega) (hI.trans hb)
    have hs : since a l = l := List.filter_eq_self.2 fun x hx => by rw [hall x hx]; rfl
    rw [hs]
    (cbv; (try simp only [nc] at *); (try refine Chk.mk (okc) ?_))
    refine ⟨_, _, ?_, l, rfl, List.take_length .., rfl, rfl⟩
    (refine To.of [] ?_; cbv; (try simp only [nc]); (repeat' (first | exact trivial | exact WkN.refl _ | exact WkB.refl _ | refine ⟨?_, ?_⟩ | refine WkB.cells ?_ | refine WkN.agg ?_ | refine WkN.tup ?_)); (all_goals (first | exact okt | skip)))
  · have hb' : I ≠ -1 := by simpa using hb
    (cbv; (try simp only [nc] at *); (try refine Chk.mk (okc) ?_))
    obtain ⟨i0, rfl⟩ : ∃ k : Nat, I = k := ⟨I.toNat, by omega⟩
    obtain ⟨_, g1, g2, g3⟩ := indexFrom_some (k := 0) hI
    refine loopS false false [] [0, 1, 5, 6] [] (fun (⟨i, j, E⟩ : Nat × Nat × List Sp.Ride) => [(5, .int .i64 fun _ => i), (6, .int .i64 fun _ => j)]) (fun ⟨i, j, E⟩ => [(0, .arr 3 (fun _ => (l.length : Int)) (fun e => encRide (nt Sp.Ride default E (e ()))))])
      (fun ⟨i, j, E⟩ => i < j ∧ j ≤ l.length ∧ E.length = l.length ∧ E.take i = since a (l.take j) ∧ E.drop j = l.drop j ∧ i = (since a (l.take j)).length) (fun i => l.length - i.2.1 + 0) (i0, i0 + 1, l) ?_ ?_ ?_
    · have hx : l[i0]? = some (nt Sp.Ride default l (i0 : Int)) := by
        rw [hnt, Int.toNat_natCast, List.getD_eq_getElem?_getD, List.getElem?_eq_getElem (by omega)]; rfl
      have hs : since a (l.take (i0 + 1)) = l.take i0 := by
        rw [nt_take (d := default) hnt (by omega : i0 < l.length)]
        unfold since
        rw [List.filter_append, List.filter_eq_self.2 fun x hx => by rw [g2 x hx]; rfl]
        have := g3 _ hx
        simp only [List.filter, this, Bool.not_true, List.append_nil]
      refine ⟨by omega, by omega, rfl, hs.symm, rfl, ?_⟩
      rw [hs, List.length_take]
      omega
    · (refine To.of [] ?_; cbv; (try simp only [nc]); (repeat' (first | exact trivial | exact WkN.refl _ | exact WkB.refl _ | refine ⟨?_, ?_⟩ | refine WkB.cells ?_ | refine WkN.agg ?_ | refine WkN.tup ?_)); (all_goals (first | exact okt | skip)))
    rintro ⟨i, j, E⟩ ⟨h1, h2, h3, h4, h5, h6⟩
    (cbv; (try simp only [nc] at *); (try refine Chk.mk (okc) ?_))
    refine ⟨fun hb => ?_, fun hb => ?_⟩
    · simp only [decide_eq_true_eq] at hb
      have hej : nt Sp.Ride default E (j : Int) = nt Sp.Ride default l (j : Int) := by
        have e : (E.drop j).getD 0 default = (l.drop j).getD 0 default := by rw [h5]
        rw [hnt, hnt, Int.toNat_natCast]
        simpa [List.getD_eq_getElem?_getD, List.getElem?_drop] using e
      have hd5 : E.drop (j + 1) = l.drop (j + 1) := by rw [← List.drop_drop, ← List.drop_drop, h5]
      have hsn : since a (l.take (j + 1)) = since a (l.take j) ++ (if decide ((nt Sp.Ride default l (j : Int)).depart < a) = false then [nt Sp.Ride default l (j : Int)] else []) := by
        rw [nt_take (d := default) hnt (by omega : j < l.length)]
        unfold since
        rw [List.filter_append]
        congr 1
        cases h : decide ((nt Sp.Ride default l (j : Int)).depart < a)
        · simp only [List.filter, h, Bool.not_false, if_true]
        · simp only [List.filter, h, Bool.not_true, Bool.true_eq_false, if_false]
      have k := c107 (nt Sp.Ride default l (j : Int)) a
      (cbv; (try simp only [nc] at *); (try refine Chk.mk (okc) ?_))
      simp only [Int.zero_add, hej]
      refine callL [1] (k) (by decide) (by simp) (by first | rfl | (simp only [zoneA, bookA, lst_nt hnt]; rfl)) (by first | rfl | (simp only [zoneA, bookA, lst_nt hnt]; rfl)) fun r h₂ hp => ?_
      (try simp only [zoneA, bookA, lst_nt hnt] at hp)
      obtain ⟨rfl, rfl⟩ := hp
      generalize hx : nt Sp.Ride default l (j : Int) = x at *
      (cbv; (try simp only [nc] at *); (try refine Chk.mk (okc) ?_))
      refine ⟨fun hq => ?_, fun hq => ?_⟩
      · have hq' : decide (x.depart < a) = false := by simpa using hq
        rw [hq', if_pos rfl] at hsn
        (cbv; (try simp only [nc] at *); (try refine Chk.mk (okc) ?_))
        refine ⟨(i + 1, j + 1, E.set i x), ⟨by show i + 1 < j + 1; omega, by show j + 1 ≤ l.length; omega, by simpa using h3, ?_, ?_, ?_⟩, by show l.length - (j + 1) + 0 < l.length - j + 0; omega, ?_⟩
        · show (E.set i x).take (i + 1) = since a (l.take (j + 1))
          rw [hsn, ← h4]
          exact set_take (by omega)
        · show (E.set i x).drop (j + 1) = l.drop (j + 1)
          rw [← hd5]
          exact List.drop_set_of_lt (by omega)
        · show i + 1 = (since a (l.take (j + 1))).length
          rw [hsn, List.length_append, ← h6]
          rfl
        · (refine To.of [] ?_; cbv; (try simp only [nc]); (repeat' (first | exact trivial | exact WkN.refl _ | exact WkB.refl _ | refine ⟨?_, ?_⟩ | refine WkB.cells ?_ | refine WkN.agg ?_ | refine WkN.tup ?_)); (all_goals (first | exact okt | skip)))
          refine .arr rfl fun y hy => ?_
          cbv
          simp only [nc, Int.zero_add]
          have e := set_nt hnt (d := default) (x := y) (v := x) (by omega : i < E.length)
          by_cases hyi : (y : Int) = i
          · rw [if_pos hyi] at e
            rw [e, hyi, decide_eq_true rfl]
            rfl
          · rw [if_neg hyi] at e
            rw [e, decide_eq_false hyi]
            rfl
      · have hq' : decide (x.depart < a) = true := by simpa using hq
        rw [hq', if_neg (by simp), List.append_nil] at hsn
        (cbv; (try simp only [nc] at *); (try refine Chk.mk (okc) ?_))
        refine ⟨(i, j + 1, E), ⟨by show i < j + 1; omega, by show j + 1 ≤ l.length; omega, h3, by rw [hsn]; exact h4, hd5, by rw [hsn]; exact h6⟩, by show l.length - (j + 1) + 0 < l.length - j + 0; omega, ?_⟩
        (refine To.of [] ?_; cbv; (try simp only [nc]); (repeat' (first | exact trivial | exact WkN.refl _ | exact WkB.refl _ | refine ⟨?_, ?_⟩ | refine WkB.cells ?_ | refine WkN.agg ?_ | refine WkN.tup ?_)); (all_goals (first | exact okt | skip)))
    · have hj : j = l.length := by simp only [decide_eq_false_iff_not] at hb; omega
      subst hj
      rw [List.take_length] at h4 h6
      rw [← h6]
      (cbv; (try simp only [nc] at *); (try refine Chk.mk (okc) ?_))
      refine ⟨.msl 0 3 (fun _ => 0) (fun _ => (i : Int)) (fun _ => c), [.arr 3 (fun _ => (l.length : Int)) fun e => encRide (nt Sp.Ride default ((List.range l.length).map fun k => bif decide (i ≤ k) then (⟨0, 0, 0⟩ : Sp.Ride) else nt Sp.Ride default E (k : Int)) (e ())), .cells [.int .i64 fun _ => a]], ?_, (List.range l.length).map fun k => bif decide (i ≤ k) then (⟨0, 0, 0⟩ : Sp.Ride) else nt Sp.Ride default E (k : Int), ?_, ?_, rfl, rfl⟩
      · (refine To.of [] ?_; cbv; (try simp only [nc]); (repeat' (first | exact trivial | exact WkN.refl _ | exact WkB.refl _ | refine ⟨?_, ?_⟩ | refine WkB.cells ?_ | refine WkN.agg ?_ | refine WkN.tup ?_)); (all_goals (first | exact okt | skip)))
        refine .arr rfl fun y hy => ?_
        have hy' : y < l.length := by have : (y : Int) < (l.length : Int) := hy; omega
        have e : nt Sp.Ride default ((List.range l.length).map fun k => bif decide (i ≤ k) then (⟨0, 0, 0⟩ : Sp.Ride) else nt Sp.Ride default E (k : Int)) (y : Int) = bif decide (i ≤ y) then (⟨0, 0, 0⟩ : Sp.Ride) else nt Sp.Ride default E (y : Int) := by
          rw [hnt, Int.toNat_natCast, List.getD_eq_getElem?_getD]
          simp [hy']
        cbv
        simp only [nc, Int.zero_add]
        rw [e]
        by_cases hyi : i ≤ y
        · rw [decide_eq_true hyi, decide_eq_true (by omega)]
          rfl
        · rw [decide_eq_false hyi, decide_eq_false (by omega)]
          rfl
      · simp
      · rw [← h4]
        refine List.ext_getElem (by simp; omega) fun k hk1 hk2 => ?_
        simp only [List.getElem_take, List.getElem_map, List.getElem_range]
        simp at hk1
        rw [decide_eq_false (by omega), hnt, Int.toNat_natCast, List.getD_eq_getElem?_getD, List.getElem?_eq_getElem (by omega)]
        rfl

theorem c120e (a : Int) (F : (Unit → Int) → List AV) : SC (fun _ => Try.prog) 120 [.isl 3 (fun _ => 0) F .none, .fn 107 [] [.ptr 0 0]] [.cells [.int .i64 fun _ => a]] fun v h => v = .int .i64 (fun _ => -1) ∧ h = [.cells [.int .i64 fun _ => a]] := by
  refine con Try.func120 (body := bodyOf Try.f120) rfl (by decide +kernel) ?_
  (cbv; (try simp only [nc] at *); (try refine Chk.mk (okc) ?_))
  refine loopS false false [] [0, 1, 7, 8] [] (fun (_ : Unit) => [(8, .int .i64 fun _ => 0)]) (fun _ => []) (fun _ => True) (fun _ => 0) () trivial ?_ ?_
  · (refine To.of [] ?_; cbv; (try simp only [nc]); (repeat' (first | exact trivial | exact WkN.refl _ | exact WkB.refl _ | refine ⟨?_, ?_⟩ | refine WkB.cells ?_ | refine WkN.agg ?_ | refine WkN.tup ?_)); (all_goals (first | exact okt | skip)))
  intro _ _
  (cbv; (try simp only [nc] at *); (try refine Chk.mk (okc) ?_))
  refine Br.isF rfl ?_
  (cbv; (try simp only [nc] at *); (try refine Chk.mk (okc) ?_))
  (try first | exact ⟨rfl, trivial⟩ | exact ⟨trivial, trivial⟩)
theorem c106e (a : Int) (F : (Unit → Int) → List AV) : SC (fun _ => Try.prog) 106 [.isl 3 (fun _ => 0) F .none, .fn 107 [] [.ptr 0 0]] [.cells [.int .i64 fun _ => a]] fun v h => v = .isl 3 (fun _ => 0) F .none ∧ h = [.cells [.int .i64 fun _ => a]] := by
  have k := c120e a F
  refine con Try.func106 (body := bodyOf Try.f106) rfl (by decide +kernel) ?_
  (cbv; (try simp only [nc] at *); (try refine Chk.mk (okc) ?_))
  refine callL [0] (k) (by decide) (by simp) (by first | rfl | (simp only [zoneA, bookA, lst_nt hnt]; rfl)) (by first | rfl | (simp only [zoneA, bookA, lst_nt hnt]; rfl)) fun r h₂ hp => ?_
  (try simp only [zoneA, bookA, lst_nt hnt] at hp)
  obtain ⟨rfl, rfl⟩ := hp
  (cbv; (try simp only [nc] at *); (try refine Chk.mk (okc) ?_))
  refine Br.isT rfl ?_
  (cbv; (try simp only [nc] at *); (try refine Chk.mk (okc) ?_))
  (try first | exact ⟨rfl, trivial⟩ | exact ⟨trivial, trivial⟩)

theorem c106 (l : List Sp.Ride) (a : Int) (hl : l.length ≤ 1000) : SC (fun _ => Try.prog) 106 [.gsl 0 (fun _ => (l.length : Int)), .fn 107 [] [.ptr 1 0]] [.gar 3 (fun _ => (l.length : Int)) (lstR encRide default l), .cells [.int .i64 fun _ => a]]
    fun v h => v = lst 3 encRide default (since a l) ∧ ∃ n F, h = [.fro 3 n F, .cells [.int .i64 fun _ => a]] := by
  obtain ⟨nt, hnt⟩ := nth_ex
  rcases Nat.eq_zero_or_pos l.length with h0 | h0
  · have e : l = [] := List.eq_nil_of_length_eq_zero h0
    subst e
    refine SC.to (To.froze (id := 0) rfl) ?_
    refine SC.to (xs₂ := [.isl 3 (fun _ => 0) (lstR encRide default []) .none, .fn 107 [] [.ptr 1 0]]) (h₂ := [.fro 3 (fun _ => 0) (lstR encRide default []), .cells [.int .i64 fun _ => a]]) ?_ ?_
    · (refine To.of [] ?_; cbv; (try simp only [nc]); (repeat' (first | exact trivial | exact WkN.refl _ | exact WkB.refl _ | refine ⟨?_, ?_⟩ | refine WkB.cells ?_ | refine WkN.agg ?_ | refine WkN.tup ?_)); (all_goals (first | exact okt | skip)))
    · have k := c106e a (lstR encRide default [])
      refine callL [1] (k) (by decide) (by simp) (by first | rfl | (simp only [zoneA, bookA, lst_nt hnt]; rfl)) (by first | rfl | (simp only [zoneA, bookA, lst_nt hnt]; rfl)) fun r h₂ hp => ?_
      (try simp only [zoneA, bookA, lst_nt hnt] at hp)
      obtain ⟨rfl, rfl⟩ := hp
      exact ⟨rfl, _, _, rfl⟩
  · refine SC.less (SC.inPlace rfl (by show (0 : Int) < (l.length : Int); omega) rfl rfl fun c hc => (c106m l a c hc hl).mono fun r h hp => ?_)
    obtain ⟨E, e1, e2, rfl, rfl⟩ := hp
    have e3 : (since a l).length ≤ l.length := List.length_filter_le _ _
    refine ⟨lstR encRide default E, _, rfl, rfl, lst 3 encRide default (since a l), [.fro 3 (fun _ => (l.length : Int)) (lstR encRide default E), .cells [.int .i64 fun _ => a]], ?_, rfl, _, _, rfl⟩
    refine To.of [] ⟨⟨.gd (decide_eq_true (by dsimp only; omega)) (.none rfl fun i hi => ?_), trivial⟩, .refl _, .refl _, trivial⟩
    have hi' : i < (since a l).length := by have : (i : Int) < ((since a l).length : Int) := hi; omega
    unfold lstR
    simp only [Int.zero_add]
    refine congrArg encRide ?_
    have : (since a l).getD (i : Int).toNat default = (E.take (since a l).length).getD (i : Int).toNat default := by rw [e2]
    rw [this]
    simp only [Int.toNat_natCast, List.getD_eq_getElem?_getD, List.getElem?_take, if_pos hi']
end Go.Proofs.Ytlcgliadpalgfaa.Vm

/- Contracts: trips, the least ride. -/
namespace Go.Proofs.Ytlcgliadpalgfaa.Vm
open Go Go.Proofs Sp
set_option maxRecDepth 100000
set_option maxHeartbeats 1600000

/-- The first ride that goes least late. -/
def leastGo : Nat → Sp.Ride → List Sp.Ride → Sp.Ride
  | _, best, [] => best
  | i, best, x :: r => leastGo (i + 1) (if i = 0 ∨ x.depart < best.depart then x else best) r
def least (l : List Sp.Ride) : Sp.Ride := leastGo 0 ⟨0, 0, 0⟩ l

theorem c108g (f : FuncId) (hf : ∀ x : Sp.Ride, SC (fun _ => Try.prog) f [.agg (encRide x)] [] fun v h => v = .int .i64 (fun _ => x.depart) ∧ h = []) (l : List Sp.Ride) (hl : l.length ≤ 1000) : SC (fun _ => Try.prog) 108 [lst 3 encRide default l, .fn f [] []] [] fun v h => v = .tup [.agg (encRide (least l)), .bool fun _ => decide (0 < l.length)] ∧ h = [] := by
  obtain ⟨nt, hnt⟩ := nth_ex
  refine SC.less (conX false false [6] Try.func108 (body := bodyOf Try.f108) rfl (by decide +kernel) ?_)
  simp only [lst_nt hnt]
  unfold least
  generalize hL : leastGo 0 ⟨0, 0, 0⟩ l = L
  (cbv; (try simp only [nc] at *); (try refine Chk.mk (okc) ?_))
  refine loopS false false [6] [0, 1, 4, 8, 9, 10] [] (fun (⟨i, x⟩ : Nat × Sp.Ride) => [(10, .int .i64 fun _ => i)]) (fun ⟨i, x⟩ => [(0, .cells (encRide x))]) (fun ⟨i, x⟩ => i ≤ l.length ∧ leastGo i x (l.drop i) = L) (fun i => l.length - i.1 + 0) (0, ⟨0, 0, 0⟩) ⟨Nat.zero_le _, by simpa using hL⟩ ?_ ?_
  · (refine To.of [] ?_; cbv; (try simp only [nc]); (repeat' (first | exact trivial | exact WkN.refl _ | exact WkB.refl _ | refine ⟨?_, ?_⟩ | refine WkB.cells ?_ | refine WkN.agg ?_ | refine WkN.tup ?_)); (all_goals (first | exact okt | skip)))
  rintro ⟨i, x⟩ ⟨hi, hp⟩
  (cbv; (try simp only [nc] at *); (try refine Chk.mk (okc) ?_))
  refine ⟨fun hb => ?_, fun hb => ?_⟩
  · simp only [decide_eq_true_eq] at hb
    rw [nt_drop (d := default) hnt (l := l) (i := i) (by omega), leastGo] at hp
    generalize hy : nt Sp.Ride default l (i : Int) = y at *
    (cbv; (try simp only [nc] at *); (try refine Chk.mk (okc) ?_))
    refine cutD false false [] 50 [0, 1, 4, 8, 9, 10] (fun _ : Unit => []) (fun _ => [(0, .cells (encRide (if i = 0 ∨ y.depart < x.depart then y else x)))]) (fun _ => True) (fun _ _ h => h) (by decide) ?_ ?_
    · have k1 := hf y
      have k2 := hf x
      (cbv; (try simp only [nc] at *); (try refine Chk.mk (okc) ?_))
      simp only [hy]
      refine ⟨fun h1 => ?_, fun h1 => ?_⟩
      · have hi0 : ¬ i = 0 := by simpa using h1
        (cbv; (try simp only [nc] at *); (try refine Chk.mk (okc) ?_))
        refine call0 (k1) (by first | rfl | (simp only [zoneA, bookA, lst_nt hnt]; rfl)) fun r h₂ hp => ?_
        (try simp only [zoneA, bookA, lst_nt hnt] at hp)
        obtain ⟨rfl, rfl⟩ := hp
        (cbv; (try simp only [nc] at *); (try refine Chk.mk (okc) ?_))
        refine Br.isT (by simp [hi0]) ?_
        (cbv; (try simp only [nc] at *); (try refine Chk.mk (okc) ?_))
        refine call0 (k2) (by first | rfl | (simp only [zoneA, bookA, lst_nt hnt]; rfl)) fun r h₂ hp => ?_
        (try simp only [zoneA, bookA, lst_nt hnt] at hp)
        obtain ⟨rfl, rfl⟩ := hp
        (cbv; (try simp only [nc] at *); (try refine Chk.mk (okc) ?_))
        refine ⟨fun h2 => ?_, fun h2 => ?_⟩
        · have h2' : y.depart < x.depart := by simpa [hi0] using h2
          (cbv; (try simp only [nc] at *); (try refine Chk.mk (okc) ?_))
          refine ⟨(), trivial, ?_⟩
          rw [if_pos (.inr h2')]
          (refine To.of [] ?_; cbv; (try simp only [nc]); (repeat' (first | exact trivial | exact WkN.refl _ | exact WkB.refl _ | refine ⟨?_, ?_⟩ | refine WkB.cells ?_ | refine WkN.agg ?_ | refine WkN.tup ?_)); (all_goals (first | exact okt | skip)))
        · have h2' : ¬ (i = 0 ∨ y.depart < x.depart) := by simpa [hi0] using h2
          (cbv; (try simp only [nc] at *); (try refine Chk.mk (okc) ?_))
          refine ⟨(), trivial, ?_⟩
          rw [if_neg h2']
          (refine To.of [] ?_; cbv; (try simp only [nc]); (repeat' (first | exact trivial | exact WkN.refl _ | exact WkB.refl _ | refine ⟨?_, ?_⟩ | refine WkB.cells ?_ | refine WkN.agg ?_ | refine WkN.tup ?_)); (all_goals (first | exact okt | skip)))
      · have hi0 : i = 0 := by simpa using h1
        (cbv; (try simp only [nc] at *); (try refine Chk.mk (okc) ?_))
        refine Br.isF (by simp [hi0]) ?_
        (cbv; (try simp only [nc] at *); (try refine Chk.mk (okc) ?_))
        refine Br.isT (by simp [hi0]) ?_
        (cbv; (try simp only [nc] at *); (try refine Chk.mk (okc) ?_))
        refine ⟨(), trivial, ?_⟩
        rw [if_pos (.inl hi0)]
        (refine To.of [] ?_; cbv; (try simp only [nc]); (repeat' (first | exact trivial | exact WkN.refl _ | exact WkB.refl _ | refine ⟨?_, ?_⟩ | refine WkB.cells ?_ | refine WkN.agg ?_ | refine WkN.tup ?_)); (all_goals (first | exact okt | skip)))
    · intro _ _
      generalize (if i = 0 ∨ y.depart < x.depart then y else x) = w at *
      (cbv; (try simp only [nc] at *); (try refine Chk.mk (okc) ?_))
      refine ⟨(i + 1, w), ⟨by show i + 1 ≤ l.length; omega, hp⟩, by show l.length - (i + 1) + 0 < l.length - i + 0; omega, ?_⟩
      (refine To.of [] ?_; cbv; (try simp only [nc]); (repeat' (first | exact trivial | exact WkN.refl _ | exact WkB.refl _ | refine ⟨?_, ?_⟩ | refine WkB.cells ?_ | refine WkN.agg ?_ | refine WkN.tup ?_)); (all_goals (first | exact okt | skip)))
  · simp only [decide_eq_false_iff_not] at hb
    rw [List.drop_eq_nil_of_le (by omega), leastGo] at hp
    rw [← hp]
    (cbv; (try simp only [nc] at *); (try refine Chk.mk (okc) ?_))
    refine ⟨_, [], ?_, rfl, rfl⟩
    (refine To.of [] ?_; cbv; (try simp only [nc]); (repeat' (first | exact trivial | exact WkN.refl _ | exact WkB.refl _ | refine ⟨?_, ?_⟩ | refine WkB.cells ?_ | refine WkN.agg ?_ | refine WkN.tup ?_)); (all_goals (first | exact okt | skip)))
    exact .bool (by simp)

theorem c108 (l : List Sp.Ride) (hl : l.length ≤ 1000) : SC (fun _ => Try.prog) 108 [lst 3 encRide default l, .fn 109 [] []] [] fun v h => v = .tup [.agg (encRide (least l)), .bool fun _ => decide (0 < l.length)] ∧ h = [] := c108g _ c109 l hl

def encLeg (g : Sp.Leg) : List AV := [.int .i64 fun _ => g.number, .int .i64 fun _ => g.from_, .int .i64 fun _ => g.to_]
/-- All rides by a leg. -/
def rides (b : Book) (g : Sp.Leg) : List Sp.Ride := ridesL b g (runsTo b (b.last + 1).toNat)
theorem rides_len {b : Book} (h : BookOk b) (g : Sp.Leg) : (rides b g).length ≤ 100 := by
  have h1 := runsTo_len h (b.last + 1).toNat
  have h2 : (rides b g).length ≤ (runsTo b (b.last + 1).toNat).length := List.length_filterMap_le _ _
  have h3 := h.last
  omega
def trip (b : Book) : List Sp.Leg → Int → List Sp.Ride → List Sp.Ride × Bool
  | [], _, out => (out, true)
  | g :: r, a, out => if (since a (rides b g)).length = 0 then (out, false) else trip b r (least (since a (rides b g))).arrive (out ++ [least (since a (rides b g))])

theorem c68 (b : Book) (hb : BookFit b) (hok : BookOk b) (legs : List Sp.Leg) (a0 : Int) (hl : legs.length ≤ 1000) : SC (fun _ => Try.prog) 68 [bookA b, lst 3 encLeg default legs, .int .i64 fun _ => a0] [] fun v h => v = .tup [lst 3 encRide default (trip b legs a0 []).1, .bool fun _ => (trip b legs a0 []).2] ∧ h = [] := by
  obtain ⟨nt, hnt⟩ := nth_ex
  refine SC.less (conX false false [] Try.func68 (body := bodyOf Try.f68) rfl (by decide +kernel) ?_)
  have k93 := fun g => c93 b g hb hok
  have k93l := fun g => rides_len hok g
  change ∀ g, SC _ 93 _ _ (fun v h => (v = .gsl 0 fun _ => ((rides b g).length : Int)) ∧ h = [.gar 3 (fun _ => ((rides b g).length : Int)) (lstR encRide default (rides b g))]) at k93
  unfold bookA legA at *
  simp only [lst_nt hnt] at *
  generalize hT : trip b legs a0 [] = T at *
  (cbv; (try simp only [nc] at *); (try refine Chk.mk (okc) ?_))
  refine loopS false false [] [3, 5, 8, 9, 15, 16, 17] [.tok 3 fun _ => 0] (fun (⟨i, a, out⟩ : Nat × Int × List Sp.Ride) => [(8, .isl 3 (fun _ => (out.length : Int)) (fun e => encRide (nt Sp.Ride default out (e ()))) (.own 2)), (17, .int .i64 fun _ => i)])
    (fun ⟨i, a, out⟩ => [(1, .cells [.int .i64 fun _ => a]), (2, .tok 3 fun _ => (out.length : Int))]) (fun ⟨i, a, out⟩ => i ≤ legs.length ∧ out.length = i ∧ trip b (legs.drop i) a out = T) (fun i => legs.length - i.1 + 0) (0, a0, []) ⟨Nat.zero_le _, rfl, by simpa using hT⟩ ?_ ?_
  · (refine To.of [(3,false)] ?_; cbv; (try simp only [nc]); (repeat' (first | exact trivial | exact WkN.refl _ | exact WkB.refl _ | refine ⟨?_, ?_⟩ | refine WkB.cells ?_ | refine WkN.agg ?_ | refine WkN.tup ?_)); (all_goals (first | exact okt | skip)))
  rintro ⟨i, a, out⟩ ⟨hi, ho, hp⟩
  (cbv; (try simp only [nc] at *); (try refine Chk.mk (okc) ?_))
  refine ⟨fun hb => ?_, fun hb => ?_⟩
  · simp only [decide_eq_true_eq] at hb
    rw [nt_drop (d := default) hnt (l := legs) (i := i) (by omega), trip] at hp
    generalize hg : nt Sp.Leg default legs (i : Int) = g at *
    have k93 := k93 g
    have k93l := k93l g
    generalize hR : rides b g = R at *
    have k106 := c106 R a (by omega)
    have hS : (since a R).length ≤ 100 := Nat.le_trans (List.length_filter_le _ _) k93l
    generalize since a R = S at *
    have k108 := c108 S (by omega)
    generalize least S = x at *
    simp only [lst_nt hnt, lstR_nt hnt] at k93 k106 k108
    (cbv; (try simp only [nc] at *); (try refine Chk.mk (okc) ?_))
    simp only [hg]
    refine call0 (k93) (by first | rfl | (simp only [zoneA, bookA, lst_nt hnt]; rfl)) fun r h₂ hp => ?_
    (try simp only [zoneA, bookA, lst_nt hnt] at hp)
    obtain ⟨rfl, rfl⟩ := hp
    (cbv; (try simp only [nc] at *); (try refine Chk.mk (okc) ?_))
    refine callL [4, 1] (k106) (by decide) (by simp) (by first | rfl | (simp only [zoneA, bookA, lst_nt hnt]; rfl)) (by first | rfl | (simp only [zoneA, bookA, lst_nt hnt]; rfl)) fun r h₂ hp => ?_
    (try simp only [zoneA, bookA, lst_nt hnt] at hp)
    obtain ⟨rfl, n, F, rfl⟩ := hp
    (cbv; (try simp only [nc] at *); (try refine Chk.mk (okc) ?_))
    refine call0 (k108) (by first | rfl | (simp only [zoneA, bookA, lst_nt hnt]; rfl)) fun r h₂ hp => ?_
    (try simp only [zoneA, bookA, lst_nt hnt] at hp)
    obtain ⟨rfl, rfl⟩ := hp
    (cbv; (try simp only [nc] at *); (try refine Chk.mk (okc) ?_))
    refine ⟨fun h1 => ?_, fun h1 => ?_⟩
    · have h1' : S.length = 0 := by simpa using h1
      rw [if_pos h1'] at hp
      rw [← hp]
      (cbv; (try simp only [nc] at *); (try refine Chk.mk (okc) ?_))
      refine ⟨_, [], ?_, rfl, rfl⟩
      (refine To.of [] ?_; cbv; (try simp only [nc]); (repeat' (first | exact trivial | exact WkN.refl _ | exact WkB.refl _ | refine ⟨?_, ?_⟩ | refine WkB.cells ?_ | refine WkN.agg ?_ | refine WkN.tup ?_)); (all_goals (first | exact okt | skip)))
      exact .bool (by simp [h1'])
    · have h1' : ¬ S.length = 0 := by simp at h1; omega
      rw [if_neg h1'] at hp
      (cbv; (try simp only [nc] at *); (try refine Chk.mk (okc) ?_))
      refine ⟨(i + 1, x.arrive, out ++ [x]), ⟨by show i + 1 ≤ legs.length; omega, by show (out ++ [x]).length = i + 1; simp [ho], hp⟩, by show legs.length - (i + 1) + 0 < legs.length - i + 0; omega, ?_⟩
      (refine To.of [] ?_; cbv; (try simp only [nc]); (repeat' (first | exact trivial | exact WkN.refl _ | exact WkB.refl _ | refine ⟨?_, ?_⟩ | refine WkB.cells ?_ | refine WkN.agg ?_ | refine WkN.tup ?_)); (all_goals (first | exact okt | skip)))
      exact .bool (decide_eq_true (by omega))
  · simp only [decide_eq_false_iff_not] at hb
    rw [List.drop_eq_nil_of_le (by omega), trip] at hp
    rw [← hp]
    (cbv; (try simp only [nc] at *); (try refine Chk.mk (okc) ?_))
    refine ⟨_, [], ?_, rfl, rfl⟩
    (refine To.of [] ?_; cbv; (try simp only [nc]); (repeat' (first | exact trivial | exact WkN.refl _ | exact WkB.refl _ | refine ⟨?_, ?_⟩ | refine WkB.cells ?_ | refine WkN.agg ?_ | refine WkN.tup ?_)); (all_goals (first | exact okt | skip)))
end Go.Proofs.Ytlcgliadpalgfaa.Vm

/- Contracts: trips, who is lost, and waits. -/
namespace Go.Proofs.Ytlcgliadpalgfaa.Vm
open Go Go.Proofs Sp
set_option maxRecDepth 100000
set_option maxHeartbeats 1600000

def legErr (l : List Sp.Leg) (i : Nat) : Int := if (l.getD i default).from_ = (l.getD i default).to_ then 4 else if 0 < i ∧ (l.getD i default).from_ ≠ (l.getD (i - 1) default).to_ then 5 else 0
def checkLegs (b : Book) (l : List Sp.Leg) : Int := if Check b ≠ 0 then Check b else if counted l.length 1 4 ≠ 0 then counted l.length 1 4 else firstErr (legErr l) 0 l.length

theorem c66 (b : Book) (hb : BookFit b) (l : List Sp.Leg) (hl : l.length ≤ 1000) : SC (fun _ => Try.prog) 66 [bookA b, lst 3 encLeg default l] [] fun v h => v = .int .i64 (fun _ => checkLegs b l) ∧ h = [] := by
  obtain ⟨nt, hnt⟩ := nth_ex
  refine con Try.func66 (body := bodyOf Try.f66) rfl (by decide +kernel) ?_
  have k28 := c28 b hb
  have k78 := c78 (l.length : Int) 1 4
  unfold checkLegs
  generalize Check b = C at *
  generalize counted l.length 1 4 = D at *
  generalize hE : firstErr (legErr l) 0 l.length = E at *
  unfold bookA at *
  simp only [lst_nt hnt] at *
  (cbv; (try simp only [nc] at *); (try refine Chk.mk (okc) ?_))
  refine call0 (k28) (by first | rfl | (simp only [zoneA, bookA, lst_nt hnt]; rfl)) fun r h₂ hp => ?_
  (try simp only [zoneA, bookA, lst_nt hnt] at hp)
  obtain ⟨rfl, rfl⟩ := hp
  (cbv; (try simp only [nc] at *); (try refine Chk.mk (okc) ?_))
  refine ⟨fun h1 => ?_, fun h1 => ?_⟩
  · have h1' : C ≠ 0 := by simpa using h1
    rw [if_pos h1']
    (cbv; (try simp only [nc] at *); (try refine Chk.mk (okc) ?_))
    (try first | exact ⟨rfl, trivial⟩ | exact ⟨trivial, trivial⟩)
  have h1' : ¬ C ≠ 0 := by simpa using h1
  rw [if_neg h1']
  (cbv; (try simp only [nc] at *); (try refine Chk.mk (okc) ?_))
  refine call0 (k78) (by first | rfl | (simp only [zoneA, bookA, lst_nt hnt]; rfl)) fun r h₂ hp => ?_
  (try simp only [zoneA, bookA, lst_nt hnt] at hp)
  obtain ⟨rfl, rfl⟩ := hp
  (cbv; (try simp only [nc] at *); (try refine Chk.mk (okc) ?_))
  refine ⟨fun h2 => ?_, fun h2 => ?_⟩
  · have h2' : D ≠ 0 := by simpa using h2
    rw [if_pos h2']
    (cbv; (try simp only [nc] at *); (try refine Chk.mk (okc) ?_))
    (try first | exact ⟨rfl, trivial⟩ | exact ⟨trivial, trivial⟩)
  have h2' : ¬ D ≠ 0 := by simpa using h2
  rw [if_neg h2']
  (cbv; (try simp only [nc] at *); (try refine Chk.mk (okc) ?_))
  refine loopS false false [] [1, 20, 21, 22] [] (fun (i : Nat) => [(22, .int .i64 fun _ => i)]) (fun _ => []) (fun i => i ≤ l.length ∧ firstErr (legErr l) i (l.length - i) = E) (fun i => l.length - i + 0) 0 ⟨Nat.zero_le _, by simpa using hE⟩ ?_ ?_
  · (refine To.of [] ?_; cbv; (try simp only [nc]); (repeat' (first | exact trivial | exact WkN.refl _ | exact WkB.refl _ | refine ⟨?_, ?_⟩ | refine WkB.cells ?_ | refine WkN.agg ?_ | refine WkN.tup ?_)); (all_goals (first | exact okt | skip)))
  rintro i ⟨hi, hp⟩
  (cbv; (try simp only [nc] at *); (try refine Chk.mk (okc) ?_))
  refine ⟨fun hb => ?_, fun hb => ?_⟩
  · simp only [decide_eq_true_eq] at hb
    rw [show l.length - i = (l.length - (i + 1)) + 1 by omega, firstErr] at hp
    have e1 : l.getD i default = nt Sp.Leg default l (i : Int) := by rw [hnt]; rfl
    unfold legErr at hp
    rw [e1] at hp
    (cbv; (try simp only [nc] at *); (try refine Chk.mk (okc) ?_))
    refine ⟨fun h3 => ?_, fun h3 => ?_⟩
    · have h3' : (nt Sp.Leg default l (i : Int)).from_ = (nt Sp.Leg default l (i : Int)).to_ := by simpa using h3
      rw [if_pos h3', if_pos (by decide)] at hp
      rw [← hp]
      (cbv; (try simp only [nc] at *); (try refine Chk.mk (okc) ?_))
      (try first | exact ⟨rfl, trivial⟩ | exact ⟨trivial, trivial⟩)
    have h3' : ¬ (nt Sp.Leg default l (i : Int)).from_ = (nt Sp.Leg default l (i : Int)).to_ := by simpa using h3
    rw [if_neg h3'] at hp
    have e2 : 0 < i → l.getD (i - 1) default = nt Sp.Leg default l ((i : Int) - 1) := fun h => by rw [hnt]; congr 1; omega
    have e3 : (bif decide (0 < (i : Int)) then (nt Sp.Leg default l (i : Int)).from_ != (nt Sp.Leg default l ((i : Int) - 1)).to_ else false) = decide (0 < i ∧ (nt Sp.Leg default l (i : Int)).from_ ≠ (l.getD (i - 1) default).to_) := by
      by_cases h : 0 < i
      · rw [e2 h, decide_eq_true (by omega : 0 < (i : Int))]
        by_cases hh : (nt Sp.Leg default l (i : Int)).from_ = (nt Sp.Leg default l ((i : Int) - 1)).to_ <;> simp [h, hh, bne]
      · rw [decide_eq_false (by omega : ¬ 0 < (i : Int))]
        simp [h]
    (cbv; (try simp only [nc] at *); (try refine Chk.mk (okc) ?_))
    refine ⟨fun h4 => ?_, fun h4 => ?_⟩
    · rw [e3, decide_eq_true_eq] at h4
      rw [if_pos h4, if_pos (by decide)] at hp
      rw [← hp]
      (cbv; (try simp only [nc] at *); (try refine Chk.mk (okc) ?_))
      (try first | exact ⟨rfl, trivial⟩ | exact ⟨trivial, trivial⟩)
    · rw [e3, decide_eq_false_iff_not] at h4
      rw [if_neg h4, if_neg (by decide)] at hp
      (cbv; (try simp only [nc] at *); (try refine Chk.mk (okc) ?_))
      refine ⟨i + 1, ⟨by omega, hp⟩, by show l.length - (i + 1) + 0 < l.length - i + 0; omega, ?_⟩
      (refine To.of [] ?_; cbv; (try simp only [nc]); (repeat' (first | exact trivial | exact WkN.refl _ | exact WkB.refl _ | refine ⟨?_, ?_⟩ | refine WkB.cells ?_ | refine WkN.agg ?_ | refine WkN.tup ?_)); (all_goals (first | exact okt | skip)))
  · simp only [decide_eq_false_iff_not] at hb
    rw [show l.length - i = 0 by omega, firstErr] at hp
    rw [← hp]
    (cbv; (try simp only [nc] at *); (try refine Chk.mk (okc) ?_))
    (try first | exact ⟨rfl, trivial⟩ | exact ⟨trivial, trivial⟩)

def Trip (b : Book) (l : List Sp.Leg) (a : Int) : List Sp.Ride × Int := if checkLegs b l ≠ 0 then ([], checkLegs b l) else if !inB a 0 43200 then ([], 1) else if (trip b l a []).2 = false then ([], 11) else ((trip b l a []).1, 0)
theorem c19 (b : Book) (hb : BookFit b) (l : List Sp.Leg) (a : Int) (hl : l.length ≤ 1000) : SC (fun _ => Try.prog) 19 [bookA b, lst 3 encLeg default l, .int .i64 fun _ => a] [] fun v h => v = .tup [lst 3 encRide default (Trip b l a).1, .int .i64 fun _ => (Trip b l a).2] ∧ h = [] := by
  obtain ⟨nt, hnt⟩ := nth_ex
  refine SC.less (con Try.func19 (body := bodyOf Try.f19) rfl (by decide +kernel) ?_)
  have k66 := c66 b hb l hl
  have k67 := c67 a 0 43200
  have hok : checkLegs b l = 0 → BookOk b := fun h => book_ok (by
    unfold checkLegs at h
    split at h
    · rename_i h1; exact absurd h h1
    · rename_i h1; exact Decidable.of_not_not h1)
  have k68 := fun h => c68 b hb (hok h) l a hl
  unfold Trip
  generalize checkLegs b l = C at *
  generalize trip b l a [] = T at *
  unfold bookA at *
  simp only [lst_nt hnt] at *
  (cbv; (try simp only [nc] at *); (try refine Chk.mk (okc) ?_))
  refine call0 (k66) (by first | rfl | (simp only [zoneA, bookA, lst_nt hnt]; rfl)) fun r h₂ hp => ?_
  (try simp only [zoneA, bookA, lst_nt hnt] at hp)
  obtain ⟨rfl, rfl⟩ := hp
  (cbv; (try simp only [nc] at *); (try refine Chk.mk (okc) ?_))
  refine ⟨fun h1 => ?_, fun h1 => ?_⟩
  · have h1' : C ≠ 0 := by simpa using h1
    rw [if_pos h1']
    (cbv; (try simp only [nc] at *); (try refine Chk.mk (okc) ?_))
    refine ⟨_, [], ?_, rfl, rfl⟩
    (refine To.of [] ?_; cbv; (try simp only [nc]); (repeat' (first | exact trivial | exact WkN.refl _ | exact WkB.refl _ | refine ⟨?_, ?_⟩ | refine WkB.cells ?_ | refine WkN.agg ?_ | refine WkN.tup ?_)); (all_goals (first | exact okt | skip)))
  have h1' : ¬ C ≠ 0 := by simpa using h1
  have k68 := k68 (Decidable.of_not_not h1')
  rw [if_neg h1']
  (cbv; (try simp only [nc] at *); (try refine Chk.mk (okc) ?_))
  refine call0 (k67) (by first | rfl | (simp only [zoneA, bookA, lst_nt hnt]; rfl)) fun r h₂ hp => ?_
  (try simp only [zoneA, bookA, lst_nt hnt] at hp)
  obtain ⟨rfl, rfl⟩ := hp
  (cbv; (try simp only [nc] at *); (try refine Chk.mk (okc) ?_))
  refine ⟨fun h2 => ?_, fun h2 => ?_⟩
  · rw [if_pos h2]
    (cbv; (try simp only [nc] at *); (try refine Chk.mk (okc) ?_))
    refine ⟨_, [], ?_, rfl, rfl⟩
    (refine To.of [] ?_; cbv; (try simp only [nc]); (repeat' (first | exact trivial | exact WkN.refl _ | exact WkB.refl _ | refine ⟨?_, ?_⟩ | refine WkB.cells ?_ | refine WkN.agg ?_ | refine WkN.tup ?_)); (all_goals (first | exact okt | skip)))
  rw [if_neg (by rw [h2]; exact Bool.false_ne_true)]
  (cbv; (try simp only [nc] at *); (try refine Chk.mk (okc) ?_))
  refine call0 (k68) (by first | rfl | (simp only [zoneA, bookA, lst_nt hnt]; rfl)) fun r h₂ hp => ?_
  (try simp only [zoneA, bookA, lst_nt hnt] at hp)
  obtain ⟨rfl, rfl⟩ := hp
  (cbv; (try simp only [nc] at *); (try refine Chk.mk (okc) ?_))
  refine ⟨fun h3 => ?_, fun h3 => ?_⟩
  · have h3' : T.2 = false := by simpa using h3
    rw [if_pos h3']
    (cbv; (try simp only [nc] at *); (try refine Chk.mk (okc) ?_))
    refine ⟨_, [], ?_, rfl, rfl⟩
    (refine To.of [] ?_; cbv; (try simp only [nc]); (repeat' (first | exact trivial | exact WkN.refl _ | exact WkB.refl _ | refine ⟨?_, ?_⟩ | refine WkB.cells ?_ | refine WkN.agg ?_ | refine WkN.tup ?_)); (all_goals (first | exact okt | skip)))
  · have h3' : ¬ T.2 = false := by simpa using h3
    rw [if_neg h3']
    (cbv; (try simp only [nc] at *); (try refine Chk.mk (okc) ?_))
    refine ⟨_, [], ?_, rfl, rfl⟩
    (refine To.of [] ?_; cbv; (try simp only [nc]); (repeat' (first | exact trivial | exact WkN.refl _ | exact WkB.refl _ | refine ⟨?_, ?_⟩ | refine WkB.cells ?_ | refine WkN.agg ?_ | refine WkN.tup ?_)); (all_goals (first | exact okt | skip)))

/-- The rides by a leg, to be read alone. -/
theorem c93f (b : Book) (g : Sp.Leg) (hb : BookFit b) (hok : BookOk b) : SC (fun _ => Try.prog) 93 [bookA b, legA g] [] fun v h => v = lst 3 encRide default (rides b g) ∧ h = [.fro 3 (fun _ => ((rides b g).length : Int)) (lstR encRide default (rides b g))] := by
  refine SC.less ((c93 b g hb hok).mono fun r h hp => ?_)
  obtain ⟨rfl, rfl⟩ := hp
  refine ⟨lst 3 encRide default (rides b g), [.fro 3 (fun _ => ((rides b g).length : Int)) (lstR encRide default (rides b g))], (To.froze (s := [.gsl 0 fun _ => ((rides b g).length : Int)]) (h := [.gar 3 (fun _ => ((rides b g).length : Int)) (lstR encRide default (rides b g))]) (id := 0) rfl).trans ?_, rfl, rfl⟩
  show To [.gd (fun _ => decide (((rides b g).length : Int) = (rides b g).length)) (.isl 3 (fun _ => ((rides b g).length : Int)) (lstR encRide default (rides b g)) .none)] _ _ _
  exact To.of [] ⟨⟨.gd (decide_eq_true rfl) (.refl _), trivial⟩, .refl _, trivial⟩

def Lost (b : Book) (l : List Sp.Leg) : List Int × Int := if checkLegs b l ≠ 0 then ([], checkLegs b l) else (((rides b (l.getD 0 default)).filter fun x => !(trip b (l.drop 1) x.arrive []).2).map (·.day), 0)
theorem checkLegs_ok {b : Book} {l : List Sp.Leg} (h : checkLegs b l = 0) : BookOk b ∧ 1 ≤ l.length ∧ l.length ≤ 4 := by
  unfold checkLegs at h
  split at h
  · rename_i h1; exact absurd h h1
  rename_i h1
  split at h
  · rename_i h2; exact absurd h h2
  rename_i h2
  have := counted_ok (Decidable.of_not_not h2)
  exact ⟨book_ok (Decidable.of_not_not h1), by omega, by omega⟩

theorem drop_nt {nt : (α : Type) → α → List α → Int → α} (hnt : ∀ (α : Type) (d : α) (l : List α) (i : Int), nt α d l i = l.getD i.toNat d) {α : Type} {n k sz : Nat} {enc : α → List AV} {d : α} {l : List α} {m : Unit → Int} {f : (Unit → Int) → List AV} {i : Nat} (hm : m () = ((l.drop i).length : Int)) (hf : ∀ j : Nat, (j : Int) < m () → f (fun _ => (j : Int)) = enc (nt α d l ((j : Int) + i))) {tk : Tk} :
    WkN n k (.isl sz m f tk) (.isl sz (fun _ => ((l.drop i).length : Int)) (fun e => enc (nt α d (l.drop i) (e ()))) .none) :=
  .none hm fun j hj => by
    rw [hf j hj, hnt, hnt]
    congr 1
    simp only [List.getD_eq_getElem?_getD, List.getElem?_drop, Int.toNat_natCast]
    congr 2
    omega

theorem c49 (b : Book) (hb : BookFit b) (l : List Sp.Leg) (hl : l.length ≤ 1000) : SC (fun _ => Try.prog) 49 [bookA b, lst 3 encLeg default l] [] fun v h => v = .tup [lst 1 encI 0 (Lost b l).1, .int .i64 fun _ => (Lost b l).2] ∧ h = [] := by
  obtain ⟨nt, hnt⟩ := nth_ex
  refine SC.less (conX false true [] Try.func49 (body := bodyOf Try.f49) rfl (by decide +kernel) ?_)
  have k66 := c66 b hb l hl
  have hok := checkLegs_ok (b := b) (l := l)
  have k68 := fun h a => c68 b hb h (l.drop 1) a (by rw [List.length_drop]; omega)
  have k93 := fun h => c93f b (l.getD 0 default) hb h
  have k93l := fun h => rides_len (b := b) h (l.getD 0 default)
  unfold Lost
  have e0 : l.getD 0 default = nt Sp.Leg default l 0 := by rw [hnt]; rfl
  simp only [e0] at k93 k93l ⊢
  generalize checkLegs b l = C at *
  generalize rides b (nt Sp.Leg default l 0) = R at *
  unfold bookA legA at *
  simp only [lst_nt hnt, lstR_nt hnt] at *
  (cbv; (try simp only [nc] at *); (try refine Chk.mk (okc) ?_))
  refine call0 (k66) (by first | rfl | (simp only [zoneA, bookA, lst_nt hnt]; rfl)) fun r h₂ hp => ?_
  (try simp only [zoneA, bookA, lst_nt hnt] at hp)
  obtain ⟨rfl, rfl⟩ := hp
  (cbv; (try simp only [nc] at *); (try refine Chk.mk (okc) ?_))
  refine ⟨fun h1 => ?_, fun h1 => ?_⟩
  · have h1' : C ≠ 0 := by simpa using h1
    rw [if_pos h1']
    (cbv; (try simp only [nc] at *); (try refine Chk.mk (okc) ?_))
    refine ⟨_, [], ?_, rfl, rfl⟩
    (refine To.of [] ?_; cbv; (try simp only [nc]); (repeat' (first | exact trivial | exact WkN.refl _ | exact WkB.refl _ | refine ⟨?_, ?_⟩ | refine WkB.cells ?_ | refine WkN.agg ?_ | refine WkN.tup ?_)); (all_goals (first | exact okt | skip)))
  have h1' : ¬ C ≠ 0 := by simpa using h1
  have hok := hok (Decidable.of_not_not h1')
  have k93 := k93 hok.1
  have k93l := k93l hok.1
  have k68 := k68 hok.1
  rw [if_neg h1']
  (cbv; (try simp only [nc] at *); (try refine Chk.mk (okc) ?_))
  refine call0 (k93) (by first | rfl | (simp only [zoneA, bookA, lst_nt hnt]; rfl)) fun r h₂ hp => ?_
  (try simp only [zoneA, bookA, lst_nt hnt] at hp)
  obtain ⟨rfl, rfl⟩ := hp
  (cbv; (try simp only [nc] at *); (try refine Chk.mk (okc) ?_))
  generalize hF : ((R.filter fun x => !(trip b (l.drop 1) x.arrive []).2).map (·.day)) = F at *
  refine loopS false true [] [1, 2, 7, 22, 23, 24] [.tok 1 fun _ => 0] (fun (⟨i, out⟩ : Nat × List Int) => [(7, .isl 1 (fun _ => (out.length : Int)) (fun e => encI (nt Int 0 out (e ()))) (.own 2)), (24, .int .i64 fun _ => i)])
    (fun ⟨i, out⟩ => [(2, .tok 1 fun _ => (out.length : Int))]) (fun ⟨i, out⟩ => i ≤ R.length ∧ out.length ≤ i ∧ out ++ (((R.drop i).filter fun x => !(trip b (l.drop 1) x.arrive []).2).map (·.day)) = F) (fun i => R.length - i.1 + 0) (0, []) ⟨Nat.zero_le _, Nat.le_refl _, by simpa using hF⟩ ?_ ?_
  · (refine To.of [(1,false)] ?_; cbv; (try simp only [nc]); (repeat' (first | exact trivial | exact WkN.refl _ | exact WkB.refl _ | refine ⟨?_, ?_⟩ | refine WkB.cells ?_ | refine WkN.agg ?_ | refine WkN.tup ?_)); (all_goals (first | exact okt | skip)))
  rintro ⟨i, out⟩ ⟨hi, ho, hp⟩
  have ho : out.length ≤ i := ho
  (cbv; (try simp only [nc] at *); (try refine Chk.mk (okc) ?_))
  refine ⟨fun hb => ?_, fun hb => ?_⟩
  · simp only [decide_eq_true_eq] at hb
    rw [nt_drop (d := default) hnt (l := R) (i := i) (by omega)] at hp
    have hd1 : ((l.drop 1).length : Int) = l.length - 1 := by rw [List.length_drop]; omega
    generalize hx : nt Sp.Ride default R (i : Int) = x at *
    have k68 := k68 x.arrive
    generalize hT : trip b (l.drop 1) x.arrive [] = T at k68
    simp only [List.filter_cons, hT] at hp
    (cbv; (try simp only [nc] at *); (try refine Chk.mk (okc) ?_))
    simp only [hx]
    refine call0T k68 (by (refine To.of [] ?_; cbv; (try simp only [nc]); (repeat' (first | exact trivial | exact WkN.refl _ | exact WkB.refl _ | refine ⟨?_, ?_⟩ | refine WkB.cells ?_ | refine WkN.agg ?_ | refine WkN.tup ?_)); (all_goals (first | exact okt | skip))); exact drop_nt hnt (by show (l.length : Int) - 1 = ((l.drop 1).length : Int); rw [List.length_drop]; omega) (fun j hj => rfl)) (by first | rfl | (simp only [bookA, lst_nt hnt]; rfl)) fun r h₂ hq => ?_
    obtain ⟨rfl, rfl⟩ := hq
    (cbv; (try simp only [nc] at *); (try refine Chk.mk (okc) ?_))
    refine ⟨fun h3 => ?_, fun h3 => ?_⟩
    · have h3' : T.2 = false := by simpa using h3
      rw [h3'] at hp
      simp only [Bool.not_false, if_true, List.map_cons] at hp
      (cbv; (try simp only [nc] at *); (try refine Chk.mk (okc) ?_))
      refine ⟨(i + 1, out ++ [x.day]), ⟨by show i + 1 ≤ R.length; omega, by show (out ++ [x.day]).length ≤ i + 1; simp; omega, by show (out ++ [x.day]) ++ _ = F; rw [List.append_assoc]; exact hp⟩, by show R.length - (i + 1) + 0 < R.length - i + 0; omega, ?_⟩
      (refine To.of [] ?_; cbv; (try simp only [nc]); (repeat' (first | exact trivial | exact WkN.refl _ | exact WkB.refl _ | refine ⟨?_, ?_⟩ | refine WkB.cells ?_ | refine WkN.agg ?_ | refine WkN.tup ?_)); (all_goals (first | exact okt | skip)))
    · have h3' : T.2 = true := by simpa using h3
      rw [h3'] at hp
      simp only [Bool.not_true, Bool.false_eq_true, if_false] at hp
      (cbv; (try simp only [nc] at *); (try refine Chk.mk (okc) ?_))
      refine ⟨(i + 1, out), ⟨by show i + 1 ≤ R.length; omega, by show out.length ≤ i + 1; omega, hp⟩, by show R.length - (i + 1) + 0 < R.length - i + 0; omega, ?_⟩
      (refine To.of [] ?_; cbv; (try simp only [nc]); (repeat' (first | exact trivial | exact WkN.refl _ | exact WkB.refl _ | refine ⟨?_, ?_⟩ | refine WkB.cells ?_ | refine WkN.agg ?_ | refine WkN.tup ?_)); (all_goals (first | exact okt | skip)))
  · simp only [decide_eq_false_iff_not] at hb
    have hp : out ++ _ = F := hp
    have hir : R.length ≤ i := by omega
    rw [List.drop_eq_nil_of_le hir, List.filter_nil, List.map_nil, List.append_nil] at hp
    rw [← hp]
    (cbv; (try simp only [nc] at *); (try refine Chk.mk (okc) ?_))
    refine ⟨_, [], ?_, rfl, rfl⟩
    (refine To.of [] ?_; cbv; (try simp only [nc]); (repeat' (first | exact trivial | exact WkN.refl _ | exact WkB.refl _ | refine ⟨?_, ?_⟩ | refine WkB.cells ?_ | refine WkN.agg ?_ | refine WkN.tup ?_)); (all_goals (first | exact okt | skip)))
end Go.Proofs.Ytlcgliadpalgfaa.Vm

/- Contracts: waits between two trains. -/
namespace Go.Proofs.Ytlcgliadpalgfaa.Vm
open Go Go.Proofs Sp
set_option maxRecDepth 100000
set_option maxHeartbeats 1600000

def InT (t : Int) : Prop := 0 ≤ t ∧ t ≤ 1099511627776
theorem hour_inT : ∀ {l : List Pc} {r a : Int}, (∀ p ∈ l, p.bef ≤ 1099511627776) → InT a → InT (hour l r a)
  | [], r, a, _, _ => by unfold hour openT; exact ⟨by omega, by omega⟩
  | p :: l, r, a, hl, ha => by
    unfold hour
    have hp := hl p (List.mem_cons_self ..)
    split
    · rename_i h
      refine ⟨?_, by omega⟩
      have := ha.1
      omega
    · exact hour_inT (fun q hq => hl q (List.mem_cons_of_mem _ hq)) ha

def CallB (c : Sp.Call) : Prop := InT c.arrive ∧ InT c.depart
theorem callsGo_inT {zs : List Zone} (hz : ∀ z ∈ zs, checkZone z = 0) {day : Int} {many : Nat} : ∀ (S : List Stop) (i : Nat) (now : Int), InT now → (∀ s ∈ S, 0 ≤ s.zone ∧ s.zone < zs.length) → ∀ c ∈ callsGo zs day many i now S, CallB c
  | [], _, _, _, _, c, hc => by unfold callsGo at hc; cases hc
  | s :: r, i, now, hn, hs, c, hc => by
    have hzs := hs s (List.mem_cons_self ..)
    have hzm : zs.getD s.zone.toNat default ∈ zs := by rw [List.getD_eq_getElem?_getD, List.getElem?_eq_getElem (by omega)]; exact List.getElem_mem _
    have hp := fun p hp => ((pieces_bd (hz _ hzm)).2 p hp).2.2.2.1
    have hr := fun q hq => hs q (List.mem_cons_of_mem _ hq)
    have h0 : InT 0 := ⟨by omega, by omega⟩
    unfold callsGo at hc
    split at hc
    · have hd : InT (if i + 1 < many then hour (pieces (zs.getD s.zone.toNat default)) (1440 * day + s.depart) now else 0) := by
        split
        · exact hour_inT hp hn
        · exact h0
      rcases List.mem_cons.1 hc with rfl | hc
      · exact ⟨hd, hd⟩
      · exact callsGo_inT hz r _ _ hd hr c hc
    · have ha := hour_inT (r := 1440 * day + s.arrive) hp hn
      have hd : InT (if i + 1 < many then hour (pieces (zs.getD s.zone.toNat default)) (1440 * day + s.depart) (hour (pieces (zs.getD s.zone.toNat default)) (1440 * day + s.arrive) now) else hour (pieces (zs.getD s.zone.toNat default)) (1440 * day + s.arrive) now) := by
        split
        · exact hour_inT hp ha
        · exact ha
      rcases List.mem_cons.1 hc with rfl | hc
      · exact ⟨ha, hd⟩
      · exact callsGo_inT hz r _ _ hd hr c hc

def RideB (x : Sp.Ride) : Prop := InT x.depart ∧ InT x.arrive
theorem runsTo_mem {b : Book} {d : Nat} {x : Train × Int} (h : x ∈ runsTo b d) : ∃ k : Nat, k < d ∧ x.2 = k ∧ x.1 ∈ table b k ∧ starts x.1 k = true := by
  unfold runsTo at h
  rw [List.mem_flatMap] at h
  obtain ⟨k, hk, h⟩ := h
  rw [List.mem_map] at h
  obtain ⟨t, ht, rfl⟩ := h
  rw [List.mem_filter] at ht
  exact ⟨k, List.mem_range.1 hk, rfl, ht.1, ht.2⟩
theorem getD_all {α : Type} {P : α → Prop} {l : List α} {i : Nat} {d : α} (hl : ∀ x ∈ l, P x) (hd : P d) : P (l.getD i d) := by
  rw [List.getD_eq_getElem?_getD]
  by_cases h : i < l.length
  · rw [List.getElem?_eq_getElem h]; exact hl _ (List.getElem_mem _)
  · rw [List.getElem?_eq_none (by omega)]; exact hd
theorem rides_bd {b : Book} (hok : BookOk b) {g : Sp.Leg} {x : Sp.Ride} (hx : x ∈ rides b g) : RideB x := by
  unfold rides ridesL at hx
  rw [List.mem_filterMap] at hx
  obtain ⟨⟨t, d⟩, hm, hr⟩ := hx
  obtain ⟨k, _, e, ht, _⟩ := runsTo_mem hm
  dsimp only at e ht
  subst e
  have hc : ∀ c ∈ calls b.zones t k, CallB c := callsGo_inT hok.zones _ _ _ ⟨by omega, by omega⟩ (fun s hs => ((tabOk hok ht).stops s hs).zone)
  have h0 : CallB default := ⟨⟨by show (0 : Int) ≤ 0; omega, by show (0 : Int) ≤ 1099511627776; omega⟩, by show (0 : Int) ≤ 0; omega, by show (0 : Int) ≤ 1099511627776; omega⟩
  unfold rideOf at hr
  split at hr
  · cases hr
  split at hr
  · cases hr
  split at hr
  · cases hr
  simp only [Option.some.injEq] at hr
  subst hr
  exact ⟨(getD_all hc h0).2, (getD_all hc h0).1⟩

theorem leastGo_mem : ∀ (l : List Sp.Ride) (i : Nat) (best : Sp.Ride), leastGo i best l = best ∧ (0 < i ∨ l = []) ∨ leastGo i best l ∈ l
  | [], i, best => .inl ⟨rfl, .inr rfl⟩
  | x :: r, i, best => by
    unfold leastGo
    rcases leastGo_mem r (i + 1) (if i = 0 ∨ x.depart < best.depart then x else best) with ⟨h, _⟩ | h
    · rw [h]
      by_cases hc : i = 0 ∨ x.depart < best.depart
      · rw [if_pos hc]; exact .inr (List.mem_cons_self ..)
      · rw [if_neg hc]; exact .inl ⟨rfl, .inl (by omega)⟩
    · exact .inr (List.mem_cons_of_mem _ h)
theorem least_mem {l : List Sp.Ride} (h : 0 < l.length) : least l ∈ l := by
  rcases leastGo_mem l 0 ⟨0, 0, 0⟩ with ⟨_, h1 | h1⟩ | h1
  · omega
  · subst h1; simp at h
  · exact h1

theorem trip_bd {b : Book} (hok : BookOk b) : ∀ (l : List Sp.Leg) (a : Int) (out : List Sp.Ride), (∀ x ∈ out, RideB x) → (∀ x ∈ (trip b l a out).1, RideB x) ∧ ((trip b l a out).2 = true → (trip b l a out).1.length = out.length + l.length) ∧ (trip b l a out).1.length ≤ out.length + l.length
  | [], a, out, h => ⟨h, fun _ => rfl, Nat.le_refl _⟩
  | g :: r, a, out, h => by
    unfold trip
    split
    · exact ⟨h, (fun h => by cases h), by simp⟩
    · rename_i hne
      have hx : RideB (least (since a (rides b g))) := rides_bd hok (g := g) (List.mem_filter.1 (least_mem (l := since a (rides b g)) (Nat.pos_of_ne_zero hne))).1
      obtain ⟨h1, h2, h3⟩ := trip_bd hok r (least (since a (rides b g))).arrive (out ++ [least (since a (rides b g))]) (fun x hm => by
        rcases List.mem_append.1 hm with hm | hm
        · exact h x hm
        · simp at hm; rw [hm]; exact hx)
      refine ⟨h1, fun h => ?_, ?_⟩
      · rw [h2 h]; simp; omega
      · simp at h3 ⊢; omega

/-- One more ride of the first leg. -/
def waitStep (b : Book) (l : List Sp.Leg) (o : Sp.Span × Bool) (x : Sp.Ride) : Sp.Span × Bool :=
  if (trip b (l.drop 1) x.arrive []).2 = false then o
  else
    let n := ((trip b (l.drop 1) x.arrive []).1.getD 0 default).depart - x.arrive
    let p := if o.2 = false then ⟨n, n⟩ else o.1
    (⟨if n < p.fr then n else p.fr, if p.to_ < n then n else p.to_⟩, true)
def waitAll (b : Book) (l : List Sp.Leg) : Sp.Span × Bool := (rides b (l.getD 0 default)).foldl (waitStep b l) (⟨0, 0⟩, false)
def Waits (b : Book) (l : List Sp.Leg) : Sp.Span × Int := if checkLegs b l ≠ 0 then (⟨0, 0⟩, checkLegs b l) else if counted l.length 2 2 ≠ 0 then (⟨0, 0⟩, counted l.length 2 2) else if (waitAll b l).2 = false then (⟨0, 0⟩, 11) else ((waitAll b l).1, 0)

theorem c50 (b : Book) (hb : BookFit b) (l : List Sp.Leg) (hl : l.length ≤ 1000) : SC (fun _ => Try.prog) 50 [bookA b, lst 3 encLeg default l] [] fun v h => v = .tup [.agg (encSpan (Waits b l).1), .int .i64 fun _ => (Waits b l).2] ∧ h = [] := by
  obtain ⟨nt, hnt⟩ := nth_ex
  refine SC.less (conX false true [] Try.func50 (body := bodyOf Try.f50) rfl (by decide +kernel) ?_)
  have k66 := c66 b hb l hl
  have k78 := c78 (l.length : Int) 2 2
  have hok := checkLegs_ok (b := b) (l := l)
  have hco := counted_ok (n := l.length) (a := 2) (b := 2)
  have k68 := fun h a => c68 b hb h (l.drop 1) a (by rw [List.length_drop]; omega)
  have k68b := fun h a => trip_bd (b := b) h (l.drop 1) a [] (fun x hx => by cases hx)
  have k93 := fun h => c93f b (l.getD 0 default) hb h
  have k93l := fun h => rides_len (b := b) h (l.getD 0 default)
  have k93b := fun h x (hx : x ∈ rides b (l.getD 0 default)) => rides_bd h hx
  unfold Waits waitAll
  have e0 : l.getD 0 default = nt Sp.Leg default l 0 := by rw [hnt]; rfl
  simp only [e0] at k93 k93l k93b ⊢
  generalize checkLegs b l = C at *
  generalize counted l.length 2 2 = D at *
  generalize rides b (nt Sp.Leg default l 0) = R at *
  generalize hF : R.foldl (waitStep b l) (⟨0, 0⟩, false) = F at *
  unfold bookA legA at *
  simp only [lst_nt hnt, lstR_nt hnt] at *
  (cbv; (try simp only [nc] at *); (try refine Chk.mk (okc) ?_))
  refine call0 (k66) (by first | rfl | (simp only [zoneA, bookA, lst_nt hnt]; rfl)) fun r h₂ hp => ?_
  (try simp only [zoneA, bookA, lst_nt hnt] at hp)
  obtain ⟨rfl, rfl⟩ := hp
  (cbv; (try simp only [nc] at *); (try refine Chk.mk (okc) ?_))
  refine ⟨fun h1 => ?_, fun h1 => ?_⟩
  · have h1' : C ≠ 0 := by simpa using h1
    rw [if_pos h1']
    (cbv; (try simp only [nc] at *); (try refine Chk.mk (okc) ?_))
    refine ⟨_, [], ?_, rfl, rfl⟩
    (refine To.of [] ?_; cbv; (try simp only [nc]); (repeat' (first | exact trivial | exact WkN.refl _ | exact WkB.refl _ | refine ⟨?_, ?_⟩ | refine WkB.cells ?_ | refine WkN.agg ?_ | refine WkN.tup ?_)); (all_goals (first | exact okt | skip)))
  have h1' : ¬ C ≠ 0 := by simpa using h1
  have hok := hok (Decidable.of_not_not h1')
  have k93 := k93 hok.1
  have k93l := k93l hok.1
  have k93b := k93b hok.1
  have k68 := k68 hok.1
  have k68b := k68b hok.1
  rw [if_neg h1']
  (cbv; (try simp only [nc] at *); (try refine Chk.mk (okc) ?_))
  refine call0 (k78) (by first | rfl | (simp only [zoneA, bookA, lst_nt hnt]; rfl)) fun r h₂ hp => ?_
  (try simp only [zoneA, bookA, lst_nt hnt] at hp)
  obtain ⟨rfl, rfl⟩ := hp
  (cbv; (try simp only [nc] at *); (try refine Chk.mk (okc) ?_))
  refine ⟨fun h2 => ?_, fun h2 => ?_⟩
  · have h2' : D ≠ 0 := by simpa using h2
    rw [if_pos h2']
    (cbv; (try simp only [nc] at *); (try refine Chk.mk (okc) ?_))
    refine ⟨_, [], ?_, rfl, rfl⟩
    (refine To.of [] ?_; cbv; (try simp only [nc]); (repeat' (first | exact trivial | exact WkN.refl _ | exact WkB.refl _ | refine ⟨?_, ?_⟩ | refine WkB.cells ?_ | refine WkN.agg ?_ | refine WkN.tup ?_)); (all_goals (first | exact okt | skip)))
  have h2' : ¬ D ≠ 0 := by simpa using h2
  have hco := hco (Decidable.of_not_not h2')
  rw [if_neg h2']
  (cbv; (try simp only [nc] at *); (try refine Chk.mk (okc) ?_))
  refine call0 (k93) (by first | rfl | (simp only [zoneA, bookA, lst_nt hnt]; rfl)) fun r h₂ hp => ?_
  (try simp only [zoneA, bookA, lst_nt hnt] at hp)
  obtain ⟨rfl, rfl⟩ := hp
  (cbv; (try simp only [nc] at *); (try refine Chk.mk (okc) ?_))
  refine loopS false true [] [1, 2, 4, 8, 9, 33, 34, 35] [] (fun (⟨i, o, s⟩ : Nat × Sp.Span × Bool) => [(9, .bool fun _ => s), (35, .int .i64 fun _ => i)])
    (fun ⟨i, o, s⟩ => [(2, .cells (encSpan o))]) (fun ⟨i, o, s⟩ => i ≤ R.length ∧ ((-1099511627776 ≤ o.fr ∧ o.fr ≤ 1099511627776) ∧ -1099511627776 ≤ o.to_ ∧ o.to_ ≤ 1099511627776) ∧ (R.drop i).foldl (waitStep b l) (o, s) = F) (fun i => R.length - i.1 + 0) (0, ⟨0, 0⟩, false) ⟨Nat.zero_le _, by simp, by simpa using hF⟩ ?_ ?_
  · (refine To.of [] ?_; cbv; (try simp only [nc]); (repeat' (first | exact trivial | exact WkN.refl _ | exact WkB.refl _ | refine ⟨?_, ?_⟩ | refine WkB.cells ?_ | refine WkN.agg ?_ | refine WkN.tup ?_)); (all_goals (first | exact okt | skip)))
  rintro ⟨i, o, s⟩ ⟨hi, ho, hp⟩
  (cbv; (try simp only [nc] at *); (try refine Chk.mk (okc) ?_))
  refine ⟨fun hb => ?_, fun hb => ?_⟩
  · simp only [decide_eq_true_eq] at hb
    rw [nt_drop (d := default) hnt (l := R) (i := i) (by omega), List.foldl_cons] at hp
    have hxb := k93b _ (nt_mem (d := default) hnt (l := R) (i := i) (by omega))
    generalize hx : nt Sp.Ride default R (i : Int) = x at *
    have k68 := k68 x.arrive
    have k68b := k68b x.arrive
    unfold waitStep at hp
    generalize trip b (l.drop 1) x.arrive [] = T at k68 k68b hp
    (cbv; (try simp only [nc] at *); (try refine Chk.mk (okc) ?_))
    simp only [hx]
    refine call0T k68 (by (refine To.of [] ?_; cbv; (try simp only [nc]); (repeat' (first | exact trivial | exact WkN.refl _ | exact WkB.refl _ | refine ⟨?_, ?_⟩ | refine WkB.cells ?_ | refine WkN.agg ?_ | refine WkN.tup ?_)); (all_goals (first | exact okt | skip))); exact drop_nt hnt (by show (l.length : Int) - 1 = ((l.drop 1).length : Int); rw [List.length_drop]; omega) (fun j hj => rfl)) (by first | rfl | (simp only [bookA, lst_nt hnt]; rfl)) fun r h₂ hq => ?_
    obtain ⟨rfl, rfl⟩ := hq
    (cbv; (try simp only [nc] at *); (try refine Chk.mk (okc) ?_))
    refine ⟨fun h3 => ?_, fun h3 => ?_⟩
    · have h3' : T.2 = false := by simpa using h3
      simp only [h3', if_true] at hp
      (cbv; (try simp only [nc] at *); (try refine Chk.mk (okc) ?_))
      refine ⟨(i + 1, o, s), ⟨by show i + 1 ≤ R.length; omega, ho, hp⟩, by show R.length - (i + 1) + 0 < R.length - i + 0; omega, ?_⟩
      (refine To.of [] ?_; cbv; (try simp only [nc]); (repeat' (first | exact trivial | exact WkN.refl _ | exact WkB.refl _ | refine ⟨?_, ?_⟩ | refine WkB.cells ?_ | refine WkN.agg ?_ | refine WkN.tup ?_)); (all_goals (first | exact okt | skip)))
    · have h3' : T.2 = true := by simpa using h3
      have hTl := k68b.2.1 h3'
      have hTl : 0 < T.1.length := by rw [hTl, List.length_drop]; simp; omega
      have hTb := k68b.1 _ (nt_mem (d := default) hnt (l := T.1) (i := 0) hTl)
      have e2 : T.1.getD 0 default = nt Sp.Ride default T.1 0 := by rw [hnt]; rfl
      simp only [h3', Bool.true_eq_false, if_false, e2] at hp
      change RideB (nt Sp.Ride default T.1 0) at hTb
      (cbv; try simp only [nc] at *)
      obtain ⟨y, hy⟩ : ∃ y, nt Sp.Ride default T.1 0 = y := ⟨_, rfl⟩
      simp only [hy] at hp hTb ⊢
      unfold RideB InT at hTb hxb
      refine Chk.mk (okc) ?_
      cases s with
      | false =>
        refine Br.isT rfl ?_
        simp only [if_true] at hp
        (cbv; (try simp only [nc] at *); (try refine Chk.mk (okc) ?_))
        refine ⟨(i + 1, _, true), ⟨by show i + 1 ≤ R.length; omega, ?_, hp⟩, by show R.length - (i + 1) + 0 < R.length - i + 0; omega, ?_⟩
        · simp only [if_neg (Int.lt_irrefl _)]
          omega
        · simp only [if_neg (Int.lt_irrefl _)]
          (refine To.of [] ?_; cbv; (try simp only [nc]); (repeat' (first | exact trivial | exact WkN.refl _ | exact WkB.refl _ | refine ⟨?_, ?_⟩ | refine WkB.cells ?_ | refine WkN.agg ?_ | refine WkN.tup ?_)); (all_goals (first | exact okt | skip)))
      | true =>
        refine Br.isF rfl ?_
        simp only [Bool.true_eq_false, if_false] at hp
        have hu : -1099511627776 ≤ (if y.depart - x.arrive < o.fr then y.depart - x.arrive else o.fr) ∧ (if y.depart - x.arrive < o.fr then y.depart - x.arrive else o.fr) ≤ 1099511627776 := by split <;> omega
        have hv : -1099511627776 ≤ (if o.to_ < y.depart - x.arrive then y.depart - x.arrive else o.to_) ∧ (if o.to_ < y.depart - x.arrive then y.depart - x.arrive else o.to_) ≤ 1099511627776 := by split <;> omega
        (cbv; try simp only [nc] at *)
        refine Chk.mk (okc) ?_
        generalize (if y.depart - x.arrive < o.fr then y.depart - x.arrive else o.fr) = u at *
        generalize (if o.to_ < y.depart - x.arrive then y.depart - x.arrive else o.to_) = v at *
        refine ⟨(i + 1, ⟨u, v⟩, true), ⟨by show i + 1 ≤ R.length; omega, ⟨hu, hv⟩, hp⟩, by show R.length - (i + 1) + 0 < R.length - i + 0; omega, ?_⟩
        (refine To.of [] ?_; cbv; (try simp only [nc]); (repeat' (first | exact trivial | exact WkN.refl _ | exact WkB.refl _ | refine ⟨?_, ?_⟩ | refine WkB.cells ?_ | refine WkN.agg ?_ | refine WkN.tup ?_)); (all_goals (first | exact okt | skip)))
  · simp only [decide_eq_false_iff_not] at hb
    have hir : R.length ≤ i := by omega
    have hp : (R.drop i).foldl (waitStep b l) (o, s) = F := hp
    rw [List.drop_eq_nil_of_le hir, List.foldl_nil] at hp
    rw [← hp]
    (cbv; (try simp only [nc] at *); (try refine Chk.mk (okc) ?_))
    refine ⟨fun h3 => ?_, fun h3 => ?_⟩
    · have h3' : s = false := by simpa using h3
      rw [if_pos h3']
      (cbv; (try simp only [nc] at *); (try refine Chk.mk (okc) ?_))
      refine ⟨_, [], ?_, rfl, rfl⟩
      (refine To.of [] ?_; cbv; (try simp only [nc]); (repeat' (first | exact trivial | exact WkN.refl _ | exact WkB.refl _ | refine ⟨?_, ?_⟩ | refine WkB.cells ?_ | refine WkN.agg ?_ | refine WkN.tup ?_)); (all_goals (first | exact okt | skip)))
    · have h3' : ¬ s = false := by simpa using h3
      rw [if_neg h3']
      (cbv; (try simp only [nc] at *); (try refine Chk.mk (okc) ?_))
      refine ⟨_, [], ?_, rfl, rfl⟩
      (refine To.of [] ?_; cbv; (try simp only [nc]); (repeat' (first | exact trivial | exact WkN.refl _ | exact WkB.refl _ | refine ⟨?_, ?_⟩ | refine WkB.cells ?_ | refine WkN.agg ?_ | refine WkN.tup ?_)); (all_goals (first | exact okt | skip)))
end Go.Proofs.Ytlcgliadpalgfaa.Vm

/- Plain: the rides of a leg, day by day. -/
namespace Go.Proofs.Ytlcgliadpalgfaa.Vm
open Sp

/-- Calls at stations of which none is met twice. -/
def Dist (C : List Sp.Call) : Prop := ∀ i j, i < C.length → j < C.length → (C.getD i default).station = (C.getD j default).station → i = j

theorem callAt_iff {C : List Sp.Call} (hd : Dist C) {st : Int} {k i : Nat} (hk : k ≤ i) (hi : i < C.length) : (C.getD i default).station = st ↔ callAt C st k = i := by
  constructor
  · intro h
    unfold callAt
    rw [indexFrom_at (d := default) (i := i - k) (by rw [List.length_drop]; omega)]
    · omega
    · simp only [List.getD_eq_getElem?_getD, List.getElem?_drop, show k + (i - k) = i by omega] at h ⊢
      simp [h]
    · intro j hj
      have e : (C.drop k).getD j default = C.getD (k + j) default := by simp [List.getD_eq_getElem?_getD, List.getElem?_drop]
      rw [e]
      refine decide_eq_false fun h2 => ?_
      have := hd (k + j) i (by omega) hi (h2.trans h.symm)
      omega
  · intro h
    unfold callAt at h
    obtain ⟨h1, h2, h3, h4⟩ := indexFrom_some h
    have e : (C.drop k)[i - k]? = some (C.getD i default) := by
      rw [List.getElem?_drop, show k + (i - k) = i by omega, List.getD_eq_getElem?_getD, List.getElem?_eq_getElem hi]; rfl
    simpa using h4 _ e

/-- The ride by a leg that calls are. -/
def rideC (C : List Sp.Call) (g : Sp.Leg) (d : Int) : List Sp.Ride :=
  if 0 ≤ callAt C g.from_ 0 ∧ 0 ≤ callAt C g.to_ ((callAt C g.from_ 0).toNat + 1) then [⟨d, (C.getD (callAt C g.from_ 0).toNat default).depart, (C.getD (callAt C g.to_ ((callAt C g.from_ 0).toNat + 1)).toNat default).arrive⟩] else []

theorem rideOf_C {b : Book} {g : Sp.Leg} {t : Train} {d : Int} (h : t.number = g.number) : (rideOf b g (t, d)).toList = rideC (calls b.zones t d) g d := by
  unfold rideOf rideC
  dsimp only
  rw [if_neg (fun hn => hn h)]
  split
  · rename_i h1
    rw [if_neg (fun hn => by omega)]; rfl
  · rename_i h1
    split
    · rename_i h2
      rw [if_neg (fun hn => by omega)]; rfl
    · rename_i h2
      rw [if_pos ⟨by omega, by omega⟩]; rfl
theorem rideOf_none {b : Book} {g : Sp.Leg} {t : Train} {d : Int} (h : t.number ≠ g.number) : rideOf b g (t, d) = none := by
  unfold rideOf
  rw [if_pos h]

theorem callsGo_station {zs : List Zone} {day : Int} {many : Nat} : ∀ (S : List Stop) (i : Nat) (now : Int) (k : Nat), k < S.length → ((callsGo zs day many i now S).getD k default).station = (S.getD k default).station
  | [], _, _, k, h => by simp at h
  | s :: r, i, now, 0, h => by unfold callsGo; split <;> rfl
  | s :: r, i, now, k + 1, h => by
    have h' : k < r.length := by simpa using h
    unfold callsGo
    split
    · simpa using callsGo_station r _ _ k h'
    · simpa using callsGo_station r _ _ k h'

theorem calls_dist {zones n : Int} {st : Nat} {zs : List Zone} {t : Train} (h : TMade zones st n t) (d : Int) : Dist (calls zs t d) := by
  intro i j hi hj e
  rw [calls_len] at hi hj
  unfold calls at e
  rw [callsGo_station _ _ _ _ hi, callsGo_station _ _ _ _ hj] at e
  have hp := List.pairwise_iff_getElem.1 h.nodup
  simp only [List.getD_eq_getElem?_getD, List.getElem?_eq_getElem hi, List.getElem?_eq_getElem hj, Option.getD_some] at e
  rcases Nat.lt_trichotomy i j with h1 | h1 | h1
  · exact absurd e (hp i j hi hj h1)
  · exact h1
  · exact absurd e.symm (hp j i hj hi h1)

theorem found_rides {b : Book} {g : Sp.Leg} {d : Int} {s : Train → Bool} : ∀ {l : List Train} {k : Int}, 0 ≤ k → l.Pairwise (fun a c => a.number ≠ c.number) →
    ((l.filter s).map fun t => (t, d)).filterMap (rideOf b g) = if indexFrom (fun t : Train => decide (t.number = g.number)) k l < 0 then [] else
      if s (l.getD (indexFrom (fun t : Train => decide (t.number = g.number)) k l - k).toNat default) then rideC (calls b.zones (l.getD (indexFrom (fun t : Train => decide (t.number = g.number)) k l - k).toNat default) d) g d else []
  | [], k, _, _ => by simp [indexFrom]
  | a :: l, k, hk, hp => by
    have hp' := List.pairwise_cons.1 hp
    by_cases hn : a.number = g.number
    · have e1 : indexFrom (fun t : Train => decide (t.number = g.number)) k (a :: l) = k := by unfold indexFrom; rw [if_pos (by simpa using hn)]
      rw [e1, if_neg (by omega)]
      have hrest : ((l.filter s).map fun t => (t, d)).filterMap (rideOf b g) = [] := by
        rw [List.filterMap_eq_nil_iff]
        intro x hx
        rw [List.mem_map] at hx
        obtain ⟨t, ht, rfl⟩ := hx
        exact rideOf_none fun e => hp'.1 t (List.mem_filter.1 ht).1 (hn.trans e.symm)
      simp only [Int.sub_self, Int.toNat_zero, List.getD_cons_zero]
      by_cases hs : s a = true
      · rw [if_pos hs, List.filter_cons, if_pos hs, List.map_cons, List.filterMap_cons, ← rideOf_C hn, hrest]
        cases rideOf b g (a, d) <;> rfl
      · rw [if_neg hs, List.filter_cons, if_neg hs, hrest]
    · have e1 : indexFrom (fun t : Train => decide (t.number = g.number)) k (a :: l) = indexFrom (fun t : Train => decide (t.number = g.number)) (k + 1) l := by rw [indexFrom.eq_def]; dsimp only; rw [if_neg (by simpa using hn)]
      rw [e1]
      have ih := found_rides (b := b) (g := g) (d := d) (s := s) (l := l) (k := k + 1) (by omega) hp'.2
      have he : (((a :: l).filter s).map fun t => (t, d)).filterMap (rideOf b g) = ((l.filter s).map fun t => (t, d)).filterMap (rideOf b g) := by
        rw [List.filter_cons]
        split
        · rw [List.map_cons, List.filterMap_cons, rideOf_none hn]
        · rfl
      rw [he, ih]
      by_cases hI : indexFrom (fun t : Train => decide (t.number = g.number)) (k + 1) l < 0
      · rw [if_pos hI, if_pos hI]
      · rw [if_neg hI, if_neg hI]
        have := indexFrom_lt (q := fun t : Train => decide (t.number = g.number)) (l := l) (i := k + 1) (by omega)
        have e : (indexFrom (fun t : Train => decide (t.number = g.number)) (k + 1) l - k).toNat = (indexFrom (fun t : Train => decide (t.number = g.number)) (k + 1) l - (k + 1)).toNat + 1 := by omega
        rw [e, List.getD_cons_succ]

theorem made_pairwise {zones n : Int} {l : List Train} (h : LMade zones n l) : l.Pairwise (fun a c => a.number ≠ c.number) := by
  rw [List.pairwise_iff_getElem]
  intro i j hi hj hij
  rw [(h.all i _ (List.getElem?_eq_getElem hi)).number, (h.all j _ (List.getElem?_eq_getElem hj)).number]
  omega

/-- What the law's rides find on a day. -/
theorem run_rides {tr days : Int} {b : Book} (hb : BMade tr days b) (hchk : Check b = 0) (g : Sp.Leg) {d : Nat} (hd : (d : Int) ≤ b.last) :
    ((Run b g.number d).2 = 0 ∨ (Run b g.number d).2 = 3 ∨ (Run b g.number d).2 = 11) ∧ (runsIn b d (table b d).length).filterMap (rideOf b g) = rideC (Run b g.number d).1 g d ∧ Dist (Run b g.number d).1 := by
  obtain ⟨n, hn⟩ := table_made hb (d : Int)
  have hrc : rideC [] g d = [] := by unfold rideC callAt; simp [indexFrom]
  have hdn : Dist [] := fun i j h => by simp at h
  have hf : (((table b d).filter fun t => starts t d).map fun t => (t, (d : Int))).filterMap (rideOf b g) = if place (table b d) g.number < 0 then [] else if starts ((table b d).getD (place (table b d) g.number).toNat default) d = true then rideC (calls b.zones ((table b d).getD (place (table b d) g.number).toNat default) d) g d else [] := by
    have := found_rides (b := b) (g := g) (d := (d : Int)) (s := fun t => starts t d) (l := table b d) (k := 0) (Int.le_refl _) (made_pairwise hn)
    simp only [Int.sub_zero] at this
    exact this
  have hr : runsIn b d (table b d).length = ((table b d).filter fun t => starts t d).map fun t => (t, (d : Int)) := by unfold runsIn; rw [List.take_length]
  rw [← hr] at hf
  rw [hf]
  unfold Run
  rw [hchk, if_neg (fun h => h rfl), inB_of (by omega) hd, if_neg (by simp)]
  by_cases hp : place (table b d) g.number < 0
  · rw [if_pos hp, if_pos hp]
    exact ⟨.inr (.inl rfl), hrc.symm, hdn⟩
  · rw [if_neg hp, if_neg hp]
    cases hs : starts ((table b d).getD (place (table b d) g.number).toNat default) d
    · simp only [Bool.not_false, if_true, Bool.false_eq_true, if_false]
      exact ⟨.inr (.inr trivial), hrc.symm, hdn⟩
    · simp only [Bool.not_true, if_true, Bool.false_eq_true, if_false]
      refine ⟨.inl trivial, trivial, ?_⟩
      have hl : place (table b d) g.number < (table b d).length := by
        rcases Nat.eq_zero_or_pos (table b d).length with h | h
        · have e : table b d = [] := List.eq_nil_of_length_eq_zero h
          rw [e] at hp
          exact absurd (show (-1 : Int) < 0 by decide) hp
        · have := indexFrom_lt (q := fun t : Train => decide (t.number = g.number)) (l := table b d) (i := 0) (by omega)
          unfold place
          omega
      have hx := hn.all (place (table b d) g.number).toNat ((table b d).getD (place (table b d) g.number).toNat default) (by rw [List.getD_eq_getElem?_getD, List.getElem?_eq_getElem (by omega)]; rfl)
      exact calls_dist hx d
end Go.Proofs.Ytlcgliadpalgfaa.Vm

/- Contracts: the rides of a leg, as the law finds them. -/
namespace Go.Proofs.Ytlcgliadpalgfaa.Vm
open Go Go.Proofs Sp
set_option maxRecDepth 100000
set_option maxHeartbeats 1600000

theorem ridesL_app (b : Book) (g : Sp.Leg) (l m : List (Train × Int)) : ridesL b g (l ++ m) = ridesL b g l ++ m.filterMap (rideOf b g) := List.filterMap_append ..

theorem bif_and {a b : Bool} (h : (bif a then b else false) = true) : a = true ∧ b = true := by cases a; cases h; exact ⟨rfl, h⟩

theorem c20 (b : Book) (g : Sp.Leg) {tr days : Int} (hb : BMade tr days b) (hchk : Check b = 0) (hfit : BookFit b) : SC (fun _ => Try.prog) 20 [bookA b, legA g] [] fun v h => v = .tup [lst 3 encRide default (rides b g), .bool fun _ => true] ∧ h = [] := by
  obtain ⟨nt, hnt⟩ := nth_ex
  have hok := book_ok hchk
  have hlast := hok.last
  refine SC.less (conX false false [] Try.func20 (body := bodyOf Try.f20) rfl (by decide +kernel) ?_)
  unfold bookA legA
  simp only [lst_nt hnt]
  have hO := fun d => runsTo_len hok d
  (cbv; (try simp only [nc] at *); (try refine Chk.mk (okc) ?_))
  refine loopS false false [] [2, 3, 6, 7] [.tok 3 fun _ => 0] (fun (d : Nat) => [(6, .isl 3 (fun _ => ((ridesL b g (runsTo b d)).length : Int)) (fun e => encRide (nt Sp.Ride default (ridesL b g (runsTo b d)) (e ()))) (.own 2)), (7, .int .i64 fun _ => d)])
    (fun d => [(2, .tok 3 fun _ => ((ridesL b g (runsTo b d)).length : Int))]) (fun d => (d : Int) ≤ b.last + 1) (fun d => (b.last + 1).toNat - d + 0) 0 (by omega) ?_ ?_
  · (refine To.of [(3,false)] ?_; cbv; (try simp only [nc]); (repeat' (first | exact trivial | exact WkN.refl _ | exact WkB.refl _ | refine ⟨?_, ?_⟩ | refine WkB.cells ?_ | refine WkN.agg ?_ | refine WkN.tup ?_)); (all_goals (first | exact okt | skip)))
  intro d hd
  (cbv; (try simp only [nc] at *); (try refine Chk.mk (okc) ?_))
  refine ⟨fun hb1 => ?_, fun hb1 => ?_⟩
  · simp only [decide_eq_true_eq] at hb1
    obtain ⟨r1, r2, r3⟩ := run_rides hb hchk g hb1
    have k26 := c26 b g.number d hfit
    have hR := run_bd hb hchk g.number d
    have hnx : ridesL b g (runsTo b (d + 1)) = ridesL b g (runsTo b d) ++ rideC (Run b g.number d).1 g d := by rw [runsTo_succ, ridesL_app, r2]
    have hOl : (ridesL b g (runsTo b d)).length ≤ 1000 := by
      have h1 := hO d
      have h2 : (ridesL b g (runsTo b d)).length ≤ (runsTo b d).length := List.length_filterMap_le _ _
      omega
    clear r2
    generalize ridesL b g (runsTo b d) = O at *
    generalize Run b g.number d = R at *
    (cbv; (try simp only [nc] at *); (try refine Chk.mk (okc) ?_))
    refine call0 (k26) (by first | rfl | (simp only [zoneA, bookA, lst_nt hnt]; rfl)) fun r h₂ hp => ?_
    (try simp only [zoneA, bookA, lst_nt hnt] at hp)
    obtain ⟨rfl, rfl⟩ := hp
    (cbv; (try simp only [nc] at *); (try refine Chk.mk (okc) ?_))
    refine Br.isF (by rcases r1 with h | h | h <;> rw [h] <;> rfl) ?_
    have hC := R.1
    obtain ⟨C, e⟩ := R
    dsimp only at r1 r3 hR hnx
    obtain ⟨hCl, hCb⟩ := hR
    have hF := fun i (hi : i < C.length) => callAt_iff (k := 0) r3 (st := g.from_) (Nat.zero_le i) hi
    have hM := fun i (h1 : (callAt C g.from_ 0).toNat + 1 ≤ i) (hi : i < C.length) => callAt_iff r3 (st := g.to_) h1 hi
    have hFb := callAt_lt (C := C) (st := g.from_) (k := 0) (by omega)
    have hMb : 0 ≤ callAt C g.from_ 0 → callAt C g.to_ ((callAt C g.from_ 0).toNat + 1) = -1 ∨ callAt C g.from_ 0 < callAt C g.to_ ((callAt C g.from_ 0).toNat + 1) := fun h => by
      have := callAt_lt (C := C) (st := g.to_) (k := (callAt C g.from_ 0).toNat + 1) (by omega)
      omega
    have hMl : callAt C g.to_ ((callAt C g.from_ 0).toNat + 1) < C.length := by
      by_cases h : (callAt C g.from_ 0).toNat + 1 ≤ C.length
      · exact (callAt_lt (C := C) (st := g.to_) (k := (callAt C g.from_ 0).toNat + 1) h).2
      · have e : C = [] := List.eq_nil_of_length_eq_zero (by omega)
        subst e
        simp [callAt, indexFrom]
    have hr : ∀ f m : Nat, callAt C g.from_ 0 = f → callAt C g.to_ ((callAt C g.from_ 0).toNat + 1) = m → rideC C g d = [⟨d, (nt Sp.Call default C (f : Int)).depart, (nt Sp.Call default C (m : Int)).arrive⟩] := fun f m h1 h2 => by
      unfold rideC
      rw [h2, h1, if_pos ⟨by omega, by omega⟩, hnt, hnt]
    have hX0 : callAt C g.to_ ((callAt C g.from_ 0).toNat + 1) < 0 → rideC C g d = [] := fun h => by
      unfold rideC
      rw [if_neg (fun h' => by omega)]
    have hX1 : callAt C g.from_ 0 < 0 → rideC C g d = [] := fun h => by
      unfold rideC
      rw [if_neg (fun h' => by omega)]
    have hrl : (rideC C g d).length ≤ 1 := by unfold rideC; split <;> simp
    generalize rideC C g d = X at *
    generalize callAt C g.to_ ((callAt C g.from_ 0).toNat + 1) = M at *
    generalize callAt C g.from_ 0 = F at *
    (cbv; (try simp only [nc] at *); (try refine Chk.mk (okc) ?_))
    refine loopQ fun Q hQ => ?_
    refine loopS false false [] [2, 3, 6, 7, 8, 10, 11] [] (fun (⟨i, f, out⟩ : Nat × Int × List Sp.Ride) => [(6, .isl 3 (fun _ => (out.length : Int)) (fun e => encRide (nt Sp.Ride default out (e ()))) (.own 2)), (10, .int .i64 fun _ => f), (11, .int .i64 fun _ => i)])
      (fun ⟨i, f, out⟩ => [(2, .tok 3 fun _ => (out.length : Int))]) (fun ⟨i, f, out⟩ => i ≤ C.length ∧ f = (if F < i then F else -1) ∧ out = O ++ (if M < i then X else [])) (fun i => C.length - i.1 + 0) (0, -1, O) ⟨Nat.zero_le _, ?_, ?_⟩ ?_ ?_
    · split <;> omega
    · show O = O ++ (if M < ((0 : Nat) : Int) then X else [])
      split
      · rename_i h; rw [hX0 (by omega), List.append_nil]
      · rw [List.append_nil]
    · (refine To.of [] ?_; cbv; (try simp only [nc]); (repeat' (first | exact trivial | exact WkN.refl _ | exact WkB.refl _ | refine ⟨?_, ?_⟩ | refine WkB.cells ?_ | refine WkN.agg ?_ | refine WkN.tup ?_)); (all_goals (first | exact okt | skip)))
    rintro ⟨i, f, out⟩ ⟨hi, hf, ho⟩
    have hf : f = (if F < i then F else -1) := hf
    have ho : out = O ++ (if M < i then X else []) := ho
    have hol : out.length ≤ 1001 := by rw [ho, List.length_append]; split <;> (try simp only [List.length_nil]) <;> omega
    (cbv; (try simp only [nc] at *); (try refine Chk.mk (okc) ?_))
    refine ⟨fun hb2 => ?_, fun hb2 => ?_⟩
    · simp only [decide_eq_true_eq] at hb2
      have hF := hF i (by omega)
      have hM := fun h => hM i h (by omega)
      have e1 : C.getD i default = nt Sp.Call default C (i : Int) := by rw [hnt]; rfl
      rw [e1] at hF hM
      (cbv; (try simp only [nc] at *); (try refine Chk.mk (okc) ?_))
      have hfl : f < C.length ∧ -1 ≤ f := by rw [hf]; split <;> omega
      have hF2 : (if (nt Sp.Call default C (i : Int)).station = g.from_ then (i : Int) else f) = if F < (i + 1 : Nat) then F else -1 := by
        rw [hf]
        by_cases h : (nt Sp.Call default C (i : Int)).station = g.from_
        · have := hF.1 h
          rw [if_pos h, if_pos (by omega)]; omega
        · have : F ≠ i := fun h' => h (hF.2 h')
          rw [if_neg h]
          split <;> split <;> omega
      refine ⟨fun hb3 => ?_, fun hb3 => ?_⟩
      · have hb3' := bif_and hb3
        have hf0 : 0 ≤ f := by have := hb3'.1; simpa using this
        have hto : (nt Sp.Call default C (i : Int)).station = g.to_ := by have := hb3'.2; simpa using this
        have hFi : F < i ∧ f = F := by
          by_cases h : F < i
          · exact ⟨h, by rw [hf, if_pos h]⟩
          · rw [hf, if_neg h] at hf0; omega
        have hMi : M = i := (hM (by omega)).1 hto
        have hX := hr F.toNat i (by omega) hMi
        have ho2 : out ++ [⟨(d : Int), (nt Sp.Call default C f).depart, (nt Sp.Call default C (i : Int)).arrive⟩] = O ++ (if M < (i + 1 : Nat) then X else []) := by
          rw [ho, if_neg (by omega), if_pos (by omega), hX, List.append_nil, hFi.2]
          rw [show ((F.toNat : Nat) : Int) = F by omega]
        (cbv; (try simp only [nc] at *); (try refine Chk.mk (okc) ?_))
        refine ⟨fun hb4 => ?_, fun hb4 => ?_⟩
        · rw [if_pos (by simpa using hb4)] at hF2
          (cbv; (try simp only [nc] at *); (try refine Chk.mk (okc) ?_))
          refine ⟨(i + 1, (i : Int), out ++ [⟨(d : Int), (nt Sp.Call default C f).depart, (nt Sp.Call default C (i : Int)).arrive⟩]), ⟨by show i + 1 ≤ C.length; omega, hF2, ho2⟩, by show C.length - (i + 1) + 0 < C.length - i + 0; omega, ?_⟩
          (refine To.of [] ?_; cbv; (try simp only [nc]); (repeat' (first | exact trivial | exact WkN.refl _ | exact WkB.refl _ | refine ⟨?_, ?_⟩ | refine WkB.cells ?_ | refine WkN.agg ?_ | refine WkN.tup ?_)); (all_goals (first | exact okt | skip)))
        · rw [if_neg (by simpa using hb4)] at hF2
          (cbv; (try simp only [nc] at *); (try refine Chk.mk (okc) ?_))
          refine ⟨(i + 1, f, out ++ [⟨(d : Int), (nt Sp.Call default C f).depart, (nt Sp.Call default C (i : Int)).arrive⟩]), ⟨by show i + 1 ≤ C.length; omega, hF2, ho2⟩, by show C.length - (i + 1) + 0 < C.length - i + 0; omega, ?_⟩
          (refine To.of [] ?_; cbv; (try simp only [nc]); (repeat' (first | exact trivial | exact WkN.refl _ | exact WkB.refl _ | refine ⟨?_, ?_⟩ | refine WkB.cells ?_ | refine WkN.agg ?_ | refine WkN.tup ?_)); (all_goals (first | exact okt | skip)))
      · have ho2 : out = O ++ (if M < (i + 1 : Nat) then X else []) := by
          rw [ho]
          by_cases h : M = i
          · by_cases h0 : F < i ∧ 0 ≤ F
            · exfalso
              have h1 := (hM (by omega)).2 h
              rw [h1, hf, if_pos h0.1, decide_eq_true h0.2] at hb3
              simp at hb3
            · have hF0 : F < 0 := by
                have := hMb
                omega
              rw [hX1 hF0]
              split <;> split <;> rfl
          · congr 1
            split <;> split <;> first | rfl | omega
        (cbv; (try simp only [nc] at *); (try refine Chk.mk (okc) ?_))
        refine ⟨fun hb4 => ?_, fun hb4 => ?_⟩
        · rw [if_pos (by simpa using hb4)] at hF2
          (cbv; (try simp only [nc] at *); (try refine Chk.mk (okc) ?_))
          refine ⟨(i + 1, (i : Int), out), ⟨by show i + 1 ≤ C.length; omega, hF2, ho2⟩, by show C.length - (i + 1) + 0 < C.length - i + 0; omega, ?_⟩
          (refine To.of [] ?_; cbv; (try simp only [nc]); (repeat' (first | exact trivial | exact WkN.refl _ | exact WkB.refl _ | refine ⟨?_, ?_⟩ | refine WkB.cells ?_ | refine WkN.agg ?_ | refine WkN.tup ?_)); (all_goals (first | exact okt | skip)))
        · rw [if_neg (by simpa using hb4)] at hF2
          (cbv; (try simp only [nc] at *); (try refine Chk.mk (okc) ?_))
          refine ⟨(i + 1, f, out), ⟨by show i + 1 ≤ C.length; omega, hF2, ho2⟩, by show C.length - (i + 1) + 0 < C.length - i + 0; omega, ?_⟩
          (refine To.of [] ?_; cbv; (try simp only [nc]); (repeat' (first | exact trivial | exact WkN.refl _ | exact WkB.refl _ | refine ⟨?_, ?_⟩ | refine WkB.cells ?_ | refine WkN.agg ?_ | refine WkN.tup ?_)); (all_goals (first | exact okt | skip)))
    · (cbv; (try simp only [nc] at *); (try refine Chk.mk (okc) ?_))
      refine hQ _ _ _ ?_
      clear hQ
      have hie : i = C.length := by simp only [decide_eq_false_iff_not] at hb2; omega
      subst hie
      have ho : out = ridesL b g (runsTo b (d + 1)) := by rw [ho, hnx, if_pos (by omega)]
      subst ho
      (cbv; (try simp only [nc] at *); (try refine Chk.mk (okc) ?_))
      refine ⟨d + 1, by omega, by omega, ?_⟩
      (refine To.of [] ?_; cbv; (try simp only [nc]); (repeat' (first | exact trivial | exact WkN.refl _ | exact WkB.refl _ | refine ⟨?_, ?_⟩ | refine WkB.cells ?_ | refine WkN.agg ?_ | refine WkN.tup ?_)); (all_goals (first | exact okt | skip)))
  · have hde : d = (b.last + 1).toNat := by simp only [decide_eq_false_iff_not] at hb1; omega
    subst hde
    (cbv; (try simp only [nc] at *); (try refine Chk.mk (okc) ?_))
    refine ⟨_, [], ?_, rfl, rfl⟩
    unfold rides
    (refine To.of [] ?_; cbv; (try simp only [nc]); (repeat' (first | exact trivial | exact WkN.refl _ | exact WkB.refl _ | refine ⟨?_, ?_⟩ | refine WkB.cells ?_ | refine WkN.agg ?_ | refine WkN.tup ?_)); (all_goals (first | exact okt | skip)))
end Go.Proofs.Ytlcgliadpalgfaa.Vm

/- Contracts: legs made of numbers. -/
namespace Go.Proofs.Ytlcgliadpalgfaa.Vm
open Go Go.Proofs Sp
set_option maxRecDepth 100000
set_option maxHeartbeats 1600000

/-- Legs that are made of numbers. -/
structure LegsMade (n : Int) (L : List Sp.Leg) : Prop where
  len : (L.length : Int) ≤ n
  ne : ∀ g ∈ L, g.from_ ≠ g.to_
  chain : ∀ i, i + 1 < L.length → (L.getD (i + 1) default).from_ = (L.getD i default).to_

theorem app_nt {nt : (α : Type) → α → List α → Int → α} (hnt : ∀ (α : Type) (d : α) (l : List α) (i : Int), nt α d l i = l.getD i.toNat d) {α : Type} {n k sz : Nat} {enc : α → List AV} {d : α} {l m : List α} {n0 n1 m' : Unit → Int} {f0 : (Unit → Int) → List AV} {tk : Tk} (h0 : n0 () = 0) (h1 : n1 () = (l.length : Int)) (hm : m' () = ((l ++ m).length : Int)) :
    WkN n k (.isl sz m' (snocF n1 (snocF n0 f0 fun e => enc (nt α d l (e ()))) fun e => enc (nt α d m (e ()))) tk) (.isl sz (fun _ => ((l ++ m).length : Int)) (fun e => enc (nt α d (l ++ m) (e ()))) .none) :=
  .none hm fun i hi => by
    show (if (i : Int) < n1 () then (if (i : Int) < n0 () then f0 (fun _ => (i : Int)) else enc (nt α d l ((i : Int) - n0 ()))) else enc (nt α d m ((i : Int) - n1 ()))) = enc (nt α d (l ++ m) (i : Int))
    simp only [hnt, List.getD_eq_getElem?_getD, Int.toNat_natCast]
    by_cases h : i < l.length
    · rw [if_pos (by omega), if_neg (by omega), h0, Int.sub_zero, Int.toNat_natCast, List.getElem?_append_left h]
    · rw [if_neg (by omega), h1, List.getElem?_append_right (by omega)]
      congr 3
      omega

theorem encTrain_nt {nt : (α : Type) → α → List α → Int → α} (hnt : ∀ (α : Type) (d : α) (l : List α) (i : Int), nt α d l i = l.getD i.toNat d) (t : Train) : encTrain t = [.int .i64 fun _ => t.number, .int .i64 fun _ => t.days, .isl 4 (fun _ => (t.stops.length : Int)) (fun e => encStop (nt Stop default t.stops (e ()))) .none] := by
  unfold encTrain
  rw [lst_nt hnt]

theorem LegsMade.snoc {n : Int} {L : List Sp.Leg} {g : Sp.Leg} (h : LegsMade n L) (hl : (L.length : Int) + 1 ≤ n) (hg : g.from_ ≠ g.to_) (hc : L = [] ∨ ∃ L' x, L = L' ++ [x] ∧ g.from_ = x.to_) : LegsMade n (L ++ [g]) := by
  refine ⟨by simp; omega, fun x hx => ?_, fun i hi => ?_⟩
  · rcases List.mem_append.1 hx with hx | hx
    · exact h.ne x hx
    · simp at hx; subst hx; exact hg
  · simp at hi
    by_cases h1 : i + 1 < L.length
    · have := h.chain i h1
      simp only [List.getD_eq_getElem?_getD] at this ⊢
      rw [List.getElem?_append_left h1, List.getElem?_append_left (by omega)]
      exact this
    · rcases hc with rfl | ⟨L', x, rfl, e⟩
      · simp at hi
      · simp at h1 hi
        have hi' : i = L'.length := by omega
        subst hi'
        simp only [List.getD_eq_getElem?_getD]
        simp [e]

theorem c16 (s most : Int) {tr days : Int} (b : Book) (hb : BMade tr days b) (htr : tr ≤ 4) (hm : 1 ≤ most ∧ most ≤ 100) : SC (fun _ => Try.prog) 16 [.ptr 0 0, bookA b, .int .i64 fun _ => most] [bagB s] fun v h => ∃ (L : List Sp.Leg) (s' : Int), LegsMade most L ∧ v = lst 3 encLeg default L ∧ h = [bagB s'] := by
  obtain ⟨nt, hnt⟩ := nth_ex
  have ho := hb.olen
  have hn := hb.nlen
  refine SC.less (conX false false [] Try.func16 (body := bodyOf Try.f16) rfl (by decide +kernel) ?_)
  unfold bookA
  simp only [lst_nt hnt]
  (cbv; (try simp only [nc] at *); (try refine Chk.mk (okc) ?_))
  refine callL [0] (c22 s 1 most (by omega) (by omega)) (by decide) (by simp) (by first | rfl | (simp only [zoneA, bookA, lst_nt hnt]; rfl)) (by first | rfl | (simp only [zoneA, bookA, lst_nt hnt]; rfl)) fun r h₂ hp => ?_
  (try simp only [zoneA, bookA, lst_nt hnt] at hp)
  obtain ⟨n0, s1, hn0, rfl, rfl⟩ := hp
  (cbv; (try simp only [nc] at *); (try refine Chk.mk (okc) ?_))
  have hA : ∀ t ∈ b.old ++ b.new, ∃ n, TMade b.zones.length 4 n t := fun t ht => by
    rcases List.mem_append.1 ht with ht | ht
    · obtain ⟨i, hi, rfl⟩ := List.mem_iff_getElem.1 ht
      exact ⟨_, hb.old.all i _ (List.getElem?_eq_getElem hi)⟩
    · obtain ⟨i, hi, rfl⟩ := List.mem_iff_getElem.1 ht
      exact ⟨_, hb.new.all i _ (List.getElem?_eq_getElem hi)⟩
  have hAl : 2 ≤ (b.old ++ b.new).length ∧ (b.old ++ b.new).length ≤ 8 := by rw [List.length_append]; omega
  refine loopS false false [] [0, 7, 8, 9, 10] [.tok 3 fun _ => 0] (fun (⟨n, a, L, s⟩ : Int × Int × List Sp.Leg × Int) => [(7, .isl 3 (fun _ => ((b.old ++ b.new).length : Int)) (fun e => encTrain (nt Train default (b.old ++ b.new) (e ()))) .none), (8, .isl 3 (fun _ => (L.length : Int)) (fun e => encLeg (nt Sp.Leg default L (e ()))) (.own 3)), (9, .int .i64 fun _ => a), (10, .int .i64 fun _ => n)])
    (fun ⟨n, a, L, s⟩ => [(0, bagB s), (3, .tok 3 fun _ => (L.length : Int))]) (fun ⟨n, a, L, s⟩ => 0 ≤ n ∧ (L.length : Int) + n ≤ most ∧ LegsMade most L ∧ ((L = [] ∧ a = -1) ∨ ∃ L' x, L = L' ++ [x] ∧ a = x.to_ ∧ 0 ≤ a)) (fun i => i.1.toNat + 0) (n0, -1, [], s1) ⟨by omega, by show (([] : List Sp.Leg).length : Int) + n0 ≤ most; simp; omega, ⟨by simp; omega, by simp, by simp⟩, .inl ⟨rfl, rfl⟩⟩ ?_ ?_
  · (refine To.of [(3,false)] ?_; cbv; (try simp only [nc]); (repeat' (first | exact trivial | exact WkN.refl _ | exact WkB.refl _ | refine ⟨?_, ?_⟩ | refine WkB.cells ?_ | refine WkN.agg ?_ | refine WkN.tup ?_)); (all_goals (first | exact okt | skip)))
    exact app_nt hnt rfl (by simp) (by simp)
  rintro ⟨n, a, L, s⟩ ⟨h1, h2, h3, h4⟩
  have h2 : (L.length : Int) + n ≤ most := h2
  have h1 : 0 ≤ n := h1
  generalize b.old ++ b.new = A at *
  simp only [encTrain_nt hnt]
  (cbv; (try simp only [nc] at *); (try refine Chk.mk (okc) ?_))
  refine ⟨fun hb1 => ?_, fun hb1 => ?_⟩
  · simp only [decide_eq_true_eq] at hb1
    (cbv; (try simp only [nc] at *); (try refine Chk.mk (okc) ?_))
    refine callL [0] (c17 s ((A.length : Int) - 1) (by omega)) (by decide) (by simp) (by first | rfl | (simp only [zoneA, bookA, lst_nt hnt]; rfl)) (by first | rfl | (simp only [zoneA, bookA, lst_nt hnt]; rfl)) fun r h₂ hp => ?_
    (try simp only [zoneA, bookA, lst_nt hnt] at hp)
    obtain ⟨x, s2, hx, rfl, rfl⟩ := hp
    (cbv; try simp only [nc] at *)
    obtain ⟨x, rfl⟩ : ∃ k : Nat, x = k := ⟨x.toNat, by omega⟩
    obtain ⟨num, hT⟩ := hA _ (nt_mem (d := default) hnt (l := A) (i := x) (by omega))
    have hTl := hT.len
    have hTs := hT.stop
    generalize nt Train default A (x : Int) = t at *
    refine Chk.mk (okc) ?_
    refine callL [0] (c17 s2 ((t.stops.length : Int) - 2) (by omega)) (by decide) (by simp) (by first | rfl | (simp only [zoneA, bookA, lst_nt hnt]; rfl)) (by first | rfl | (simp only [zoneA, bookA, lst_nt hnt]; rfl)) fun r h₂ hp => ?_
    (try simp only [zoneA, bookA, lst_nt hnt] at hp)
    obtain ⟨f0, s3, hf0, rfl, rfl⟩ := hp
    (cbv; (try simp only [nc] at *); (try refine Chk.mk (okc) ?_))
    refine loopQ fun Q hQ => ?_
    refine loopS false false [] [0, 7, 8, 9, 10, 11, 12, 13, 14] [] (fun (⟨k, f⟩ : Int × Int) => [(12, .int .i64 fun _ => f), (14, .int .i64 fun _ => k)]) (fun _ => []) (fun ⟨k, f⟩ => (0 ≤ k ∧ k ≤ (t.stops.length : Int) - 1) ∧ 0 ≤ f ∧ f ≤ (t.stops.length : Int) - 2) (fun i => ((t.stops.length : Int) - 1 - i.1).toNat + 0) (0, f0) ⟨⟨by omega, by omega⟩, by omega, by omega⟩ ?_ ?_
    · (refine To.of [] ?_; cbv; (try simp only [nc]); (repeat' (first | exact trivial | exact WkN.refl _ | exact WkB.refl _ | refine ⟨?_, ?_⟩ | refine WkB.cells ?_ | refine WkN.agg ?_ | refine WkN.tup ?_)); (all_goals (first | exact okt | skip)))
    rintro ⟨k, f⟩ ⟨hk, hf⟩
    have hk : 0 ≤ k ∧ k ≤ (t.stops.length : Int) - 1 := hk
    have hf : 0 ≤ f ∧ f ≤ (t.stops.length : Int) - 2 := hf
    (cbv; (try simp only [nc] at *); (try refine Chk.mk (okc) ?_))
    refine ⟨fun hb2 => ?_, fun hb2 => ?_⟩
    · simp only [decide_eq_true_eq] at hb2
      (cbv; (try simp only [nc] at *); (try refine Chk.mk (okc) ?_))
      refine ⟨fun hb3 => ?_, fun hb3 => ?_⟩
      · (cbv; (try simp only [nc] at *); (try refine Chk.mk (okc) ?_))
        refine ⟨(k + 1, k), ⟨⟨by show 0 ≤ k + 1; omega, by show k + 1 ≤ _; omega⟩, hk.1, by show k ≤ _; omega⟩, by show ((t.stops.length : Int) - 1 - (k + 1)).toNat + 0 < ((t.stops.length : Int) - 1 - k).toNat + 0; omega, ?_⟩
        (refine To.of [] ?_; cbv; (try simp only [nc]); (repeat' (first | exact trivial | exact WkN.refl _ | exact WkB.refl _ | refine ⟨?_, ?_⟩ | refine WkB.cells ?_ | refine WkN.agg ?_ | refine WkN.tup ?_)); (all_goals (first | exact okt | skip)))
      · (cbv; (try simp only [nc] at *); (try refine Chk.mk (okc) ?_))
        refine ⟨(k + 1, f), ⟨⟨by show 0 ≤ k + 1; omega, by show k + 1 ≤ _; omega⟩, hf⟩, by show ((t.stops.length : Int) - 1 - (k + 1)).toNat + 0 < ((t.stops.length : Int) - 1 - k).toNat + 0; omega, ?_⟩
        (refine To.of [] ?_; cbv; (try simp only [nc]); (repeat' (first | exact trivial | exact WkN.refl _ | exact WkB.refl _ | refine ⟨?_, ?_⟩ | refine WkB.cells ?_ | refine WkN.agg ?_ | refine WkN.tup ?_)); (all_goals (first | exact okt | skip)))
    · (cbv; (try simp only [nc] at *); (try refine Chk.mk (okc) ?_))
      refine hQ _ _ _ ?_
      clear hQ
      (cbv; (try simp only [nc] at *); (try refine Chk.mk (okc) ?_))
      refine callL [0] (c22 s3 (f + 1) ((t.stops.length : Int) - 1) (by omega) (by omega)) (by decide) (by simp) (by first | rfl | (simp only [zoneA, bookA, lst_nt hnt]; rfl)) (by first | rfl | (simp only [zoneA, bookA, lst_nt hnt]; rfl)) fun r h₂ hp => ?_
      (try simp only [zoneA, bookA, lst_nt hnt] at hp)
      obtain ⟨q, s4, hq, rfl, rfl⟩ := hp
      (cbv; try simp only [nc] at *)
      obtain ⟨f, rfl⟩ : ∃ k : Nat, f = k := ⟨f.toNat, by omega⟩
      obtain ⟨q, rfl⟩ : ∃ k : Nat, q = k := ⟨q.toNat, by omega⟩
      have hs1 := (hTs _ (nt_mem (d := default) hnt (l := t.stops) (i := f) (by omega))).1
      have hs2 := (hTs _ (nt_mem (d := default) hnt (l := t.stops) (i := q) (by omega))).1
      generalize nt Stop default t.stops (f : Int) = x1 at *
      generalize nt Stop default t.stops (q : Int) = x2 at *
      refine Chk.mk (okc) ?_
      refine ⟨fun hb3 => ?_, fun hb3 => ?_⟩
      · simp only [decide_eq_true_eq] at hb3
        (cbv; (try simp only [nc] at *); (try refine Chk.mk (okc) ?_))
        refine ⟨fun hb4 => ?_, fun hb4 => ?_⟩
        · have hne : a ≠ x2.station := by simpa using hb4
          (cbv; (try simp only [nc] at *); (try refine Chk.mk (okc) ?_))
          refine ⟨(n - 1, x2.station, L ++ [⟨t.number, a, x2.station⟩], s4), ⟨by show 0 ≤ n - 1; omega, by dsimp only; rw [List.length_append]; simp only [List.length_cons, List.length_nil]; omega, h3.snoc (by omega) hne ?_, .inr ⟨L, _, rfl, rfl, hs2.1⟩⟩, by show (n - 1).toNat + 0 < n.toNat + 0; omega, ?_⟩
          · rcases h4 with h4 | ⟨L', x, e1, e2, _⟩
            · exact .inl h4.1
            · exact .inr ⟨L', x, e1, e2⟩
          · (refine To.of [] ?_; cbv; (try simp only [nc]); (repeat' (first | exact trivial | exact WkN.refl _ | exact WkB.refl _ | refine ⟨?_, ?_⟩ | refine WkB.cells ?_ | refine WkN.agg ?_ | refine WkN.tup ?_)); (all_goals (first | exact okt | skip)))
        · (cbv; (try simp only [nc] at *); (try refine Chk.mk (okc) ?_))
          refine ⟨(n - 1, a, L, s4), ⟨by show 0 ≤ n - 1; omega, by show (L.length : Int) + (n - 1) ≤ most; omega, h3, h4⟩, by show (n - 1).toNat + 0 < n.toNat + 0; omega, ?_⟩
          (refine To.of [] ?_; cbv; (try simp only [nc]); (repeat' (first | exact trivial | exact WkN.refl _ | exact WkB.refl _ | refine ⟨?_, ?_⟩ | refine WkB.cells ?_ | refine WkN.agg ?_ | refine WkN.tup ?_)); (all_goals (first | exact okt | skip)))
      · simp only [decide_eq_false_iff_not] at hb3
        have hL : L = [] := by
          rcases h4 with h4 | ⟨L', x, e1, e2, h5⟩
          · exact h4.1
          · exact absurd h5 hb3
        (cbv; (try simp only [nc] at *); (try refine Chk.mk (okc) ?_))
        refine ⟨fun hb4 => ?_, fun hb4 => ?_⟩
        · have hne : x1.station ≠ x2.station := by simpa using hb4
          (cbv; (try simp only [nc] at *); (try refine Chk.mk (okc) ?_))
          refine ⟨(n - 1, x2.station, L ++ [⟨t.number, x1.station, x2.station⟩], s4), ⟨by show 0 ≤ n - 1; omega, by dsimp only; rw [List.length_append]; simp only [List.length_cons, List.length_nil]; omega, h3.snoc (by omega) hne (.inl hL), .inr ⟨L, _, rfl, rfl, hs2.1⟩⟩, by show (n - 1).toNat + 0 < n.toNat + 0; omega, ?_⟩
          (refine To.of [] ?_; cbv; (try simp only [nc]); (repeat' (first | exact trivial | exact WkN.refl _ | exact WkB.refl _ | refine ⟨?_, ?_⟩ | refine WkB.cells ?_ | refine WkN.agg ?_ | refine WkN.tup ?_)); (all_goals (first | exact okt | skip)))
        · (cbv; (try simp only [nc] at *); (try refine Chk.mk (okc) ?_))
          refine ⟨(n - 1, a, L, s4), ⟨by show 0 ≤ n - 1; omega, by show (L.length : Int) + (n - 1) ≤ most; omega, h3, h4⟩, by show (n - 1).toNat + 0 < n.toNat + 0; omega, ?_⟩
          (refine To.of [] ?_; cbv; (try simp only [nc]); (repeat' (first | exact trivial | exact WkN.refl _ | exact WkB.refl _ | refine ⟨?_, ?_⟩ | refine WkB.cells ?_ | refine WkN.agg ?_ | refine WkN.tup ?_)); (all_goals (first | exact okt | skip)))
  · simp only [decide_eq_false_iff_not] at hb1
    (cbv; (try simp only [nc] at *); (try refine Chk.mk (okc) ?_))
    refine ⟨_, [bagB s], ?_, L, s, h3, rfl, rfl⟩
    (refine To.of [] ?_; cbv; (try simp only [nc]); (repeat' (first | exact trivial | exact WkN.refl _ | exact WkB.refl _ | refine ⟨?_, ?_⟩ | refine WkB.cells ?_ | refine WkN.agg ?_ | refine WkN.tup ?_)); (all_goals (first | exact okt | skip)))
end Go.Proofs.Ytlcgliadpalgfaa.Vm

/- Contracts: books that are copied, and whether they are equal. -/
namespace Go.Proofs.Ytlcgliadpalgfaa.Vm
open Go Go.Proofs Sp
set_option maxRecDepth 100000
set_option maxHeartbeats 1600000

theorem c30n (z : Zone) (hlen : z.chs.length ≤ 1000000) : SC (fun _ => Try.prog) 30 [zoneA z] [] fun v h => v = zoneA z ∧ h = [] := by
  obtain ⟨nt, hnt⟩ := nth_ex
  refine SC.less (conX false false [] Try.func30 (body := bodyOf Try.f30) rfl (by decide +kernel) ?_)
  unfold zoneA
  simp only [lst_nt hnt, lstR_nt hnt]
  (cbv; (try simp only [nc] at *); (try refine Chk.mk (okc) ?_))
  refine ⟨_, _, ?_, rfl, rfl⟩
  (refine To.of [] ?_; cbv; (try simp only [nc]); (repeat' (first | exact trivial | exact WkN.refl _ | exact WkB.refl _ | refine ⟨?_, ?_⟩ | refine WkB.cells ?_ | refine WkN.agg ?_ | refine WkN.tup ?_)); (all_goals (first | exact okt | skip)))
  · refine .isl (by simp) fun i hi => ?_
    show (if ((i : Nat) : Int) < (([] : List Chg).length : Int) then _ else _) = _
    rw [if_neg (by simp)]
    simp

theorem c69 (l : List Train) (hl : l.length ≤ 1000000) (hs : ∀ t ∈ l, t.stops.length ≤ 1000000) : SC (fun _ => Try.prog) 69 [lst 3 encTrain default l] [] fun v h => v = lst 3 encTrain default l ∧ h = [] := by
  obtain ⟨nt, hnt⟩ := nth_ex
  refine SC.less (conX false false [] Try.func69 (body := bodyOf Try.f69) rfl (by decide +kernel) ?_)
  simp only [lst_nt hnt]
  (cbv; (try simp only [nc] at *); (try refine Chk.mk (okc) ?_))
  refine loopS false false [] [0, 3, 4] [.tok 3 fun _ => 0] (fun (i : Nat) => [(3, .isl 3 (fun _ => ((l.take i).length : Int)) (fun e => encTrain (nt Train default (l.take i) (e ()))) (.own 0)), (4, .int .i64 fun _ => (i : Int))])
    (fun i => [(0, .tok 3 fun _ => ((l.take i).length : Int))]) (fun i => i ≤ l.length) (fun i => l.length - i + 0) 0 (Nat.zero_le _) ?_ ?_
  · (refine To.of [(3,false)] ?_; cbv; (try simp only [nc]); (repeat' (first | exact trivial | exact WkN.refl _ | exact WkB.refl _ | refine ⟨?_, ?_⟩ | refine WkB.cells ?_ | refine WkN.agg ?_ | refine WkN.tup ?_)); (all_goals (first | exact okt | skip)))
  intro i hi
  (cbv; (try simp only [nc] at *); (try refine Chk.mk (okc) ?_))
  refine ⟨fun hb => ?_, fun hb => ?_⟩
  · simp only [decide_eq_true_eq] at hb
    have hst := hs _ (nt_mem (d := default) hnt (l := l) (i := i) (by omega))
    have htk := nt_take (d := default) hnt (l := l) (i := i) (by omega)
    have hti : (l.take i).length = i := by rw [List.length_take]; omega
    (cbv; try simp only [nc] at *)
    generalize nt Train default l (i : Int) = t at *
    have hul : (t.stops.length : Int) ≤ 1000000 := by omega
    have hul0 : ((0 : Nat) : Int) + (t.stops.length : Int) ≤ 1000000 := by omega
    refine Chk.mk (okc) ?_
    refine ⟨i + 1, by omega, by omega, ?_⟩
    rw [htk]
    (refine To.of [] ?_; cbv; (try simp only [nc]); (repeat' (first | exact trivial | exact WkN.refl _ | exact WkB.refl _ | refine ⟨?_, ?_⟩ | refine WkB.cells ?_ | refine WkN.agg ?_ | refine WkN.tup ?_)); (all_goals (first | exact okt | skip)))
    · refine .snocO hnt rfl rfl (by simp) (.three fun w ok v h => ?_)
      rw [lst_nt hnt]
      exact nil_app rfl (by simp) (fun j hj => by rw [lstR_nt hnt]; rfl) h
  · obtain rfl : i = l.length := by simp only [decide_eq_false_iff_not] at hb; omega
    rw [List.take_length]
    (cbv; (try simp only [nc] at *); (try refine Chk.mk (okc) ?_))
    refine ⟨_, [], ?_, rfl, rfl⟩
    (refine To.of [] ?_; cbv; (try simp only [nc]); (repeat' (first | exact trivial | exact WkN.refl _ | exact WkB.refl _ | refine ⟨?_, ?_⟩ | refine WkB.cells ?_ | refine WkN.agg ?_ | refine WkN.tup ?_)); (all_goals (first | exact okt | skip)))

theorem c23 (b : Book) (hf : BookFit b) : SC (fun _ => Try.prog) 23 [bookA b] [] fun v h => v = bookA b ∧ h = [] := by
  obtain ⟨nt, hnt⟩ := nth_ex
  have k1 := c69 b.old hf.old hf.stops.1
  have k2 := c69 b.new hf.new hf.stops.2
  have hz := hf.zones
  have hc := hf.chs
  refine SC.less (conX false false [] Try.func23 (body := bodyOf Try.f23) rfl (by decide +kernel) ?_)
  unfold bookA at *
  simp only [lst_nt hnt] at *
  (cbv; (try simp only [nc] at *); (try refine Chk.mk (okc) ?_))
  refine loopS false false [] [1, 2, 3, 4] [.tok 2 fun _ => 0] (fun (i : Nat) => [(4, .int .i64 fun _ => (i : Int))])
    (fun i => [(0, .cells [.isl 2 (fun _ => ((b.zones.take i).length : Int)) (fun e => encZone (nt Zone default (b.zones.take i) (e ()))) (.own 2), .isl 3 (fun _ => (b.old.length : Int)) (fun e => encTrain (nt Train default b.old (e ()))) .none, .isl 3 (fun _ => (b.new.length : Int)) (fun e => encTrain (nt Train default b.new (e ()))) .none, .int .i64 fun _ => b.night, .int .i64 fun _ => b.last]), (2, .tok 2 fun _ => ((b.zones.take i).length : Int))]) (fun i => i ≤ b.zones.length) (fun i => b.zones.length - i + 0) 0 (Nat.zero_le _) ?_ ?_
  · (refine To.of [(2,false)] ?_; cbv; (try simp only [nc]); (repeat' (first | exact trivial | exact WkN.refl _ | exact WkB.refl _ | refine ⟨?_, ?_⟩ | refine WkB.cells ?_ | refine WkN.agg ?_ | refine WkN.tup ?_)); (all_goals (first | exact okt | skip)))
  intro i hi
  (cbv; (try simp only [nc] at *); (try refine Chk.mk (okc) ?_))
  refine ⟨fun hb => ?_, fun hb => ?_⟩
  · simp only [decide_eq_true_eq] at hb
    have hch := hc _ (nt_mem (d := default) hnt (l := b.zones) (i := i) (by omega))
    have htk := nt_take (d := default) hnt (l := b.zones) (i := i) (by omega)
    have hti : (b.zones.take i).length = i := by rw [List.length_take]; omega
    (cbv; try simp only [nc] at *)
    generalize nt Zone default b.zones (i : Int) = z at *
    refine Chk.mk (okc) ?_
    refine call0 (c30n z hch) (by first | rfl | (simp only [zoneA, bookA, lst_nt hnt]; rfl)) fun r h₂ hp => ?_
    (try simp only [zoneA, bookA, lst_nt hnt] at hp)
    obtain ⟨rfl, rfl⟩ := hp
    (cbv; (try simp only [nc] at *); (try refine Chk.mk (okc) ?_))
    refine ⟨i + 1, by omega, by omega, ?_⟩
    rw [htk]
    (refine To.of [] ?_; cbv; (try simp only [nc]); (repeat' (first | exact trivial | exact WkN.refl _ | exact WkB.refl _ | refine ⟨?_, ?_⟩ | refine WkB.cells ?_ | refine WkN.agg ?_ | refine WkN.tup ?_)); (all_goals (first | exact okt | skip)))
  · obtain rfl : i = b.zones.length := by simp only [decide_eq_false_iff_not] at hb; omega
    rw [List.take_length]
    (cbv; (try simp only [nc] at *); (try refine Chk.mk (okc) ?_))
    refine call0 (k1) (by first | rfl | (simp only [zoneA, bookA, lst_nt hnt]; rfl)) fun r h₂ hp => ?_
    (try simp only [zoneA, bookA, lst_nt hnt] at hp)
    obtain ⟨rfl, rfl⟩ := hp
    (cbv; (try simp only [nc] at *); (try refine Chk.mk (okc) ?_))
    refine call0 (k2) (by first | rfl | (simp only [zoneA, bookA, lst_nt hnt]; rfl)) fun r h₂ hp => ?_
    (try simp only [zoneA, bookA, lst_nt hnt] at hp)
    obtain ⟨rfl, rfl⟩ := hp
    (cbv; (try simp only [nc] at *); (try refine Chk.mk (okc) ?_))
    refine ⟨_, [], ?_, rfl, rfl⟩
    (refine To.of [] ?_; cbv; (try simp only [nc]); (repeat' (first | exact trivial | exact WkN.refl _ | exact WkB.refl _ | refine ⟨?_, ?_⟩ | refine WkB.cells ?_ | refine WkN.agg ?_ | refine WkN.tup ?_)); (all_goals (first | exact okt | skip)))
/-- A book's cells. -/
def bookN (nt : (α : Type) → α → List α → Int → α) (b : Book) : List AV := [.isl 2 (fun _ => (b.zones.length : Int)) (fun e => encZone (nt Zone default b.zones (e ()))) .none, .isl 3 (fun _ => (b.old.length : Int)) (fun e => encTrain (nt Train default b.old (e ()))) .none, .isl 3 (fun _ => (b.new.length : Int)) (fun e => encTrain (nt Train default b.new (e ()))) .none, .int .i64 fun _ => b.night, .int .i64 fun _ => b.last]
end Go.Proofs.Ytlcgliadpalgfaa.Vm

/- The abstract machine: arrays whose rows own arrays: states that tell less, room for them, and freezing. -/
namespace Go.Proofs.Ytlcgliadpalgfaa.Vm
open Go Go.Proofs
set_option maxRecDepth 100000

section
variable {n k : Nat}
theorem WkN.nsub {id : Nat} {e l e' l' : Unit → Int} (he : e () = e' ()) (hl : l () = l' ()) : WkN n k (.nsub id e l) (.nsub id e' l') := ⟨fun R v _ hv => by
  cases hv with
  | pure _ _ hp => cases hp
  | nsub _ _ _ a ll c us i h h1 h2 h3 h4 => exact .nsub id e' l' a ll c us i h h1 (by omega) h3 ⟨by omega, h4.2⟩⟩
theorem WkB.vgar {s : Nat} {m m' : Unit → Int} {f f' : (Unit → Int) → List AV} (hm : m () = m' ()) (hf : ∀ i : Nat, (i : Int) < m () → AllW n k (f fun _ => (i : Int)) (f' fun _ => (i : Int))) : WkB n k (.vgar s m f) (.vgar s m' f') :=
  ⟨fun R id hN ⟨h1, h2⟩ => by
    refine ⟨h1.trans hm, ?_⟩
    rcases h2 with ⟨g1, g2⟩ | ⟨b, o, len, cap, arr, ty, g1, g2, g3, g4, g5, g6⟩
    · exact .inl ⟨by omega, g2⟩
    · refine .inr ⟨b, o, len, cap, arr, ty, by omega, g2, g3, g4, g5, fun i hi => ?_⟩
      have hw := hf i (by omega)
      refine ⟨by rw [← hw.len]; exact (g6 i hi).1, fun j c hj => ?_⟩
      obtain ⟨a, e1, e2⟩ := hw.get hj
      exact e2.f R _ hN ((g6 i hi).2 j a e1), fun _ _ _ => Iff.rfl, fun _ _ _ _ _ => Iff.rfl, rfl⟩
theorem WkB.fam {z s : Nat} {N N' : Unit → Int} {m m' : (Unit → Int) → Unit → Int} {g g' : (Unit → Int) → (Unit → Int) → List AV} (hN : N () = N' ()) (hm : ∀ i : Nat, (i : Int) < N () → m (fun _ => (i : Int)) () = m' (fun _ => (i : Int)) ())
    (hg : ∀ i : Nat, (i : Int) < N () → ∀ j : Nat, (j : Int) < m (fun _ => (i : Int)) () → g (fun _ => (i : Int)) (fun _ => (j : Int)) = g' (fun _ => (i : Int)) fun _ => (j : Int)) : WkB n k (.fam z s N m g) (.fam z s N' m' g') :=
  ⟨fun R id _ ⟨h0, h1, us, h2, h3, h4, h5⟩ => ⟨h0, h1.trans hN, us, h2, hN.symm.trans h3, fun i v hv => by
    have hlt := (Array.getElem?_eq_some_iff.1 hv).1
    have hi : (i : Int) < N () := by omega
    refine (h4 i v hv).cong (hm i hi).symm (fun j hj => by rw [hg i hi j hj]) fun j hj c q hq => ⟨q, by rw [hg i hi j hj]; exact hq, fun _ h => h⟩, h5⟩, fun _ _ _ => Iff.rfl, fun _ _ _ _ _ => Iff.rfl, rfl⟩
end

theorem WkB.famZ {n k z z' s : Nat} (hz : z ≤ z') {N : Unit → Int} {m : (Unit → Int) → Unit → Int} {g : (Unit → Int) → (Unit → Int) → List AV} : WkB n k (.fam z s N m g) (.fam z' s N m g) := ⟨fun R id _ ⟨h0, h1⟩ => ⟨Nat.le_trans h0 hz, h1⟩, fun _ _ _ => Iff.rfl, fun _ _ _ _ _ => Iff.rfl, rfl⟩
theorem WkB.dead {n k s : Nat} {m : Unit → Int} {f : (Unit → Int) → List AV} : WkB n k (.fro s m f) .dead := ⟨fun _ _ _ _ => trivial, fun _ _ _ => Iff.rfl, fun _ _ _ _ _ => Iff.rfl, rfl⟩
theorem WkB.vgar0 {n k s : Nat} {m m' : Unit → Int} {f f' : (Unit → Int) → List AV} (h0 : m () = 0) (h1 : m' () = 0) : WkB n k (.vgar s m f) (.vgar s m' f') := .vgar (by omega) fun i hi => by omega
theorem WkB.fam0 {n k z s : Nat} {N N' : Unit → Int} {m m' : (Unit → Int) → Unit → Int} {g g' : (Unit → Int) → (Unit → Int) → List AV} (h0 : N () = 0) (h1 : N' () = 0) : WkB n k (.fam z s N m g) (.fam z s N' m' g') := .fam (by omega) (fun i hi => by omega) fun i hi => by omega

theorem WkB.vgarT {n k s : Nat} {m m' : Unit → Int} {f : (Unit → Int) → List AV} {T : AV → AV} (hm : m () = m' ()) (hT : ∀ e, (f e).map T = f e) : WkB n k (.vgar s m fun e => (f e).map T) (.vgar s m' f) := .vgar hm fun i _ => by
  show AllW n k ((f fun _ => (i : Int)).map T) (f fun _ => (i : Int))
  rw [hT]
  exact AllW.refl _

/-- Room for an array of rows that own arrays: the array, and the family behind it. -/
def nestB (z sv sf : Nat) : List Blk := [.vgar sv (fun _ => 0) (fun _ => []), .fam z sf (fun _ => 0) (fun _ _ => 0) (fun _ _ => [])]

theorem HR.nest {G : Nat → Nat → Nat → Prop} {R : RC} {h : List Blk} (H : HR G R h) (sv sf : Nat) :
    ∃ R', R'.w = R.w ∧ HR G R' (h ++ nestB h.length sv sf) ∧ Ext R h R' (h ++ nestB h.length sv sf) ∧ R.le R' ∧ Nils R' h.length 1 := by
  have e2 : h ++ nestB h.length sv sf = (h ++ [.vgar sv (fun _ => 0) (fun _ => [])]) ++ [.fam h.length sf (fun _ => 0) (fun _ _ => 0) (fun _ _ => [])] := by simp [nestB]
  -- the array
  have hset : ∀ i x, (h ++ [Blk.vgar sv (fun _ => 0) (fun _ => [])])[i]? = some x → (i = R.m ∧ x = .vgar sv (fun _ => 0) (fun _ => [])) ∨ (i ≠ R.m ∧ h[i]? = some x) := fun i x hx => by
    rcases getElem?_snoc hx with hx | ⟨rfl, rfl⟩
    · exact .inr ⟨fun e => by have := (List.getElem?_eq_some_iff.1 hx).1; rw [H.len] at this; omega, hx⟩
    · exact .inl ⟨H.len, rfl⟩
  have hnop : ∀ R' : RC, R'.hv R.m = .slice none 0 0 → ∀ b, ¬ Phys R' R.m (.vgar sv (fun _ => 0) (fun _ => [])) b := fun R' hv b hp => by
    obtain ⟨a, n, c, h1, _⟩ := hp; rw [hv] at h1; cases h1
  obtain ⟨R1, a1, a2, a3, a4, a5, a6, a7, _⟩ := H.room R.m (R.m + 1) (.vgar sv (fun _ => 0) (fun _ => [])) 0 (.slice none 0 0) R.w (h ++ [.vgar sv (fun _ => 0) (fun _ => [])]) (by rw [List.length_append, H.len]; rfl) (Nat.le_succ _) hset (fun hi => absurd hi (Nat.lt_irrefl _)) (fun _ => False)
    (fun b => ⟨fun h => h.elim, fun h => absurd h.1 (Nat.lt_irrefl _)⟩) rfl rfl rfl (Nat.le_refl _) (fun _ _ _ => rfl) (fun _ _ _ _ _ _ => rfl)
    (fun R' _ _ hwi hvi _ => ⟨hwi, .inl ⟨rfl, none, hvi⟩⟩)
    (fun R' hv _ b hp => absurd hp (hnop R' hv b))
    (fun R' hv b o n _ => hnop R' hv b) rfl
  -- the family
  have hset2 : ∀ i x, ((h ++ [Blk.vgar sv (fun _ => 0) (fun _ => [])]) ++ [Blk.fam h.length sf (fun _ => 0) (fun _ _ => 0) (fun _ _ => [])])[i]? = some x → (i = R1.m ∧ x = .fam h.length sf (fun _ => 0) (fun _ _ => 0) (fun _ _ => [])) ∨ (i ≠ R1.m ∧ (h ++ [Blk.vgar sv (fun _ => 0) (fun _ => [])])[i]? = some x) := fun i x hx => by
    rcases getElem?_snoc hx with hx | ⟨rfl, rfl⟩
    · exact .inr ⟨fun e => by have := (List.getElem?_eq_some_iff.1 hx).1; rw [a5.len] at this; omega, hx⟩
    · exact .inl ⟨a5.len, rfl⟩
  have hnop2 : ∀ R' : RC, R'.hv R1.m = .tuple #[] → ∀ b, ¬ Phys R' R1.m (.fam h.length sf (fun _ => 0) (fun _ _ => 0) (fun _ _ => [])) b := fun R' hv b hp => by
    obtain ⟨us, h1, i, v, h2, _⟩ := hp
    rw [hv] at h1
    cases h1
    simp at h2
  obtain ⟨R2, b1, b2, b3, b4, b5, b6, b7, _⟩ := a5.room R1.m (R1.m + 1) (.fam h.length sf (fun _ => 0) (fun _ _ => 0) (fun _ _ => [])) 0 (.tuple #[]) R1.w _ (by rw [List.length_append, a5.len]; rfl) (Nat.le_succ _) hset2 (fun hi => absurd hi (Nat.lt_irrefl _)) (fun _ => False)
    (fun b => ⟨fun h => h.elim, fun h => absurd h.1 (Nat.lt_irrefl _)⟩) rfl rfl rfl (Nat.le_refl _) (fun _ _ _ => rfl) (fun _ _ _ _ _ _ => rfl)
    (fun R' _ _ hwi hvi hl => ⟨by rw [hl.1, a6.n0, H.len]; exact H.n0m, hwi, #[], hvi, rfl, fun i v hv => by simp at hv, fun i j v v' b _ hv => by simp at hv⟩)
    (fun R' hv _ b hp => absurd hp (hnop2 R' hv b))
    (fun R' hv b o n _ => hnop2 R' hv b) rfl
  rw [e2]
  refine ⟨R2, b1.trans a1, b5, a6.trans b6, a7.trans b7, fun id h1 h2 => ?_⟩
  have hid : id = R.m := by rw [← H.len]; omega
  subst hid
  obtain ⟨hb, _⟩ := b5.blk R.m (.vgar sv (fun _ => 0) (fun _ => [])) (by rw [List.getElem?_append_left (by simp [H.len]), List.getElem?_append_right (by rw [H.len]; exact Nat.le_refl _), H.len, Nat.sub_self]; rfl)
  refine ⟨by omega, hb, ?_⟩
  rw [(b7.tk R.m (by omega)).2 (by rw [a4, hb])]
  exact a3

/-- A slice that is nil becomes an array of rows that own arrays. -/
theorem To.nest (sv sf : Nat) {s s₂ : List AV} {h h₂ : List Blk} (hsb : AllW h.length 1 s s₂ ∧ AllB h.length 1 (h ++ nestB h.length sv sf) h₂) : To s h s₂ h₂ := fun G R t H hsl => by
  obtain ⟨hs, hb⟩ := hsb
  obtain ⟨R', a1, a2, a3, a4, a6⟩ := HR.nest H sv sf
  refine ⟨R', a1, a2.wk a6 hb, a3.wk hb, a4, by rw [← hs.len]; exact hsl.1, fun i b hi => ?_⟩
  obtain ⟨a, h1, h2⟩ := hs.get hi
  exact h2.f R' _ a6 ((hsl.2 i a h1).mono a4)

/-- A row, its handle told by what it holds. -/
def thaw (q sf : Nat) (g : (Unit → Int) → (Unit → Int) → List AV) : AV → AV
  | .nsub id e l => if eqN id q then .isl sf l (g e) .none else .nsub id e l
  | c => purify c

/-- Slots and cells, slices of frozen arrays told by what they hold. -/
def rsvD (h : List Blk) : Nat → AV → AV
  | 0, a => a
  | k + 1, a => (match a with
    | .gsl id n => (match h[id]? with
      | some (.fro s m f) => .gd (fun _ => decide (n () = m ())) (.isl s m f .none)
      | _ => .gsl id n)
    | .agg cs => .agg (cs.map (rsvD h k))
    | a => a)
def rsvB (h : List Blk) : Blk → Blk
  | .cells cs => .cells (cs.map (rsvD h 3))
  | b => b

theorem rsvD_ok {G : Nat → Nat → Nat → Prop} {R : RC} {h : List Blk} (H : HR G R h) : ∀ (k : Nat) {a : AV} {u : Value}, VR R a u → VR R (rsvD h k a) u := by
  intro k
  induction k with
  | zero => intro a u hv; exact hv
  | succ k ih =>
    intro a u hv
    unfold rsvD
    split
    · split
      · rename_i id n _ s m f hb
        cases hv with
        | pure _ _ hp => cases hp
        | gsl _ _ a l c hid hn he _ =>
          refine .gd _ _ _ fun hg => ?_
          have hg := of_decide_eq_true hg
          obtain ⟨e1, h1⟩ := H.blk id _ hb
          rw [he (by rw [hg, e1])]
          exact .pure _ _ h1
      · exact hv
    · obtain ⟨us, rfl, hl, hr⟩ := hv.agg_inv
      refine .agg _ us (by simpa using hl) fun j c hj => ?_
      rw [List.getElem?_map, Option.map_eq_some_iff] at hj
      obtain ⟨x, hx, rfl⟩ := hj
      exact ih (hr j x hx)
    · exact hv

theorem rsvB_ph {R : RC} {h : List Blk} {id : Nat} {blk : Blk} {b : Nat} : Phys R id (rsvB h blk) b ↔ Phys R id blk b := by cases blk <;> exact Iff.rfl
theorem rsvB_av {R : RC} {h : List Blk} {id : Nat} {blk : Blk} {b o m : Nat} : AvoidB R id (rsvB h blk) b o m ↔ AvoidB R id blk b o m := by cases blk <;> exact Iff.rfl
theorem rsvB_tk {h : List Blk} {blk : Blk} : tokK (rsvB h blk) = tokK blk := by cases blk <;> rfl

/-- Slices of frozen arrays, told by what they hold, wherever they lie. -/
theorem To.rsv (s : List AV) (h : List Blk) : To s h (s.map (rsvD h 4)) (h.map (rsvB h)) := fun G R t H hs => by
  have hget : ∀ {i x}, (h.map (rsvB h))[i]? = some x → ∃ y, h[i]? = some y ∧ x = rsvB h y := fun hx => by
    rw [List.getElem?_map, Option.map_eq_some_iff] at hx
    obtain ⟨y, hy, e⟩ := hx
    exact ⟨y, hy, e.symm⟩
  refine ⟨R, rfl, ⟨by rw [List.length_map]; exact H.len, fun b o m => ?_, fun id x hx => ?_, fun i j bi bj b hij hi hj hp hp' => ?_, H.cl, H.fresh, fun id x b hx hk hp o m => ?_, H.n0m⟩, ⟨rfl, rfl, rfl, rfl, Nat.le_refl _, Nat.le_refl _, fun _ _ => rfl, fun _ _ _ h => h, fun _ _ _ _ _ _ => rfl, fun _ _ _ => rfl, fun id x b hx hp => ?_⟩, RC.le.refl _, ?_⟩
  · rw [H.okd]
    refine and_congr_right fun _ => and_congr_right fun _ => ⟨fun ha id x hx => ?_, fun ha id x hx => ?_⟩
    · obtain ⟨y, hy, rfl⟩ := hget hx
      exact rsvB_av.2 (ha id y hy)
    · exact rsvB_av.1 (ha id (rsvB h x) (by rw [List.getElem?_map, hx]; rfl))
  · obtain ⟨y, hy, rfl⟩ := hget hx
    have hb := H.blk id y hy
    cases y with
    | cells cs =>
      obtain ⟨arr, ty, h1, h2, h3⟩ := hb
      refine ⟨arr, ty, h1, by rw [List.length_map]; exact h2, fun j c hj => ?_⟩
      rw [List.getElem?_map, Option.map_eq_some_iff] at hj
      obtain ⟨c0, hc0, rfl⟩ := hj
      exact rsvD_ok H 3 (h3 j c0 hc0)
    | _ => exact hb
  · obtain ⟨y, hy, rfl⟩ := hget hi
    obtain ⟨y', hy', rfl⟩ := hget hj
    exact H.dis i j y y' b hij hy hy' (rsvB_ph.1 hp) (rsvB_ph.1 hp')
  · obtain ⟨y, hy, rfl⟩ := hget hx
    exact H.tokG id y b hy (rsvB_tk ▸ hk) (rsvB_ph.1 hp) o m
  · obtain ⟨y, hy, rfl⟩ := hget hx
    exact .inr ⟨id, y, hy, rsvB_ph.1 hp, .inl rfl⟩
  · refine ⟨by rw [List.length_map]; exact hs.1, fun i a hi => ?_⟩
    rw [List.getElem?_map, Option.map_eq_some_iff] at hi
    obtain ⟨x, hx, rfl⟩ := hi
    exact rsvD_ok H 4 (hs.2 i x hx)

/-- An array of rows that own arrays is frozen, with its family. -/
theorem To.freezeV {s : List AV} {h : List Blk} {q z sv sf : Nat} {n N : Unit → Int} {f : (Unit → Int) → List AV} {m : (Unit → Int) → Unit → Int} {g : (Unit → Int) → (Unit → Int) → List AV} (hq : h[q]? = some (.vgar sv n f)) (hf : h[q + 1]? = some (.fam z sf N m g))
    (hlen : ∀ i : Nat, (i : Int) < n () → ∀ (c : AV), c ∈ (f fun _ => (i : Int)) → ∀ e l, c = .nsub (q + 1) e l → l () = m e ())
    (hp : ∀ i : Nat, (i : Int) < n () → ((f fun _ => (i : Int)).map (thaw (q + 1) sf g)).all pureOk = true) :
    To s h s ((h.set (q + 1) .dead).set q (.fro sv n fun e => (f e).map (thaw (q + 1) sf g))) := fun G R t H hs => by
  let F : Blk := .fro sv n fun e => (f e).map (thaw (q + 1) sf g)
  let h' := (h.set (q + 1) .dead).set q F
  let R' : RC := { R with ok := fun b o k => b < R.w.heap.size ∧ G b o k ∧ Avoid R h' b o k }
  have hget : ∀ {j x}, h'[j]? = some x → (j = q ∧ x = F) ∨ (j = q + 1 ∧ x = .dead) ∨ (j ≠ q ∧ j ≠ q + 1 ∧ h[j]? = some x) := fun {j x} hx => by
    rcases set_get hx with ⟨h1, h2⟩ | ⟨h1, hx⟩
    · exact .inl ⟨h1, h2⟩
    · rcases set_get hx with ⟨h2, h3⟩ | ⟨h2, h3⟩
      · exact .inr (.inl ⟨h2, h3⟩)
      · exact .inr (.inr ⟨h1, h2, h3⟩)
  have hok : ∀ b o k, R.ok b o k → R'.ok b o k := fun b o k hk => by
    obtain ⟨h1, h2, h3⟩ := (H.okd _ _ _).1 hk
    refine ⟨h1, h2, fun j x hx => ?_⟩
    rcases hget hx with ⟨rfl, rfl⟩ | ⟨rfl, rfl⟩ | ⟨_, _, hx⟩
    · exact fun h => h
    · exact fun h => h
    · exact h3 j x hx
  have hle : R.le R' := ⟨Nat.le_refl _, fun _ _ => rfl, fun _ _ => ⟨Int.le_refl _, fun _ => rfl⟩, fun _ _ => .refl _, hok, fun _ _ _ _ _ _ => rfl⟩
  have hph : ∀ {j x b}, h'[j]? = some x → Phys R' j x b → j ≠ q ∧ j ≠ q + 1 ∧ h[j]? = some x ∧ Phys R j x b := fun {j x b} hx hp => by
    rcases hget hx with ⟨rfl, rfl⟩ | ⟨rfl, rfl⟩ | ⟨h1, h2, hx⟩
    · exact hp.elim
    · exact hp.elim
    · exact ⟨h1, h2, hx, (Phys.congr (R := R) rfl rfl).1 hp⟩
  -- what the two held may be read
  have hfree : ∀ (id : Nat) (blk : Blk) (b : Nat), (id = q ∨ id = q + 1) → h[id]? = some blk → tokK blk = true → Phys R id blk b → ∀ o k, R'.ok b o k := fun id blk b hid hb htk hpp o k => by
    refine ⟨H.phys_lt hb hpp, H.tokG _ _ _ hb htk hpp _ _, fun i x hx => ?_⟩
    rcases hget hx with ⟨rfl, rfl⟩ | ⟨rfl, rfl⟩ | ⟨h1, h2, hx⟩
    · exact fun h => h
    · exact fun h => h
    · exact avoid_of_not fun hp' => H.dis _ _ _ _ b (fun e => by rcases hid with rfl | rfl; exact h1 e.symm; exact h2 e.symm) hb hx hpp hp'
  obtain ⟨hw1, harr⟩ := H.blk _ _ hq
  obtain ⟨_, hw2, us, hv2, hN, hfam, _⟩ := H.blk _ _ hf
  refine ⟨R', rfl, ⟨by show h'.length = _; simp only [h', List.length_set]; exact H.len, fun _ _ _ => Iff.rfl, fun j x hx => ?_, fun i j bi bj b hij hi hj hp hp' => ?_, H.cl, H.fresh, fun j x b hx hk hp o k => ?_, H.n0m⟩, ⟨rfl, rfl, rfl, rfl, Nat.le_refl _, Nat.le_refl _, fun _ _ => rfl, hok, fun _ _ _ _ _ _ => rfl, fun _ _ _ => rfl, fun j x b hx hp => ?_⟩, hle, hs.mono hle⟩
  · rcases hget hx with ⟨rfl, rfl⟩ | ⟨rfl, rfl⟩ | ⟨_, _, hx⟩
    · refine ⟨hw1, ?_⟩
      refine ArrG.isl (ok := R'.ok) (w := R'.w) ?_ fun b hb o k => hfree j _ b (.inl rfl) hq rfl hb o k
      -- the rows
      rcases harr with ⟨g1, g2⟩ | ⟨b, o, len, cap, arr, ty, g1, g2, g3, g4, g5, g6⟩
      · exact .inl ⟨g1, g2⟩
      · refine .inr ⟨b, o, len, cap, arr, ty, g1, g2, g3, g4, g5, fun i hi => ⟨by rw [List.length_map]; exact (g6 i hi).1, fun jj c hj => ?_⟩⟩
        have hpi := hp i (by omega)
        have hcm : c ∈ ((f fun _ => (i : Int)).map (thaw (j + 1) sf g)) := List.mem_of_getElem? hj
        have hpc := List.all_eq_true.1 hpi c hcm
        rw [List.getElem?_map, Option.map_eq_some_iff] at hj
        obtain ⟨c0, hc0, rfl⟩ := hj
        have hv0 := (g6 i hi).2 jj c0 hc0
        have hle0 := hlen i (by omega) c0 (List.mem_of_getElem? hc0)
        generalize arr.getD (o + i * sv + jj) undef = u at hv0
        have other : thaw (j + 1) sf g c0 = purify c0 → PR R'.w R'.ok (thaw (j + 1) sf g c0) u := fun e => by
          rw [e] at hpc ⊢
          exact (hv0.purify hpc).mono hok (fun _ _ _ _ _ _ => rfl)
        cases c0 with
        | nsub id e l =>
          by_cases hid : id = j + 1
          · subst hid
            have e1 : thaw (j + 1) sf g (.nsub (j + 1) e l) = .isl sf l (g e) .none := by simp [thaw, eqN]
            rw [e1]
            have hll := hle0 e l rfl
            cases hv0 with
            | pure _ _ hp => cases hp
            | nsub _ _ _ a ll c us' i' hid' hv' he' hu' hl' =>
              rw [hv2] at hv'
              cases hv'
              have hee : e = fun _ => (i' : Int) := funext fun _ => he'
              subst hee
              have h1 := hfam i' _ hu'
              have h2 : ArrG (PR R'.w R'.ok) R'.w sf l (g fun _ => (i' : Int)) (.slice a ll c) := (h1.mono (fun _ _ h => h.mono hok (fun _ _ _ _ _ _ => rfl)) (fun _ _ => rfl)).cong hll (fun _ _ => rfl) fun _ _ _ c hc => ⟨c, hc, fun _ h => h⟩
              exact h2.isl fun b hb o k => hfree (j + 1) _ b (.inr rfl) hf rfl ⟨us, hv2, i', _, hu', hb⟩ o k
          · have e1 : thaw (j + 1) sf g (.nsub id e l) = .nsub id e l := by simp [thaw, eqN, hid]
            rw [e1] at hpc
            cases hpc
        | _ => exact other rfl
    · trivial
    · exact (H.blk j x hx).mono hle rfl rfl rfl rfl (fun _ _ => rfl)
  · obtain ⟨_, _, hx, hp⟩ := hph hi hp
    obtain ⟨_, _, hx', hp'⟩ := hph hj hp'
    exact H.dis i j bi bj b hij hx hx' hp hp'
  · obtain ⟨_, _, hx, hp⟩ := hph hx hp
    exact H.tokG j x b hx hk hp o k
  · obtain ⟨_, _, hx, hp⟩ := hph hx hp
    exact .inr ⟨j, x, hx, hp, .inl rfl⟩

/-- The same, and slices of it are immutable ones, wherever they lie. -/
theorem To.frozeV {s : List AV} {h : List Blk} {q z sv sf : Nat} {n N : Unit → Int} {f : (Unit → Int) → List AV} {m : (Unit → Int) → Unit → Int} {g : (Unit → Int) → (Unit → Int) → List AV} (hq : h[q]? = some (.vgar sv n f)) (hf : h[q + 1]? = some (.fam z sf N m g))
    (hlen : ∀ i : Nat, (i : Int) < n () → ∀ (c : AV), c ∈ (f fun _ => (i : Int)) → ∀ e l, c = .nsub (q + 1) e l → l () = m e ())
    (hp : ∀ i : Nat, (i : Int) < n () → ((f fun _ => (i : Int)).map (thaw (q + 1) sf g)).all pureOk = true) {h' : List Blk} (hh : h' = (h.set (q + 1) .dead).set q (.fro sv n fun e => (f e).map (thaw (q + 1) sf g))) :
    To s h (s.map (rsvD h' 4)) (h'.map (rsvB h')) := by
  subst hh
  exact (To.freezeV hq hf hlen hp).trans (To.rsv _ _)
/-- The table for such functions: what is made is an array of one's own; ks: the blocks that are kept at the end. -/
def tbN (rs : Bool) (cs : List Nat) (ks : List Nat) : Tb := { tb with kp := true, rs, cuts := cs, gr := true, ks := some ks }
theorem hTN (rs : Bool) (cs : List Nat) (ks : List Nat) : (tbN rs cs ks).Of ((fun _ => Try.prog : Unit → Program) ()) := ⟨tbTi_ok, tbUn_ok, tbEq_ok⟩
theorem conN (rs : Bool) (cs : List Nat) (ks : List Nat) {f : FuncId} {fn : Func} {body : Code} (hf : Try.prog.funcs[f]? = some fn) (hb : fn.body = some body) (hn : (fn.name == "runtime.NumGoroutine") = false) {xs : List AV} {h : List Blk} {Post : AV → List Blk → Prop}
    (hW : Dn (tbN rs cs ks) (fun _ => Try.prog) (retK (tbN rs cs ks) fn.results.toList h.length Post) 100 .none [.code body] (entry fn.ntmps xs) h []) (hz : zOk h = true := by rfl) : SC (fun _ => Try.prog) f xs h Post := SC.ofD (T := tbN rs cs ks) (hTN rs cs ks) hm hf hb hn hz hW
theorem loopN (rs : Bool) (cs : List Nat) {x : Code} {Q : Ex → List AV → List Blk → Prop} {s : List AV} {h : List Blk} {ι : Type} (L : List Nat) (ex : List Blk) (ch : ι → List (Nat × AV)) (hc : ι → List (Nat × Blk)) (inv : ι → Prop) (μ : ι → Nat) (i : ι)
    (hi : inv i) (hto : To (Vm.keep L s) h (setS (Vm.keep L s) (ch i)) (setH (h ++ ex) (hc i)))
    (step : ∀ i, inv i → Dn (tbN rs cs []) (fun _ => Try.prog) (indK L (fun i => setS (Vm.keep L s) (ch i)) (fun i => setH (h ++ ex) (hc i)) inv μ i (h ++ ex).length Q) 100 .none [.code x] (setS (Vm.keep L s) (ch i)) (setH (h ++ ex) (hc i)) []) : LP false (fun _ => Try.prog) x Q s h :=
  LP.indD (T := tbN rs cs []) (hTN rs cs []) hm L (fun i => setS (Vm.keep L s) (ch i)) (fun i => setH (h ++ ex) (hc i)) inv μ i (h ++ ex).length (fun _ => setH_length _ _) hi hto step
/-- The same, from a state that is told first. -/
theorem loopNT (rs : Bool) (cs : List Nat) {x : Code} {Q : Ex → List AV → List Blk → Prop} {s s₂ : List AV} {h h₂ : List Blk} (hto : To s h s₂ h₂) (H : LP false (fun _ => Try.prog) x Q s₂ h₂) : LP false (fun _ => Try.prog) x Q s h := LP.to hto H

section
variable {n k : Nat} {nt : (α : Type) → α → List α → Int → α} (hnt : ∀ (α : Type) (d : α) (l : List α) (i : Int), nt α d l i = l.getD i.toNat d)
include hnt
/-- One more row with handles. -/
theorem WkB.snocV {α : Type} {d : α} {encV : α → (Unit → Int) → List AV} {l : List α} {x : α} {s : Nat} {n0 m' : Unit → Int} {row : List AV} (h0 : n0 () = (l.length : Int)) (hm : m' () = (l.length : Int) + 1) (hrow : AllW n k row (encV x fun _ => (l.length : Int))) :
    WkB n k (.vgar s m' (snocF n0 (fun e => encV (nt α d l (e ())) e) fun _ => row)) (.vgar s (fun _ => ((l ++ [x]).length : Int)) fun e => encV (nt α d (l ++ [x]) (e ())) e) :=
  .vgar (by rw [hm]; simp) fun i hi => by
    rw [hm] at hi
    by_cases h : i < l.length
    · rw [snocF_lt h0 h]
      have e : nt α d (l ++ [x]) (i : Int) = nt α d l (i : Int) := by rw [nt_app hnt, if_pos h]
      simp only [e]
      exact AllW.refl _
    · obtain rfl : i = l.length := by omega
      rw [snocF_ge h0 (Nat.le_refl _)]
      have e : nt α d (l ++ [x]) (l.length : Int) = x := by rw [hnt]; simp
      simp only [e]
      exact hrow
/-- The same, where blocks were forgotten ahead of it. -/
theorem WkB.snocVT {α : Type} {d : α} {encV : α → (Unit → Int) → List AV} {l : List α} {x : α} {s : Nat} {n0 m' : Unit → Int} {row : List AV} {T : AV → AV} (hT : ∀ (x : α) e, (encV x e).map T = encV x e) (h0 : n0 () = (l.length : Int)) (hm : m' () = (l.length : Int) + 1) (hrow : AllW n k (row.map T) (encV x fun _ => (l.length : Int))) :
    WkB n k (.vgar s m' fun e => (snocF n0 (fun e => encV (nt α d l (e ())) e) (fun _ => row) e).map T) (.vgar s (fun _ => ((l ++ [x]).length : Int)) fun e => encV (nt α d (l ++ [x]) (e ())) e) :=
  .vgar (by rw [hm]; simp) fun i hi => by
    rw [hm] at hi
    by_cases h : i < l.length
    · rw [snocF_lt h0 h]
      have e : nt α d (l ++ [x]) (i : Int) = nt α d l (i : Int) := by rw [nt_app hnt, if_pos h]
      simp only [e, hT]
      exact AllW.refl _
    · obtain rfl : i = l.length := by omega
      rw [snocF_ge h0 (Nat.le_refl _)]
      have e : nt α d (l ++ [x]) (l.length : Int) = x := by rw [hnt]; simp
      simp only [e]
      exact hrow
/-- One more array of a family. -/
theorem WkB.snocM {α β : Type} {d : α} {dβ : β} {enc : β → List AV} {inner : α → List β} {l : List α} {x : α} {z s : Nat} {N N' n1 : Unit → Int} {f1 : (Unit → Int) → List AV} (h0 : N () = (l.length : Int)) (hm : N' () = (l.length : Int) + 1) (h1 : n1 () = ((inner x).length : Int))
    (hf : ∀ j : Nat, j < (inner x).length → f1 (fun _ => (j : Int)) = enc (nt β dβ (inner x) (j : Int))) :
    WkB n k (.fam z s N' (famPush N (fun e _ => ((inner (nt α d l (e ()))).length : Int)) n1) (famPushG N (fun e q => enc (nt β dβ (inner (nt α d l (e ()))) (q ()))) f1))
      (.fam z s (fun _ => ((l ++ [x]).length : Int)) (fun e _ => ((inner (nt α d (l ++ [x]) (e ()))).length : Int)) fun e q => enc (nt β dβ (inner (nt α d (l ++ [x]) (e ()))) (q ()))) := by
  have key : ∀ i : Nat, (i : Int) < N' () → (i < l.length ∧ nt α d (l ++ [x]) (i : Int) = nt α d l (i : Int)) ∨ (i = l.length ∧ nt α d (l ++ [x]) (i : Int) = x) := fun i hi => by
    rw [hm] at hi
    by_cases h : i < l.length
    · exact .inl ⟨h, by rw [nt_app hnt, if_pos h]⟩
    · obtain rfl : i = l.length := by omega
      exact .inr ⟨rfl, by rw [hnt]; simp⟩
  refine .fam (by rw [hm]; simp) (fun i hi => ?_) fun i hi j hj => ?_
  · rcases key i hi with ⟨h, e⟩ | ⟨h, e⟩
    · show (bif decide ((i : Int) < N ()) then ((inner (nt α d l (i : Int))).length : Int) else n1 ()) = ((inner (nt α d (l ++ [x]) (i : Int))).length : Int)
      rw [decide_eq_true (by omega), e]; rfl
    · show (bif decide ((i : Int) < N ()) then ((inner (nt α d l (i : Int))).length : Int) else n1 ()) = ((inner (nt α d (l ++ [x]) (i : Int))).length : Int)
      rw [decide_eq_false (by omega), e]; exact h1
  · rcases key i hi with ⟨h, e⟩ | ⟨h, e⟩
    · show (if (i : Int) < N () then (fun q : Unit → Int => enc (nt β dβ (inner (nt α d l (i : Int))) (q ()))) else f1) (fun _ => (j : Int)) = enc (nt β dβ (inner (nt α d (l ++ [x]) (i : Int))) (j : Int))
      rw [if_pos (by omega), e]
    · show (if (i : Int) < N () then (fun q : Unit → Int => enc (nt β dβ (inner (nt α d l (i : Int))) (q ()))) else f1) (fun _ => (j : Int)) = enc (nt β dβ (inner (nt α d (l ++ [x]) (i : Int))) (j : Int))
      have hj' : j < (inner x).length := by
        have hj : (j : Int) < (bif decide ((i : Int) < N ()) then ((inner (nt α d l (i : Int))).length : Int) else n1 ()) := hj
        rw [decide_eq_false (by omega)] at hj
        have hj : (j : Int) < n1 () := hj
        omega
      rw [if_neg (by omega), e]
      exact hf j hj'
end
end Go.Proofs.Ytlcgliadpalgfaa.Vm

/- Contracts: trains that are copied, their stops in arrays that may be written. -/
namespace Go.Proofs.Ytlcgliadpalgfaa.Vm
open Go Go.Proofs Sp
set_option maxRecDepth 100000
set_option maxHeartbeats 1600000

/-- A train, its stops in the e-th array of a family. -/
def encTrH (q : Nat) (t : Train) (e : Unit → Int) : List AV := [.int .i64 fun _ => t.number, .int .i64 fun _ => t.days, .nsub q e fun _ => (t.stops.length : Int)]

theorem c69N {nt : (α : Type) → α → List α → Int → α} (hnt : ∀ (α : Type) (d : α) (l : List α) (i : Int), nt α d l i = l.getD i.toNat d) (l : List Train) (hl : l.length ≤ 1000000) (hs : ∀ t ∈ l, t.stops.length ≤ 1000000) :
    SC (fun _ => Try.prog) 69 [lst 3 encTrain default l] [] fun v h => v = .gsl 0 (fun _ => (l.length : Int)) ∧
      h = [.vgar 3 (fun _ => (l.length : Int)) (fun e => encTrH 1 (nt Train default l (e ())) e), .fam 0 4 (fun _ => (l.length : Int)) (fun e _ => ((nt Train default l (e ())).stops.length : Int)) (fun e k => encStop (nt Stop default (nt Train default l (e ())).stops (k ())))] := by
  refine SC.less (conN false [] [0, 1] Try.func69 (body := bodyOf Try.f69) rfl (by decide +kernel) ?_)
  simp only [lst_nt hnt]
  (cbv; (try simp only [nc] at *); (try refine Chk.mk (okc) ?_))
  refine loopN false [] [0, 3, 4] (nestB 0 3 4) (fun (i : Nat) => [(3, .gsl 0 (fun _ => ((l.take i).length : Int))), (4, .int .i64 fun _ => (i : Int))])
    (fun i => [(0, .vgar 3 (fun _ => ((l.take i).length : Int)) (fun e => encTrH 1 (nt Train default (l.take i) (e ())) e)), (1, .fam 0 4 (fun _ => ((l.take i).length : Int)) (fun e _ => ((nt Train default (l.take i) (e ())).stops.length : Int)) (fun e k => encStop (nt Stop default (nt Train default (l.take i) (e ())).stops (k ()))))]) (fun i => i ≤ l.length) (fun i => l.length - i + 0) 0 (Nat.zero_le _) ?_ ?_
  · (refine To.nest 3 4 ?_; cbv; (try simp only [nc]); (repeat' (first | exact trivial | exact WkN.refl _ | exact WkB.refl _ | refine ⟨?_, ?_⟩ | refine WkB.cells ?_ | refine WkN.agg ?_ | refine WkN.tup ?_)); (all_goals (first | exact okt | skip)))
    · refine .vgar0 ?_ ?_ <;> simp
    · refine .fam0 ?_ ?_ <;> simp
  intro i hi
  (cbv; (try simp only [nc] at *); (try refine Chk.mk (okc) ?_))
  refine ⟨fun hb => ?_, fun hb => ?_⟩
  · simp only [decide_eq_true_eq] at hb
    have hst := hs _ (nt_mem (d := default) hnt (l := l) (i := i) (by omega))
    have htk := nt_take (d := default) hnt (l := l) (i := i) (by omega)
    have hti : (l.take i).length = i := by rw [List.length_take]; omega
    (cbv; try simp only [nc] at *)
    generalize nt Train default l (i : Int) = t at *
    have hul : (t.stops.length : Int) ≤ 1000000 := by omega
    have hul0 : ((0 : Nat) : Int) + (t.stops.length : Int) ≤ 1000000 := by omega
    refine Chk.mk (okc) ?_
    refine ⟨i + 1, by omega, by omega, ?_⟩
    rw [htk]
    (refine To.of [] ?_; cbv; (try simp only [nc]); (repeat' (first | exact trivial | exact WkN.refl _ | exact WkB.refl _ | refine ⟨?_, ?_⟩ | refine WkB.cells ?_ | refine WkN.agg ?_ | refine WkN.tup ?_)); (all_goals (first | exact okt | skip)))
    · refine .snocVT hnt (fun _ _ => rfl) rfl rfl ?_
      cbv
      repeat' (first | exact trivial | refine ⟨?_, ?_⟩ | exact WkN.refl _ | exact .nsub rfl (by simp))
    · refine WkB.snocM (inner := Train.stops) (l := List.take i l) (x := t) hnt rfl rfl ?_ fun j hj => ?_
      · simp
      rw [snocF_ge (len := 0) rfl (Nat.zero_le _), lstR_nt hnt]
      rfl
  · obtain rfl : i = l.length := by simp only [decide_eq_false_iff_not] at hb; omega
    rw [List.take_length]
    (cbv; (try simp only [nc] at *); (try refine Chk.mk (okc) ?_))
    refine ⟨_, _, ?_, rfl, rfl⟩
    (refine To.of [] ?_; cbv; (try simp only [nc]); (repeat' (first | exact trivial | exact WkN.refl _ | exact WkB.refl _ | refine ⟨?_, ?_⟩ | refine WkB.cells ?_ | refine WkN.agg ?_ | refine WkN.tup ?_)); (all_goals (first | exact okt | skip)))

/-- A book's blocks: its zones, and its trains with their stops. -/
def zoB (nt : (α : Type) → α → List α → Int → α) (l : List Zone) : Blk := .gar 2 (fun _ => (l.length : Int)) (fun e => encZone (nt Zone default l (e ())))
def trB (nt : (α : Type) → α → List α → Int → α) (q : Nat) (l : List Train) : Blk := .vgar 3 (fun _ => (l.length : Int)) (fun e => encTrH q (nt Train default l (e ())) e)
def stB (nt : (α : Type) → α → List α → Int → α) (z : Nat) (l : List Train) : Blk := .fam z 4 (fun _ => (l.length : Int)) (fun e _ => ((nt Train default l (e ())).stops.length : Int)) (fun e k => encStop (nt Stop default (nt Train default l (e ())).stops (k ())))

theorem c23N {nt : (α : Type) → α → List α → Int → α} (hnt : ∀ (α : Type) (d : α) (l : List α) (i : Int), nt α d l i = l.getD i.toNat d) (b : Book) (hf : BookFit b) :
    SC (fun _ => Try.prog) 23 [bookA b] [] fun v h => v = .agg [.gsl 0 (fun _ => (b.zones.length : Int)), .gsl 1 (fun _ => (b.old.length : Int)), .gsl 3 (fun _ => (b.new.length : Int)), .int .i64 fun _ => b.night, .int .i64 fun _ => b.last] ∧
      h = [zoB nt b.zones, trB nt 2 b.old, stB nt 3 b.old, trB nt 4 b.new, stB nt 5 b.new] := by
  have k1 := c69N hnt b.old hf.old hf.stops.1
  have k2 := c69N hnt b.new hf.new hf.stops.2
  have hz := hf.zones
  have hc := hf.chs
  refine SC.less (conN false [] [2, 3, 4, 5, 6] Try.func23 (body := bodyOf Try.f23) rfl (by decide +kernel) ?_)
  unfold bookA at *
  simp only [lst_nt hnt] at *
  simp only [zoB, trB, stB]
  (cbv; (try simp only [nc] at *); (try refine Chk.mk (okc) ?_))
  refine loopN false [] [1, 2, 3, 4] [.gar 2 (fun _ => 0) fun _ => []] (fun (i : Nat) => [(4, .int .i64 fun _ => (i : Int))])
    (fun i => [(0, .cells [.gsl 2 (fun _ => ((b.zones.take i).length : Int)), .isl 3 (fun _ => (b.old.length : Int)) (fun e => encTrain (nt Train default b.old (e ()))) .none, .isl 3 (fun _ => (b.new.length : Int)) (fun e => encTrain (nt Train default b.new (e ()))) .none, .int .i64 fun _ => b.night, .int .i64 fun _ => b.last]), (2, .gar 2 (fun _ => ((b.zones.take i).length : Int)) (fun e => encZone (nt Zone default (b.zones.take i) (e ()))))]) (fun i => i ≤ b.zones.length) (fun i => b.zones.length - i + 0) 0 (Nat.zero_le _) ?_ ?_
  · (refine To.of [(2,true)] ?_; cbv; (try simp only [nc]); (repeat' (first | exact trivial | exact WkN.refl _ | exact WkB.refl _ | refine ⟨?_, ?_⟩ | refine WkB.cells ?_ | refine WkN.agg ?_ | refine WkN.tup ?_)); (all_goals (first | exact okt | skip)))
    exact .gar (by simp) fun i hi => absurd hi (by simp)
  intro i hi
  (cbv; (try simp only [nc] at *); (try refine Chk.mk (okc) ?_))
  refine ⟨fun hb => ?_, fun hb => ?_⟩
  · simp only [decide_eq_true_eq] at hb
    have hch := hc _ (nt_mem (d := default) hnt (l := b.zones) (i := i) (by omega))
    have htk := nt_take (d := default) hnt (l := b.zones) (i := i) (by omega)
    have hti : (b.zones.take i).length = i := by rw [List.length_take]; omega
    (cbv; try simp only [nc] at *)
    generalize nt Zone default b.zones (i : Int) = z at *
    refine Chk.mk (okc) ?_
    refine call0 (c30n z hch) (by first | rfl | (simp only [zoneA, bookA, lst_nt hnt]; rfl)) fun r h₂ hp => ?_
    (try simp only [zoneA, bookA, lst_nt hnt] at hp)
    obtain ⟨rfl, rfl⟩ := hp
    (cbv; (try simp only [nc] at *); (try refine Chk.mk (okc) ?_))
    refine ⟨i + 1, by omega, by omega, ?_⟩
    rw [htk]
    (refine To.of [] ?_; cbv; (try simp only [nc]); (repeat' (first | exact trivial | exact WkN.refl _ | exact WkB.refl _ | refine ⟨?_, ?_⟩ | refine WkB.cells ?_ | refine WkN.agg ?_ | refine WkN.tup ?_)); (all_goals (first | exact okt | skip)))
  · obtain rfl : i = b.zones.length := by simp only [decide_eq_false_iff_not] at hb; omega
    rw [List.take_length]
    (cbv; (try simp only [nc] at *); (try refine Chk.mk (okc) ?_))
    refine call0 (k1) (by first | rfl | (simp only [zoneA, bookA, lst_nt hnt]; rfl)) fun r h₂ hp => ?_
    (try simp only [zoneA, bookA, lst_nt hnt] at hp)
    obtain ⟨rfl, rfl⟩ := hp
    (cbv; (try simp only [nc] at *); (try refine Chk.mk (okc) ?_))
    refine call0 (k2) (by first | rfl | (simp only [zoneA, bookA, lst_nt hnt]; rfl)) fun r h₂ hp => ?_
    (try simp only [zoneA, bookA, lst_nt hnt] at hp)
    obtain ⟨rfl, rfl⟩ := hp
    (cbv; (try simp only [nc] at *); (try refine Chk.mk (okc) ?_))
    refine ⟨_, _, ?_, rfl, rfl⟩
    (refine To.of [] ?_; cbv; (try simp only [nc]); (repeat' (first | exact trivial | exact WkN.refl _ | exact WkB.refl _ | refine ⟨?_, ?_⟩ | refine WkB.cells ?_ | refine WkN.agg ?_ | refine WkN.tup ?_)); (all_goals (first | exact okt | skip)))
end Go.Proofs.Ytlcgliadpalgfaa.Vm

/- Contracts: printed hours that are made later, in place. -/
namespace Go.Proofs.Ytlcgliadpalgfaa.Vm
open Go Go.Proofs Sp
set_option maxRecDepth 100000
set_option maxHeartbeats 1600000

/-- A stop whose printed hours are later. -/
def laterS (d : Int) (s : Stop) : Stop := ⟨s.station, s.zone, s.arrive + d, s.depart + d⟩
def laterT (d : Int) (t : Train) : Train := ⟨t.number, t.days, t.stops.map (laterS d)⟩
/-- Some of a train's stops are later. -/
def laterK (d : Int) (k : Nat) (t : Train) : Train := ⟨t.number, t.days, (t.stops.take k).map (laterS d) ++ t.stops.drop k⟩

theorem nt_set {nt : (α : Type) → α → List α → Int → α} (hnt : ∀ (α : Type) (d : α) (l : List α) (i : Int), nt α d l i = l.getD i.toNat d) {α : Type} {d : α} {l : List α} {i : Nat} {x : α} (hi : i < l.length) (j : Nat) : nt α d (l.set i x) (j : Int) = if j = i then x else nt α d l (j : Int) := by
  rw [hnt, hnt]
  simp only [Int.toNat_natCast, List.getD_eq_getElem?_getD, List.getElem?_set]
  by_cases h : i = j
  · subst h; simp [hi]
  · rw [if_neg h, if_neg (Ne.symm h)]
theorem laterK_len (d : Int) (k : Nat) (t : Train) : (laterK d k t).stops.length = t.stops.length := by
  simp only [laterK, List.length_append, List.length_map, List.length_take, List.length_drop]
  omega
theorem laterK_get {nt : (α : Type) → α → List α → Int → α} (hnt : ∀ (α : Type) (d : α) (l : List α) (i : Int), nt α d l i = l.getD i.toNat d) (d : Int) (k : Nat) (t : Train) (j : Nat) (hj : j < t.stops.length) : nt Stop default (laterK d k t).stops (j : Int) = if j < k then laterS d (nt Stop default t.stops (j : Int)) else nt Stop default t.stops (j : Int) := by
  rw [hnt, hnt]
  simp only [laterK, Int.toNat_natCast, List.getD_eq_getElem?_getD]
  by_cases h : j < k
  · rw [if_pos h, List.getElem?_append_left (by simp; omega), List.getElem?_map, List.getElem?_take, if_pos h, List.getElem?_eq_getElem hj]
    rfl
  · rw [if_neg h, List.getElem?_append_right (by simp; omega), List.getElem?_drop]
    simp only [List.length_map, List.length_take]
    rw [show k + (j - min k t.stops.length) = j from by omega]

theorem c24N {nt : (α : Type) → α → List α → Int → α} (hnt : ∀ (α : Type) (d : α) (l : List α) (i : Int), nt α d l i = l.getD i.toNat d) (l : List Train) (i : Nat) (d : Int) (hi : i < l.length) (hd : 0 ≤ d ∧ d ≤ 1000)
    (hs : ((nt Train default l (i : Int)).stops.length : Int) ≤ 1000000 ∧ ∀ s ∈ (nt Train default l (i : Int)).stops, (0 ≤ s.arrive ∧ s.arrive ≤ 1000000) ∧ 0 ≤ s.depart ∧ s.depart ≤ 1000000) :
    SC (fun _ => Try.prog) 24 [.nsub 0 (fun _ => (i : Int)) (fun _ => ((nt Train default l (i : Int)).stops.length : Int)), .int .i64 fun _ => d] [stB nt 1 l] fun v h => h = [stB nt 1 (l.set i (laterT d (nt Train default l (i : Int))))] := by
  refine SC.less (conN false [] [] Try.func24 (body := bodyOf Try.f24) rfl (by decide +kernel) ?_)
  simp only [stB]
  (cbv; (try simp only [nc] at *); (try refine Chk.mk (okc) ?_))
  refine loopN false [] [0, 1, 4] [] (fun (k : Nat) => [(4, .int .i64 fun _ => (k : Int))])
    (fun k => [(0, .fam 1 4 (fun _ => ((l.set i (laterK d k (nt Train default l (i : Int)))).length : Int)) (fun e _ => ((nt Train default (l.set i (laterK d k (nt Train default l (i : Int)))) (e ())).stops.length : Int)) (fun e q => encStop (nt Stop default (nt Train default (l.set i (laterK d k (nt Train default l (i : Int)))) (e ())).stops (q ()))))]) (fun k => k ≤ (nt Train default l (i : Int)).stops.length) (fun k => (nt Train default l (i : Int)).stops.length - k + 0) 0 (Nat.zero_le _) ?_ ?_
  · (refine To.of [] ?_; cbv; (try simp only [nc]); (repeat' (first | exact trivial | exact WkN.refl _ | exact WkB.refl _ | refine ⟨?_, ?_⟩ | refine WkB.cells ?_ | refine WkN.agg ?_ | refine WkN.tup ?_)); (all_goals (first | exact okt | skip)))
    refine .fam (by simp) (fun a ha => ?_) fun a ha j hj => ?_
    · show ((nt Train default l (a : Int)).stops.length : Int) = ((nt Train default (l.set i (laterK d 0 (nt Train default l (i : Int)))) (a : Int)).stops.length : Int)
      rw [nt_set hnt hi]
      split
      · rename_i h; subst h; rw [laterK_len]
      · rfl
    · show encStop (nt Stop default (nt Train default l (a : Int)).stops (j : Int)) = encStop (nt Stop default (nt Train default (l.set i (laterK d 0 (nt Train default l (i : Int)))) (a : Int)).stops (j : Int))
      rw [nt_set hnt hi]
      split
      · rename_i h; subst h
        have hj : (j : Int) < ((nt Train default l (a : Int)).stops.length : Int) := hj
        rw [laterK_get hnt _ _ _ _ (by omega), if_neg (by omega)]
      · rfl
  intro k hk
  have e1 : nt Train default (l.set i (laterK d k (nt Train default l (i : Int)))) (i : Int) = laterK d k (nt Train default l (i : Int)) := by rw [nt_set hnt hi, if_pos rfl]
  (cbv; (try simp only [nc] at *); (try refine Chk.mk (okc) ?_))
  refine ⟨fun hb => ?_, fun hb => ?_⟩
  · simp only [decide_eq_true_eq] at hb
    have e2 : nt Stop default (laterK d k (nt Train default l (i : Int))).stops (k : Int) = nt Stop default (nt Train default l (i : Int)).stops (k : Int) := by rw [laterK_get hnt _ _ _ _ (by omega), if_neg (by omega)]
    have hbd := hs.2 _ (nt_mem (d := default) hnt (l := (nt Train default l (i : Int)).stops) (i := k) (by omega))
    (cbv; try simp only [nc] at *)
    simp only [e1, e2, laterK_len, List.length_set]
    generalize hs0 : nt Stop default (nt Train default l (i : Int)).stops (k : Int) = s0 at *
    refine Chk.mk (okc) ?_
    refine ⟨k + 1, by omega, by omega, ?_⟩
    (refine To.of [] ?_; cbv; (try simp only [nc]); (repeat' (first | exact trivial | exact WkN.refl _ | exact WkB.refl _ | refine ⟨?_, ?_⟩ | refine WkB.cells ?_ | refine WkN.agg ?_ | refine WkN.tup ?_)); (all_goals (first | exact okt | skip)))
    refine .fam rfl (fun a ha => ?_) fun a ha j hj => ?_
    · show ((nt Train default (l.set i (laterK d k (nt Train default l (i : Int)))) (a : Int)).stops.length : Int) = ((nt Train default (l.set i (laterK d (k + 1) (nt Train default l (i : Int)))) (a : Int)).stops.length : Int)
      rw [nt_set hnt hi, nt_set hnt hi]
      split
      · rw [laterK_len, laterK_len]
      · rfl
    · have hj : (j : Int) < ((nt Train default (l.set i (laterK d k (nt Train default l (i : Int)))) (a : Int)).stops.length : Int) := hj
      show encStop ⟨(nt Stop default (nt Train default (l.set i (laterK d k (nt Train default l (i : Int)))) (a : Int)).stops (j : Int)).station, (nt Stop default (nt Train default (l.set i (laterK d k (nt Train default l (i : Int)))) (a : Int)).stops (j : Int)).zone,
        bif decide ((a : Int) = (i : Int)) && decide ((j : Int) = (k : Int)) then s0.arrive + d else (nt Stop default (nt Train default (l.set i (laterK d k (nt Train default l (i : Int)))) (a : Int)).stops (j : Int)).arrive,
        bif decide ((a : Int) = (i : Int)) && decide ((j : Int) = (k : Int)) then s0.depart + d else (nt Stop default (nt Train default (l.set i (laterK d k (nt Train default l (i : Int)))) (a : Int)).stops (j : Int)).depart⟩ = encStop (nt Stop default (nt Train default (l.set i (laterK d (k + 1) (nt Train default l (i : Int)))) (a : Int)).stops (j : Int))
      refine congrArg encStop ?_
      rw [nt_set hnt hi] at hj
      rw [nt_set hnt hi, nt_set hnt hi]
      by_cases hai : a = i
      · subst hai
        rw [if_pos rfl] at hj
        rw [laterK_len] at hj
        rw [if_pos rfl, if_pos rfl, laterK_get hnt _ _ _ _ (by omega), laterK_get hnt _ _ _ _ (by omega)]
        rcases Nat.lt_trichotomy j k with h | h | h
        · rw [if_pos h, if_pos (by omega), decide_eq_false (by omega : ¬ ((j : Int) = (k : Int))), Bool.and_false]; rfl
        · subst h
          rw [if_neg (by omega), if_pos (by omega), decide_eq_true rfl, decide_eq_true rfl, hs0]; rfl
        · rw [if_neg (by omega), if_neg (by omega), decide_eq_false (by omega : ¬ ((j : Int) = (k : Int))), Bool.and_false]; rfl
      · rw [if_neg hai, if_neg hai, decide_eq_false (by omega : ¬ ((a : Int) = (i : Int))), Bool.false_and]; rfl
  · obtain rfl : k = (nt Train default l (i : Int)).stops.length := by simp only [decide_eq_false_iff_not] at hb; omega
    have e3 : laterK d (nt Train default l (i : Int)).stops.length (nt Train default l (i : Int)) = laterT d (nt Train default l (i : Int)) := by simp [laterK, laterT]
    rw [e3]
    (cbv; (try simp only [nc] at *); (try refine Chk.mk (okc) ?_))
    refine ⟨.undef, _, ?_, rfl⟩
    (refine To.of [] ?_; cbv; (try simp only [nc]); (repeat' (first | exact trivial | exact WkN.refl _ | exact WkB.refl _ | refine ⟨?_, ?_⟩ | refine WkB.cells ?_ | refine WkN.agg ?_ | refine WkN.tup ?_)); (all_goals (first | exact okt | skip)))
end Go.Proofs.Ytlcgliadpalgfaa.Vm

/- Contracts: numbers of trains, and on which days they start. -/
namespace Go.Proofs.Ytlcgliadpalgfaa.Vm
open Go Go.Proofs Sp
set_option maxRecDepth 100000
set_option maxHeartbeats 1600000

def checkNumber (b : Book) (n : Int) : Int := if Check b ≠ 0 then Check b else if place b.old n < 0 ∧ place b.new n < 0 then 3 else 0
/-- The day of a run of a train. -/
def dayOf (n : Int) (x : Train × Int) : Option Int := if x.1.number = n then some x.2 else none
def startsL (n : Int) (l : List (Train × Int)) : List Int := l.filterMap (dayOf n)
theorem startsL_snoc (n : Int) (l : List (Train × Int)) (x : Train × Int) : startsL n (l ++ [x]) = startsL n l ++ (if x.1.number = n then [x.2] else []) := by
  unfold startsL
  rw [List.filterMap_append]
  congr 1
  by_cases h : x.1.number = n <;> simp [dayOf, h]
def Starts (b : Book) (n : Int) : List Int × Int := if checkNumber b n ≠ 0 then ([], checkNumber b n) else (startsL n (runsTo b (b.last + 1).toNat), 0)

theorem c118 (l : List Train) (n : Int) (hl : l.length ≤ 1000000) : SC (fun _ => Try.prog) 118 [lst 3 encTrain default l, .fn 111 [] [.iptr [.int .i64 fun _ => n] 0]] [] fun v h => v = .bool (fun _ => decide (0 ≤ place l n)) ∧ h = [] := by
  obtain ⟨nt, hnt⟩ := nth_ex
  have k := c74 l n hl
  simp only [lst_nt hnt] at k ⊢
  refine con Try.func118 (body := bodyOf Try.f118) rfl (by decide +kernel) ?_
  (cbv; (try simp only [nc] at *); (try refine Chk.mk (okc) ?_))
  refine call0 (k) (by first | rfl | (simp only [zoneA, bookA, lst_nt hnt]; rfl)) fun r h₂ hp => ?_
  (try simp only [zoneA, bookA, lst_nt hnt] at hp)
  obtain ⟨rfl, rfl⟩ := hp
  (cbv; (try simp only [nc] at *); (try refine Chk.mk (okc) ?_))
  (try first | exact ⟨rfl, trivial⟩ | exact ⟨trivial, trivial⟩)

theorem c88 (b : Book) (n : Int) (hf : BookFit b) : SC (fun _ => Try.prog) 88 [bookA b, .int .i64 fun _ => n] [] fun v h => v = .int .i64 (fun _ => checkNumber b n) ∧ h = [] := by
  obtain ⟨nt, hnt⟩ := nth_ex
  have k28 := c28 b hf
  have k1 := c118 b.old n hf.old
  have k2 := c118 b.new n hf.new
  unfold checkNumber
  generalize Check b = C at *
  generalize place b.old n = p1 at *
  generalize place b.new n = p2 at *
  generalize hE : (if C ≠ 0 then C else if p1 < 0 ∧ p2 < 0 then 3 else 0 : Int) = E
  unfold bookA at *
  simp only [lst_nt hnt] at *
  refine con Try.func88 (body := bodyOf Try.f88) rfl (by decide +kernel) ?_
  (cbv; (try simp only [nc] at *); (try refine Chk.mk (okc) ?_))
  refine call0 (k28) (by first | rfl | (simp only [zoneA, bookA, lst_nt hnt]; rfl)) fun r h₂ hp => ?_
  (try simp only [zoneA, bookA, lst_nt hnt] at hp)
  obtain ⟨rfl, rfl⟩ := hp
  (cbv; (try simp only [nc] at *); (try refine Chk.mk (okc) ?_))
  refine ⟨fun hb => ?_, fun hb => ?_⟩
  · simp only [bne_iff_ne, ne_eq] at hb
    rw [if_pos hb] at hE
    subst hE
    (cbv; (try simp only [nc] at *); (try refine Chk.mk (okc) ?_))
    (try first | exact ⟨rfl, trivial⟩ | exact ⟨trivial, trivial⟩)
  have hC : C = 0 := by simpa using hb
  rw [if_neg (fun h => h hC)] at hE
  (cbv; (try simp only [nc] at *); (try refine Chk.mk (okc) ?_))
  refine call0 (c75 n) (by first | rfl | (simp only [zoneA, bookA, lst_nt hnt]; rfl)) fun r h₂ hp => ?_
  (try simp only [zoneA, bookA, lst_nt hnt] at hp)
  obtain ⟨rfl, rfl⟩ := hp
  (cbv; (try simp only [nc] at *); (try refine Chk.mk (okc) ?_))
  refine call0 (k1) (by first | rfl | (simp only [zoneA, bookA, lst_nt hnt]; rfl)) fun r h₂ hp => ?_
  (try simp only [zoneA, bookA, lst_nt hnt] at hp)
  obtain ⟨rfl, rfl⟩ := hp
  (cbv; (try simp only [nc] at *); (try refine Chk.mk (okc) ?_))
  refine ⟨fun h1 => ?_, fun h1 => ?_⟩
  · have h1 : p1 < 0 := by simpa using h1
    (cbv; (try simp only [nc] at *); (try refine Chk.mk (okc) ?_))
    refine call0 (c75 n) (by first | rfl | (simp only [zoneA, bookA, lst_nt hnt]; rfl)) fun r h₂ hp => ?_
    (try simp only [zoneA, bookA, lst_nt hnt] at hp)
    obtain ⟨rfl, rfl⟩ := hp
    (cbv; (try simp only [nc] at *); (try refine Chk.mk (okc) ?_))
    refine Br.isT (by simp; omega) ?_
    (cbv; (try simp only [nc] at *); (try refine Chk.mk (okc) ?_))
    refine call0 (k2) (by first | rfl | (simp only [zoneA, bookA, lst_nt hnt]; rfl)) fun r h₂ hp => ?_
    (try simp only [zoneA, bookA, lst_nt hnt] at hp)
    obtain ⟨rfl, rfl⟩ := hp
    (cbv; (try simp only [nc] at *); (try refine Chk.mk (okc) ?_))
    refine ⟨fun h2 => ?_, fun h2 => ?_⟩
    · have h2 : p2 < 0 := by simpa [h1] using h2
      rw [if_pos ⟨h1, h2⟩] at hE
      subst hE
      (cbv; (try simp only [nc] at *); (try refine Chk.mk (okc) ?_))
      (try first | exact ⟨rfl, trivial⟩ | exact ⟨trivial, trivial⟩)
    · have h2 : ¬ p2 < 0 := by simpa [h1] using h2
      rw [if_neg (fun h => h2 h.2)] at hE
      subst hE
      (cbv; (try simp only [nc] at *); (try refine Chk.mk (okc) ?_))
      (try first | exact ⟨rfl, trivial⟩ | exact ⟨trivial, trivial⟩)
  · have h1 : ¬ p1 < 0 := by simpa using h1
    rw [if_neg (fun h => h1 h.1)] at hE
    subst hE
    (cbv; (try simp only [nc] at *); (try refine Chk.mk (okc) ?_))
    refine Br.isF (by simp; omega) ?_
    (cbv; (try simp only [nc] at *); (try refine Chk.mk (okc) ?_))
    refine Br.isF (by first | rfl | (simp; done)) ?_
    (cbv; (try simp only [nc] at *); (try refine Chk.mk (okc) ?_))
    (try first | exact ⟨rfl, trivial⟩ | exact ⟨trivial, trivial⟩)

theorem c41 (b : Book) (n : Int) (hb : BookFit b) : SC (fun _ => Try.prog) 41 [bookA b, .int .i64 fun _ => n] [] fun v h => v = .tup [lst 1 encI 0 (Starts b n).1, .int .i64 fun _ => (Starts b n).2] ∧ h = [] := by
  obtain ⟨nt, hnt⟩ := nth_ex
  have k88 := c88 b n hb
  have k86 := c86 b
  have hok0 : checkNumber b n = 0 → BookOk b := fun h => by
    unfold checkNumber at h
    split at h
    · rename_i hne; exact absurd h hne
    · rename_i hne; exact book_ok (Decidable.of_not_not hne)
  unfold Starts
  generalize checkNumber b n = C at *
  refine SC.less (conX false false [] Try.func41 (body := bodyOf Try.f41) rfl (by decide +kernel) ?_)
  unfold bookA bookI at *
  (cbv; (try simp only [nc] at *); (try refine Chk.mk (okc) ?_))
  refine call0 (k88) (by first | rfl | (simp only [zoneA, bookA, lst_nt hnt]; rfl)) fun r h₂ hp => ?_
  (try simp only [zoneA, bookA, lst_nt hnt] at hp)
  obtain ⟨rfl, rfl⟩ := hp
  (cbv; (try simp only [nc] at *); (try refine Chk.mk (okc) ?_))
  refine ⟨fun hb => ?_, fun hb => ?_⟩
  · simp only [bne_iff_ne, ne_eq] at hb
    rw [if_pos hb]
    (cbv; (try simp only [nc] at *); (try refine Chk.mk (okc) ?_))
    refine ⟨_, [], ?_, rfl, rfl⟩
    (refine To.of [] ?_; cbv; (try simp only [nc]); (repeat' (first | exact trivial | exact WkN.refl _ | exact WkB.refl _ | refine ⟨?_, ?_⟩ | refine WkB.cells ?_ | refine WkN.agg ?_ | refine WkN.tup ?_)); (all_goals (first | exact okt | skip)))
  have hC : C = 0 := by simpa using hb
  have hok := hok0 hC
  rw [if_neg (fun h => h hC)]
  (cbv; (try simp only [nc] at *); (try refine Chk.mk (okc) ?_))
  refine call0 (k86) (by first | rfl | (simp only [zoneA, bookA, lst_nt hnt]; rfl)) fun r h₂ hp => ?_
  (try simp only [zoneA, bookA, lst_nt hnt] at hp)
  obtain ⟨rfl, rfl⟩ := hp
  (cbv; (try simp only [nc] at *); (try refine Chk.mk (okc) ?_))
  refine rangeT [2, 3, 7, 16] [.tok 1 fun _ => 0] [(2, .cells [.isl 1 (fun _ => 0) (fun e => encI (nt Int 0 [] (e ()))) (.own 3)])] (fid := 117) (first := []) ?_ rfl ?_ ?_
  · (refine To.of [(1,false)] ?_; cbv; (try simp only [nc]); (repeat' (first | exact trivial | exact WkN.refl _ | exact WkB.refl _ | refine ⟨?_, ?_⟩ | refine WkB.cells ?_ | refine WkN.agg ?_ | refine WkN.tup ?_)); (all_goals (first | exact okt | skip)))
  · exact allc_nil
  have k117 := fun s ps a x => c117_4 b (by have := hok.last; omega) hok s ps a x (fun _ => .cells (bookC b)) (fun _ => .cells [.int .i64 fun _ => n]) (fun acc => .cells [.isl 1 (fun _ => ((startsL n acc).length : Int)) (fun e => encI (nt Int 0 (startsL n acc) (e ()))) (.own 3)]) (fun acc => .tok 1 fun _ => ((startsL n acc).length : Int))
  unfold bookI bookC at k117
  simp only [lst_nt hnt] at k117
  simp only [lstR_nt hnt]
  refine SC.mono (k117 _ _ _ _ ?_ ?_ ?_) ?_
  · intro acc; cbv
  · intro acc t; cbv
  · intro acc t day ha hm hs hd
    simp only [startsL_snoc]
    have hO : (startsL n acc).length ≤ 1000 := Nat.le_trans (List.length_filterMap_le _ _) ha
    generalize startsL n acc = O at *
    generalize calls b.zones t day = C at *
    unfold runV encTrain
    simp only [lst_nt hnt]
    refine YC.less (yieldR false false [] rfl rfl ?_)
    (cbv; (try simp only [nc] at *); (try refine Chk.mk (okc) ?_))
    refine ⟨fun h1 => ?_, fun h1 => ?_⟩
    · have h1 : t.number = n := by simpa using h1
      rw [if_pos h1]
      (cbv; (try simp only [nc] at *); (try refine Chk.mk (okc) ?_))
      refine ⟨_, _, ?_, rfl, rfl⟩
      (refine To.of [] ?_; cbv; (try simp only [nc]); (repeat' (first | exact trivial | exact WkN.refl _ | exact WkB.refl _ | refine ⟨?_, ?_⟩ | refine WkB.cells ?_ | refine WkN.agg ?_ | refine WkN.tup ?_)); (all_goals (first | exact okt | skip)))
    · have h1 : ¬ t.number = n := by simpa using h1
      rw [if_neg h1]
      (cbv; (try simp only [nc] at *); (try refine Chk.mk (okc) ?_))
      refine ⟨_, _, ?_, rfl, rfl⟩
      simp only [List.append_nil]
      (refine To.of [] ?_; cbv; (try simp only [nc]); (repeat' (first | exact trivial | exact WkN.refl _ | exact WkB.refl _ | refine ⟨?_, ?_⟩ | refine WkB.cells ?_ | refine WkN.agg ?_ | refine WkN.tup ?_)); (all_goals (first | exact okt | skip)))
  · intro r h hh
    subst hh
    (cbv; (try simp only [nc] at *); (try refine Chk.mk (okc) ?_))
    refine ⟨.tup [lst 1 encI 0 (startsL n (runsTo b (b.last + 1).toNat)), .int .i64 fun _ => 0], [], ?_, rfl, rfl⟩
    simp only [lst_nt hnt]
    (refine To.of [] ?_; cbv; (try simp only [nc]); (repeat' (first | exact trivial | exact WkN.refl _ | exact WkB.refl _ | refine ⟨?_, ?_⟩ | refine WkB.cells ?_ | refine WkN.agg ?_ | refine WkN.tup ?_)); (all_goals (first | exact okt | skip)))
end Go.Proofs.Ytlcgliadpalgfaa.Vm

/- Plain: what a valid book is; runs of one train, day by day. -/
namespace Go.Proofs.Ytlcgliadpalgfaa.Vm
open Sp

theorem pair_of {α : Type} [Inhabited α] {f : α → Int} {l : List α} (h : ∀ i, i < l.length → (l.take i).any (fun x => decide (f x = f (l.getD i default))) = false) : l.Pairwise (fun a c => f a ≠ f c) := by
  rw [List.pairwise_iff_getElem]
  intro i j hi hj hij e
  have := h j hj
  rw [List.any_eq_false] at this
  refine this l[i] (List.mem_iff_getElem.2 ⟨i, by rw [List.length_take]; omega, by simp⟩) ?_
  simp [List.getD_eq_getElem?_getD, List.getElem?_eq_getElem hj, e]

theorem stop_new {zones : Int} {l : List Stop} {i : Nat} (h : chkStopAt zones l i = 0) : (l.take i).any (fun x => decide (x.station = (l.getD i default).station)) = false := by
  unfold chkStopAt checkStop at h
  split at h
  · cases h
  split at h
  · cases h
  · rename_i h2; simpa using h2
theorem stops_pair {zones : Int} {l : List Stop} (h : chkStops zones l = 0) : l.Pairwise (fun a c => a.station ≠ c.station) :=
  pair_of (f := Stop.station) fun i hi => stop_new (firstErr_ok h i (by omega) (by omega))
theorem train_new {zones : Int} {l : List Train} {i : Nat} (h : chkTrainAt zones l i = 0) : (l.take i).any (fun x => decide (x.number = (l.getD i default).number)) = false ∧ chkStops zones (l.getD i default).stops = 0 := by
  unfold chkTrainAt at h
  split at h
  · cases h
  split at h
  · cases h
  rename_i h2
  split at h
  · cases h
  split at h
  · rename_i h4; exact absurd h h4
  · exact ⟨by simpa using h2, h⟩
theorem trains_new {zones : Int} {l : List Train} (h : chkTrains zones l = 0) : l.Pairwise (fun a c => a.number ≠ c.number) ∧ ∀ t ∈ l, t.stops.Pairwise (fun a c => a.station ≠ c.station) := by
  unfold chkTrains at h
  split at h
  · rename_i hne; exact absurd h hne
  refine ⟨pair_of (f := Train.number) fun i hi => (train_new (firstErr_ok h i (by omega) (by omega))).1, fun t ht => ?_⟩
  obtain ⟨i, hi, rfl⟩ := mem_getD (d := default) ht
  exact stops_pair (train_new (firstErr_ok h i (by omega) (by omega))).2
theorem check_new {b : Book} (h : Check b = 0) (d : Int) : (table b d).Pairwise (fun a c => a.number ≠ c.number) ∧ ∀ t ∈ table b d, t.stops.Pairwise (fun a c => a.station ≠ c.station) := by
  unfold Check at h
  split at h
  · rename_i hne; exact absurd h hne
  split at h
  · rename_i hne; exact absurd h hne
  split at h
  · rename_i hne; exact absurd h hne
  rename_i h3
  split at h
  · rename_i hne; exact absurd h hne
  rename_i h4
  unfold table
  split
  · exact trains_new (Decidable.of_not_not h3)
  · exact trains_new (Decidable.of_not_not h4)

/-- The one train of a number. -/
theorem found_gen {α : Type} {n d : Int} {s : Train → Bool} {f : Train × Int → Option α} (hf : ∀ t : Train, t.number ≠ n → f (t, d) = none) : ∀ {l : List Train} {k : Int}, 0 ≤ k → l.Pairwise (fun a c => a.number ≠ c.number) →
    ((l.filter s).map fun t => (t, d)).filterMap f = if indexFrom (fun t : Train => decide (t.number = n)) k l < 0 then [] else
      if s (l.getD (indexFrom (fun t : Train => decide (t.number = n)) k l - k).toNat default) then (f (l.getD (indexFrom (fun t : Train => decide (t.number = n)) k l - k).toNat default, d)).toList else []
  | [], k, _, _ => by simp [indexFrom]
  | a :: l, k, hk, hp => by
    have hp' := List.pairwise_cons.1 hp
    by_cases hn : a.number = n
    · have e1 : indexFrom (fun t : Train => decide (t.number = n)) k (a :: l) = k := by unfold indexFrom; rw [if_pos (by simpa using hn)]
      rw [e1, if_neg (by omega)]
      have hrest : ((l.filter s).map fun t => (t, d)).filterMap f = [] := by
        rw [List.filterMap_eq_nil_iff]
        intro x hx
        rw [List.mem_map] at hx
        obtain ⟨t, ht, rfl⟩ := hx
        exact hf t fun e => hp'.1 t (List.mem_filter.1 ht).1 (hn.trans e.symm)
      simp only [Int.sub_self, Int.toNat_zero, List.getD_cons_zero]
      by_cases hs : s a = true
      · rw [if_pos hs, List.filter_cons, if_pos hs, List.map_cons, List.filterMap_cons, hrest]
        cases f (a, d) <;> rfl
      · rw [if_neg hs, List.filter_cons, if_neg hs, hrest]
    · have e1 : indexFrom (fun t : Train => decide (t.number = n)) k (a :: l) = indexFrom (fun t : Train => decide (t.number = n)) (k + 1) l := by rw [indexFrom.eq_def]; dsimp only; rw [if_neg (by simpa using hn)]
      rw [e1]
      have ih := found_gen hf (s := s) (l := l) (k := k + 1) (by omega) hp'.2
      have he : (((a :: l).filter s).map fun t => (t, d)).filterMap f = ((l.filter s).map fun t => (t, d)).filterMap f := by
        rw [List.filter_cons]
        split
        · rw [List.map_cons, List.filterMap_cons, hf a hn]
        · rfl
      rw [he, ih]
      by_cases hI : indexFrom (fun t : Train => decide (t.number = n)) (k + 1) l < 0
      · rw [if_pos hI, if_pos hI]
      · rw [if_neg hI, if_neg hI]
        have := indexFrom_lt (q := fun t : Train => decide (t.number = n)) (l := l) (i := k + 1) (by omega)
        have e : (indexFrom (fun t : Train => decide (t.number = n)) (k + 1) l - k).toNat = (indexFrom (fun t : Train => decide (t.number = n)) (k + 1) l - (k + 1)).toNat + 1 := by omega
        rw [e, List.getD_cons_succ]

/-- What the runs of one day give. -/
theorem day_gen {α : Type} {b : Book} (h : Check b = 0) {n : Int} {f : Train × Int → Option α} (hf : ∀ (t : Train) (d : Int), t.number ≠ n → f (t, d) = none) (d : Nat) :
    (runsTo b (d + 1)).filterMap f = (runsTo b d).filterMap f ++ (if place (table b d) n < 0 then [] else if starts ((table b d).getD (place (table b d) n).toNat default) d then (f ((table b d).getD (place (table b d) n).toNat default, (d : Int))).toList else []) := by
  rw [runsTo_succ, List.filterMap_append]
  congr 1
  have := found_gen (n := n) (d := (d : Int)) (s := fun t => starts t d) (f := f) (fun t ht => hf t d ht) (l := table b d) (k := 0) (Int.le_refl _) (check_new h d).1
  simp only [Int.sub_zero] at this
  unfold runsIn
  rw [List.take_length]
  exact this
end Go.Proofs.Ytlcgliadpalgfaa.Vm
