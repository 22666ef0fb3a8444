/- Plain: runs of books that are made of numbers. -/
import Derived.Test.YtlcgliadpalgfaaPk
import Derived.Test.YtlcgliadpalgfaaIb
set_option linter.unusedSimpArgs false
set_option linter.unusedVariables false
namespace Go.Proofs.Ytlcgliadpalgfaa.Vm
open Sp

theorem keptL_bd {zs : List Zone} {day : Int} {many : Nat} (hm : 2 ≤ many) : ∀ (S : List Stop) (i : Nat) (now : Int) (C : List Sp.Call), i + S.length = many → KeptL zs day many i now S C → ∀ c ∈ C, (0 ≤ c.arrive ∧ c.arrive ≤ 24000) ∧ 0 ≤ c.depart ∧ c.depart ≤ 24000
  | [], _, _, C, _, h => by
    simp only [KeptL] at h
    subst h
    intro c hc; cases hc
  | s :: r, i, now, [], _, h => by simp only [KeptL] at h
  | s :: r, i, now, c :: C, hi, h => by
    simp only [KeptL] at h
    obtain ⟨_, h1, h2, h3, h4, h5⟩ := h
    have ih := keptL_bd hm r (i + 1) c.depart C (by simp only [List.length_cons] at hi; omega) h5
    have hc : (0 ≤ c.arrive ∧ c.arrive ≤ 24000) ∧ 0 ≤ c.depart ∧ c.depart ≤ 24000 := by
      by_cases hz : i = 0
      · have a := h1 hz
        have b := (h3 (by omega)).hi
        omega
      · have a := (h2 (by omega)).hi
        by_cases hl : i + 1 < many
        · have b := (h3 hl).hi
          exact ⟨a, b⟩
        · have b := h4 hl
          omega
    intro x hx
    rcases List.mem_cons.1 hx with rfl | hx
    · exact hc
    · exact ih x hx

theorem calls_bd {b : Book} (hz : ∀ z ∈ b.zones, ZMade 2 z) {t : Train} (ht : TrainOk b.zones.length t) {day : Int} (hd : 0 ≤ day ∧ day ≤ 13) : ∀ c ∈ calls b.zones t day, (0 ≤ c.arrive ∧ c.arrive ≤ 24000) ∧ 0 ≤ c.depart ∧ c.depart ≤ 24000 :=
  keptL_bd ht.len.1 t.stops 0 0 _ (by simp) (kept_calls hz hd ht.len.1 t.stops 0 0 ht.stops (by simp) (fun _ => rfl) (by omega))

theorem indexFrom_at {α : Type} {q : α → Bool} {d : α} : ∀ {l : List α} {i : Nat} {k : Int}, i < l.length → q (l.getD i d) = true → (∀ j, j < i → q (l.getD j d) = false) → indexFrom q k l = k + i
  | [], i, k, h, _, _ => by simp at h
  | a :: l, 0, k, h, hq, _ => by
    unfold indexFrom
    rw [if_pos (by simpa using hq)]
    simp
  | a :: l, i + 1, k, h, hq, hj => by
    unfold indexFrom
    have h0 := hj 0 (by omega)
    rw [if_neg (by simpa using h0), indexFrom_at (d := d) (i := i) (by simpa using h) (by simpa using hq) (fun j hj' => by have := hj (j + 1) (by omega); simpa using this)]
    simp
    omega

theorem place_made {zones n : Int} {l : List Train} (h : LMade zones n l) {i : Nat} (hi : i < l.length) : place l (l.getD i default).number = i := by
  have hg : ∀ j, j < l.length → (l.getD j default).number = n - j := fun j hj => (h.all j _ (by rw [List.getD_eq_getElem?_getD, List.getElem?_eq_getElem hj]; rfl)).number
  unfold place
  rw [indexFrom_at (d := default) hi (by simp) (fun j hj => by
    rw [hg i hi, hg j (by omega)]
    simp
    omega)]
  simp

theorem table_made {tr days : Int} {b : Book} (h : BMade tr days b) (day : Int) : ∃ n, LMade b.zones.length n (table b day) := by
  unfold table
  split
  · exact ⟨_, h.old⟩
  · exact ⟨_, h.new⟩

theorem runsTo_pre (b : Book) {d D : Nat} (h : d ≤ D) : ∃ r, runsTo b D = runsTo b d ++ r := by
  induction D with
  | zero => exact ⟨[], by rw [show d = 0 by omega]; simp⟩
  | succ D ih =>
    by_cases e : d = D + 1
    · exact ⟨[], by rw [e]; simp⟩
    · obtain ⟨r, hr⟩ := ih (by omega)
      exact ⟨r ++ _, by rw [runsTo_succ, hr, List.append_assoc]⟩

theorem runsIn_succ (b : Book) (d i : Nat) (hi : i < (table b d).length) : runsIn b d (i + 1) = runsIn b d i ++ (if starts ((table b d).getD i default) d then [((table b d).getD i default, (d : Int))] else []) := by
  have e : (table b d).take (i + 1) = (table b d).take i ++ [(table b d).getD i default] := by
    rw [List.take_succ_eq_append_getElem hi, List.getD_eq_getElem?_getD, List.getElem?_eq_getElem hi]; rfl
  unfold runsIn
  rw [e, List.filter_append, List.map_append]
  congr 1
  by_cases h : starts ((table b d).getD i default) d = true
  · simp only [List.filter, h, if_true, List.map]
  · simp only [Bool.not_eq_true] at h
    simp only [List.filter, h, List.map, Bool.false_eq_true, if_false]

theorem runsIn_pre (b : Book) (d : Nat) {i n : Nat} (h : i ≤ n) (hn : n ≤ (table b d).length) : ∃ r, runsIn b d n = runsIn b d i ++ r := by
  induction n with
  | zero => exact ⟨[], by rw [show i = 0 by omega]; simp⟩
  | succ n ih =>
    by_cases e : i = n + 1
    · exact ⟨[], by rw [e]; simp⟩
    · obtain ⟨r, hr⟩ := ih (by omega) (by omega)
      exact ⟨r ++ _, by rw [runsIn_succ b d n (by omega), hr, List.append_assoc]⟩

/-- All runs, cut at one of them. -/
theorem runsTo_cut (b : Book) {d D i : Nat} (hd : d < D) (hi : i < (table b d).length) (hs : starts ((table b d).getD i default) d = true) :
    ∃ r, runsTo b D = (runsTo b d ++ runsIn b d i) ++ [((table b d).getD i default, (d : Int))] ++ r := by
  obtain ⟨r1, h1⟩ := runsTo_pre b (d := d + 1) (D := D) hd
  obtain ⟨r2, h2⟩ := runsIn_pre b d (i := i + 1) (n := (table b d).length) hi (Nat.le_refl _)
  refine ⟨r2 ++ r1, ?_⟩
  rw [h1, runsTo_succ, h2, runsIn_succ b d i hi, hs, if_pos rfl]
  simp only [List.append_assoc]

theorem filter_cut {α : Type} {d : α} (p : α → Bool) (A r : List α) (x : α) (hx : p x = true) : (A.filter p).length < ((A ++ [x] ++ r).filter p).length ∧ ((A ++ [x] ++ r).filter p).getD (A.filter p).length d = x := by
  have e : (A ++ [x] ++ r).filter p = A.filter p ++ x :: r.filter p := by
    rw [List.filter_append, List.filter_append]
    simp [hx]
  rw [e]
  refine ⟨by simp, ?_⟩
  rw [List.getD_eq_getElem?_getD, List.getElem?_append_right (Nat.le_refl _)]
  simp

theorem isOn_nt {nt : (α : Type) → α → List α → Int → α} (hnt : ∀ (α : Type) (d : α) (l : List α) (i : Int), nt α d l i = l.getD i.toNat d) {b : Book} {a : Int} {t : Train} {d : Int} (hl : 1 ≤ (calls b.zones t d).length) :
    isOn b a (t, d) = bif decide ((nt Sp.Call default (calls b.zones t d) 0).depart ≤ a) then decide (a < (nt Sp.Call default (calls b.zones t d) ((calls b.zones t d).length - 1)).arrive) else false := by
  unfold isOn
  rw [hnt, hnt]
  have e : ((calls b.zones t d).length - 1 : Int).toNat = (calls b.zones t d).length - 1 := by omega
  rw [e]
  rfl

/-- What Run says of a book that is made of numbers. -/
theorem run_made {tr days : Int} {b : Book} (hb : BMade tr days b) (hchk : Check b = 0) {d i : Nat} (hd : (d : Int) ≤ b.last) (hi : i < (table b d).length) :
    Run b ((table b d).getD i default).number d = if starts ((table b d).getD i default) d then (calls b.zones ((table b d).getD i default) d, 0) else ([], 11) := by
  obtain ⟨n, hn⟩ := table_made hb (d : Int)
  unfold Run
  rw [hchk, if_neg (fun h => h rfl), inB_of (by omega) hd, place_made hn hi]
  rw [if_neg (by simp), if_neg (by omega)]
  rw [Int.toNat_natCast]
  cases h : starts ((table b d).getD i default) d <;> simp
theorem run_bd {tr days : Int} {b : Book} (hb : BMade tr days b) (hchk : Check b = 0) (n d : Int) : (Run b n d).1.length ≤ 4 ∧ ∀ c ∈ (Run b n d).1, (0 ≤ c.arrive ∧ c.arrive ≤ 24000) ∧ 0 ≤ c.depart ∧ c.depart ≤ 24000 := by
  have hok := book_ok hchk
  have hlast := hok.last
  have h0 : ∀ (e : Int), ([] : List Sp.Call).length ≤ 4 ∧ ∀ c ∈ ([] : List Sp.Call), (0 ≤ c.arrive ∧ c.arrive ≤ 24000) ∧ 0 ≤ c.depart ∧ c.depart ≤ 24000 := fun _ => ⟨by simp, fun c hc => by cases hc⟩
  unfold Run
  split
  · exact h0 0
  split
  · exact h0 0
  rename_i hd
  split
  · exact h0 0
  rename_i hp
  split
  · exact h0 0
  have hd := inB_ok (by simpa using hd : inB d 0 b.last = true)
  have hpl : place (table b d) n < (table b d).length := by
    have hl := (table_ok hok d).1
    rcases Nat.eq_zero_or_pos (table b d).length with h | h
    · have e : table b d = [] := List.eq_nil_of_length_eq_zero h
      rw [e] at hp
      exact absurd (show (-1 : Int) < 0 by decide) hp
    · have := indexFrom_lt (q := fun t : Train => decide (t.number = n)) (l := table b d) (i := 0) (by omega)
      unfold place
      omega
  have ht := (table_ok hok d).2 ((table b d).getD (place (table b d) n).toNat default) (by rw [List.getD_eq_getElem?_getD, List.getElem?_eq_getElem (by omega)]; exact List.getElem_mem _)
  refine ⟨by dsimp only; rw [calls_len]; exact ht.len.2, calls_bd hb.zones ht (by omega)⟩
end Go.Proofs.Ytlcgliadpalgfaa.Vm
