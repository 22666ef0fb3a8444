/- Contracts: numbers in some order; trains and books made of numbers. -/
import Derived.Test.YtlcgliadpalgfaaGd
import Derived.Test.YtlcgliadpalgfaaKb
set_option linter.unusedSimpArgs false
set_option linter.unusedVariables false
namespace Go.Proofs.Ytlcgliadpalgfaa.Vm
open Go Go.Proofs Sp
set_option maxRecDepth 100000
set_option maxHeartbeats 1600000

theorem Both.join2 {A B : Prop} {α β : Type} {G P : α → β → Prop} (hA : (∀ a c, P a c → G a c) → A) (hB : (∀ a c, P a c → G a c) → B) (hM : ∀ a c, P a c → G a c) : Both A B := ⟨hA hM, hB hM⟩

/-- All numbers below n, in some order. -/
structure Dealt (n : Nat) (L : List Int) : Prop where
  len : L.length = n
  bd : ∀ i, i < n → 0 ≤ L.getD i 0 ∧ L.getD i 0 < n
  inj : ∀ i j, i < n → j < n → L.getD i 0 = L.getD j 0 → i = j

theorem swap_getD {L : List Int} {i k : Nat} (hi : i < L.length) (hk : k < L.length) (x : Nat) : ((L.set i (L.getD k 0)).set k (L.getD i 0)).getD x 0 = L.getD (if x = k then i else if x = i then k else x) 0 := by
  simp only [List.getD_eq_getElem?_getD, List.getElem?_set, List.length_set]
  by_cases h1 : x = k
  · subst h1
    simp [hk]
  · rw [if_neg (Ne.symm h1), if_neg h1]
    by_cases h2 : x = i
    · subst h2
      simp [hi]
    · rw [if_neg (Ne.symm h2), if_neg h2]

theorem Dealt.swap {n : Nat} {L : List Int} (h : Dealt n L) {i k : Nat} (hi : i < n) (hk : k < n) : Dealt n ((L.set i (L.getD k 0)).set k (L.getD i 0)) := by
  have hl := h.len
  refine ⟨by simpa using hl, fun x hx => ?_, fun x y hx hy e => ?_⟩
  · rw [swap_getD (by omega) (by omega)]
    exact h.bd _ (by split <;> (try split) <;> omega)
  · rw [swap_getD (by omega) (by omega), swap_getD (by omega) (by omega)] at e
    have := h.inj _ _ (by split <;> (try split) <;> omega) (by split <;> (try split) <;> omega) e
    split at this <;> split at this <;> (try split at this) <;> (try split at this) <;> omega

theorem set_key {nt : (α : Type) → α → List α → Int → α} (hnt : ∀ (α : Type) (d : α) (l : List α) (i : Int), nt α d l i = l.getD i.toNat d) {L : List Int} {i x : Nat} {v : Int} (hi : i < L.length) : (bif decide ((x : Int) = 0 + (i : Int)) then v else nt Int 0 L (x : Int)) = nt Int 0 (L.set i v) (x : Int) := by
  rw [hnt, hnt]
  simp only [Int.toNat_natCast, List.getD_eq_getElem?_getD, List.getElem?_set]
  by_cases h : i = x
  · subst h
    rw [decide_eq_true (by omega)]
    simp [hi]
  · rw [decide_eq_false (by omega), if_neg h]
    rfl

theorem swap_key {nt : (α : Type) → α → List α → Int → α} (hnt : ∀ (α : Type) (d : α) (l : List α) (i : Int), nt α d l i = l.getD i.toNat d) {L : List Int} {i k x : Nat} {p q : Int} (hi : i < L.length) (hk : k < L.length) (hp : p = i) (hq : q = k) :
    (bif decide ((x : Int) = 0 + q) then nt Int 0 L (0 + p) else bif decide ((x : Int) = 0 + p) then nt Int 0 L (0 + q) else nt Int 0 L (x : Int)) = nt Int 0 ((L.set i (L.getD k 0)).set k (L.getD i 0)) (x : Int) := by
  subst hp hq
  simp only [hnt, Int.toNat_natCast, Int.zero_add]
  rw [swap_getD hi hk]
  by_cases h1 : x = k
  · rw [decide_eq_true (by omega), if_pos h1]; rfl
  · rw [decide_eq_false (by omega), if_neg h1]
    by_cases h2 : x = i
    · rw [decide_eq_true (by omega), if_pos h2]; rfl
    · rw [decide_eq_false (by omega), if_neg h2]; rfl

theorem c105 (s : Int) (n : Nat) (hn : n ≤ 1000) : SC (fun _ => Try.prog) 105 [.ptr 0 0, .int .i64 fun _ => (n : Int)] [bagB s] fun v h => ∃ (L : List Int) (s' : Int), Dealt n L ∧ v = lst 1 encI 0 L ∧ h = [bagB s'] := by
  obtain ⟨nt, hnt⟩ := nth_ex
  obtain ⟨Z, hZ1, hZ2⟩ : ∃ Z : List Int, Z.length = n ∧ ∀ j : Nat, Z.getD j 0 = 0 := ⟨List.replicate n 0, by simp, fun j => by simp only [List.getD_eq_getElem?_getD, List.getElem?_replicate]; split <;> rfl⟩
  refine SC.less (con Try.func105 (body := bodyOf Try.f105) rfl (by decide +kernel) ?_)
  (cbv; try simp only [nc] at *)
  simp only [show ¬ ((n : Int) < 0) from by omega, if_false]
  refine Chk.mk (by (try simp only [nc, allc0, allc1, allcE, allcI, Cn.p, and_true, true_and, decide_eq_true_eq, imp_self, List.length_cons, List.length_nil]); all_goals ((repeat' (first | apply And.intro | intro _)) <;> first | omega | rfl | exact Or.inl rfl | assumption | exact nb1 (by assumption) | exact nb2 (by assumption) | exact nb3 (by assumption) | exact nb4 (by assumption) | decide | decide +kernel | (simp [*]; done))) ?_
  refine loopS false false [] [0, 1, 5, 6] [] (fun (⟨i, L⟩ : Nat × List Int) => [(6, .int .i64 fun _ => i)]) (fun ⟨i, L⟩ => [(1, .arr 1 (fun _ => (n : Int)) (fun e => encI (nt Int 0 L (e ()))))])
    (fun ⟨i, L⟩ => i ≤ n ∧ L.length = n ∧ ∀ j, j < i → L.getD j 0 = (j : Int)) (fun i => n - i.1 + 0) (0, Z) ⟨Nat.zero_le _, hZ1, fun j hj => by omega⟩ ?_ ?_
  · (refine To.of [] ?_; cbv; (try simp only [nc]); (repeat' (first | exact trivial | exact WkN.refl _ | exact WkB.refl _ | refine ⟨?_, ?_⟩ | refine WkB.cells ?_ | refine WkN.agg ?_ | refine WkN.tup ?_)); (all_goals (first | exact .int rfl | exact .int (by first | omega | (simp only [nc]; omega) | (simp; done)) | exact .bool rfl | exact .snoc hnt rfl rfl rfl | exact .snoc hnt rfl rfl (by simp only [encZone, encTrain, lst_nt hnt]; rfl) | exact lit_nt hnt _ _ _ _ rfl | exact take_nt hnt (by omega) | exact lstR_wk hnt | exact .tok rfl | exact .tok (by simp) | exact .lst hnt rfl | exact .gsl (by simp) | exact .empty rfl | exact .nilOwn (by decide) (by decide) rfl | exact .nilGar (by decide) (by decide) rfl | exact .gd (by first | assumption | decide | (simp [*]; done)) (.refl _) | skip)))
    refine .arr rfl fun x hx => ?_
    show [AV.int .i64 fun _ => _] = [AV.int .i64 fun _ => _]
    refine congrArg (fun y : Int => [AV.int .i64 fun _ => y]) ?_
    rw [hnt]
    exact (hZ2 _).symm
  rintro ⟨i, L⟩ ⟨hi, hL, hj⟩
  (cbv; (try simp only [nc] at *); (try refine Chk.mk (by (try simp only [nc, allc0, allc1, allcE, allcI, Cn.p, and_true, true_and, decide_eq_true_eq, imp_self, List.length_cons, List.length_nil]); all_goals ((repeat' (first | apply And.intro | intro _)) <;> first | omega | rfl | exact Or.inl rfl | assumption | exact nb1 (by assumption) | exact nb2 (by assumption) | exact nb3 (by assumption) | exact nb4 (by assumption) | decide | decide +kernel | (simp [*]; done))) ?_))
  refine ⟨fun hb => ?_, fun hb => ?_⟩
  · simp only [decide_eq_true_eq] at hb
    have hil : i < L.length := by omega
    (cbv; (try simp only [nc] at *); (try refine Chk.mk (by (try simp only [nc, allc0, allc1, allcE, allcI, Cn.p, and_true, true_and, decide_eq_true_eq, imp_self, List.length_cons, List.length_nil]); all_goals ((repeat' (first | apply And.intro | intro _)) <;> first | omega | rfl | exact Or.inl rfl | assumption | exact nb1 (by assumption) | exact nb2 (by assumption) | exact nb3 (by assumption) | exact nb4 (by assumption) | decide | decide +kernel | (simp [*]; done))) ?_))
    refine ⟨(i + 1, L.set i (i : Int)), ⟨by omega, by simpa using hL, fun j hj' => ?_⟩, by show n - (i + 1) + 0 < n - i + 0; omega, ?_⟩
    · simp only [List.getD_eq_getElem?_getD, List.getElem?_set]
      by_cases h : i = j
      · subst h
        rw [if_pos rfl, if_pos (by omega)]
        rfl
      · rw [if_neg h, ← List.getD_eq_getElem?_getD]; exact hj j (by omega)
    (refine To.of [] ?_; cbv; (try simp only [nc]); (repeat' (first | exact trivial | exact WkN.refl _ | exact WkB.refl _ | refine ⟨?_, ?_⟩ | refine WkB.cells ?_ | refine WkN.agg ?_ | refine WkN.tup ?_)); (all_goals (first | exact .int rfl | exact .int (by first | omega | (simp only [nc]; omega) | (simp; done)) | exact .bool rfl | exact .snoc hnt rfl rfl rfl | exact .snoc hnt rfl rfl (by simp only [encZone, encTrain, lst_nt hnt]; rfl) | exact lit_nt hnt _ _ _ _ rfl | exact take_nt hnt (by omega) | exact lstR_wk hnt | exact .tok rfl | exact .tok (by simp) | exact .lst hnt rfl | exact .gsl (by simp) | exact .empty rfl | exact .nilOwn (by decide) (by decide) rfl | exact .nilGar (by decide) (by decide) rfl | exact .gd (by first | assumption | decide | (simp [*]; done)) (.refl _) | skip)))
    refine .arr rfl fun x hx => ?_
    show [AV.int .i64 fun _ => _] = [AV.int .i64 fun _ => _]
    refine congrArg (fun y : Int => [AV.int .i64 fun _ => y]) ?_
    exact set_key hnt hil
  · simp only [decide_eq_false_iff_not] at hb
    have hD : Dealt n L := ⟨hL, fun j hj' => by rw [hj j (by omega)]; omega, fun j k h1 h2 e => by rw [hj j (by omega), hj k (by omega)] at e; omega⟩
    (cbv; (try simp only [nc] at *); (try refine Chk.mk (by (try simp only [nc, allc0, allc1, allcE, allcI, Cn.p, and_true, true_and, decide_eq_true_eq, imp_self, List.length_cons, List.length_nil]); all_goals ((repeat' (first | apply And.intro | intro _)) <;> first | omega | rfl | exact Or.inl rfl | assumption | exact nb1 (by assumption) | exact nb2 (by assumption) | exact nb3 (by assumption) | exact nb4 (by assumption) | decide | decide +kernel | (simp [*]; done))) ?_))
    clear hj hL
    refine loopS false false [] [0, 5, 7] [] (fun (⟨i, L, s⟩ : Nat × List Int × Int) => [(7, .int .i64 fun _ => (i : Int) - 1)]) (fun ⟨i, L, s⟩ => [(0, bagB s), (1, .arr 1 (fun _ => (n : Int)) (fun e => encI (nt Int 0 L (e ()))))])
      (fun ⟨i, L, s⟩ => i ≤ n ∧ Dealt n L) (fun i => i.1 + 0) (n, L, s) ⟨Nat.le_refl _, hD⟩ ?_ ?_
    · (refine To.of [] ?_; cbv; (try simp only [nc]); (repeat' (first | exact trivial | exact WkN.refl _ | exact WkB.refl _ | refine ⟨?_, ?_⟩ | refine WkB.cells ?_ | refine WkN.agg ?_ | refine WkN.tup ?_)); (all_goals (first | exact .int rfl | exact .int (by first | omega | (simp only [nc]; omega) | (simp; done)) | exact .bool rfl | exact .snoc hnt rfl rfl rfl | exact .snoc hnt rfl rfl (by simp only [encZone, encTrain, lst_nt hnt]; rfl) | exact lit_nt hnt _ _ _ _ rfl | exact take_nt hnt (by omega) | exact lstR_wk hnt | exact .tok rfl | exact .tok (by simp) | exact .lst hnt rfl | exact .gsl (by simp) | exact .empty rfl | exact .nilOwn (by decide) (by decide) rfl | exact .nilGar (by decide) (by decide) rfl | exact .gd (by first | assumption | decide | (simp [*]; done)) (.refl _) | skip)))
    rintro ⟨i, L, s⟩ ⟨hi, hD⟩
    have hL := hD.len
    (cbv; (try simp only [nc] at *); (try refine Chk.mk (by (try simp only [nc, allc0, allc1, allcE, allcI, Cn.p, and_true, true_and, decide_eq_true_eq, imp_self, List.length_cons, List.length_nil]); all_goals ((repeat' (first | apply And.intro | intro _)) <;> first | omega | rfl | exact Or.inl rfl | assumption | exact nb1 (by assumption) | exact nb2 (by assumption) | exact nb3 (by assumption) | exact nb4 (by assumption) | decide | decide +kernel | (simp [*]; done))) ?_))
    refine ⟨fun hb => ?_, fun hb => ?_⟩
    · simp only [decide_eq_true_eq] at hb
      (cbv; (try simp only [nc] at *); (try refine Chk.mk (by (try simp only [nc, allc0, allc1, allcE, allcI, Cn.p, and_true, true_and, decide_eq_true_eq, imp_self, List.length_cons, List.length_nil]); all_goals ((repeat' (first | apply And.intro | intro _)) <;> first | omega | rfl | exact Or.inl rfl | assumption | exact nb1 (by assumption) | exact nb2 (by assumption) | exact nb3 (by assumption) | exact nb4 (by assumption) | decide | decide +kernel | (simp [*]; done))) ?_))
      refine callL [0] (c17 s ((i : Int) - 1) (by omega)) (by decide) (by simp) (by first | rfl | (simp only [zoneA, bookA, lst_nt hnt]; rfl)) (by first | rfl | (simp only [zoneA, bookA, lst_nt hnt]; rfl)) fun r h₂ hp => ?_
      (try simp only [zoneA, bookA, lst_nt hnt] at hp)
      obtain ⟨x, s', hx, rfl, rfl⟩ := hp
      (cbv; (try simp only [nc] at *); (try refine Chk.mk (by (try simp only [nc, allc0, allc1, allcE, allcI, Cn.p, and_true, true_and, decide_eq_true_eq, imp_self, List.length_cons, List.length_nil]); all_goals ((repeat' (first | apply And.intro | intro _)) <;> first | omega | rfl | exact Or.inl rfl | assumption | exact nb1 (by assumption) | exact nb2 (by assumption) | exact nb3 (by assumption) | exact nb4 (by assumption) | decide | decide +kernel | (simp [*]; done))) ?_))
      obtain ⟨k, rfl⟩ : ∃ k : Nat, x = k := ⟨x.toNat, by omega⟩
      obtain ⟨j, rfl⟩ : ∃ j, i = j + 1 := ⟨i - 1, by omega⟩
      refine ⟨(j, (L.set j (L.getD k 0)).set k (L.getD j 0), s'), ⟨by omega, hD.swap (by omega) (by omega)⟩, by show j + 0 < j + 1 + 0; omega, ?_⟩
      have hjl : j < L.length := by omega
      have hkl : k < L.length := by omega
      (refine To.of [] ?_; cbv; (try simp only [nc]); (repeat' (first | exact trivial | exact WkN.refl _ | exact WkB.refl _ | refine ⟨?_, ?_⟩ | refine WkB.cells ?_ | refine WkN.agg ?_ | refine WkN.tup ?_)); (all_goals (first | exact .int rfl | exact .int (by first | omega | (simp only [nc]; omega) | (simp; done)) | exact .bool rfl | exact .snoc hnt rfl rfl rfl | exact .snoc hnt rfl rfl (by simp only [encZone, encTrain, lst_nt hnt]; rfl) | exact lit_nt hnt _ _ _ _ rfl | exact take_nt hnt (by omega) | exact lstR_wk hnt | exact .tok rfl | exact .tok (by simp) | exact .lst hnt rfl | exact .gsl (by simp) | exact .empty rfl | exact .nilOwn (by decide) (by decide) rfl | exact .nilGar (by decide) (by decide) rfl | exact .gd (by first | assumption | decide | (simp [*]; done)) (.refl _) | skip)))
      refine .arr rfl fun x hx => ?_
      show [AV.int .i64 fun _ => _] = [AV.int .i64 fun _ => _]
      refine congrArg (fun y : Int => [AV.int .i64 fun _ => y]) ?_
      exact swap_key hnt hjl hkl (by omega) rfl
    · (cbv; (try simp only [nc] at *); (try refine Chk.mk (by (try simp only [nc, allc0, allc1, allcE, allcI, Cn.p, and_true, true_and, decide_eq_true_eq, imp_self, List.length_cons, List.length_nil]); all_goals ((repeat' (first | apply And.intro | intro _)) <;> first | omega | rfl | exact Or.inl rfl | assumption | exact nb1 (by assumption) | exact nb2 (by assumption) | exact nb3 (by assumption) | exact nb4 (by assumption) | decide | decide +kernel | (simp [*]; done))) ?_))
      refine ⟨lst 1 encI 0 L, [bagB s], ?_, L, s, hD, rfl, rfl⟩
      rw [lst_nt hnt]
      (refine To.of [] ?_; cbv; (try simp only [nc]); (repeat' (first | exact trivial | exact WkN.refl _ | exact WkB.refl _ | refine ⟨?_, ?_⟩ | refine WkB.cells ?_ | refine WkN.agg ?_ | refine WkN.tup ?_)); (all_goals (first | exact .int rfl | exact .int (by first | omega | (simp only [nc]; omega) | (simp; done)) | exact .bool rfl | exact .snoc hnt rfl rfl rfl | exact .snoc hnt rfl rfl (by simp only [encZone, encTrain, lst_nt hnt]; rfl) | exact lit_nt hnt _ _ _ _ rfl | exact take_nt hnt (by omega) | exact lstR_wk hnt | exact .tok rfl | exact .tok (by simp) | exact .lst hnt rfl | exact .gsl (by simp) | exact .empty rfl | exact .nilOwn (by decide) (by decide) rfl | exact .nilGar (by decide) (by decide) rfl | exact .gd (by first | assumption | decide | (simp [*]; done)) (.refl _) | skip)))
      refine .none (by omega) fun x hx => ?_
      show encI (nt Int 0 L (0 + (x : Int))) = encI (nt Int 0 L (x : Int))
      rw [Int.zero_add]

/-- A train that is made of numbers. -/
structure TMade (zones : Int) (stations : Nat) (number : Int) (t : Train) : Prop where
  number : t.number = number
  days : 1 ≤ t.days ∧ t.days ≤ 127
  len : 2 ≤ t.stops.length ∧ t.stops.length ≤ 4 ∧ t.stops.length ≤ stations
  stop : ∀ s ∈ t.stops, (0 ≤ s.station ∧ s.station < stations) ∧ (0 ≤ s.zone ∧ s.zone < zones) ∧ 0 ≤ s.arrive ∧ s.arrive ≤ s.depart ∧ s.depart ≤ 4319
  nodup : t.stops.Pairwise fun a b => a.station ≠ b.station

theorem c59 (s zones number : Int) (st : Nat) (hz : 1 ≤ zones ∧ zones ≤ 1000) (hs : 2 ≤ st ∧ st ≤ 10) : SC (fun _ => Try.prog) 59 [.ptr 0 0, .int .i64 fun _ => zones, .int .i64 fun _ => number, .int .i64 fun _ => (st : Int)] [bagB s] fun v h => ∃ (t : Train) (s' : Int), TMade zones st number t ∧ v = .agg (encTrain t) ∧ h = [bagB s'] := by
  obtain ⟨nt, hnt⟩ := nth_ex
  refine SC.less (con Try.func59 (body := bodyOf Try.f59) rfl (by decide +kernel) ?_)
  (cbv; (try simp only [nc] at *); (try refine Chk.mk (by (try simp only [nc, allc0, allc1, allcE, allcI, Cn.p, and_true, true_and, decide_eq_true_eq, imp_self, List.length_cons, List.length_nil]); all_goals ((repeat' (first | apply And.intro | intro _)) <;> first | omega | rfl | exact Or.inl rfl | assumption | exact nb1 (by assumption) | exact nb2 (by assumption) | exact nb3 (by assumption) | exact nb4 (by assumption) | decide | decide +kernel | (simp [*]; done))) ?_))
  refine callL [0] (c22 s 1 127 (by omega) (by omega)) (by decide) (by simp) (by first | rfl | (simp only [zoneA, bookA, lst_nt hnt]; rfl)) (by first | rfl | (simp only [zoneA, bookA, lst_nt hnt]; rfl)) fun r h₂ hp => ?_
  (try simp only [zoneA, bookA, lst_nt hnt] at hp)
  obtain ⟨d0, s1, hd0, rfl, rfl⟩ := hp
  (cbv; (try simp only [nc] at *); (try refine Chk.mk (by (try simp only [nc, allc0, allc1, allcE, allcI, Cn.p, and_true, true_and, decide_eq_true_eq, imp_self, List.length_cons, List.length_nil]); all_goals ((repeat' (first | apply And.intro | intro _)) <;> first | omega | rfl | exact Or.inl rfl | assumption | exact nb1 (by assumption) | exact nb2 (by assumption) | exact nb3 (by assumption) | exact nb4 (by assumption) | decide | decide +kernel | (simp [*]; done))) ?_))
  refine callL [0] (c81L s1 [127, 127, d0] (by simp)) (by decide) (by simp) (by first | rfl | (simp only [zoneA, bookA, lst_nt hnt]; rfl)) (by first | rfl | (simp only [zoneA, bookA, lst_nt hnt]; rfl)) fun r h₂ hp => ?_
  (try simp only [zoneA, bookA, lst_nt hnt] at hp)
  obtain ⟨d, s2, hd, rfl, rfl⟩ := hp
  have hd : 1 ≤ d ∧ d ≤ 127 := by simp at hd; omega
  (cbv; (try simp only [nc] at *); (try refine Chk.mk (by (try simp only [nc, allc0, allc1, allcE, allcI, Cn.p, and_true, true_and, decide_eq_true_eq, imp_self, List.length_cons, List.length_nil]); all_goals ((repeat' (first | apply And.intro | intro _)) <;> first | omega | rfl | exact Or.inl rfl | assumption | exact nb1 (by assumption) | exact nb2 (by assumption) | exact nb3 (by assumption) | exact nb4 (by assumption) | decide | decide +kernel | (simp [*]; done))) ?_))
  refine callL [0] (c17 s2 1500 (by omega)) (by decide) (by simp) (by first | rfl | (simp only [zoneA, bookA, lst_nt hnt]; rfl)) (by first | rfl | (simp only [zoneA, bookA, lst_nt hnt]; rfl)) fun r h₂ hp => ?_
  (try simp only [zoneA, bookA, lst_nt hnt] at hp)
  obtain ⟨now, s3, hnow, rfl, rfl⟩ := hp
  (cbv; (try simp only [nc] at *); (try refine Chk.mk (by (try simp only [nc, allc0, allc1, allcE, allcI, Cn.p, and_true, true_and, decide_eq_true_eq, imp_self, List.length_cons, List.length_nil]); all_goals ((repeat' (first | apply And.intro | intro _)) <;> first | omega | rfl | exact Or.inl rfl | assumption | exact nb1 (by assumption) | exact nb2 (by assumption) | exact nb3 (by assumption) | exact nb4 (by assumption) | decide | decide +kernel | (simp [*]; done))) ?_))
  refine callL [0] (c105 s3 st (by omega)) (by decide) (by simp) (by first | rfl | (simp only [zoneA, bookA, lst_nt hnt]; rfl)) (by first | rfl | (simp only [zoneA, bookA, lst_nt hnt]; rfl)) fun r h₂ hp => ?_
  (try simp only [zoneA, bookA, lst_nt hnt] at hp)
  obtain ⟨L, s4, hL, rfl, rfl⟩ := hp
  (cbv; (try simp only [nc] at *); (try refine Chk.mk (by (try simp only [nc, allc0, allc1, allcE, allcI, Cn.p, and_true, true_and, decide_eq_true_eq, imp_self, List.length_cons, List.length_nil]); all_goals ((repeat' (first | apply And.intro | intro _)) <;> first | omega | rfl | exact Or.inl rfl | assumption | exact nb1 (by assumption) | exact nb2 (by assumption) | exact nb3 (by assumption) | exact nb4 (by assumption) | decide | decide +kernel | (simp [*]; done))) ?_))
  have hmn : 2 ≤ (if (st : Int) < 4 then (st : Int) else 4) ∧ (if (st : Int) < 4 then (st : Int) else 4) ≤ 4 ∧ (if (st : Int) < 4 then (st : Int) else 4) ≤ st := by split <;> omega
  generalize (if (st : Int) < 4 then (st : Int) else 4) = mn at *
  refine callL [0] (c22 s4 2 mn (by omega) (by omega)) (by decide) (by simp) (by first | rfl | (simp only [zoneA, bookA, lst_nt hnt]; rfl)) (by first | rfl | (simp only [zoneA, bookA, lst_nt hnt]; rfl)) fun r h₂ hp => ?_
  (try simp only [zoneA, bookA, lst_nt hnt] at hp)
  obtain ⟨m, s5, hm, rfl, rfl⟩ := hp
  (cbv; (try simp only [nc] at *); (try refine Chk.mk (by (try simp only [nc, allc0, allc1, allcE, allcI, Cn.p, and_true, true_and, decide_eq_true_eq, imp_self, List.length_cons, List.length_nil]); all_goals ((repeat' (first | apply And.intro | intro _)) <;> first | omega | rfl | exact Or.inl rfl | assumption | exact nb1 (by assumption) | exact nb2 (by assumption) | exact nb3 (by assumption) | exact nb4 (by assumption) | decide | decide +kernel | (simp [*]; done))) ?_))
  obtain ⟨m, rfl⟩ : ∃ k : Nat, m = k := ⟨m.toNat, by omega⟩
  refine loopS false false [] [0, 1, 8, 9, 10, 11, 12] [.tok 4 fun _ => 0] (fun (⟨i, now, s, out⟩ : Nat × Int × Int × List Stop) => [(10, .int .i64 fun _ => now), (12, .int .i64 fun _ => i)])
    (fun ⟨i, now, s, out⟩ => [(0, bagB s), (2, .cells [.int .i64 fun _ => number, .int .i64 fun _ => d, .isl 4 (fun _ => (out.length : Int)) (fun e => encStop (nt Stop default out (e ()))) (.own 3)]), (3, .tok 4 fun _ => (out.length : Int))])
    (fun ⟨i, now, s, out⟩ => i ≤ m ∧ out.length + i = m ∧ (0 ≤ now ∧ now ≤ 1500 + 400 * (out.length : Int)) ∧ (∀ x ∈ out, (0 ≤ x.station ∧ x.station < st) ∧ (0 ≤ x.zone ∧ x.zone < zones) ∧ 0 ≤ x.arrive ∧ x.arrive ≤ x.depart ∧ x.depart ≤ 4319) ∧ out.Pairwise (fun a b => a.station ≠ b.station) ∧ ∀ x ∈ out, ∃ j, i ≤ j ∧ j < m ∧ x.station = L.getD j 0) (fun i => i.1 + 0) (m, now, s5, []) ⟨Nat.le_refl _, by simp, by simp; omega, by simp, .nil, by simp⟩ ?_ ?_
  · (refine To.of [(4,false)] ?_; cbv; (try simp only [nc]); (repeat' (first | exact trivial | exact WkN.refl _ | exact WkB.refl _ | refine ⟨?_, ?_⟩ | refine WkB.cells ?_ | refine WkN.agg ?_ | refine WkN.tup ?_)); (all_goals (first | exact .int rfl | exact .int (by first | omega | (simp only [nc]; omega) | (simp; done)) | exact .bool rfl | exact .snoc hnt rfl rfl rfl | exact .snoc hnt rfl rfl (by simp only [encZone, encTrain, lst_nt hnt]; rfl) | exact lit_nt hnt _ _ _ _ rfl | exact take_nt hnt (by omega) | exact lstR_wk hnt | exact .tok rfl | exact .tok (by simp) | exact .lst hnt rfl | exact .gsl (by simp) | exact .empty rfl | exact .nilOwn (by decide) (by decide) rfl | exact .nilGar (by decide) (by decide) rfl | exact .gd (by first | assumption | decide | (simp [*]; done)) (.refl _) | skip)))
  rintro ⟨i, now, s, out⟩ ⟨hi, hlen, hnow, hall, hpw, hst⟩
  (cbv; (try simp only [nc] at *); (try refine Chk.mk (by (try simp only [nc, allc0, allc1, allcE, allcI, Cn.p, and_true, true_and, decide_eq_true_eq, imp_self, List.length_cons, List.length_nil]); all_goals ((repeat' (first | apply And.intro | intro _)) <;> first | omega | rfl | exact Or.inl rfl | assumption | exact nb1 (by assumption) | exact nb2 (by assumption) | exact nb3 (by assumption) | exact nb4 (by assumption) | decide | decide +kernel | (simp [*]; done))) ?_))
  refine ⟨fun hb => ?_, fun hb => ?_⟩
  · simp only [decide_eq_true_eq] at hb
    have hLi := hL.bd (i - 1) (by omega)
    have hLn : nt Int 0 L ((i : Int) - 1) = L.getD (i - 1) 0 := by rw [hnt]; congr 1; omega
    have hLl := hL.len
    (cbv; (try simp only [nc] at *); (try refine Chk.mk (by (try simp only [nc, allc0, allc1, allcE, allcI, Cn.p, and_true, true_and, decide_eq_true_eq, imp_self, List.length_cons, List.length_nil]); all_goals ((repeat' (first | apply And.intro | intro _)) <;> first | omega | rfl | exact Or.inl rfl | assumption | exact nb1 (by assumption) | exact nb2 (by assumption) | exact nb3 (by assumption) | exact nb4 (by assumption) | decide | decide +kernel | (simp [*]; done))) ?_))
    apply Both.join2 (P := fun (z s6 : Int) => 0 ≤ z ∧ (z ≤ zones - 1 ∨ z = 0))
    · intro M
      refine callL [0] (c17 s (zones - 1) (by omega)) (by decide) (by simp) (by first | rfl | (simp only [zoneA, bookA, lst_nt hnt]; rfl)) (by first | rfl | (simp only [zoneA, bookA, lst_nt hnt]; rfl)) fun r h₂ hp => ?_
      (try simp only [zoneA, bookA, lst_nt hnt] at hp)
      obtain ⟨z, s6, hz', rfl, rfl⟩ := hp
      (cbv; (try simp only [nc] at *); (try refine Chk.mk (by (try simp only [nc, allc0, allc1, allcE, allcI, Cn.p, and_true, true_and, decide_eq_true_eq, imp_self, List.length_cons, List.length_nil]); all_goals ((repeat' (first | apply And.intro | intro _)) <;> first | omega | rfl | exact Or.inl rfl | assumption | exact nb1 (by assumption) | exact nb2 (by assumption) | exact nb3 (by assumption) | exact nb4 (by assumption) | decide | decide +kernel | (simp [*]; done))) ?_))
      exact M z s6 hz'
    · intro M
      (cbv; (try simp only [nc] at *); (try refine Chk.mk (by (try simp only [nc, allc0, allc1, allcE, allcI, Cn.p, and_true, true_and, decide_eq_true_eq, imp_self, List.length_cons, List.length_nil]); all_goals ((repeat' (first | apply And.intro | intro _)) <;> first | omega | rfl | exact Or.inl rfl | assumption | exact nb1 (by assumption) | exact nb2 (by assumption) | exact nb3 (by assumption) | exact nb4 (by assumption) | decide | decide +kernel | (simp [*]; done))) ?_))
      refine callL [0] (c17 s (zones - 1) (by omega)) (by decide) (by simp) (by first | rfl | (simp only [zoneA, bookA, lst_nt hnt]; rfl)) (by first | rfl | (simp only [zoneA, bookA, lst_nt hnt]; rfl)) fun r h₂ hp => ?_
      (try simp only [zoneA, bookA, lst_nt hnt] at hp)
      obtain ⟨z, s6, hz', rfl, rfl⟩ := hp
      (cbv; (try simp only [nc] at *); (try refine Chk.mk (by (try simp only [nc, allc0, allc1, allcE, allcI, Cn.p, and_true, true_and, decide_eq_true_eq, imp_self, List.length_cons, List.length_nil]); all_goals ((repeat' (first | apply And.intro | intro _)) <;> first | omega | rfl | exact Or.inl rfl | assumption | exact nb1 (by assumption) | exact nb2 (by assumption) | exact nb3 (by assumption) | exact nb4 (by assumption) | decide | decide +kernel | (simp [*]; done))) ?_))
      exact M z s6 hz'
    intro z s6 hz'
    rw [hLn]
    have ha1 : 0 ≤ (if now < 4319 then now else 4319) ∧ (if now < 4319 then now else 4319) ≤ 4319 ∧ (if now < 4319 then now else 4319) ≤ now := by split <;> omega
    generalize ha : (if now < 4319 then now else 4319) = a at *
    refine callL [0] (c17 s6 30 (by omega)) (by decide) (by simp) (by first | rfl | (simp only [zoneA, bookA, lst_nt hnt]; rfl)) (by first | rfl | (simp only [zoneA, bookA, lst_nt hnt]; rfl)) fun r h₂ hp => ?_
    (try simp only [zoneA, bookA, lst_nt hnt] at hp)
    obtain ⟨x, s7, hx, rfl, rfl⟩ := hp
    (cbv; (try simp only [nc] at *); (try refine Chk.mk (by (try simp only [nc, allc0, allc1, allcE, allcI, Cn.p, and_true, true_and, decide_eq_true_eq, imp_self, List.length_cons, List.length_nil]); all_goals ((repeat' (first | apply And.intro | intro _)) <;> first | omega | rfl | exact Or.inl rfl | assumption | exact nb1 (by assumption) | exact nb2 (by assumption) | exact nb3 (by assumption) | exact nb4 (by assumption) | decide | decide +kernel | (simp [*]; done))) ?_))
    refine callL [0] (c81L s7 [0, x] (by simp)) (by decide) (by simp) (by first | rfl | (simp only [zoneA, bookA, lst_nt hnt]; rfl)) (by first | rfl | (simp only [zoneA, bookA, lst_nt hnt]; rfl)) fun r h₂ hp => ?_
    (try simp only [zoneA, bookA, lst_nt hnt] at hp)
    obtain ⟨y, s8, hy, rfl, rfl⟩ := hp
    have hy : 0 ≤ y ∧ y ≤ 30 := by simp at hy; omega
    (cbv; (try simp only [nc] at *); (try refine Chk.mk (by (try simp only [nc, allc0, allc1, allcE, allcI, Cn.p, and_true, true_and, decide_eq_true_eq, imp_self, List.length_cons, List.length_nil]); all_goals ((repeat' (first | apply And.intro | intro _)) <;> first | omega | rfl | exact Or.inl rfl | assumption | exact nb1 (by assumption) | exact nb2 (by assumption) | exact nb3 (by assumption) | exact nb4 (by assumption) | decide | decide +kernel | (simp [*]; done))) ?_))
    have hb1 : 0 ≤ (if now + y < 4319 then now + y else 4319) ∧ (if now + y < 4319 then now + y else 4319) ≤ 4319 ∧ a ≤ (if now + y < 4319 then now + y else 4319) := by subst ha; split <;> split <;> omega
    generalize (if now + y < 4319 then now + y else 4319) = dd at *
    refine callL [0] (c22 s8 10 300 (by omega) (by omega)) (by decide) (by simp) (by first | rfl | (simp only [zoneA, bookA, lst_nt hnt]; rfl)) (by first | rfl | (simp only [zoneA, bookA, lst_nt hnt]; rfl)) fun r h₂ hp => ?_
    (try simp only [zoneA, bookA, lst_nt hnt] at hp)
    obtain ⟨q, s9, hq, rfl, rfl⟩ := hp
    (cbv; (try simp only [nc] at *); (try refine Chk.mk (by (try simp only [nc, allc0, allc1, allcE, allcI, Cn.p, and_true, true_and, decide_eq_true_eq, imp_self, List.length_cons, List.length_nil]); all_goals ((repeat' (first | apply And.intro | intro _)) <;> first | omega | rfl | exact Or.inl rfl | assumption | exact nb1 (by assumption) | exact nb2 (by assumption) | exact nb3 (by assumption) | exact nb4 (by assumption) | decide | decide +kernel | (simp [*]; done))) ?_))
    obtain ⟨j, rfl⟩ : ∃ j, i = j + 1 := ⟨i - 1, by omega⟩
    refine ⟨(j, now + y + q, s9, out ++ [⟨L.getD j 0, z, a, dd⟩]), ⟨by omega, by simp only [List.length_append, List.length_cons, List.length_nil]; omega, by simp only [List.length_append, List.length_cons, List.length_nil]; omega, ?_, ?_, ?_⟩, by show j + 0 < j + 1 + 0; omega, ?_⟩
    · intro x hx
      rcases List.mem_append.1 hx with hx | hx
      · exact hall x hx
      · simp only [List.mem_singleton] at hx
        subst hx
        simp only [Nat.add_sub_cancel] at hLi
        dsimp only
        omega
    · refine List.pairwise_append.2 ⟨hpw, List.pairwise_singleton _ _, fun c hc e he => ?_⟩
      simp only [List.mem_singleton] at he
      subst he
      obtain ⟨k, hk1, hk2, hk3⟩ := hst c hc
      dsimp only
      rw [hk3]
      intro e
      have := hL.inj _ _ (by omega) (by omega) e
      omega
    · intro x hx
      rcases List.mem_append.1 hx with hx | hx
      · obtain ⟨k, hk1, hk2, hk3⟩ := hst x hx
        exact ⟨k, by omega, hk2, hk3⟩
      · simp only [List.mem_singleton] at hx
        subst hx
        exact ⟨j, by omega, by omega, rfl⟩
    · (refine To.of [] ?_; cbv; (try simp only [nc]); (repeat' (first | exact trivial | exact WkN.refl _ | exact WkB.refl _ | refine ⟨?_, ?_⟩ | refine WkB.cells ?_ | refine WkN.agg ?_ | refine WkN.tup ?_)); (all_goals (first | exact .int rfl | exact .int (by first | omega | (simp only [nc]; omega) | (simp; done)) | exact .bool rfl | exact .snoc hnt rfl rfl rfl | exact .snoc hnt rfl rfl (by simp only [encZone, encTrain, lst_nt hnt]; rfl) | exact lit_nt hnt _ _ _ _ rfl | exact take_nt hnt (by omega) | exact lstR_wk hnt | exact .tok rfl | exact .tok (by simp) | exact .lst hnt rfl | exact .gsl (by simp) | exact .empty rfl | exact .nilOwn (by decide) (by decide) rfl | exact .nilGar (by decide) (by decide) rfl | exact .gd (by first | assumption | decide | (simp [*]; done)) (.refl _) | skip)))
  · simp only [decide_eq_false_iff_not] at hb
    (cbv; (try simp only [nc] at *); (try refine Chk.mk (by (try simp only [nc, allc0, allc1, allcE, allcI, Cn.p, and_true, true_and, decide_eq_true_eq, imp_self, List.length_cons, List.length_nil]); all_goals ((repeat' (first | apply And.intro | intro _)) <;> first | omega | rfl | exact Or.inl rfl | assumption | exact nb1 (by assumption) | exact nb2 (by assumption) | exact nb3 (by assumption) | exact nb4 (by assumption) | decide | decide +kernel | (simp [*]; done))) ?_))
    refine ⟨.agg (encTrain ⟨number, d, out⟩), [bagB s], ?_, ⟨number, d, out⟩, s, ⟨rfl, hd, by dsimp only; omega, hall, hpw⟩, rfl, rfl⟩
    unfold encTrain
    simp only [lst_nt hnt]
    (refine To.of [] ?_; cbv; (try simp only [nc]); (repeat' (first | exact trivial | exact WkN.refl _ | exact WkB.refl _ | refine ⟨?_, ?_⟩ | refine WkB.cells ?_ | refine WkN.agg ?_ | refine WkN.tup ?_)); (all_goals (first | exact .int rfl | exact .int (by first | omega | (simp only [nc]; omega) | (simp; done)) | exact .bool rfl | exact .snoc hnt rfl rfl rfl | exact .snoc hnt rfl rfl (by simp only [encZone, encTrain, lst_nt hnt]; rfl) | exact lit_nt hnt _ _ _ _ rfl | exact take_nt hnt (by omega) | exact lstR_wk hnt | exact .tok rfl | exact .tok (by simp) | exact .lst hnt rfl | exact .gsl (by simp) | exact .empty rfl | exact .nilOwn (by decide) (by decide) rfl | exact .nilGar (by decide) (by decide) rfl | exact .gd (by first | assumption | decide | (simp [*]; done)) (.refl _) | skip)))
end Go.Proofs.Ytlcgliadpalgfaa.Vm
