/- Contracts: trips. -/
import Derived.Test.YtlcgliadpalgfaaRa
import Derived.Test.YtlcgliadpalgfaaFz
set_option linter.unusedSimpArgs false
set_option linter.unusedVariables false
namespace Go.Proofs.Ytlcgliadpalgfaa.Vm
open Go Go.Proofs Sp
set_option maxRecDepth 100000
set_option maxHeartbeats 1600000

theorem c107 (x : Sp.Ride) (a : Int) : SC (fun _ => Try.prog) 107 [.agg (encRide x), .ptr 0 0] [.cells [.int .i64 fun _ => a]] fun v h => v = .bool (fun _ => decide (x.depart < a)) ∧ h = [.cells [.int .i64 fun _ => a]] := by
  refine con Try.func107 (body := bodyOf Try.f107) rfl (by decide +kernel) ?_
  (cbv; (try simp only [nc] at *); (try refine Chk.mk (by (try simp only [nc, allc0, allc1, allcE, allcI, Cn.p, and_true, true_and, decide_eq_true_eq, imp_self, List.length_cons, List.length_nil]); all_goals ((repeat' (first | apply And.intro | intro _)) <;> first | omega | rfl | exact Or.inl rfl | assumption | exact nb1 (by assumption) | exact nb2 (by assumption) | exact nb3 (by assumption) | exact nb4 (by assumption) | decide | decide +kernel | (simp [*]; done))) ?_))
  (try first | exact ⟨rfl, trivial⟩ | exact ⟨trivial, trivial⟩)
theorem c109 (x : Sp.Ride) : SC (fun _ => Try.prog) 109 [.agg (encRide x)] [] fun v h => v = .int .i64 (fun _ => x.depart) ∧ h = [] := by
  refine con Try.func109 (body := bodyOf Try.f109) rfl (by decide +kernel) ?_
  (cbv; (try simp only [nc] at *); (try refine Chk.mk (by (try simp only [nc, allc0, allc1, allcE, allcI, Cn.p, and_true, true_and, decide_eq_true_eq, imp_self, List.length_cons, List.length_nil]); all_goals ((repeat' (first | apply And.intro | intro _)) <;> first | omega | rfl | exact Or.inl rfl | assumption | exact nb1 (by assumption) | exact nb2 (by assumption) | exact nb3 (by assumption) | exact nb4 (by assumption) | decide | decide +kernel | (simp [*]; done))) ?_))
  (try first | exact ⟨rfl, trivial⟩ | exact ⟨trivial, trivial⟩)

theorem c120 (l : List Sp.Ride) (a c : Int) (hl : l.length ≤ 1000) : SC (fun _ => Try.prog) 120 [.msl 0 3 (fun _ => 0) (fun _ => (l.length : Int)) (fun _ => c), .fn 107 [] [.ptr 1 0]] [.arr 3 (fun _ => (l.length : Int)) (lstR encRide default l), .cells [.int .i64 fun _ => a]]
    fun v h => v = .int .i64 (fun _ => indexFrom (fun x => decide (x.depart < a)) 0 l) ∧ h = [.arr 3 (fun _ => (l.length : Int)) (lstR encRide default l), .cells [.int .i64 fun _ => a]] := by
  obtain ⟨nt, hnt⟩ := nth_ex
  refine con Try.func120 (body := bodyOf Try.f120) rfl (by decide +kernel) ?_
  simp only [lstR_nt hnt]
  (cbv; (try simp only [nc] at *); (try refine Chk.mk (by (try simp only [nc, allc0, allc1, allcE, allcI, Cn.p, and_true, true_and, decide_eq_true_eq, imp_self, List.length_cons, List.length_nil]); all_goals ((repeat' (first | apply And.intro | intro _)) <;> first | omega | rfl | exact Or.inl rfl | assumption | exact nb1 (by assumption) | exact nb2 (by assumption) | exact nb3 (by assumption) | exact nb4 (by assumption) | decide | decide +kernel | (simp [*]; done))) ?_))
  refine loopS false false [] [0, 1, 7, 8] [] (fun (i : Nat) => [(8, .int .i64 fun _ => i)]) (fun _ => []) (fun i => i ≤ l.length ∧ indexFrom (fun x : Sp.Ride => decide (x.depart < a)) 0 l = indexFrom (fun x => decide (x.depart < a)) i (l.drop i)) (fun i => l.length - i + 0) 0 ⟨Nat.zero_le _, by simp⟩ ?_ ?_
  · (refine To.of [] ?_; cbv; (try simp only [nc]); (repeat' (first | exact trivial | exact WkN.refl _ | exact WkB.refl _ | refine ⟨?_, ?_⟩ | refine WkB.cells ?_ | refine WkN.agg ?_ | refine WkN.tup ?_)); (all_goals (first | exact .int rfl | exact .int (by first | omega | (simp only [nc]; omega) | (simp; done)) | exact .bool rfl | exact .snoc hnt rfl rfl rfl | exact .snoc hnt rfl rfl (by simp only [encZone, encTrain, lst_nt hnt]; rfl) | exact lit_nt hnt _ _ _ _ rfl | exact take_nt hnt (by omega) | exact lstR_wk hnt | exact .tok rfl | exact .tok (by simp) | exact .lst hnt rfl | exact .gsl (by simp) | exact .empty rfl | exact .nilOwn (by decide) (by decide) rfl | exact .nilGar (by decide) (by decide) rfl | exact .gd (by first | assumption | decide | (simp [*]; done)) (.refl _) | skip)))
  rintro i ⟨hi, hp⟩
  (cbv; (try simp only [nc] at *); (try refine Chk.mk (by (try simp only [nc, allc0, allc1, allcE, allcI, Cn.p, and_true, true_and, decide_eq_true_eq, imp_self, List.length_cons, List.length_nil]); all_goals ((repeat' (first | apply And.intro | intro _)) <;> first | omega | rfl | exact Or.inl rfl | assumption | exact nb1 (by assumption) | exact nb2 (by assumption) | exact nb3 (by assumption) | exact nb4 (by assumption) | decide | decide +kernel | (simp [*]; done))) ?_))
  refine ⟨fun hb => ?_, fun hb => ?_⟩
  · simp only [decide_eq_true_eq] at hb
    have hd := nt_drop (d := default) hnt (l := l) (i := i) (by omega)
    rw [hd, indexFrom] at hp
    have k := c107 (nt Sp.Ride default l (i : Int)) a
    (cbv; (try simp only [nc] at *); (try refine Chk.mk (by (try simp only [nc, allc0, allc1, allcE, allcI, Cn.p, and_true, true_and, decide_eq_true_eq, imp_self, List.length_cons, List.length_nil]); all_goals ((repeat' (first | apply And.intro | intro _)) <;> first | omega | rfl | exact Or.inl rfl | assumption | exact nb1 (by assumption) | exact nb2 (by assumption) | exact nb3 (by assumption) | exact nb4 (by assumption) | decide | decide +kernel | (simp [*]; done))) ?_))
    simp only [Int.zero_add]
    refine callL [1] (k) (by decide) (by simp) (by first | rfl | (simp only [zoneA, bookA, lst_nt hnt]; rfl)) (by first | rfl | (simp only [zoneA, bookA, lst_nt hnt]; rfl)) fun r h₂ hp => ?_
    (try simp only [zoneA, bookA, lst_nt hnt] at hp)
    obtain ⟨rfl, rfl⟩ := hp
    (cbv; (try simp only [nc] at *); (try refine Chk.mk (by (try simp only [nc, allc0, allc1, allcE, allcI, Cn.p, and_true, true_and, decide_eq_true_eq, imp_self, List.length_cons, List.length_nil]); all_goals ((repeat' (first | apply And.intro | intro _)) <;> first | omega | rfl | exact Or.inl rfl | assumption | exact nb1 (by assumption) | exact nb2 (by assumption) | exact nb3 (by assumption) | exact nb4 (by assumption) | decide | decide +kernel | (simp [*]; done))) ?_))
    refine ⟨fun hb => ?_, fun hb => ?_⟩
    · rw [if_pos (by simpa using hb)] at hp
      rw [hp]
      (cbv; (try simp only [nc] at *); (try refine Chk.mk (by (try simp only [nc, allc0, allc1, allcE, allcI, Cn.p, and_true, true_and, decide_eq_true_eq, imp_self, List.length_cons, List.length_nil]); all_goals ((repeat' (first | apply And.intro | intro _)) <;> first | omega | rfl | exact Or.inl rfl | assumption | exact nb1 (by assumption) | exact nb2 (by assumption) | exact nb3 (by assumption) | exact nb4 (by assumption) | decide | decide +kernel | (simp [*]; done))) ?_))
    · rw [if_neg (by simpa using hb)] at hp
      (cbv; (try simp only [nc] at *); (try refine Chk.mk (by (try simp only [nc, allc0, allc1, allcE, allcI, Cn.p, and_true, true_and, decide_eq_true_eq, imp_self, List.length_cons, List.length_nil]); all_goals ((repeat' (first | apply And.intro | intro _)) <;> first | omega | rfl | exact Or.inl rfl | assumption | exact nb1 (by assumption) | exact nb2 (by assumption) | exact nb3 (by assumption) | exact nb4 (by assumption) | decide | decide +kernel | (simp [*]; done))) ?_))
      refine ⟨i + 1, ⟨by omega, hp⟩, by show l.length - (i + 1) + 0 < l.length - i + 0; omega, ?_⟩
      (refine To.of [] ?_; cbv; (try simp only [nc]); (repeat' (first | exact trivial | exact WkN.refl _ | exact WkB.refl _ | refine ⟨?_, ?_⟩ | refine WkB.cells ?_ | refine WkN.agg ?_ | refine WkN.tup ?_)); (all_goals (first | exact .int rfl | exact .int (by first | omega | (simp only [nc]; omega) | (simp; done)) | exact .bool rfl | exact .snoc hnt rfl rfl rfl | exact .snoc hnt rfl rfl (by simp only [encZone, encTrain, lst_nt hnt]; rfl) | exact lit_nt hnt _ _ _ _ rfl | exact take_nt hnt (by omega) | exact lstR_wk hnt | exact .tok rfl | exact .tok (by simp) | exact .lst hnt rfl | exact .gsl (by simp) | exact .empty rfl | exact .nilOwn (by decide) (by decide) rfl | exact .nilGar (by decide) (by decide) rfl | exact .gd (by first | assumption | decide | (simp [*]; done)) (.refl _) | skip)))
  · simp only [decide_eq_false_iff_not] at hb
    rw [List.drop_eq_nil_of_le (by omega), indexFrom] at hp
    rw [hp]
    (cbv; (try simp only [nc] at *); (try refine Chk.mk (by (try simp only [nc, allc0, allc1, allcE, allcI, Cn.p, and_true, true_and, decide_eq_true_eq, imp_self, List.length_cons, List.length_nil]); all_goals ((repeat' (first | apply And.intro | intro _)) <;> first | omega | rfl | exact Or.inl rfl | assumption | exact nb1 (by assumption) | exact nb2 (by assumption) | exact nb3 (by assumption) | exact nb4 (by assumption) | decide | decide +kernel | (simp [*]; done))) ?_))

theorem set_nt {nt : (α : Type) → α → List α → Int → α} (hnt : ∀ (α : Type) (d : α) (l : List α) (i : Int), nt α d l i = l.getD i.toNat d) {α : Type} {d : α} {L : List α} {i x : Nat} {v : α} (hi : i < L.length) : nt α d (L.set i v) (x : Int) = if (x : Int) = i then v else nt α d L (x : Int) := by
  rw [hnt, hnt]
  simp only [Int.toNat_natCast, List.getD_eq_getElem?_getD, List.getElem?_set]
  by_cases h : i = x
  · subst h
    simp [hi]
  · rw [if_neg h, if_neg (by omega)]

theorem set_take {α : Type} {E : List α} {i : Nat} {x : α} (hi : i < E.length) : (E.set i x).take (i + 1) = E.take i ++ [x] := by
  rw [List.take_succ_eq_append_getElem (by simpa using hi)]
  simp [List.take_set_of_le]

/-- What is left of rides when those ahead of an instant go. -/
def since (a : Int) (l : List Sp.Ride) : List Sp.Ride := l.filter fun x => !decide (x.depart < a)

theorem indexFrom_none {α : Type} {q : α → Bool} : ∀ {l : List α} {k : Int}, 0 ≤ k → indexFrom q k l = -1 → ∀ x ∈ l, q x = false
  | [], _, _, _, x, hx => by cases hx
  | a :: l, k, hk, h, x, hx => by
    unfold indexFrom at h
    split at h
    · omega
    · rename_i hq
      rcases List.mem_cons.1 hx with rfl | hx
      · simpa using hq
      · exact indexFrom_none (by omega) h x hx
theorem indexFrom_some {α : Type} {q : α → Bool} : ∀ {l : List α} {k i : Nat}, indexFrom q k l = i → k ≤ i ∧ i - k < l.length ∧ (∀ x ∈ l.take (i - k), q x = false) ∧ ∀ x, l[i - k]? = some x → q x = true
  | [], k, i, h => by unfold indexFrom at h; omega
  | a :: l, k, i, h => by
    unfold indexFrom at h
    split at h
    · rename_i hq
      have : i = k := by omega
      subst this
      simp only [Nat.sub_self]
      exact ⟨Nat.le_refl _, by simp, (fun x hx => by simp at hx), fun x hx => by simp at hx; subst hx; exact hq⟩
    · rename_i hq
      obtain ⟨h1, h2, h3, h4⟩ := indexFrom_some (l := l) (k := k + 1) (i := i) (by simpa using h)
      have e : i - k = (i - (k + 1)) + 1 := by omega
      rw [e]
      refine ⟨by omega, by simp; omega, fun x hx => ?_, fun x hx => h4 x (by simpa using hx)⟩
      simp only [List.take_succ_cons, List.mem_cons] at hx
      rcases hx with rfl | hx
      · simpa using hq
      · exact h3 x hx

theorem c106m (l : List Sp.Ride) (a c : Int) (hc : (l.length : Int) ≤ c) (hl : l.length ≤ 1000) : SC (fun _ => Try.prog) 106 [.msl 0 3 (fun _ => 0) (fun _ => (l.length : Int)) (fun _ => c), .fn 107 [] [.ptr 1 0]] [.arr 3 (fun _ => (l.length : Int)) (lstR encRide default l), .cells [.int .i64 fun _ => a]]
    fun v h => ∃ E : List Sp.Ride, E.length = l.length ∧ E.take (since a l).length = since a l ∧ v = .msl 0 3 (fun _ => 0) (fun _ => ((since a l).length : Int)) (fun _ => c) ∧ h = [.arr 3 (fun _ => (l.length : Int)) (lstR encRide default E), .cells [.int .i64 fun _ => a]] := by
  obtain ⟨nt, hnt⟩ := nth_ex
  have k120 := c120 l a c hl
  refine SC.less (con Try.func106 (body := bodyOf Try.f106) rfl (by decide +kernel) ?_)
  simp only [lstR_nt hnt] at *
  (cbv; (try simp only [nc] at *); (try refine Chk.mk (by (try simp only [nc, allc0, allc1, allcE, allcI, Cn.p, and_true, true_and, decide_eq_true_eq, imp_self, List.length_cons, List.length_nil]); all_goals ((repeat' (first | apply And.intro | intro _)) <;> first | omega | rfl | exact Or.inl rfl | assumption | exact nb1 (by assumption) | exact nb2 (by assumption) | exact nb3 (by assumption) | exact nb4 (by assumption) | decide | decide +kernel | (simp [*]; done))) ?_))
  refine callL [0, 1] (k120) (by decide) (by simp) (by first | rfl | (simp only [zoneA, bookA, lst_nt hnt]; rfl)) (by first | rfl | (simp only [zoneA, bookA, lst_nt hnt]; rfl)) fun r h₂ hp => ?_
  (try simp only [zoneA, bookA, lst_nt hnt] at hp)
  obtain ⟨rfl, rfl⟩ := hp
  generalize hI : indexFrom (fun x : Sp.Ride => decide (x.depart < a)) 0 l = I at *
  have hI2 : I = -1 ∨ (0 ≤ I ∧ I < l.length) := by
    rw [← hI]
    rcases Nat.eq_zero_or_pos l.length with h | h
    · rw [List.eq_nil_of_length_eq_zero h]; exact .inl rfl
    · have := indexFrom_lt (q := fun x : Sp.Ride => decide (x.depart < a)) (l := l) (i := 0) (by omega)
      omega
  (cbv; (try simp only [nc] at *); (try refine Chk.mk (by (try simp only [nc, allc0, allc1, allcE, allcI, Cn.p, and_true, true_and, decide_eq_true_eq, imp_self, List.length_cons, List.length_nil]); all_goals ((repeat' (first | apply And.intro | intro _)) <;> first | omega | rfl | exact Or.inl rfl | assumption | exact nb1 (by assumption) | exact nb2 (by assumption) | exact nb3 (by assumption) | exact nb4 (by assumption) | decide | decide +kernel | (simp [*]; done))) ?_))
  refine ⟨fun hb => ?_, fun hb => ?_⟩
  · simp only [beq_iff_eq] at hb
    have hall := indexFrom_none (by omega) (hI.trans hb)
    have hs : since a l = l := List.filter_eq_self.2 fun x hx => by rw [hall x hx]; rfl
    rw [hs]
    (cbv; (try simp only [nc] at *); (try refine Chk.mk (by (try simp only [nc, allc0, allc1, allcE, allcI, Cn.p, and_true, true_and, decide_eq_true_eq, imp_self, List.length_cons, List.length_nil]); all_goals ((repeat' (first | apply And.intro | intro _)) <;> first | omega | rfl | exact Or.inl rfl | assumption | exact nb1 (by assumption) | exact nb2 (by assumption) | exact nb3 (by assumption) | exact nb4 (by assumption) | decide | decide +kernel | (simp [*]; done))) ?_))
    refine ⟨_, _, ?_, l, rfl, List.take_length .., rfl, rfl⟩
    (refine To.of [] ?_; cbv; (try simp only [nc]); (repeat' (first | exact trivial | exact WkN.refl _ | exact WkB.refl _ | refine ⟨?_, ?_⟩ | refine WkB.cells ?_ | refine WkN.agg ?_ | refine WkN.tup ?_)); (all_goals (first | exact .int rfl | exact .int (by first | omega | (simp only [nc]; omega) | (simp; done)) | exact .bool rfl | exact .snoc hnt rfl rfl rfl | exact .snoc hnt rfl rfl (by simp only [encZone, encTrain, lst_nt hnt]; rfl) | exact lit_nt hnt _ _ _ _ rfl | exact take_nt hnt (by omega) | exact lstR_wk hnt | exact .tok rfl | exact .tok (by simp) | exact .lst hnt rfl | exact .gsl (by simp) | exact .empty rfl | exact .nilOwn (by decide) (by decide) rfl | exact .nilGar (by decide) (by decide) rfl | exact .gd (by first | assumption | decide | (simp [*]; done)) (.refl _) | skip)))
  · have hb' : I ≠ -1 := by simpa using hb
    (cbv; (try simp only [nc] at *); (try refine Chk.mk (by (try simp only [nc, allc0, allc1, allcE, allcI, Cn.p, and_true, true_and, decide_eq_true_eq, imp_self, List.length_cons, List.length_nil]); all_goals ((repeat' (first | apply And.intro | intro _)) <;> first | omega | rfl | exact Or.inl rfl | assumption | exact nb1 (by assumption) | exact nb2 (by assumption) | exact nb3 (by assumption) | exact nb4 (by assumption) | decide | decide +kernel | (simp [*]; done))) ?_))
    obtain ⟨i0, rfl⟩ : ∃ k : Nat, I = k := ⟨I.toNat, by omega⟩
    obtain ⟨_, g1, g2, g3⟩ := indexFrom_some (k := 0) hI
    refine loopS false false [] [0, 1, 5, 6] [] (fun (⟨i, j, E⟩ : Nat × Nat × List Sp.Ride) => [(5, .int .i64 fun _ => i), (6, .int .i64 fun _ => j)]) (fun ⟨i, j, E⟩ => [(0, .arr 3 (fun _ => (l.length : Int)) (fun e => encRide (nt Sp.Ride default E (e ()))))])
      (fun ⟨i, j, E⟩ => i < j ∧ j ≤ l.length ∧ E.length = l.length ∧ E.take i = since a (l.take j) ∧ E.drop j = l.drop j ∧ i = (since a (l.take j)).length) (fun i => l.length - i.2.1 + 0) (i0, i0 + 1, l) ?_ ?_ ?_
    · have hx : l[i0]? = some (nt Sp.Ride default l (i0 : Int)) := by
        rw [hnt, Int.toNat_natCast, List.getD_eq_getElem?_getD, List.getElem?_eq_getElem (by omega)]; rfl
      have hs : since a (l.take (i0 + 1)) = l.take i0 := by
        rw [nt_take (d := default) hnt (by omega : i0 < l.length)]
        unfold since
        rw [List.filter_append, List.filter_eq_self.2 fun x hx => by rw [g2 x hx]; rfl]
        have := g3 _ hx
        simp only [List.filter, this, Bool.not_true, List.append_nil]
      refine ⟨by omega, by omega, rfl, hs.symm, rfl, ?_⟩
      rw [hs, List.length_take]
      omega
    · (refine To.of [] ?_; cbv; (try simp only [nc]); (repeat' (first | exact trivial | exact WkN.refl _ | exact WkB.refl _ | refine ⟨?_, ?_⟩ | refine WkB.cells ?_ | refine WkN.agg ?_ | refine WkN.tup ?_)); (all_goals (first | exact .int rfl | exact .int (by first | omega | (simp only [nc]; omega) | (simp; done)) | exact .bool rfl | exact .snoc hnt rfl rfl rfl | exact .snoc hnt rfl rfl (by simp only [encZone, encTrain, lst_nt hnt]; rfl) | exact lit_nt hnt _ _ _ _ rfl | exact take_nt hnt (by omega) | exact lstR_wk hnt | exact .tok rfl | exact .tok (by simp) | exact .lst hnt rfl | exact .gsl (by simp) | exact .empty rfl | exact .nilOwn (by decide) (by decide) rfl | exact .nilGar (by decide) (by decide) rfl | exact .gd (by first | assumption | decide | (simp [*]; done)) (.refl _) | skip)))
    rintro ⟨i, j, E⟩ ⟨h1, h2, h3, h4, h5, h6⟩
    (cbv; (try simp only [nc] at *); (try refine Chk.mk (by (try simp only [nc, allc0, allc1, allcE, allcI, Cn.p, and_true, true_and, decide_eq_true_eq, imp_self, List.length_cons, List.length_nil]); all_goals ((repeat' (first | apply And.intro | intro _)) <;> first | omega | rfl | exact Or.inl rfl | assumption | exact nb1 (by assumption) | exact nb2 (by assumption) | exact nb3 (by assumption) | exact nb4 (by assumption) | decide | decide +kernel | (simp [*]; done))) ?_))
    refine ⟨fun hb => ?_, fun hb => ?_⟩
    · simp only [decide_eq_true_eq] at hb
      have hej : nt Sp.Ride default E (j : Int) = nt Sp.Ride default l (j : Int) := by
        have e : (E.drop j).getD 0 default = (l.drop j).getD 0 default := by rw [h5]
        rw [hnt, hnt, Int.toNat_natCast]
        simpa [List.getD_eq_getElem?_getD, List.getElem?_drop] using e
      have hd5 : E.drop (j + 1) = l.drop (j + 1) := by rw [← List.drop_drop, ← List.drop_drop, h5]
      have hsn : since a (l.take (j + 1)) = since a (l.take j) ++ (if decide ((nt Sp.Ride default l (j : Int)).depart < a) = false then [nt Sp.Ride default l (j : Int)] else []) := by
        rw [nt_take (d := default) hnt (by omega : j < l.length)]
        unfold since
        rw [List.filter_append]
        congr 1
        cases h : decide ((nt Sp.Ride default l (j : Int)).depart < a)
        · simp only [List.filter, h, Bool.not_false, if_true]
        · simp only [List.filter, h, Bool.not_true, Bool.true_eq_false, if_false]
      have k := c107 (nt Sp.Ride default l (j : Int)) a
      (cbv; (try simp only [nc] at *); (try refine Chk.mk (by (try simp only [nc, allc0, allc1, allcE, allcI, Cn.p, and_true, true_and, decide_eq_true_eq, imp_self, List.length_cons, List.length_nil]); all_goals ((repeat' (first | apply And.intro | intro _)) <;> first | omega | rfl | exact Or.inl rfl | assumption | exact nb1 (by assumption) | exact nb2 (by assumption) | exact nb3 (by assumption) | exact nb4 (by assumption) | decide | decide +kernel | (simp [*]; done))) ?_))
      simp only [Int.zero_add, hej]
      refine callL [1] (k) (by decide) (by simp) (by first | rfl | (simp only [zoneA, bookA, lst_nt hnt]; rfl)) (by first | rfl | (simp only [zoneA, bookA, lst_nt hnt]; rfl)) fun r h₂ hp => ?_
      (try simp only [zoneA, bookA, lst_nt hnt] at hp)
      obtain ⟨rfl, rfl⟩ := hp
      generalize hx : nt Sp.Ride default l (j : Int) = x at *
      (cbv; (try simp only [nc] at *); (try refine Chk.mk (by (try simp only [nc, allc0, allc1, allcE, allcI, Cn.p, and_true, true_and, decide_eq_true_eq, imp_self, List.length_cons, List.length_nil]); all_goals ((repeat' (first | apply And.intro | intro _)) <;> first | omega | rfl | exact Or.inl rfl | assumption | exact nb1 (by assumption) | exact nb2 (by assumption) | exact nb3 (by assumption) | exact nb4 (by assumption) | decide | decide +kernel | (simp [*]; done))) ?_))
      refine ⟨fun hq => ?_, fun hq => ?_⟩
      · have hq' : decide (x.depart < a) = false := by simpa using hq
        rw [hq', if_pos rfl] at hsn
        (cbv; (try simp only [nc] at *); (try refine Chk.mk (by (try simp only [nc, allc0, allc1, allcE, allcI, Cn.p, and_true, true_and, decide_eq_true_eq, imp_self, List.length_cons, List.length_nil]); all_goals ((repeat' (first | apply And.intro | intro _)) <;> first | omega | rfl | exact Or.inl rfl | assumption | exact nb1 (by assumption) | exact nb2 (by assumption) | exact nb3 (by assumption) | exact nb4 (by assumption) | decide | decide +kernel | (simp [*]; done))) ?_))
        refine ⟨(i + 1, j + 1, E.set i x), ⟨by show i + 1 < j + 1; omega, by show j + 1 ≤ l.length; omega, by simpa using h3, ?_, ?_, ?_⟩, by show l.length - (j + 1) + 0 < l.length - j + 0; omega, ?_⟩
        · show (E.set i x).take (i + 1) = since a (l.take (j + 1))
          rw [hsn, ← h4]
          exact set_take (by omega)
        · show (E.set i x).drop (j + 1) = l.drop (j + 1)
          rw [← hd5]
          exact List.drop_set_of_lt (by omega)
        · show i + 1 = (since a (l.take (j + 1))).length
          rw [hsn, List.length_append, ← h6]
          rfl
        · (refine To.of [] ?_; cbv; (try simp only [nc]); (repeat' (first | exact trivial | exact WkN.refl _ | exact WkB.refl _ | refine ⟨?_, ?_⟩ | refine WkB.cells ?_ | refine WkN.agg ?_ | refine WkN.tup ?_)); (all_goals (first | exact .int rfl | exact .int (by first | omega | (simp only [nc]; omega) | (simp; done)) | exact .bool rfl | exact .snoc hnt rfl rfl rfl | exact .snoc hnt rfl rfl (by simp only [encZone, encTrain, lst_nt hnt]; rfl) | exact lit_nt hnt _ _ _ _ rfl | exact take_nt hnt (by omega) | exact lstR_wk hnt | exact .tok rfl | exact .tok (by simp) | exact .lst hnt rfl | exact .gsl (by simp) | exact .empty rfl | exact .nilOwn (by decide) (by decide) rfl | exact .nilGar (by decide) (by decide) rfl | exact .gd (by first | assumption | decide | (simp [*]; done)) (.refl _) | skip)))
          refine .arr rfl fun y hy => ?_
          cbv
          simp only [nc, Int.zero_add]
          have e := set_nt hnt (d := default) (x := y) (v := x) (by omega : i < E.length)
          by_cases hyi : (y : Int) = i
          · rw [if_pos hyi] at e
            rw [e, hyi, decide_eq_true rfl]
            rfl
          · rw [if_neg hyi] at e
            rw [e, decide_eq_false hyi]
            rfl
      · have hq' : decide (x.depart < a) = true := by simpa using hq
        rw [hq', if_neg (by simp), List.append_nil] at hsn
        (cbv; (try simp only [nc] at *); (try refine Chk.mk (by (try simp only [nc, allc0, allc1, allcE, allcI, Cn.p, and_true, true_and, decide_eq_true_eq, imp_self, List.length_cons, List.length_nil]); all_goals ((repeat' (first | apply And.intro | intro _)) <;> first | omega | rfl | exact Or.inl rfl | assumption | exact nb1 (by assumption) | exact nb2 (by assumption) | exact nb3 (by assumption) | exact nb4 (by assumption) | decide | decide +kernel | (simp [*]; done))) ?_))
        refine ⟨(i, j + 1, E), ⟨by show i < j + 1; omega, by show j + 1 ≤ l.length; omega, h3, by rw [hsn]; exact h4, hd5, by rw [hsn]; exact h6⟩, by show l.length - (j + 1) + 0 < l.length - j + 0; omega, ?_⟩
        (refine To.of [] ?_; cbv; (try simp only [nc]); (repeat' (first | exact trivial | exact WkN.refl _ | exact WkB.refl _ | refine ⟨?_, ?_⟩ | refine WkB.cells ?_ | refine WkN.agg ?_ | refine WkN.tup ?_)); (all_goals (first | exact .int rfl | exact .int (by first | omega | (simp only [nc]; omega) | (simp; done)) | exact .bool rfl | exact .snoc hnt rfl rfl rfl | exact .snoc hnt rfl rfl (by simp only [encZone, encTrain, lst_nt hnt]; rfl) | exact lit_nt hnt _ _ _ _ rfl | exact take_nt hnt (by omega) | exact lstR_wk hnt | exact .tok rfl | exact .tok (by simp) | exact .lst hnt rfl | exact .gsl (by simp) | exact .empty rfl | exact .nilOwn (by decide) (by decide) rfl | exact .nilGar (by decide) (by decide) rfl | exact .gd (by first | assumption | decide | (simp [*]; done)) (.refl _) | skip)))
    · have hj : j = l.length := by simp only [decide_eq_false_iff_not] at hb; omega
      subst hj
      rw [List.take_length] at h4 h6
      rw [← h6]
      (cbv; (try simp only [nc] at *); (try refine Chk.mk (by (try simp only [nc, allc0, allc1, allcE, allcI, Cn.p, and_true, true_and, decide_eq_true_eq, imp_self, List.length_cons, List.length_nil]); all_goals ((repeat' (first | apply And.intro | intro _)) <;> first | omega | rfl | exact Or.inl rfl | assumption | exact nb1 (by assumption) | exact nb2 (by assumption) | exact nb3 (by assumption) | exact nb4 (by assumption) | decide | decide +kernel | (simp [*]; done))) ?_))
      refine ⟨.msl 0 3 (fun _ => 0) (fun _ => (i : Int)) (fun _ => c), [.arr 3 (fun _ => (l.length : Int)) fun e => encRide (nt Sp.Ride default ((List.range l.length).map fun k => bif decide (i ≤ k) then (⟨0, 0, 0⟩ : Sp.Ride) else nt Sp.Ride default E (k : Int)) (e ())), .cells [.int .i64 fun _ => a]], ?_, (List.range l.length).map fun k => bif decide (i ≤ k) then (⟨0, 0, 0⟩ : Sp.Ride) else nt Sp.Ride default E (k : Int), ?_, ?_, rfl, rfl⟩
      · (refine To.of [] ?_; cbv; (try simp only [nc]); (repeat' (first | exact trivial | exact WkN.refl _ | exact WkB.refl _ | refine ⟨?_, ?_⟩ | refine WkB.cells ?_ | refine WkN.agg ?_ | refine WkN.tup ?_)); (all_goals (first | exact .int rfl | exact .int (by first | omega | (simp only [nc]; omega) | (simp; done)) | exact .bool rfl | exact .snoc hnt rfl rfl rfl | exact .snoc hnt rfl rfl (by simp only [encZone, encTrain, lst_nt hnt]; rfl) | exact lit_nt hnt _ _ _ _ rfl | exact take_nt hnt (by omega) | exact lstR_wk hnt | exact .tok rfl | exact .tok (by simp) | exact .lst hnt rfl | exact .gsl (by simp) | exact .empty rfl | exact .nilOwn (by decide) (by decide) rfl | exact .nilGar (by decide) (by decide) rfl | exact .gd (by first | assumption | decide | (simp [*]; done)) (.refl _) | skip)))
        refine .arr rfl fun y hy => ?_
        have hy' : y < l.length := by have : (y : Int) < (l.length : Int) := hy; omega
        have e : nt Sp.Ride default ((List.range l.length).map fun k => bif decide (i ≤ k) then (⟨0, 0, 0⟩ : Sp.Ride) else nt Sp.Ride default E (k : Int)) (y : Int) = bif decide (i ≤ y) then (⟨0, 0, 0⟩ : Sp.Ride) else nt Sp.Ride default E (y : Int) := by
          rw [hnt, Int.toNat_natCast, List.getD_eq_getElem?_getD]
          simp [hy']
        cbv
        simp only [nc, Int.zero_add]
        rw [e]
        by_cases hyi : i ≤ y
        · rw [decide_eq_true hyi, decide_eq_true (by omega)]
          rfl
        · rw [decide_eq_false hyi, decide_eq_false (by omega)]
          rfl
      · simp
      · rw [← h4]
        refine List.ext_getElem (by simp; omega) fun k hk1 hk2 => ?_
        simp only [List.getElem_take, List.getElem_map, List.getElem_range]
        simp at hk1
        rw [decide_eq_false (by omega), hnt, Int.toNat_natCast, List.getD_eq_getElem?_getD, List.getElem?_eq_getElem (by omega)]
        rfl

theorem c120e (a : Int) (F : (Unit → Int) → List AV) : SC (fun _ => Try.prog) 120 [.isl 3 (fun _ => 0) F .none, .fn 107 [] [.ptr 0 0]] [.cells [.int .i64 fun _ => a]] fun v h => v = .int .i64 (fun _ => -1) ∧ h = [.cells [.int .i64 fun _ => a]] := by
  refine con Try.func120 (body := bodyOf Try.f120) rfl (by decide +kernel) ?_
  (cbv; (try simp only [nc] at *); (try refine Chk.mk (by (try simp only [nc, allc0, allc1, allcE, allcI, Cn.p, and_true, true_and, decide_eq_true_eq, imp_self, List.length_cons, List.length_nil]); all_goals ((repeat' (first | apply And.intro | intro _)) <;> first | omega | rfl | exact Or.inl rfl | assumption | exact nb1 (by assumption) | exact nb2 (by assumption) | exact nb3 (by assumption) | exact nb4 (by assumption) | decide | decide +kernel | (simp [*]; done))) ?_))
  refine loopS false false [] [0, 1, 7, 8] [] (fun (_ : Unit) => [(8, .int .i64 fun _ => 0)]) (fun _ => []) (fun _ => True) (fun _ => 0) () trivial ?_ ?_
  · (refine To.of [] ?_; cbv; (try simp only [nc]); (repeat' (first | exact trivial | exact WkN.refl _ | exact WkB.refl _ | refine ⟨?_, ?_⟩ | refine WkB.cells ?_ | refine WkN.agg ?_ | refine WkN.tup ?_)); (all_goals (first | exact .int rfl | exact .int (by first | omega | (simp only [nc]; omega) | (simp; done)) | exact .bool rfl | exact .snoc hnt rfl rfl rfl | exact .snoc hnt rfl rfl (by simp only [encZone, encTrain, lst_nt hnt]; rfl) | exact lit_nt hnt _ _ _ _ rfl | exact take_nt hnt (by omega) | exact lstR_wk hnt | exact .tok rfl | exact .tok (by simp) | exact .lst hnt rfl | exact .gsl (by simp) | exact .empty rfl | exact .nilOwn (by decide) (by decide) rfl | exact .nilGar (by decide) (by decide) rfl | exact .gd (by first | assumption | decide | (simp [*]; done)) (.refl _) | skip)))
  intro _ _
  (cbv; (try simp only [nc] at *); (try refine Chk.mk (by (try simp only [nc, allc0, allc1, allcE, allcI, Cn.p, and_true, true_and, decide_eq_true_eq, imp_self, List.length_cons, List.length_nil]); all_goals ((repeat' (first | apply And.intro | intro _)) <;> first | omega | rfl | exact Or.inl rfl | assumption | exact nb1 (by assumption) | exact nb2 (by assumption) | exact nb3 (by assumption) | exact nb4 (by assumption) | decide | decide +kernel | (simp [*]; done))) ?_))
  refine Br.isF rfl ?_
  (cbv; (try simp only [nc] at *); (try refine Chk.mk (by (try simp only [nc, allc0, allc1, allcE, allcI, Cn.p, and_true, true_and, decide_eq_true_eq, imp_self, List.length_cons, List.length_nil]); all_goals ((repeat' (first | apply And.intro | intro _)) <;> first | omega | rfl | exact Or.inl rfl | assumption | exact nb1 (by assumption) | exact nb2 (by assumption) | exact nb3 (by assumption) | exact nb4 (by assumption) | decide | decide +kernel | (simp [*]; done))) ?_))
  (try first | exact ⟨rfl, trivial⟩ | exact ⟨trivial, trivial⟩)
theorem c106e (a : Int) (F : (Unit → Int) → List AV) : SC (fun _ => Try.prog) 106 [.isl 3 (fun _ => 0) F .none, .fn 107 [] [.ptr 0 0]] [.cells [.int .i64 fun _ => a]] fun v h => v = .isl 3 (fun _ => 0) F .none ∧ h = [.cells [.int .i64 fun _ => a]] := by
  have k := c120e a F
  refine con Try.func106 (body := bodyOf Try.f106) rfl (by decide +kernel) ?_
  (cbv; (try simp only [nc] at *); (try refine Chk.mk (by (try simp only [nc, allc0, allc1, allcE, allcI, Cn.p, and_true, true_and, decide_eq_true_eq, imp_self, List.length_cons, List.length_nil]); all_goals ((repeat' (first | apply And.intro | intro _)) <;> first | omega | rfl | exact Or.inl rfl | assumption | exact nb1 (by assumption) | exact nb2 (by assumption) | exact nb3 (by assumption) | exact nb4 (by assumption) | decide | decide +kernel | (simp [*]; done))) ?_))
  refine callL [0] (k) (by decide) (by simp) (by first | rfl | (simp only [zoneA, bookA, lst_nt hnt]; rfl)) (by first | rfl | (simp only [zoneA, bookA, lst_nt hnt]; rfl)) fun r h₂ hp => ?_
  (try simp only [zoneA, bookA, lst_nt hnt] at hp)
  obtain ⟨rfl, rfl⟩ := hp
  (cbv; (try simp only [nc] at *); (try refine Chk.mk (by (try simp only [nc, allc0, allc1, allcE, allcI, Cn.p, and_true, true_and, decide_eq_true_eq, imp_self, List.length_cons, List.length_nil]); all_goals ((repeat' (first | apply And.intro | intro _)) <;> first | omega | rfl | exact Or.inl rfl | assumption | exact nb1 (by assumption) | exact nb2 (by assumption) | exact nb3 (by assumption) | exact nb4 (by assumption) | decide | decide +kernel | (simp [*]; done))) ?_))
  refine Br.isT rfl ?_
  (cbv; (try simp only [nc] at *); (try refine Chk.mk (by (try simp only [nc, allc0, allc1, allcE, allcI, Cn.p, and_true, true_and, decide_eq_true_eq, imp_self, List.length_cons, List.length_nil]); all_goals ((repeat' (first | apply And.intro | intro _)) <;> first | omega | rfl | exact Or.inl rfl | assumption | exact nb1 (by assumption) | exact nb2 (by assumption) | exact nb3 (by assumption) | exact nb4 (by assumption) | decide | decide +kernel | (simp [*]; done))) ?_))
  (try first | exact ⟨rfl, trivial⟩ | exact ⟨trivial, trivial⟩)

theorem c106 (l : List Sp.Ride) (a : Int) (hl : l.length ≤ 1000) : SC (fun _ => Try.prog) 106 [.gsl 0 (fun _ => (l.length : Int)), .fn 107 [] [.ptr 1 0]] [.gar 3 (fun _ => (l.length : Int)) (lstR encRide default l), .cells [.int .i64 fun _ => a]]
    fun v h => v = lst 3 encRide default (since a l) ∧ ∃ n F, h = [.fro 3 n F, .cells [.int .i64 fun _ => a]] := by
  obtain ⟨nt, hnt⟩ := nth_ex
  rcases Nat.eq_zero_or_pos l.length with h0 | h0
  · have e : l = [] := List.eq_nil_of_length_eq_zero h0
    subst e
    refine SC.to (To.froze (id := 0) rfl) ?_
    refine SC.to (xs₂ := [.isl 3 (fun _ => 0) (lstR encRide default []) .none, .fn 107 [] [.ptr 1 0]]) (h₂ := [.fro 3 (fun _ => 0) (lstR encRide default []), .cells [.int .i64 fun _ => a]]) ?_ ?_
    · (refine To.of [] ?_; cbv; (try simp only [nc]); (repeat' (first | exact trivial | exact WkN.refl _ | exact WkB.refl _ | refine ⟨?_, ?_⟩ | refine WkB.cells ?_ | refine WkN.agg ?_ | refine WkN.tup ?_)); (all_goals (first | exact .int rfl | exact .int (by first | omega | (simp only [nc]; omega) | (simp; done)) | exact .bool rfl | exact .snoc hnt rfl rfl rfl | exact .snoc hnt rfl rfl (by simp only [encZone, encTrain, lst_nt hnt]; rfl) | exact lit_nt hnt _ _ _ _ rfl | exact take_nt hnt (by omega) | exact lstR_wk hnt | exact .tok rfl | exact .tok (by simp) | exact .lst hnt rfl | exact .gsl (by simp) | exact .empty rfl | exact .nilOwn (by decide) (by decide) rfl | exact .nilGar (by decide) (by decide) rfl | exact .gd (by first | assumption | decide | (simp [*]; done)) (.refl _) | skip)))
    · have k := c106e a (lstR encRide default [])
      refine callL [1] (k) (by decide) (by simp) (by first | rfl | (simp only [zoneA, bookA, lst_nt hnt]; rfl)) (by first | rfl | (simp only [zoneA, bookA, lst_nt hnt]; rfl)) fun r h₂ hp => ?_
      (try simp only [zoneA, bookA, lst_nt hnt] at hp)
      obtain ⟨rfl, rfl⟩ := hp
      exact ⟨rfl, _, _, rfl⟩
  · refine SC.less (SC.inPlace rfl (by show (0 : Int) < (l.length : Int); omega) rfl rfl fun c hc => (c106m l a c hc hl).mono fun r h hp => ?_)
    obtain ⟨E, e1, e2, rfl, rfl⟩ := hp
    have e3 : (since a l).length ≤ l.length := List.length_filter_le _ _
    refine ⟨lstR encRide default E, _, rfl, rfl, lst 3 encRide default (since a l), [.fro 3 (fun _ => (l.length : Int)) (lstR encRide default E), .cells [.int .i64 fun _ => a]], ?_, rfl, _, _, rfl⟩
    refine To.of [] ⟨⟨.gd (decide_eq_true (by dsimp only; omega)) (.none rfl fun i hi => ?_), trivial⟩, .refl _, .refl _, trivial⟩
    have hi' : i < (since a l).length := by have : (i : Int) < ((since a l).length : Int) := hi; omega
    unfold lstR
    simp only [Int.zero_add]
    refine congrArg encRide ?_
    have : (since a l).getD (i : Int).toNat default = (E.take (since a l).length).getD (i : Int).toNat default := by rw [e2]
    rw [this]
    simp only [Int.toNat_natCast, List.getD_eq_getElem?_getD, List.getElem?_take, if_pos hi']
end Go.Proofs.Ytlcgliadpalgfaa.Vm
