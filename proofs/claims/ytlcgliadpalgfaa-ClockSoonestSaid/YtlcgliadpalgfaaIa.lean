/- Contracts: ranges over runs. -/
import Derived.Test.YtlcgliadpalgfaaIt
import Derived.Test.YtlcgliadpalgfaaGd
set_option linter.unusedSimpArgs false
set_option linter.unusedVariables false
namespace Go.Proofs.Ytlcgliadpalgfaa.Vm
open Go Go.Proofs Sp
set_option maxRecDepth 100000
set_option maxHeartbeats 1600000

def bookI (b : Book) : AV := .iptr [lst 2 encZone default b.zones, lst 3 encTrain default b.old, lst 3 encTrain default b.new, .int .i64 fun _ => b.night, .int .i64 fun _ => b.last] 0

theorem c86 (b : Book) : SC (fun _ => Try.prog) 86 [bookA b] [] fun v h => v = .fn 117 [] [bookI b] ∧ h = [] := by
  unfold bookA bookI
  refine con Try.func86 (body := bodyOf Try.f86) rfl (by decide +kernel) ?_
  (cbv; (try simp only [nc] at *); (try refine Chk.mk (by (try simp only [nc, allc0, allc1, allcE, allcI, Cn.p, and_true, true_and, decide_eq_true_eq, imp_self, List.length_cons, List.length_nil]); all_goals ((repeat' (first | apply And.intro | intro _)) <;> first | omega | rfl | exact Or.inl rfl | assumption | exact nb1 (by assumption) | exact nb2 (by assumption) | exact nb3 (by assumption) | exact nb4 (by assumption) | decide | decide +kernel | (simp [*]; done))) ?_))
  (try first | exact ⟨rfl, trivial⟩ | exact ⟨trivial, trivial⟩)

/-- The runs of the days ahead of d. -/
def runsTo (b : Book) (d : Nat) : List (Train × Int) := (List.range d).flatMap fun (k : Nat) => ((table b k).filter fun t => starts t k).map fun t => (t, (k : Int))
def runsIn (b : Book) (d i : Nat) : List (Train × Int) := (((table b d).take i).filter fun t => starts t d).map fun t => (t, (d : Int))

theorem runsIn_zero (b : Book) (d : Nat) : runsIn b d 0 = [] := by simp [runsIn]
theorem runsTo_zero (b : Book) : runsTo b 0 = [] := by simp [runsTo]
theorem runsTo_succ (b : Book) (d : Nat) : runsTo b (d + 1) = runsTo b d ++ runsIn b d (table b d).length := by
  unfold runsTo runsIn
  rw [List.range_succ, List.flatMap_append]
  simp
theorem tabOk {b : Book} (h : BookOk b) {t : Train} {day : Int} (ht : t ∈ table b day) : TrainOk b.zones.length t := by
  unfold table at ht
  split at ht
  · exact h.old t ht
  · exact h.new t ht
theorem TrainOk.fit {n : Int} {t : Train} (h : TrainOk n t) : ∀ s ∈ t.stops, (0 ≤ s.zone ∧ s.zone < n) ∧ (0 ≤ s.arrive ∧ s.arrive ≤ 10000) ∧ 0 ≤ s.depart ∧ s.depart ≤ 10000 := fun s hs => by
  have := h.stops s hs
  have h1 := this.zone
  have h2 := this.arrive
  have h3 := this.depart
  omega

theorem runsIn_len (b : Book) (d i : Nat) : (runsIn b d i).length ≤ i := by
  unfold runsIn
  rw [List.length_map]
  exact Nat.le_trans (List.length_filter_le _ _) (by rw [List.length_take]; omega)
theorem runsTo_len {b : Book} (h : BookOk b) : ∀ d, (runsTo b d).length ≤ 4 * d
  | 0 => by simp [runsTo]
  | d + 1 => by
    have h1 := runsTo_len h d
    have h2 := runsIn_len b d (table b d).length
    have h3 := (table_ok h (d : Int)).1
    rw [runsTo_succ, List.length_append]
    omega

/-- What hands out the runs, in a caller's heap of three blocks. -/
theorem c117 (b : Book) (hlast : 0 ≤ b.last ∧ b.last ≤ 100) (hok : BookOk b) (s : List AV) (ps : Array Tmp) (a x : Code) (B0 B1 B2 : List (Train × Int) → Blk)
    (hs : ∀ acc, sel true [0, 1, 2, 3] [B0 acc, B1 acc, B2 acc, .loop s ⟨ps, a, x, .ready, none⟩] = [B0 acc, B1 acc, B2 acc, .loop s ⟨ps, a, x, .ready, none⟩])
    (hs5 : ∀ acc t, sel true [0, 1, 2, 3] [B0 acc, B1 acc, B2 acc, .loop s ⟨ps, a, x, .ready, none⟩, .cells (encTrain t)] = [B0 acc, B1 acc, B2 acc, .loop s ⟨ps, a, x, .ready, none⟩])
    (hy : ∀ acc t (day : Int), acc.length ≤ 1000 → t ∈ table b day → starts t day = true → 0 ≤ day ∧ day ≤ b.last → YC (fun _ => Try.prog) 3 [runV t day (calls b.zones t day)] [B0 acc, B1 acc, B2 acc, .loop s ⟨ps, a, x, .ready, none⟩, .cells (encTrain t)] fun v h => v = .bool (fun _ => true) ∧ h = [B0 (acc ++ [(t, day)]), B1 (acc ++ [(t, day)]), B2 (acc ++ [(t, day)]), .loop s ⟨ps, a, x, .ready, none⟩, .cells (encTrain t)]) :
    SC (fun _ => Try.prog) 117 [.yld 3, bookI b] [B0 [], B1 [], B2 [], .loop s ⟨ps, a, x, .ready, none⟩] fun v h => h = [B0 (runsTo b (b.last + 1).toNat), B1 (runsTo b (b.last + 1).toNat), B2 (runsTo b (b.last + 1).toNat), .loop s ⟨ps, a, x, .ready, none⟩] := by
  obtain ⟨nt, hnt⟩ := nth_ex
  unfold bookI
  refine con Try.func117 (body := bodyOf Try.f117) rfl (by decide +kernel) ?_
  (cbv; (try simp only [nc] at *); (try refine Chk.mk (by (try simp only [nc, allc0, allc1, allcE, allcI, Cn.p, and_true, true_and, decide_eq_true_eq, imp_self, List.length_cons, List.length_nil]); all_goals ((repeat' (first | apply And.intro | intro _)) <;> first | omega | rfl | exact Or.inl rfl | assumption | exact nb1 (by assumption) | exact nb2 (by assumption) | exact nb3 (by assumption) | exact nb4 (by assumption) | decide | decide +kernel | (simp [*]; done))) ?_))
  refine loopS false false [] [0, 1, 8, 9] [] (fun (i : Nat) => [(9, .int .i64 fun _ => (i : Int))]) (fun i => [(0, B0 (runsTo b i)), (1, B1 (runsTo b i)), (2, B2 (runsTo b i))]) (fun i => (i : Int) ≤ b.last + 1) (fun i => (b.last + 1).toNat - i + 0) 0 (by omega) ?_ ?_
  · (refine To.of [] ?_; cbv; (try simp only [nc]); (repeat' (first | exact trivial | exact WkN.refl _ | exact WkB.refl _ | refine ⟨?_, ?_⟩ | refine WkB.cells ?_ | refine WkN.agg ?_ | refine WkN.tup ?_)); (all_goals (first | exact .int rfl | exact .int (by first | omega | (simp only [nc]; omega) | (simp; done)) | exact .bool rfl | exact .snoc hnt rfl rfl rfl | exact .snoc hnt rfl rfl (by simp only [encZone, encTrain, lst_nt hnt]; rfl) | exact lit_nt hnt _ _ _ _ rfl | exact take_nt hnt (by omega) | exact lstR_wk hnt | exact .tok rfl | exact .tok (by simp) | exact .lst hnt rfl | exact .gsl (by simp) | exact .empty rfl | exact .nilOwn (by decide) (by decide) rfl | exact .nilGar (by decide) (by decide) rfl | exact .gd (by first | assumption | decide | (simp [*]; done)) (.refl _) | skip)))
  rintro i hi
  (cbv; (try simp only [nc] at *); (try refine Chk.mk (by (try simp only [nc, allc0, allc1, allcE, allcI, Cn.p, and_true, true_and, decide_eq_true_eq, imp_self, List.length_cons, List.length_nil]); all_goals ((repeat' (first | apply And.intro | intro _)) <;> first | omega | rfl | exact Or.inl rfl | assumption | exact nb1 (by assumption) | exact nb2 (by assumption) | exact nb3 (by assumption) | exact nb4 (by assumption) | decide | decide +kernel | (simp [*]; done))) ?_))
  refine ⟨fun hb => ?_, fun hb => ?_⟩
  · simp only [decide_eq_true_eq] at hb
    (cbv; (try simp only [nc] at *); (try refine Chk.mk (by (try simp only [nc, allc0, allc1, allcE, allcI, Cn.p, and_true, true_and, decide_eq_true_eq, imp_self, List.length_cons, List.length_nil]); all_goals ((repeat' (first | apply And.intro | intro _)) <;> first | omega | rfl | exact Or.inl rfl | assumption | exact nb1 (by assumption) | exact nb2 (by assumption) | exact nb3 (by assumption) | exact nb4 (by assumption) | decide | decide +kernel | (simp [*]; done))) ?_))
    have k73 := c73 b i
    simp only [lst_nt hnt] at k73
    refine call0 (k73) (by first | rfl | (simp only [zoneA, bookA, lst_nt hnt]; rfl)) fun r h₂ hp => ?_
    (try simp only [zoneA, bookA, lst_nt hnt] at hp)
    obtain ⟨rfl, rfl⟩ := hp
    (cbv; (try simp only [nc] at *); (try refine Chk.mk (by (try simp only [nc, allc0, allc1, allcE, allcI, Cn.p, and_true, true_and, decide_eq_true_eq, imp_self, List.length_cons, List.length_nil]); all_goals ((repeat' (first | apply And.intro | intro _)) <;> first | omega | rfl | exact Or.inl rfl | assumption | exact nb1 (by assumption) | exact nb2 (by assumption) | exact nb3 (by assumption) | exact nb4 (by assumption) | decide | decide +kernel | (simp [*]; done))) ?_))
    refine loopQ fun Q hQ => ?_
    refine loopS false false [] [0, 1, 3, 8, 9, 14, 15, 16] [] (fun (j : Nat) => [(16, .int .i64 fun _ => (j : Int))]) (fun j => [(0, B0 (runsTo b i ++ runsIn b i j)), (1, B1 (runsTo b i ++ runsIn b i j)), (2, B2 (runsTo b i ++ runsIn b i j))]) (fun j => j ≤ (table b i).length) (fun j => (table b i).length - j + 0) 0 (by omega) ?_ ?_
    · simp only [runsIn_zero, List.append_nil]
      (refine To.of [] ?_; cbv; (try simp only [nc]); (repeat' (first | exact trivial | exact WkN.refl _ | exact WkB.refl _ | refine ⟨?_, ?_⟩ | refine WkB.cells ?_ | refine WkN.agg ?_ | refine WkN.tup ?_)); (all_goals (first | exact .int rfl | exact .int (by first | omega | (simp only [nc]; omega) | (simp; done)) | exact .bool rfl | exact .snoc hnt rfl rfl rfl | exact .snoc hnt rfl rfl (by simp only [encZone, encTrain, lst_nt hnt]; rfl) | exact lit_nt hnt _ _ _ _ rfl | exact take_nt hnt (by omega) | exact lstR_wk hnt | exact .tok rfl | exact .tok (by simp) | exact .lst hnt rfl | exact .gsl (by simp) | exact .empty rfl | exact .nilOwn (by decide) (by decide) rfl | exact .nilGar (by decide) (by decide) rfl | exact .gd (by first | assumption | decide | (simp [*]; done)) (.refl _) | skip)))
    rintro j hj
    (cbv; (try simp only [nc] at *); (try refine Chk.mk (by (try simp only [nc, allc0, allc1, allcE, allcI, Cn.p, and_true, true_and, decide_eq_true_eq, imp_self, List.length_cons, List.length_nil]); all_goals ((repeat' (first | apply And.intro | intro _)) <;> first | omega | rfl | exact Or.inl rfl | assumption | exact nb1 (by assumption) | exact nb2 (by assumption) | exact nb3 (by assumption) | exact nb4 (by assumption) | decide | decide +kernel | (simp [*]; done))) ?_))
    refine ⟨fun hb => ?_, fun hb => ?_⟩
    · simp only [decide_eq_true_eq, Int.ofNat_lt] at hb
      rename_i hbi
      have hmem : nt Train default (table b i) j ∈ table b i := nt_mem hnt hb
      have htk := tabOk hok hmem
      have htl := (table_ok hok (i : Int)).1
      have hl := htk.len
      have hd := htk.days
      have hnx : runsIn b i (j + 1) = runsIn b i j ++ (if starts (nt Train default (table b i) j) i then [(nt Train default (table b i) j, (i : Int))] else []) := by
        unfold runsIn
        rw [nt_take (d := default) hnt hb, List.filter_append, List.map_append]
        congr 1
        by_cases h : starts (nt Train default (table b i) j) i = true
        · simp [h]
        · simp [h]
      have k76 := c76 (nt Train default (table b i) j) i (by omega) (by omega)
      have hy' := hy (runsTo b i ++ runsIn b i j) _ (i : Int) (by have h1 := runsTo_len hok i; have h2 := runsIn_len b i j; rw [List.length_append]; omega) hmem
      have k77 := c77 b (nt Train default (table b i) j) i hok.zones htk.fit (by omega) (by omega)
      generalize calls b.zones (nt Train default (table b i) j) i = C at k77 hy'
      cases hst : starts (nt Train default (table b i) j) i
      rotate_left
      · rw [hst] at hnx k76
        (cbv; (try simp only [nc] at *); (try refine Chk.mk (by (try simp only [nc, allc0, allc1, allcE, allcI, Cn.p, and_true, true_and, decide_eq_true_eq, imp_self, List.length_cons, List.length_nil]); all_goals ((repeat' (first | apply And.intro | intro _)) <;> first | omega | rfl | exact Or.inl rfl | assumption | exact nb1 (by assumption) | exact nb2 (by assumption) | exact nb3 (by assumption) | exact nb4 (by assumption) | decide | decide +kernel | (simp [*]; done))) ?_))
        refine call0 (k76) (by first | rfl | (simp only [zoneA, bookA, lst_nt hnt]; rfl)) fun r h₂ hp => ?_
        (try simp only [zoneA, bookA, lst_nt hnt] at hp)
        obtain ⟨rfl, rfl⟩ := hp
        refine Br.isT rfl ?_
        (cbv; (try simp only [nc] at *); (try refine Chk.mk (by (try simp only [nc, allc0, allc1, allcE, allcI, Cn.p, and_true, true_and, decide_eq_true_eq, imp_self, List.length_cons, List.length_nil]); all_goals ((repeat' (first | apply And.intro | intro _)) <;> first | omega | rfl | exact Or.inl rfl | assumption | exact nb1 (by assumption) | exact nb2 (by assumption) | exact nb3 (by assumption) | exact nb4 (by assumption) | decide | decide +kernel | (simp [*]; done))) ?_))
        refine call0 (k77) (by first | rfl | (simp only [zoneA, bookA, lst_nt hnt]; rfl)) fun r h₂ hp => ?_
        (try simp only [zoneA, bookA, lst_nt hnt] at hp)
        obtain ⟨rfl, rfl⟩ := hp
        (cbv; (try simp only [nc] at *); (try refine Chk.mk (by (try simp only [nc, allc0, allc1, allcE, allcI, Cn.p, and_true, true_and, decide_eq_true_eq, imp_self, List.length_cons, List.length_nil]); all_goals ((repeat' (first | apply And.intro | intro _)) <;> first | omega | rfl | exact Or.inl rfl | assumption | exact nb1 (by assumption) | exact nb2 (by assumption) | exact nb3 (by assumption) | exact nb4 (by assumption) | decide | decide +kernel | (simp [*]; done))) ?_))
        refine Br.isT rfl ?_
        (cbv; (try simp only [nc] at *); (try refine Chk.mk (by (try simp only [nc, allc0, allc1, allcE, allcI, Cn.p, and_true, true_and, decide_eq_true_eq, imp_self, List.length_cons, List.length_nil]); all_goals ((repeat' (first | apply And.intro | intro _)) <;> first | omega | rfl | exact Or.inl rfl | assumption | exact nb1 (by assumption) | exact nb2 (by assumption) | exact nb3 (by assumption) | exact nb4 (by assumption) | decide | decide +kernel | (simp [*]; done))) ?_))
        refine YC.mono (hy' hst ⟨by omega, by omega⟩) ?_
        rintro v h ⟨rfl, rfl⟩
        (cbv; (try simp only [nc] at *); (try refine Chk.mk (by (try simp only [nc, allc0, allc1, allcE, allcI, Cn.p, and_true, true_and, decide_eq_true_eq, imp_self, List.length_cons, List.length_nil]); all_goals ((repeat' (first | apply And.intro | intro _)) <;> first | omega | rfl | exact Or.inl rfl | assumption | exact nb1 (by assumption) | exact nb2 (by assumption) | exact nb3 (by assumption) | exact nb4 (by assumption) | decide | decide +kernel | (simp [*]; done))) ?_))
        refine Br.isF rfl ?_
        (cbv; (try simp only [nc] at *); (try refine Chk.mk (by (try simp only [nc, allc0, allc1, allcE, allcI, Cn.p, and_true, true_and, decide_eq_true_eq, imp_self, List.length_cons, List.length_nil]); all_goals ((repeat' (first | apply And.intro | intro _)) <;> first | omega | rfl | exact Or.inl rfl | assumption | exact nb1 (by assumption) | exact nb2 (by assumption) | exact nb3 (by assumption) | exact nb4 (by assumption) | decide | decide +kernel | (simp [*]; done))) ?_))
        refine ⟨j + 1, by omega, by omega, ?_⟩
        rw [hnx]
        simp only [if_true, ← List.append_assoc]
        have hs' := hs5 (runsTo b i ++ runsIn b i j ++ [(nt Train default (table b i) j, (i : Int))]) (nt Train default (table b i) j)
        cbv at hs'
        simp only [List.cons.injEq, and_true] at hs'
        obtain ⟨e0, e1, e2, e3⟩ := hs'
        (refine To.of [] ?_; cbv; (try simp only [nc]); (repeat' (first | exact trivial | exact WkN.refl _ | exact WkB.refl _ | refine ⟨?_, ?_⟩ | refine WkB.cells ?_ | refine WkN.agg ?_ | refine WkN.tup ?_)); (all_goals (first | exact .int rfl | exact .int (by first | omega | (simp only [nc]; omega) | (simp; done)) | exact .bool rfl | exact .snoc hnt rfl rfl rfl | exact .snoc hnt rfl rfl (by simp only [encZone, encTrain, lst_nt hnt]; rfl) | exact lit_nt hnt _ _ _ _ rfl | exact take_nt hnt (by omega) | exact lstR_wk hnt | exact .tok rfl | exact .tok (by simp) | exact .lst hnt rfl | exact .gsl (by simp) | exact .empty rfl | exact .nilOwn (by decide) (by decide) rfl | exact .nilGar (by decide) (by decide) rfl | exact .gd (by first | assumption | decide | (simp [*]; done)) (.refl _) | skip)))
        all_goals first | (rw [e0]; exact WkB.refl _) | (rw [e1]; exact WkB.refl _) | (rw [e2]; exact WkB.refl _) | (rw [e3]; exact WkB.refl _)
      · rw [hst] at hnx k76
        (cbv; (try simp only [nc] at *); (try refine Chk.mk (by (try simp only [nc, allc0, allc1, allcE, allcI, Cn.p, and_true, true_and, decide_eq_true_eq, imp_self, List.length_cons, List.length_nil]); all_goals ((repeat' (first | apply And.intro | intro _)) <;> first | omega | rfl | exact Or.inl rfl | assumption | exact nb1 (by assumption) | exact nb2 (by assumption) | exact nb3 (by assumption) | exact nb4 (by assumption) | decide | decide +kernel | (simp [*]; done))) ?_))
        refine call0 (k76) (by first | rfl | (simp only [zoneA, bookA, lst_nt hnt]; rfl)) fun r h₂ hp => ?_
        (try simp only [zoneA, bookA, lst_nt hnt] at hp)
        obtain ⟨rfl, rfl⟩ := hp
        refine Br.isF rfl ?_
        (cbv; (try simp only [nc] at *); (try refine Chk.mk (by (try simp only [nc, allc0, allc1, allcE, allcI, Cn.p, and_true, true_and, decide_eq_true_eq, imp_self, List.length_cons, List.length_nil]); all_goals ((repeat' (first | apply And.intro | intro _)) <;> first | omega | rfl | exact Or.inl rfl | assumption | exact nb1 (by assumption) | exact nb2 (by assumption) | exact nb3 (by assumption) | exact nb4 (by assumption) | decide | decide +kernel | (simp [*]; done))) ?_))
        refine Br.isF rfl ?_
        (cbv; (try simp only [nc] at *); (try refine Chk.mk (by (try simp only [nc, allc0, allc1, allcE, allcI, Cn.p, and_true, true_and, decide_eq_true_eq, imp_self, List.length_cons, List.length_nil]); all_goals ((repeat' (first | apply And.intro | intro _)) <;> first | omega | rfl | exact Or.inl rfl | assumption | exact nb1 (by assumption) | exact nb2 (by assumption) | exact nb3 (by assumption) | exact nb4 (by assumption) | decide | decide +kernel | (simp [*]; done))) ?_))
        refine Br.isF rfl ?_
        (cbv; (try simp only [nc] at *); (try refine Chk.mk (by (try simp only [nc, allc0, allc1, allcE, allcI, Cn.p, and_true, true_and, decide_eq_true_eq, imp_self, List.length_cons, List.length_nil]); all_goals ((repeat' (first | apply And.intro | intro _)) <;> first | omega | rfl | exact Or.inl rfl | assumption | exact nb1 (by assumption) | exact nb2 (by assumption) | exact nb3 (by assumption) | exact nb4 (by assumption) | decide | decide +kernel | (simp [*]; done))) ?_))
        refine ⟨j + 1, by omega, by omega, ?_⟩
        rw [hnx]
        simp only [Bool.false_eq_true, if_false, List.append_nil]
        have hs' := hs5 (runsTo b i ++ runsIn b i j) (nt Train default (table b i) j)
        cbv at hs'
        simp only [List.cons.injEq, and_true] at hs'
        obtain ⟨e0, e1, e2, e3⟩ := hs'
        (refine To.of [] ?_; cbv; (try simp only [nc]); (repeat' (first | exact trivial | exact WkN.refl _ | exact WkB.refl _ | refine ⟨?_, ?_⟩ | refine WkB.cells ?_ | refine WkN.agg ?_ | refine WkN.tup ?_)); (all_goals (first | exact .int rfl | exact .int (by first | omega | (simp only [nc]; omega) | (simp; done)) | exact .bool rfl | exact .snoc hnt rfl rfl rfl | exact .snoc hnt rfl rfl (by simp only [encZone, encTrain, lst_nt hnt]; rfl) | exact lit_nt hnt _ _ _ _ rfl | exact take_nt hnt (by omega) | exact lstR_wk hnt | exact .tok rfl | exact .tok (by simp) | exact .lst hnt rfl | exact .gsl (by simp) | exact .empty rfl | exact .nilOwn (by decide) (by decide) rfl | exact .nilGar (by decide) (by decide) rfl | exact .gd (by first | assumption | decide | (simp [*]; done)) (.refl _) | skip)))
        all_goals first | (rw [e0]; exact WkB.refl _) | (rw [e1]; exact WkB.refl _) | (rw [e2]; exact WkB.refl _) | (rw [e3]; exact WkB.refl _)
    · have hje : j = (table b i).length := by simp only [decide_eq_false_iff_not, Int.ofNat_lt] at hb; omega
      subst hje
      refine hQ _ _ _ ?_
      rw [← runsTo_succ]
      have hs' := hs (runsTo b (i + 1))
      cbv at hs'
      simp only [List.cons.injEq, and_true] at hs'
      obtain ⟨e0, e1, e2, e3⟩ := hs'
      (cbv; (try simp only [nc] at *); (try refine Chk.mk (by (try simp only [nc, allc0, allc1, allcE, allcI, Cn.p, and_true, true_and, decide_eq_true_eq, imp_self, List.length_cons, List.length_nil]); all_goals ((repeat' (first | apply And.intro | intro _)) <;> first | omega | rfl | exact Or.inl rfl | assumption | exact nb1 (by assumption) | exact nb2 (by assumption) | exact nb3 (by assumption) | exact nb4 (by assumption) | decide | decide +kernel | (simp [*]; done))) ?_))
      refine ⟨i + 1, by omega, by omega, ?_⟩
      (refine To.of [] ?_; cbv; (try simp only [nc]); (repeat' (first | exact trivial | exact WkN.refl _ | exact WkB.refl _ | refine ⟨?_, ?_⟩ | refine WkB.cells ?_ | refine WkN.agg ?_ | refine WkN.tup ?_)); (all_goals (first | exact .int rfl | exact .int (by first | omega | (simp only [nc]; omega) | (simp; done)) | exact .bool rfl | exact .snoc hnt rfl rfl rfl | exact .snoc hnt rfl rfl (by simp only [encZone, encTrain, lst_nt hnt]; rfl) | exact lit_nt hnt _ _ _ _ rfl | exact take_nt hnt (by omega) | exact lstR_wk hnt | exact .tok rfl | exact .tok (by simp) | exact .lst hnt rfl | exact .gsl (by simp) | exact .empty rfl | exact .nilOwn (by decide) (by decide) rfl | exact .nilGar (by decide) (by decide) rfl | exact .gd (by first | assumption | decide | (simp [*]; done)) (.refl _) | skip)))
      all_goals first | (rw [e0]; exact WkB.refl _) | (rw [e1]; exact WkB.refl _) | (rw [e2]; exact WkB.refl _) | (rw [e3]; exact WkB.refl _)
  · have hi' : i = (b.last + 1).toNat := by simp only [decide_eq_false_iff_not] at hb; omega
    subst hi'
    have hs' := hs (runsTo b (b.last + 1).toNat)
    cbv at hs'
    (cbv; (try simp only [nc] at *); (try refine Chk.mk (by (try simp only [nc, allc0, allc1, allcE, allcI, Cn.p, and_true, true_and, decide_eq_true_eq, imp_self, List.length_cons, List.length_nil]); all_goals ((repeat' (first | apply And.intro | intro _)) <;> first | omega | rfl | exact Or.inl rfl | assumption | exact nb1 (by assumption) | exact nb2 (by assumption) | exact nb3 (by assumption) | exact nb4 (by assumption) | decide | decide +kernel | (simp [*]; done))) ?_))
    exact hs'
end Go.Proofs.Ytlcgliadpalgfaa.Vm
