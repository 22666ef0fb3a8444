/- Contracts: who is on the way. -/
import Derived.Test.YtlcgliadpalgfaaIa
set_option linter.unusedSimpArgs false
set_option linter.unusedVariables false
namespace Go.Proofs.Ytlcgliadpalgfaa.Vm
open Go Go.Proofs Sp
set_option maxRecDepth 100000
set_option maxHeartbeats 1600000

/-- What hands out the runs, in a caller's heap of 4 blocks. -/
theorem c117_4 (b : Book) (hlast : 0 ≤ b.last ∧ b.last ≤ 100) (hok : BookOk b) (s : List AV) (ps : Array Tmp) (a x : Code) (B0 B1 B2 B3 : List (Train × Int) → Blk)
    (hs : ∀ acc, sel true [0, 1, 2, 3, 4] [B0 acc, B1 acc, B2 acc, B3 acc, .loop s ⟨ps, a, x, .ready, none⟩] = [B0 acc, B1 acc, B2 acc, B3 acc, .loop s ⟨ps, a, x, .ready, none⟩])
    (hs5 : ∀ acc t, sel true [0, 1, 2, 3, 4] [B0 acc, B1 acc, B2 acc, B3 acc, .loop s ⟨ps, a, x, .ready, none⟩, .cells (encTrain t)] = [B0 acc, B1 acc, B2 acc, B3 acc, .loop s ⟨ps, a, x, .ready, none⟩])
    (hy : ∀ acc t (day : Int), acc.length ≤ 1000 → t ∈ table b day → starts t day = true → 0 ≤ day ∧ day ≤ b.last → YC (fun _ => Try.prog) 4 [runV t day (calls b.zones t day)] [B0 acc, B1 acc, B2 acc, B3 acc, .loop s ⟨ps, a, x, .ready, none⟩, .cells (encTrain t)] fun v h => v = .bool (fun _ => true) ∧ h = [B0 (acc ++ [(t, day)]), B1 (acc ++ [(t, day)]), B2 (acc ++ [(t, day)]), B3 (acc ++ [(t, day)]), .loop s ⟨ps, a, x, .ready, none⟩, .cells (encTrain t)]) :
    SC (fun _ => Try.prog) 117 [.yld 4, bookI b] [B0 [], B1 [], B2 [], B3 [], .loop s ⟨ps, a, x, .ready, none⟩] fun v h => h = [B0 (runsTo b (b.last + 1).toNat), B1 (runsTo b (b.last + 1).toNat), B2 (runsTo b (b.last + 1).toNat), B3 (runsTo b (b.last + 1).toNat), .loop s ⟨ps, a, x, .ready, none⟩] := by
  obtain ⟨nt, hnt⟩ := nth_ex
  unfold bookI
  refine con Try.func117 (body := bodyOf Try.f117) rfl (by decide +kernel) ?_
  (cbv; (try simp only [nc] at *); (try refine Chk.mk (by (try simp only [nc, allc0, allc1, allcE, allcI, Cn.p, and_true, true_and, decide_eq_true_eq, imp_self, List.length_cons, List.length_nil]); all_goals ((repeat' (first | apply And.intro | intro _)) <;> first | omega | rfl | exact Or.inl rfl | assumption | exact nb1 (by assumption) | exact nb2 (by assumption) | exact nb3 (by assumption) | exact nb4 (by assumption) | decide | decide +kernel | (simp [*]; done))) ?_))
  refine loopS false false [] [0, 1, 8, 9] [] (fun (i : Nat) => [(9, .int .i64 fun _ => (i : Int))]) (fun i => [(0, B0 (runsTo b i)), (1, B1 (runsTo b i)), (2, B2 (runsTo b i)), (3, B3 (runsTo b i))]) (fun i => (i : Int) ≤ b.last + 1) (fun i => (b.last + 1).toNat - i + 0) 0 (by omega) ?_ ?_
  · (refine To.of [] ?_; cbv; (try simp only [nc]); (repeat' (first | exact trivial | exact WkN.refl _ | exact WkB.refl _ | refine ⟨?_, ?_⟩ | refine WkB.cells ?_ | refine WkN.agg ?_ | refine WkN.tup ?_)); (all_goals (first | exact .int rfl | exact .int (by first | omega | (simp only [nc]; omega) | (simp; done)) | exact .bool rfl | exact .snoc hnt rfl rfl rfl | exact .snoc hnt rfl rfl (by simp only [encZone, encTrain, lst_nt hnt]; rfl) | exact lit_nt hnt _ _ _ _ rfl | exact take_nt hnt (by omega) | exact lstR_wk hnt | exact .tok rfl | exact .tok (by simp) | exact .lst hnt rfl | exact .gsl (by simp) | exact .empty rfl | exact .nilOwn (by decide) (by decide) rfl | exact .nilGar (by decide) (by decide) rfl | exact .gd (by first | assumption | decide | (simp [*]; done)) (.refl _) | skip)))
  rintro i hi
  (cbv; (try simp only [nc] at *); (try refine Chk.mk (by (try simp only [nc, allc0, allc1, allcE, allcI, Cn.p, and_true, true_and, decide_eq_true_eq, imp_self, List.length_cons, List.length_nil]); all_goals ((repeat' (first | apply And.intro | intro _)) <;> first | omega | rfl | exact Or.inl rfl | assumption | exact nb1 (by assumption) | exact nb2 (by assumption) | exact nb3 (by assumption) | exact nb4 (by assumption) | decide | decide +kernel | (simp [*]; done))) ?_))
  refine ⟨fun hb => ?_, fun hb => ?_⟩
  · simp only [decide_eq_true_eq] at hb
    (cbv; (try simp only [nc] at *); (try refine Chk.mk (by (try simp only [nc, allc0, allc1, allcE, allcI, Cn.p, and_true, true_and, decide_eq_true_eq, imp_self, List.length_cons, List.length_nil]); all_goals ((repeat' (first | apply And.intro | intro _)) <;> first | omega | rfl | exact Or.inl rfl | assumption | exact nb1 (by assumption) | exact nb2 (by assumption) | exact nb3 (by assumption) | exact nb4 (by assumption) | decide | decide +kernel | (simp [*]; done))) ?_))
    have k73 := c73 b i
    simp only [lst_nt hnt] at k73
    refine call0 (k73) (by first | rfl | (simp only [zoneA, bookA, lst_nt hnt]; rfl)) fun r h₂ hp => ?_
    (try simp only [zoneA, bookA, lst_nt hnt] at hp)
    obtain ⟨rfl, rfl⟩ := hp
    (cbv; (try simp only [nc] at *); (try refine Chk.mk (by (try simp only [nc, allc0, allc1, allcE, allcI, Cn.p, and_true, true_and, decide_eq_true_eq, imp_self, List.length_cons, List.length_nil]); all_goals ((repeat' (first | apply And.intro | intro _)) <;> first | omega | rfl | exact Or.inl rfl | assumption | exact nb1 (by assumption) | exact nb2 (by assumption) | exact nb3 (by assumption) | exact nb4 (by assumption) | decide | decide +kernel | (simp [*]; done))) ?_))
    refine loopQ fun Q hQ => ?_
    refine loopS false false [] [0, 1, 3, 8, 9, 14, 15, 16] [] (fun (j : Nat) => [(16, .int .i64 fun _ => (j : Int))]) (fun j => [(0, B0 (runsTo b i ++ runsIn b i j)), (1, B1 (runsTo b i ++ runsIn b i j)), (2, B2 (runsTo b i ++ runsIn b i j)), (3, B3 (runsTo b i ++ runsIn b i j))]) (fun j => j ≤ (table b i).length) (fun j => (table b i).length - j + 0) 0 (by omega) ?_ ?_
    · simp only [runsIn_zero, List.append_nil]
      (refine To.of [] ?_; cbv; (try simp only [nc]); (repeat' (first | exact trivial | exact WkN.refl _ | exact WkB.refl _ | refine ⟨?_, ?_⟩ | refine WkB.cells ?_ | refine WkN.agg ?_ | refine WkN.tup ?_)); (all_goals (first | exact .int rfl | exact .int (by first | omega | (simp only [nc]; omega) | (simp; done)) | exact .bool rfl | exact .snoc hnt rfl rfl rfl | exact .snoc hnt rfl rfl (by simp only [encZone, encTrain, lst_nt hnt]; rfl) | exact lit_nt hnt _ _ _ _ rfl | exact take_nt hnt (by omega) | exact lstR_wk hnt | exact .tok rfl | exact .tok (by simp) | exact .lst hnt rfl | exact .gsl (by simp) | exact .empty rfl | exact .nilOwn (by decide) (by decide) rfl | exact .nilGar (by decide) (by decide) rfl | exact .gd (by first | assumption | decide | (simp [*]; done)) (.refl _) | skip)))
    rintro j hj
    (cbv; (try simp only [nc] at *); (try refine Chk.mk (by (try simp only [nc, allc0, allc1, allcE, allcI, Cn.p, and_true, true_and, decide_eq_true_eq, imp_self, List.length_cons, List.length_nil]); all_goals ((repeat' (first | apply And.intro | intro _)) <;> first | omega | rfl | exact Or.inl rfl | assumption | exact nb1 (by assumption) | exact nb2 (by assumption) | exact nb3 (by assumption) | exact nb4 (by assumption) | decide | decide +kernel | (simp [*]; done))) ?_))
    refine ⟨fun hb => ?_, fun hb => ?_⟩
    · simp only [decide_eq_true_eq, Int.ofNat_lt] at hb
      rename_i hbi
      have hmem : nt Train default (table b i) j ∈ table b i := nt_mem hnt hb
      have htk := tabOk hok hmem
      have htl := (table_ok hok (i : Int)).1
      have hl := htk.len
      have hd := htk.days
      have hnx : runsIn b i (j + 1) = runsIn b i j ++ (if starts (nt Train default (table b i) j) i then [(nt Train default (table b i) j, (i : Int))] else []) := by
        unfold runsIn
        rw [nt_take (d := default) hnt hb, List.filter_append, List.map_append]
        congr 1
        by_cases h : starts (nt Train default (table b i) j) i = true
        · simp [h]
        · simp [h]
      have k76 := c76 (nt Train default (table b i) j) i (by omega) (by omega)
      have hy' := hy (runsTo b i ++ runsIn b i j) _ (i : Int) (by have h1 := runsTo_len hok i; have h2 := runsIn_len b i j; rw [List.length_append]; omega) hmem
      have k77 := c77 b (nt Train default (table b i) j) i hok.zones htk.fit (by omega) (by omega)
      generalize calls b.zones (nt Train default (table b i) j) i = C at k77 hy'
      cases hst : starts (nt Train default (table b i) j) i
      rotate_left
      · rw [hst] at hnx k76
        (cbv; (try simp only [nc] at *); (try refine Chk.mk (by (try simp only [nc, allc0, allc1, allcE, allcI, Cn.p, and_true, true_and, decide_eq_true_eq, imp_self, List.length_cons, List.length_nil]); all_goals ((repeat' (first | apply And.intro | intro _)) <;> first | omega | rfl | exact Or.inl rfl | assumption | exact nb1 (by assumption) | exact nb2 (by assumption) | exact nb3 (by assumption) | exact nb4 (by assumption) | decide | decide +kernel | (simp [*]; done))) ?_))
        refine call0 (k76) (by first | rfl | (simp only [zoneA, bookA, lst_nt hnt]; rfl)) fun r h₂ hp => ?_
        (try simp only [zoneA, bookA, lst_nt hnt] at hp)
        obtain ⟨rfl, rfl⟩ := hp
        refine Br.isT rfl ?_
        (cbv; (try simp only [nc] at *); (try refine Chk.mk (by (try simp only [nc, allc0, allc1, allcE, allcI, Cn.p, and_true, true_and, decide_eq_true_eq, imp_self, List.length_cons, List.length_nil]); all_goals ((repeat' (first | apply And.intro | intro _)) <;> first | omega | rfl | exact Or.inl rfl | assumption | exact nb1 (by assumption) | exact nb2 (by assumption) | exact nb3 (by assumption) | exact nb4 (by assumption) | decide | decide +kernel | (simp [*]; done))) ?_))
        refine call0 (k77) (by first | rfl | (simp only [zoneA, bookA, lst_nt hnt]; rfl)) fun r h₂ hp => ?_
        (try simp only [zoneA, bookA, lst_nt hnt] at hp)
        obtain ⟨rfl, rfl⟩ := hp
        (cbv; (try simp only [nc] at *); (try refine Chk.mk (by (try simp only [nc, allc0, allc1, allcE, allcI, Cn.p, and_true, true_and, decide_eq_true_eq, imp_self, List.length_cons, List.length_nil]); all_goals ((repeat' (first | apply And.intro | intro _)) <;> first | omega | rfl | exact Or.inl rfl | assumption | exact nb1 (by assumption) | exact nb2 (by assumption) | exact nb3 (by assumption) | exact nb4 (by assumption) | decide | decide +kernel | (simp [*]; done))) ?_))
        refine Br.isT rfl ?_
        (cbv; (try simp only [nc] at *); (try refine Chk.mk (by (try simp only [nc, allc0, allc1, allcE, allcI, Cn.p, and_true, true_and, decide_eq_true_eq, imp_self, List.length_cons, List.length_nil]); all_goals ((repeat' (first | apply And.intro | intro _)) <;> first | omega | rfl | exact Or.inl rfl | assumption | exact nb1 (by assumption) | exact nb2 (by assumption) | exact nb3 (by assumption) | exact nb4 (by assumption) | decide | decide +kernel | (simp [*]; done))) ?_))
        refine YC.mono (hy' hst ⟨by omega, by omega⟩) ?_
        rintro v h ⟨rfl, rfl⟩
        (cbv; (try simp only [nc] at *); (try refine Chk.mk (by (try simp only [nc, allc0, allc1, allcE, allcI, Cn.p, and_true, true_and, decide_eq_true_eq, imp_self, List.length_cons, List.length_nil]); all_goals ((repeat' (first | apply And.intro | intro _)) <;> first | omega | rfl | exact Or.inl rfl | assumption | exact nb1 (by assumption) | exact nb2 (by assumption) | exact nb3 (by assumption) | exact nb4 (by assumption) | decide | decide +kernel | (simp [*]; done))) ?_))
        refine Br.isF rfl ?_
        (cbv; (try simp only [nc] at *); (try refine Chk.mk (by (try simp only [nc, allc0, allc1, allcE, allcI, Cn.p, and_true, true_and, decide_eq_true_eq, imp_self, List.length_cons, List.length_nil]); all_goals ((repeat' (first | apply And.intro | intro _)) <;> first | omega | rfl | exact Or.inl rfl | assumption | exact nb1 (by assumption) | exact nb2 (by assumption) | exact nb3 (by assumption) | exact nb4 (by assumption) | decide | decide +kernel | (simp [*]; done))) ?_))
        refine ⟨j + 1, by omega, by omega, ?_⟩
        rw [hnx]
        simp only [if_true, ← List.append_assoc]
        have hs' := hs5 (runsTo b i ++ runsIn b i j ++ [(nt Train default (table b i) j, (i : Int))]) (nt Train default (table b i) j)
        cbv at hs'
        simp only [List.cons.injEq, and_true] at hs'
        obtain ⟨e0, e1, e2, e3, e4⟩ := hs'
        (refine To.of [] ?_; cbv; (try simp only [nc]); (repeat' (first | exact trivial | exact WkN.refl _ | exact WkB.refl _ | refine ⟨?_, ?_⟩ | refine WkB.cells ?_ | refine WkN.agg ?_ | refine WkN.tup ?_)); (all_goals (first | exact .int rfl | exact .int (by first | omega | (simp only [nc]; omega) | (simp; done)) | exact .bool rfl | exact .snoc hnt rfl rfl rfl | exact .snoc hnt rfl rfl (by simp only [encZone, encTrain, lst_nt hnt]; rfl) | exact lit_nt hnt _ _ _ _ rfl | exact take_nt hnt (by omega) | exact lstR_wk hnt | exact .tok rfl | exact .tok (by simp) | exact .lst hnt rfl | exact .gsl (by simp) | exact .empty rfl | exact .nilOwn (by decide) (by decide) rfl | exact .nilGar (by decide) (by decide) rfl | exact .gd (by first | assumption | decide | (simp [*]; done)) (.refl _) | skip)))
        all_goals first | (rw [e0]; exact WkB.refl _) | (rw [e1]; exact WkB.refl _) | (rw [e2]; exact WkB.refl _) | (rw [e3]; exact WkB.refl _) | (rw [e4]; exact WkB.refl _)
      · rw [hst] at hnx k76
        (cbv; (try simp only [nc] at *); (try refine Chk.mk (by (try simp only [nc, allc0, allc1, allcE, allcI, Cn.p, and_true, true_and, decide_eq_true_eq, imp_self, List.length_cons, List.length_nil]); all_goals ((repeat' (first | apply And.intro | intro _)) <;> first | omega | rfl | exact Or.inl rfl | assumption | exact nb1 (by assumption) | exact nb2 (by assumption) | exact nb3 (by assumption) | exact nb4 (by assumption) | decide | decide +kernel | (simp [*]; done))) ?_))
        refine call0 (k76) (by first | rfl | (simp only [zoneA, bookA, lst_nt hnt]; rfl)) fun r h₂ hp => ?_
        (try simp only [zoneA, bookA, lst_nt hnt] at hp)
        obtain ⟨rfl, rfl⟩ := hp
        refine Br.isF rfl ?_
        (cbv; (try simp only [nc] at *); (try refine Chk.mk (by (try simp only [nc, allc0, allc1, allcE, allcI, Cn.p, and_true, true_and, decide_eq_true_eq, imp_self, List.length_cons, List.length_nil]); all_goals ((repeat' (first | apply And.intro | intro _)) <;> first | omega | rfl | exact Or.inl rfl | assumption | exact nb1 (by assumption) | exact nb2 (by assumption) | exact nb3 (by assumption) | exact nb4 (by assumption) | decide | decide +kernel | (simp [*]; done))) ?_))
        refine Br.isF rfl ?_
        (cbv; (try simp only [nc] at *); (try refine Chk.mk (by (try simp only [nc, allc0, allc1, allcE, allcI, Cn.p, and_true, true_and, decide_eq_true_eq, imp_self, List.length_cons, List.length_nil]); all_goals ((repeat' (first | apply And.intro | intro _)) <;> first | omega | rfl | exact Or.inl rfl | assumption | exact nb1 (by assumption) | exact nb2 (by assumption) | exact nb3 (by assumption) | exact nb4 (by assumption) | decide | decide +kernel | (simp [*]; done))) ?_))
        refine Br.isF rfl ?_
        (cbv; (try simp only [nc] at *); (try refine Chk.mk (by (try simp only [nc, allc0, allc1, allcE, allcI, Cn.p, and_true, true_and, decide_eq_true_eq, imp_self, List.length_cons, List.length_nil]); all_goals ((repeat' (first | apply And.intro | intro _)) <;> first | omega | rfl | exact Or.inl rfl | assumption | exact nb1 (by assumption) | exact nb2 (by assumption) | exact nb3 (by assumption) | exact nb4 (by assumption) | decide | decide +kernel | (simp [*]; done))) ?_))
        refine ⟨j + 1, by omega, by omega, ?_⟩
        rw [hnx]
        simp only [Bool.false_eq_true, if_false, List.append_nil]
        have hs' := hs5 (runsTo b i ++ runsIn b i j) (nt Train default (table b i) j)
        cbv at hs'
        simp only [List.cons.injEq, and_true] at hs'
        obtain ⟨e0, e1, e2, e3, e4⟩ := hs'
        (refine To.of [] ?_; cbv; (try simp only [nc]); (repeat' (first | exact trivial | exact WkN.refl _ | exact WkB.refl _ | refine ⟨?_, ?_⟩ | refine WkB.cells ?_ | refine WkN.agg ?_ | refine WkN.tup ?_)); (all_goals (first | exact .int rfl | exact .int (by first | omega | (simp only [nc]; omega) | (simp; done)) | exact .bool rfl | exact .snoc hnt rfl rfl rfl | exact .snoc hnt rfl rfl (by simp only [encZone, encTrain, lst_nt hnt]; rfl) | exact lit_nt hnt _ _ _ _ rfl | exact take_nt hnt (by omega) | exact lstR_wk hnt | exact .tok rfl | exact .tok (by simp) | exact .lst hnt rfl | exact .gsl (by simp) | exact .empty rfl | exact .nilOwn (by decide) (by decide) rfl | exact .nilGar (by decide) (by decide) rfl | exact .gd (by first | assumption | decide | (simp [*]; done)) (.refl _) | skip)))
        all_goals first | (rw [e0]; exact WkB.refl _) | (rw [e1]; exact WkB.refl _) | (rw [e2]; exact WkB.refl _) | (rw [e3]; exact WkB.refl _) | (rw [e4]; exact WkB.refl _)
    · have hje : j = (table b i).length := by simp only [decide_eq_false_iff_not, Int.ofNat_lt] at hb; omega
      subst hje
      refine hQ _ _ _ ?_
      rw [← runsTo_succ]
      have hs' := hs (runsTo b (i + 1))
      cbv at hs'
      simp only [List.cons.injEq, and_true] at hs'
      obtain ⟨e0, e1, e2, e3, e4⟩ := hs'
      (cbv; (try simp only [nc] at *); (try refine Chk.mk (by (try simp only [nc, allc0, allc1, allcE, allcI, Cn.p, and_true, true_and, decide_eq_true_eq, imp_self, List.length_cons, List.length_nil]); all_goals ((repeat' (first | apply And.intro | intro _)) <;> first | omega | rfl | exact Or.inl rfl | assumption | exact nb1 (by assumption) | exact nb2 (by assumption) | exact nb3 (by assumption) | exact nb4 (by assumption) | decide | decide +kernel | (simp [*]; done))) ?_))
      refine ⟨i + 1, by omega, by omega, ?_⟩
      (refine To.of [] ?_; cbv; (try simp only [nc]); (repeat' (first | exact trivial | exact WkN.refl _ | exact WkB.refl _ | refine ⟨?_, ?_⟩ | refine WkB.cells ?_ | refine WkN.agg ?_ | refine WkN.tup ?_)); (all_goals (first | exact .int rfl | exact .int (by first | omega | (simp only [nc]; omega) | (simp; done)) | exact .bool rfl | exact .snoc hnt rfl rfl rfl | exact .snoc hnt rfl rfl (by simp only [encZone, encTrain, lst_nt hnt]; rfl) | exact lit_nt hnt _ _ _ _ rfl | exact take_nt hnt (by omega) | exact lstR_wk hnt | exact .tok rfl | exact .tok (by simp) | exact .lst hnt rfl | exact .gsl (by simp) | exact .empty rfl | exact .nilOwn (by decide) (by decide) rfl | exact .nilGar (by decide) (by decide) rfl | exact .gd (by first | assumption | decide | (simp [*]; done)) (.refl _) | skip)))
      all_goals first | (rw [e0]; exact WkB.refl _) | (rw [e1]; exact WkB.refl _) | (rw [e2]; exact WkB.refl _) | (rw [e3]; exact WkB.refl _) | (rw [e4]; exact WkB.refl _)
  · have hi' : i = (b.last + 1).toNat := by simp only [decide_eq_false_iff_not] at hb; omega
    subst hi'
    have hs' := hs (runsTo b (b.last + 1).toNat)
    cbv at hs'
    (cbv; (try simp only [nc] at *); (try refine Chk.mk (by (try simp only [nc, allc0, allc1, allcE, allcI, Cn.p, and_true, true_and, decide_eq_true_eq, imp_self, List.length_cons, List.length_nil]); all_goals ((repeat' (first | apply And.intro | intro _)) <;> first | omega | rfl | exact Or.inl rfl | assumption | exact nb1 (by assumption) | exact nb2 (by assumption) | exact nb3 (by assumption) | exact nb4 (by assumption) | decide | decide +kernel | (simp [*]; done))) ?_))
    exact hs'

def onE (x : Train × Int) : List AV := [islLit 1 [[.int .i64 fun _ => x.1.number], [.int .i64 fun _ => x.2]]]
theorem callsGo_len {zs : List Zone} {day : Int} {many : Nat} : ∀ (S : List Stop) (i : Nat) (now : Int), (callsGo zs day many i now S).length = S.length
  | [], _, _ => rfl
  | s :: r, i, now => by
    unfold callsGo
    split
    · simp only [List.length_cons, callsGo_len r]
    · simp only [List.length_cons, callsGo_len r]
theorem calls_len {zs : List Zone} {t : Train} {day : Int} : (calls zs t day).length = t.stops.length := callsGo_len _ _ _
def isOn (b : Book) (at_ : Int) (x : Train × Int) : Bool := bif decide (((calls b.zones x.1 x.2).getD 0 default).depart ≤ at_) then decide (at_ < ((calls b.zones x.1 x.2).getD ((calls b.zones x.1 x.2).length - 1) default).arrive) else false
def onL (b : Book) (at_ : Int) (l : List (Train × Int)) : List (Train × Int) := l.filter (isOn b at_)
theorem onL_snoc (b : Book) (at_ : Int) (l : List (Train × Int)) (x : Train × Int) : onL b at_ (l ++ [x]) = onL b at_ l ++ (if isOn b at_ x then [x] else []) := by
  unfold onL
  rw [List.filter_append]
  congr 1
  by_cases h : isOn b at_ x = true
  · simp [h]
  · simp [h]
def OnWay (b : Book) (at_ : Int) : List (Train × Int) × Int := if Check b ≠ 0 then ([], Check b) else if !inB at_ 0 43200 then ([], 1) else (onL b at_ (runsTo b (b.last + 1).toNat), 0)
theorem c38 (b : Book) (hb : BookFit b) (at_ : Int) : SC (fun _ => Try.prog) 38 [bookA b, .int .i64 fun _ => at_] [] fun v h => v = .tup [lst 1 onE default (OnWay b at_).1, .int .i64 fun _ => (OnWay b at_).2] ∧ h = [] := by
  obtain ⟨nt, hnt⟩ := nth_ex
  have k28 := c28 b hb
  have k67 := c67 at_ 0 43200
  have k86 := c86 b
  unfold OnWay
  generalize hCk : Check b = C at *
  refine SC.less (conX false false [] Try.func38 (body := bodyOf Try.f38) rfl (by decide +kernel) ?_)
  unfold bookA bookI at *
  (cbv; (try simp only [nc] at *); (try refine Chk.mk (by (try simp only [nc, allc0, allc1, allcE, allcI, Cn.p, and_true, true_and, decide_eq_true_eq, imp_self, List.length_cons, List.length_nil]); all_goals ((repeat' (first | apply And.intro | intro _)) <;> first | omega | rfl | exact Or.inl rfl | assumption | exact nb1 (by assumption) | exact nb2 (by assumption) | exact nb3 (by assumption) | exact nb4 (by assumption) | decide | decide +kernel | (simp [*]; done))) ?_))
  refine call0 (k28) (by first | rfl | (simp only [zoneA, bookA, lst_nt hnt]; rfl)) fun r h₂ hp => ?_
  (try simp only [zoneA, bookA, lst_nt hnt] at hp)
  obtain ⟨rfl, rfl⟩ := hp
  (cbv; (try simp only [nc] at *); (try refine Chk.mk (by (try simp only [nc, allc0, allc1, allcE, allcI, Cn.p, and_true, true_and, decide_eq_true_eq, imp_self, List.length_cons, List.length_nil]); all_goals ((repeat' (first | apply And.intro | intro _)) <;> first | omega | rfl | exact Or.inl rfl | assumption | exact nb1 (by assumption) | exact nb2 (by assumption) | exact nb3 (by assumption) | exact nb4 (by assumption) | decide | decide +kernel | (simp [*]; done))) ?_))
  refine ⟨fun hb => ?_, fun hb => ?_⟩
  · simp only [bne_iff_ne, ne_eq] at hb
    rw [if_pos hb]
    (cbv; (try simp only [nc] at *); (try refine Chk.mk (by (try simp only [nc, allc0, allc1, allcE, allcI, Cn.p, and_true, true_and, decide_eq_true_eq, imp_self, List.length_cons, List.length_nil]); all_goals ((repeat' (first | apply And.intro | intro _)) <;> first | omega | rfl | exact Or.inl rfl | assumption | exact nb1 (by assumption) | exact nb2 (by assumption) | exact nb3 (by assumption) | exact nb4 (by assumption) | decide | decide +kernel | (simp [*]; done))) ?_))
    refine ⟨_, [], ?_, rfl, rfl⟩
    (refine To.of [] ?_; cbv; (try simp only [nc]); (repeat' (first | exact trivial | exact WkN.refl _ | exact WkB.refl _ | refine ⟨?_, ?_⟩ | refine WkB.cells ?_ | refine WkN.agg ?_ | refine WkN.tup ?_)); (all_goals (first | exact .int rfl | exact .int (by first | omega | (simp only [nc]; omega) | (simp; done)) | exact .bool rfl | exact .snoc hnt rfl rfl rfl | exact .snoc hnt rfl rfl (by simp only [encZone, encTrain, lst_nt hnt]; rfl) | exact lit_nt hnt _ _ _ _ rfl | exact take_nt hnt (by omega) | exact lstR_wk hnt | exact .tok rfl | exact .tok (by simp) | exact .lst hnt rfl | exact .gsl (by simp) | exact .empty rfl | exact .nilOwn (by decide) (by decide) rfl | exact .nilGar (by decide) (by decide) rfl | exact .gd (by first | assumption | decide | (simp [*]; done)) (.refl _) | skip)))
  have hC : C = 0 := by simpa using hb
  have hok := book_ok (hCk.trans hC)
  rw [if_neg (fun h => h hC)]
  (cbv; (try simp only [nc] at *); (try refine Chk.mk (by (try simp only [nc, allc0, allc1, allcE, allcI, Cn.p, and_true, true_and, decide_eq_true_eq, imp_self, List.length_cons, List.length_nil]); all_goals ((repeat' (first | apply And.intro | intro _)) <;> first | omega | rfl | exact Or.inl rfl | assumption | exact nb1 (by assumption) | exact nb2 (by assumption) | exact nb3 (by assumption) | exact nb4 (by assumption) | decide | decide +kernel | (simp [*]; done))) ?_))
  refine call0 (k67) (by first | rfl | (simp only [zoneA, bookA, lst_nt hnt]; rfl)) fun r h₂ hp => ?_
  (try simp only [zoneA, bookA, lst_nt hnt] at hp)
  obtain ⟨rfl, rfl⟩ := hp
  (cbv; (try simp only [nc] at *); (try refine Chk.mk (by (try simp only [nc, allc0, allc1, allcE, allcI, Cn.p, and_true, true_and, decide_eq_true_eq, imp_self, List.length_cons, List.length_nil]); all_goals ((repeat' (first | apply And.intro | intro _)) <;> first | omega | rfl | exact Or.inl rfl | assumption | exact nb1 (by assumption) | exact nb2 (by assumption) | exact nb3 (by assumption) | exact nb4 (by assumption) | decide | decide +kernel | (simp [*]; done))) ?_))
  refine ⟨fun hb2 => ?_, fun hb2 => ?_⟩
  · rw [if_pos hb2]
    (cbv; (try simp only [nc] at *); (try refine Chk.mk (by (try simp only [nc, allc0, allc1, allcE, allcI, Cn.p, and_true, true_and, decide_eq_true_eq, imp_self, List.length_cons, List.length_nil]); all_goals ((repeat' (first | apply And.intro | intro _)) <;> first | omega | rfl | exact Or.inl rfl | assumption | exact nb1 (by assumption) | exact nb2 (by assumption) | exact nb3 (by assumption) | exact nb4 (by assumption) | decide | decide +kernel | (simp [*]; done))) ?_))
    refine ⟨_, [], ?_, rfl, rfl⟩
    (refine To.of [] ?_; cbv; (try simp only [nc]); (repeat' (first | exact trivial | exact WkN.refl _ | exact WkB.refl _ | refine ⟨?_, ?_⟩ | refine WkB.cells ?_ | refine WkN.agg ?_ | refine WkN.tup ?_)); (all_goals (first | exact .int rfl | exact .int (by first | omega | (simp only [nc]; omega) | (simp; done)) | exact .bool rfl | exact .snoc hnt rfl rfl rfl | exact .snoc hnt rfl rfl (by simp only [encZone, encTrain, lst_nt hnt]; rfl) | exact lit_nt hnt _ _ _ _ rfl | exact take_nt hnt (by omega) | exact lstR_wk hnt | exact .tok rfl | exact .tok (by simp) | exact .lst hnt rfl | exact .gsl (by simp) | exact .empty rfl | exact .nilOwn (by decide) (by decide) rfl | exact .nilGar (by decide) (by decide) rfl | exact .gd (by first | assumption | decide | (simp [*]; done)) (.refl _) | skip)))
  rw [if_neg (by rw [hb2]; exact Bool.false_ne_true)]
  (cbv; (try simp only [nc] at *); (try refine Chk.mk (by (try simp only [nc, allc0, allc1, allcE, allcI, Cn.p, and_true, true_and, decide_eq_true_eq, imp_self, List.length_cons, List.length_nil]); all_goals ((repeat' (first | apply And.intro | intro _)) <;> first | omega | rfl | exact Or.inl rfl | assumption | exact nb1 (by assumption) | exact nb2 (by assumption) | exact nb3 (by assumption) | exact nb4 (by assumption) | decide | decide +kernel | (simp [*]; done))) ?_))
  refine call0 (k86) (by first | rfl | (simp only [zoneA, bookA, lst_nt hnt]; rfl)) fun r h₂ hp => ?_
  (try simp only [zoneA, bookA, lst_nt hnt] at hp)
  obtain ⟨rfl, rfl⟩ := hp
  (cbv; (try simp only [nc] at *); (try refine Chk.mk (by (try simp only [nc, allc0, allc1, allcE, allcI, Cn.p, and_true, true_and, decide_eq_true_eq, imp_self, List.length_cons, List.length_nil]); all_goals ((repeat' (first | apply And.intro | intro _)) <;> first | omega | rfl | exact Or.inl rfl | assumption | exact nb1 (by assumption) | exact nb2 (by assumption) | exact nb3 (by assumption) | exact nb4 (by assumption) | decide | decide +kernel | (simp [*]; done))) ?_))
  refine rangeT [2, 3, 4, 5, 7, 20] [.tok 1 fun _ => 0] [(2, .cells [.isl 1 (fun _ => 0) (fun e => onE (nt (Train × Int) default [] (e ()))) (.own 3)])] (fid := 117) (first := []) ?_ rfl ?_ ?_
  · (refine To.of [(1,false)] ?_; cbv; (try simp only [nc]); (repeat' (first | exact trivial | exact WkN.refl _ | exact WkB.refl _ | refine ⟨?_, ?_⟩ | refine WkB.cells ?_ | refine WkN.agg ?_ | refine WkN.tup ?_)); (all_goals (first | exact .int rfl | exact .int (by first | omega | (simp only [nc]; omega) | (simp; done)) | exact .bool rfl | exact .snoc hnt rfl rfl rfl | exact .snoc hnt rfl rfl (by simp only [encZone, encTrain, lst_nt hnt]; rfl) | exact lit_nt hnt _ _ _ _ rfl | exact take_nt hnt (by omega) | exact lstR_wk hnt | exact .tok rfl | exact .tok (by simp) | exact .lst hnt rfl | exact .gsl (by simp) | exact .empty rfl | exact .nilOwn (by decide) (by decide) rfl | exact .nilGar (by decide) (by decide) rfl | exact .gd (by first | assumption | decide | (simp [*]; done)) (.refl _) | skip)))
  · exact allc_nil
  have k117 := fun s ps a x => c117_4 b (by have := hok.last; omega) hok s ps a x (fun _ => .cells (bookC b)) (fun _ => .cells [.int .i64 fun _ => at_]) (fun acc => .cells [.isl 1 (fun _ => ((onL b at_ acc).length : Int)) (fun e => onE (nt (Train × Int) default (onL b at_ acc) (e ()))) (.own 3)]) (fun acc => .tok 1 fun _ => ((onL b at_ acc).length : Int))
  unfold bookI bookC at k117
  simp only [lst_nt hnt] at k117
  simp only [lstR_nt hnt]
  refine SC.mono (k117 _ _ _ _ ?_ ?_ ?_) ?_
  · intro acc; cbv
  · intro acc t; cbv
  · intro acc t day ha hm hs hd
    have hlen : 2 ≤ (calls b.zones t day).length := by rw [calls_len]; exact (tabOk hok hm).len.1
    have hlen4 : (calls b.zones t day).length ≤ 4 := by rw [calls_len]; exact (tabOk hok hm).len.2
    have hon : isOn b at_ (t, day) = (bif decide ((nt Sp.Call default (calls b.zones t day) 0).depart ≤ at_) then decide (at_ < (nt Sp.Call default (calls b.zones t day) ((calls b.zones t day).length - 1)).arrive) else false) := by
      unfold isOn
      rw [hnt, hnt]
      have e : ((calls b.zones t day).length - 1 : Int).toNat = (calls b.zones t day).length - 1 := by omega
      rw [e]
      rfl
    simp only [onL_snoc, hon]
    generalize calls b.zones t day = C at *
    have hO : (onL b at_ acc).length ≤ 1000 := Nat.le_trans (List.length_filter_le _ _) ha
    generalize onL b at_ acc = O at *
    unfold runV
    simp only [lst_nt hnt]
    refine YC.less (yieldR false false [] rfl rfl ?_)
    (cbv; (try simp only [nc] at *); (try refine Chk.mk (by (try simp only [nc, allc0, allc1, allcE, allcI, Cn.p, and_true, true_and, decide_eq_true_eq, imp_self, List.length_cons, List.length_nil]); all_goals ((repeat' (first | apply And.intro | intro _)) <;> first | omega | rfl | exact Or.inl rfl | assumption | exact nb1 (by assumption) | exact nb2 (by assumption) | exact nb3 (by assumption) | exact nb4 (by assumption) | decide | decide +kernel | (simp [*]; done))) ?_))
    refine ⟨?_, ?_⟩
    · (cbv; (try simp only [nc] at *); (try refine Chk.mk (by (try simp only [nc, allc0, allc1, allcE, allcI, Cn.p, and_true, true_and, decide_eq_true_eq, imp_self, List.length_cons, List.length_nil]); all_goals ((repeat' (first | apply And.intro | intro _)) <;> first | omega | rfl | exact Or.inl rfl | assumption | exact nb1 (by assumption) | exact nb2 (by assumption) | exact nb3 (by assumption) | exact nb4 (by assumption) | decide | decide +kernel | (simp [*]; done))) ?_))
      refine ⟨fun hb3 => ?_, fun hb3 => ?_⟩
      · rw [hb3]
        (cbv; (try simp only [nc] at *); (try refine Chk.mk (by (try simp only [nc, allc0, allc1, allcE, allcI, Cn.p, and_true, true_and, decide_eq_true_eq, imp_self, List.length_cons, List.length_nil]); all_goals ((repeat' (first | apply And.intro | intro _)) <;> first | omega | rfl | exact Or.inl rfl | assumption | exact nb1 (by assumption) | exact nb2 (by assumption) | exact nb3 (by assumption) | exact nb4 (by assumption) | decide | decide +kernel | (simp [*]; done))) ?_))
        refine ⟨_, _, ?_, rfl, rfl⟩
        simp only [if_true, Bool.false_eq_true, if_false, List.append_nil]
        (refine To.of [] ?_; cbv; (try simp only [nc]); (repeat' (first | exact trivial | exact WkN.refl _ | exact WkB.refl _ | refine ⟨?_, ?_⟩ | refine WkB.cells ?_ | refine WkN.agg ?_ | refine WkN.tup ?_)); (all_goals (first | exact .int rfl | exact .int (by first | omega | (simp only [nc]; omega) | (simp; done)) | exact .bool rfl | exact .snoc hnt rfl rfl rfl | exact .snoc hnt rfl rfl (by simp only [encZone, encTrain, lst_nt hnt]; rfl) | exact lit_nt hnt _ _ _ _ rfl | exact take_nt hnt (by omega) | exact lstR_wk hnt | exact .tok rfl | exact .tok (by simp) | exact .lst hnt rfl | exact .gsl (by simp) | exact .empty rfl | exact .nilOwn (by decide) (by decide) rfl | exact .nilGar (by decide) (by decide) rfl | exact .gd (by first | assumption | decide | (simp [*]; done)) (.refl _) | skip)))
      · rw [hb3]
        (cbv; (try simp only [nc] at *); (try refine Chk.mk (by (try simp only [nc, allc0, allc1, allcE, allcI, Cn.p, and_true, true_and, decide_eq_true_eq, imp_self, List.length_cons, List.length_nil]); all_goals ((repeat' (first | apply And.intro | intro _)) <;> first | omega | rfl | exact Or.inl rfl | assumption | exact nb1 (by assumption) | exact nb2 (by assumption) | exact nb3 (by assumption) | exact nb4 (by assumption) | decide | decide +kernel | (simp [*]; done))) ?_))
        refine ⟨_, _, ?_, rfl, rfl⟩
        simp only [if_true, Bool.false_eq_true, if_false, List.append_nil]
        (refine To.of [] ?_; cbv; (try simp only [nc]); (repeat' (first | exact trivial | exact WkN.refl _ | exact WkB.refl _ | refine ⟨?_, ?_⟩ | refine WkB.cells ?_ | refine WkN.agg ?_ | refine WkN.tup ?_)); (all_goals (first | exact .int rfl | exact .int (by first | omega | (simp only [nc]; omega) | (simp; done)) | exact .bool rfl | exact .snoc hnt rfl rfl rfl | exact .snoc hnt rfl rfl (by simp only [encZone, encTrain, lst_nt hnt]; rfl) | exact lit_nt hnt _ _ _ _ rfl | exact take_nt hnt (by omega) | exact lstR_wk hnt | exact .tok rfl | exact .tok (by simp) | exact .lst hnt rfl | exact .gsl (by simp) | exact .empty rfl | exact .nilOwn (by decide) (by decide) rfl | exact .nilGar (by decide) (by decide) rfl | exact .gd (by first | assumption | decide | (simp [*]; done)) (.refl _) | skip)))
    · (cbv; (try simp only [nc] at *); (try refine Chk.mk (by (try simp only [nc, allc0, allc1, allcE, allcI, Cn.p, and_true, true_and, decide_eq_true_eq, imp_self, List.length_cons, List.length_nil]); all_goals ((repeat' (first | apply And.intro | intro _)) <;> first | omega | rfl | exact Or.inl rfl | assumption | exact nb1 (by assumption) | exact nb2 (by assumption) | exact nb3 (by assumption) | exact nb4 (by assumption) | decide | decide +kernel | (simp [*]; done))) ?_))
      refine ⟨fun hb3 => ?_, fun hb3 => ?_⟩
      · rw [hb3]
        (cbv; (try simp only [nc] at *); (try refine Chk.mk (by (try simp only [nc, allc0, allc1, allcE, allcI, Cn.p, and_true, true_and, decide_eq_true_eq, imp_self, List.length_cons, List.length_nil]); all_goals ((repeat' (first | apply And.intro | intro _)) <;> first | omega | rfl | exact Or.inl rfl | assumption | exact nb1 (by assumption) | exact nb2 (by assumption) | exact nb3 (by assumption) | exact nb4 (by assumption) | decide | decide +kernel | (simp [*]; done))) ?_))
        refine ⟨_, _, ?_, rfl, rfl⟩
        simp only [if_true, Bool.false_eq_true, if_false, List.append_nil]
        (refine To.of [] ?_; cbv; (try simp only [nc]); (repeat' (first | exact trivial | exact WkN.refl _ | exact WkB.refl _ | refine ⟨?_, ?_⟩ | refine WkB.cells ?_ | refine WkN.agg ?_ | refine WkN.tup ?_)); (all_goals (first | exact .int rfl | exact .int (by first | omega | (simp only [nc]; omega) | (simp; done)) | exact .bool rfl | exact .snoc hnt rfl rfl rfl | exact .snoc hnt rfl rfl (by simp only [encZone, encTrain, lst_nt hnt]; rfl) | exact lit_nt hnt _ _ _ _ rfl | exact take_nt hnt (by omega) | exact lstR_wk hnt | exact .tok rfl | exact .tok (by simp) | exact .lst hnt rfl | exact .gsl (by simp) | exact .empty rfl | exact .nilOwn (by decide) (by decide) rfl | exact .nilGar (by decide) (by decide) rfl | exact .gd (by first | assumption | decide | (simp [*]; done)) (.refl _) | skip)))
      · rw [hb3]
        (cbv; (try simp only [nc] at *); (try refine Chk.mk (by (try simp only [nc, allc0, allc1, allcE, allcI, Cn.p, and_true, true_and, decide_eq_true_eq, imp_self, List.length_cons, List.length_nil]); all_goals ((repeat' (first | apply And.intro | intro _)) <;> first | omega | rfl | exact Or.inl rfl | assumption | exact nb1 (by assumption) | exact nb2 (by assumption) | exact nb3 (by assumption) | exact nb4 (by assumption) | decide | decide +kernel | (simp [*]; done))) ?_))
        refine ⟨_, _, ?_, rfl, rfl⟩
        simp only [if_true, Bool.false_eq_true, if_false, List.append_nil]
        (refine To.of [] ?_; cbv; (try simp only [nc]); (repeat' (first | exact trivial | exact WkN.refl _ | exact WkB.refl _ | refine ⟨?_, ?_⟩ | refine WkB.cells ?_ | refine WkN.agg ?_ | refine WkN.tup ?_)); (all_goals (first | exact .int rfl | exact .int (by first | omega | (simp only [nc]; omega) | (simp; done)) | exact .bool rfl | exact .snoc hnt rfl rfl rfl | exact .snoc hnt rfl rfl (by simp only [encZone, encTrain, lst_nt hnt]; rfl) | exact lit_nt hnt _ _ _ _ rfl | exact take_nt hnt (by omega) | exact lstR_wk hnt | exact .tok rfl | exact .tok (by simp) | exact .lst hnt rfl | exact .gsl (by simp) | exact .empty rfl | exact .nilOwn (by decide) (by decide) rfl | exact .nilGar (by decide) (by decide) rfl | exact .gd (by first | assumption | decide | (simp [*]; done)) (.refl _) | skip)))
  · intro r h hh
    subst hh
    (cbv; (try simp only [nc] at *); (try refine Chk.mk (by (try simp only [nc, allc0, allc1, allcE, allcI, Cn.p, and_true, true_and, decide_eq_true_eq, imp_self, List.length_cons, List.length_nil]); all_goals ((repeat' (first | apply And.intro | intro _)) <;> first | omega | rfl | exact Or.inl rfl | assumption | exact nb1 (by assumption) | exact nb2 (by assumption) | exact nb3 (by assumption) | exact nb4 (by assumption) | decide | decide +kernel | (simp [*]; done))) ?_))
    refine ⟨.tup [lst 1 onE default (onL b at_ (runsTo b (b.last + 1).toNat)), .int .i64 fun _ => 0], [], ?_, rfl, rfl⟩
    simp only [lst_nt hnt]
    (refine To.of [] ?_; cbv; (try simp only [nc]); (repeat' (first | exact trivial | exact WkN.refl _ | exact WkB.refl _ | refine ⟨?_, ?_⟩ | refine WkB.cells ?_ | refine WkN.agg ?_ | refine WkN.tup ?_)); (all_goals (first | exact .int rfl | exact .int (by first | omega | (simp only [nc]; omega) | (simp; done)) | exact .bool rfl | exact .snoc hnt rfl rfl rfl | exact .snoc hnt rfl rfl (by simp only [encZone, encTrain, lst_nt hnt]; rfl) | exact lit_nt hnt _ _ _ _ rfl | exact take_nt hnt (by omega) | exact lstR_wk hnt | exact .tok rfl | exact .tok (by simp) | exact .lst hnt rfl | exact .gsl (by simp) | exact .empty rfl | exact .nilOwn (by decide) (by decide) rfl | exact .nilGar (by decide) (by decide) rfl | exact .gd (by first | assumption | decide | (simp [*]; done)) (.refl _) | skip)))
end Go.Proofs.Ytlcgliadpalgfaa.Vm
