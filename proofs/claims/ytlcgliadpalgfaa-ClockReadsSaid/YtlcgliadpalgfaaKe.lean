/- The statement ClockReads: a clock reads an hour at each instant of When, and at no other one near. -/
import Derived.Test.YtlcgliadpalgfaaKd
set_option linter.unusedSimpArgs false
set_option linter.unusedVariables false
namespace Go.Proofs.Ytlcgliadpalgfaa.Vm
open Go Go.Proofs Sp
set_option maxRecDepth 100000
set_option maxHeartbeats 1600000

theorem indexFrom_mem {n : Int} : ∀ (l : List Int) (i : Int), 0 ≤ i → (0 ≤ indexFrom (fun x => decide (x = n)) i l ↔ n ∈ l)
  | [], i, h => by simp [indexFrom]
  | a :: l, i, h => by
    simp only [indexFrom]
    by_cases e : a = n
    · rw [if_pos (by simpa using e)]
      simp [e, h]
    · rw [if_neg (by simpa using e), indexFrom_mem l (i + 1) (by omega)]
      simp [Ne.symm e]

theorem when_len : ∀ (l : List Pc) (r : Int), (when l r).length ≤ l.length
  | [], r => Nat.le_refl _
  | p :: l, r => by
    have := when_len l r
    simp only [when]
    split
    · simp; omega
    · simp; omega

theorem lit_nt {nt : (α : Type) → α → List α → Int → α} (hnt : ∀ (α : Type) (d : α) (l : List α) (i : Int), nt α d l i = l.getD i.toNat d) {α : Type} {n k sz : Nat} (enc : α → List AV) (d : α) (l : List α) (rows : List (List AV)) (hr : rows = l.map enc) :
    WkN n k (.isl sz (fun _ => (rows.length : Int)) (fun e => rows.getD (e ()).toNat (rows.headD [])) .exact) (.isl sz (fun _ => (l.length : Int)) (fun e => enc (nt α d l (e ()))) .none) := by
  subst hr
  refine .none (by simp) fun i hi => ?_
  have hi : i < l.length := by simpa using hi
  show (l.map enc).getD i _ = enc (nt α d l (i : Int))
  rw [hnt]
  simp [List.getD_eq_getElem?_getD, List.getElem?_eq_getElem hi]

theorem c8 (l : List Int) (hl : (l.length : Int) ≤ 9223372036854775807) : SC (fun _ => Try.prog) 8 [lst 1 encI 0 l] [] fun r h => r = .bool (fun _ => true) := by
  obtain ⟨nt, hnt⟩ := nth_ex
  refine conX false false [6] Try.func8 (body := bodyOf Try.f8) rfl (by decide +kernel) ?_
  (cbv; (try simp only [nc] at *); (try refine Chk.mk (by (try simp only [nc, allc0, allc1, allcE, allcI, Cn.p, and_true, true_and, decide_eq_true_eq, imp_self, List.length_cons, List.length_nil]); all_goals ((repeat' (first | apply And.intro | intro _)) <;> first | omega | rfl | exact Or.inl rfl | assumption | exact nb1 (by assumption) | exact nb2 (by assumption) | exact nb3 (by assumption) | exact nb4 (by assumption) | decide | decide +kernel | (simp [*]; done))) ?_))
  refine call0 (c14 l hl) rfl fun r h₂ hp => ?_
  obtain ⟨s, rfl, rfl⟩ := hp
  (cbv; (try simp only [nc] at *); (try refine Chk.mk (by (try simp only [nc, allc0, allc1, allcE, allcI, Cn.p, and_true, true_and, decide_eq_true_eq, imp_self, List.length_cons, List.length_nil]); all_goals ((repeat' (first | apply And.intro | intro _)) <;> first | omega | rfl | exact Or.inl rfl | assumption | exact nb1 (by assumption) | exact nb2 (by assumption) | exact nb3 (by assumption) | exact nb4 (by assumption) | decide | decide +kernel | (simp [*]; done))) ?_))
  refine callL [0] (c29 s 3 (by omega)) (by decide) (by simp) rfl rfl fun r h₂ hp => ?_
  obtain ⟨z, s1, hz, rfl, rfl⟩ := hp
  have hv := made_valid hz (by omega)
  have hbase := hz.base
  have haf := made_af hz (by omega)
  have hzl := (asc_of hv).2.2.1
  have hzat := fun i : Nat => fun hi => hz.at_ _ (nt_mem (d := default) hnt (l := z.chs) (i := i) hi)
  unfold zoneA
  rw [lst_nt hnt]
  (cbv; (try simp only [nc] at *); (try refine Chk.mk (by (try simp only [nc, allc0, allc1, allcE, allcI, Cn.p, and_true, true_and, decide_eq_true_eq, imp_self, List.length_cons, List.length_nil]); all_goals ((repeat' (first | apply And.intro | intro _)) <;> first | omega | rfl | exact Or.inl rfl | assumption | exact nb1 (by assumption) | exact nb2 (by assumption) | exact nb3 (by assumption) | exact nb4 (by assumption) | decide | decide +kernel | (simp [*]; done))) ?_))
  refine callL [0] (c17 s1 4000 (by omega)) (by decide) (by simp) rfl rfl fun r h₂ hp => ?_
  obtain ⟨a0, s2, ha0, rfl, rfl⟩ := hp
  (cbv; (try simp only [nc] at *); (try refine Chk.mk (by (try simp only [nc, allc0, allc1, allcE, allcI, Cn.p, and_true, true_and, decide_eq_true_eq, imp_self, List.length_cons, List.length_nil]); all_goals ((repeat' (first | apply And.intro | intro _)) <;> first | omega | rfl | exact Or.inl rfl | assumption | exact nb1 (by assumption) | exact nb2 (by assumption) | exact nb3 (by assumption) | exact nb4 (by assumption) | decide | decide +kernel | (simp [*]; done))) ?_))
  apply Br.join2 (P := fun (a s : Int) => 0 ≤ a ∧ a ≤ 6000)
  · intro hb M
    simp only [decide_eq_true_eq] at hb
    (cbv; (try simp only [nc] at *); (try refine Chk.mk (by (try simp only [nc, allc0, allc1, allcE, allcI, Cn.p, and_true, true_and, decide_eq_true_eq, imp_self, List.length_cons, List.length_nil]); all_goals ((repeat' (first | apply And.intro | intro _)) <;> first | omega | rfl | exact Or.inl rfl | assumption | exact nb1 (by assumption) | exact nb2 (by assumption) | exact nb3 (by assumption) | exact nb4 (by assumption) | decide | decide +kernel | (simp [*]; done))) ?_))
    refine callL [0] (c37 s2 2 3 (by omega)) (by decide) (by simp) rfl rfl fun r h₂ hp => ?_
    obtain ⟨b, s3, rfl, rfl⟩ := hp
    (cbv; (try simp only [nc] at *); (try refine Chk.mk (by (try simp only [nc, allc0, allc1, allcE, allcI, Cn.p, and_true, true_and, decide_eq_true_eq, imp_self, List.length_cons, List.length_nil]); all_goals ((repeat' (first | apply And.intro | intro _)) <;> first | omega | rfl | exact Or.inl rfl | assumption | exact nb1 (by assumption) | exact nb2 (by assumption) | exact nb3 (by assumption) | exact nb4 (by assumption) | decide | decide +kernel | (simp [*]; done))) ?_))
    refine cutD false false [] 50 [4, 5] (fun (⟨a, s⟩ : Int × Int) => [(5, .int .i64 fun _ => a)]) (fun ⟨a, s⟩ => [(0, bagB s)]) (fun ⟨a, s⟩ => 0 ≤ a ∧ a ≤ 6000) (fun _ _ h => h) (by decide) ?_ ?_
    · (cbv; (try simp only [nc] at *); (try refine Chk.mk (by (try simp only [nc, allc0, allc1, allcE, allcI, Cn.p, and_true, true_and, decide_eq_true_eq, imp_self, List.length_cons, List.length_nil]); all_goals ((repeat' (first | apply And.intro | intro _)) <;> first | omega | rfl | exact Or.inl rfl | assumption | exact nb1 (by assumption) | exact nb2 (by assumption) | exact nb3 (by assumption) | exact nb4 (by assumption) | decide | decide +kernel | (simp [*]; done))) ?_))
      refine ⟨fun hb' => ?_, fun hb' => ?_⟩
      · (cbv; (try simp only [nc] at *); (try refine Chk.mk (by (try simp only [nc, allc0, allc1, allcE, allcI, Cn.p, and_true, true_and, decide_eq_true_eq, imp_self, List.length_cons, List.length_nil]); all_goals ((repeat' (first | apply And.intro | intro _)) <;> first | omega | rfl | exact Or.inl rfl | assumption | exact nb1 (by assumption) | exact nb2 (by assumption) | exact nb3 (by assumption) | exact nb4 (by assumption) | decide | decide +kernel | (simp [*]; done))) ?_))
        refine callL [0] (c17 s3 ((z.chs.length : Int) - 1) (by omega)) (by decide) (by simp) rfl rfl fun r h₂ hp => ?_
        obtain ⟨i, s4, hi, rfl, rfl⟩ := hp
        obtain ⟨i, rfl⟩ : ∃ k : Nat, i = k := ⟨i.toNat, by omega⟩
        have hat := hzat i (by omega)
        (cbv; (try simp only [nc] at *); (try refine Chk.mk (by (try simp only [nc, allc0, allc1, allcE, allcI, Cn.p, and_true, true_and, decide_eq_true_eq, imp_self, List.length_cons, List.length_nil]); all_goals ((repeat' (first | apply And.intro | intro _)) <;> first | omega | rfl | exact Or.inl rfl | assumption | exact nb1 (by assumption) | exact nb2 (by assumption) | exact nb3 (by assumption) | exact nb4 (by assumption) | decide | decide +kernel | (simp [*]; done))) ?_))
        refine callL [0] (c22 s4 (-90) 90 (by omega) (by omega)) (by decide) (by simp) rfl rfl fun r h₂ hp => ?_
        obtain ⟨x, s5, hx, rfl, rfl⟩ := hp
        (cbv; (try simp only [nc] at *); (try refine Chk.mk (by (try simp only [nc, allc0, allc1, allcE, allcI, Cn.p, and_true, true_and, decide_eq_true_eq, imp_self, List.length_cons, List.length_nil]); all_goals ((repeat' (first | apply And.intro | intro _)) <;> first | omega | rfl | exact Or.inl rfl | assumption | exact nb1 (by assumption) | exact nb2 (by assumption) | exact nb3 (by assumption) | exact nb4 (by assumption) | decide | decide +kernel | (simp [*]; done))) ?_))
        have hy : 0 ≤ (if 0 < (nt Chg default z.chs i).at_ + x then (nt Chg default z.chs i).at_ + x else 0) ∧ (if 0 < (nt Chg default z.chs i).at_ + x then (nt Chg default z.chs i).at_ + x else 0) ≤ 6000 := by split <;> omega
        generalize (if 0 < (nt Chg default z.chs i).at_ + x then (nt Chg default z.chs i).at_ + x else 0) = y at *
        refine ⟨(y, s5), hy, ?_⟩
        (refine To.of [] ?_; cbv; (try simp only [nc]); (repeat' (first | exact trivial | exact WkN.refl _ | exact WkB.refl _ | refine ⟨?_, ?_⟩ | refine WkB.cells ?_ | refine WkN.agg ?_ | refine WkN.tup ?_)); (all_goals (first | exact .int rfl | exact .int (by first | omega | (simp only [nc]; omega) | (simp; done)) | exact .bool rfl | exact .snoc hnt rfl rfl rfl | exact lit_nt hnt _ _ _ _ rfl | exact .tok rfl | exact .tok (by simp) | exact .lst hnt rfl | exact .gsl (by simp) | exact .empty rfl | exact .nilOwn (by decide) (by decide) rfl | exact .nilGar (by decide) (by decide) rfl | exact .gd (by first | assumption | decide | (simp [*]; done)) (.refl _) | skip)))
      · (cbv; (try simp only [nc] at *); (try refine Chk.mk (by (try simp only [nc, allc0, allc1, allcE, allcI, Cn.p, and_true, true_and, decide_eq_true_eq, imp_self, List.length_cons, List.length_nil]); all_goals ((repeat' (first | apply And.intro | intro _)) <;> first | omega | rfl | exact Or.inl rfl | assumption | exact nb1 (by assumption) | exact nb2 (by assumption) | exact nb3 (by assumption) | exact nb4 (by assumption) | decide | decide +kernel | (simp [*]; done))) ?_))
        refine ⟨(a0, s3), by dsimp only; omega, ?_⟩
        (refine To.of [] ?_; cbv; (try simp only [nc]); (repeat' (first | exact trivial | exact WkN.refl _ | exact WkB.refl _ | refine ⟨?_, ?_⟩ | refine WkB.cells ?_ | refine WkN.agg ?_ | refine WkN.tup ?_)); (all_goals (first | exact .int rfl | exact .int (by first | omega | (simp only [nc]; omega) | (simp; done)) | exact .bool rfl | exact .snoc hnt rfl rfl rfl | exact lit_nt hnt _ _ _ _ rfl | exact .tok rfl | exact .tok (by simp) | exact .lst hnt rfl | exact .gsl (by simp) | exact .empty rfl | exact .nilOwn (by decide) (by decide) rfl | exact .nilGar (by decide) (by decide) rfl | exact .gd (by first | assumption | decide | (simp [*]; done)) (.refl _) | skip)))
    · rintro ⟨a, s⟩ ha
      cbv
      exact M a s ha
  · intro hb M
    (cbv; (try simp only [nc] at *); (try refine Chk.mk (by (try simp only [nc, allc0, allc1, allcE, allcI, Cn.p, and_true, true_and, decide_eq_true_eq, imp_self, List.length_cons, List.length_nil]); all_goals ((repeat' (first | apply And.intro | intro _)) <;> first | omega | rfl | exact Or.inl rfl | assumption | exact nb1 (by assumption) | exact nb2 (by assumption) | exact nb3 (by assumption) | exact nb4 (by assumption) | decide | decide +kernel | (simp [*]; done))) ?_))
    refine cutD false false [] 50 [4, 5] (fun (⟨a, s⟩ : Int × Int) => [(5, .int .i64 fun _ => a)]) (fun ⟨a, s⟩ => [(0, bagB s)]) (fun ⟨a, s⟩ => 0 ≤ a ∧ a ≤ 6000) (fun _ _ h => h) (by decide) ?_ ?_
    · (cbv; (try simp only [nc] at *); (try refine Chk.mk (by (try simp only [nc, allc0, allc1, allcE, allcI, Cn.p, and_true, true_and, decide_eq_true_eq, imp_self, List.length_cons, List.length_nil]); all_goals ((repeat' (first | apply And.intro | intro _)) <;> first | omega | rfl | exact Or.inl rfl | assumption | exact nb1 (by assumption) | exact nb2 (by assumption) | exact nb3 (by assumption) | exact nb4 (by assumption) | decide | decide +kernel | (simp [*]; done))) ?_))
      refine Br.isF rfl ?_
      (cbv; (try simp only [nc] at *); (try refine Chk.mk (by (try simp only [nc, allc0, allc1, allcE, allcI, Cn.p, and_true, true_and, decide_eq_true_eq, imp_self, List.length_cons, List.length_nil]); all_goals ((repeat' (first | apply And.intro | intro _)) <;> first | omega | rfl | exact Or.inl rfl | assumption | exact nb1 (by assumption) | exact nb2 (by assumption) | exact nb3 (by assumption) | exact nb4 (by assumption) | decide | decide +kernel | (simp [*]; done))) ?_))
      refine ⟨(a0, s2), by dsimp only; omega, ?_⟩
      (refine To.of [] ?_; cbv; (try simp only [nc]); (repeat' (first | exact trivial | exact WkN.refl _ | exact WkB.refl _ | refine ⟨?_, ?_⟩ | refine WkB.cells ?_ | refine WkN.agg ?_ | refine WkN.tup ?_)); (all_goals (first | exact .int rfl | exact .int (by first | omega | (simp only [nc]; omega) | (simp; done)) | exact .bool rfl | exact .snoc hnt rfl rfl rfl | exact lit_nt hnt _ _ _ _ rfl | exact .tok rfl | exact .tok (by simp) | exact .lst hnt rfl | exact .gsl (by simp) | exact .empty rfl | exact .nilOwn (by decide) (by decide) rfl | exact .nilGar (by decide) (by decide) rfl | exact .gd (by first | assumption | decide | (simp [*]; done)) (.refl _) | skip)))
    · rintro ⟨a, s⟩ ha
      cbv
      exact M a s ha
  · intro a s ha
    have hal := ahead_eq hv (t := a) ha.1
    have hA := haf a
    refine call0 (c42 z a hv (by omega) (by omega)) (by first | rfl | (simp only [zoneA, lst_nt hnt]; rfl)) fun r h₂ hp => ?_
    (try simp only [zoneA, lst_nt hnt] at hp)
    obtain ⟨rfl, rfl⟩ := hp
    rw [hal]
    generalize hAd : af z.base z.chs a = A at *
    (cbv; (try simp only [nc] at *); (try refine Chk.mk (by (try simp only [nc, allc0, allc1, allcE, allcI, Cn.p, and_true, true_and, decide_eq_true_eq, imp_self, List.length_cons, List.length_nil]); all_goals ((repeat' (first | apply And.intro | intro _)) <;> first | omega | rfl | exact Or.inl rfl | assumption | exact nb1 (by assumption) | exact nb2 (by assumption) | exact nb3 (by assumption) | exact nb4 (by assumption) | decide | decide +kernel | (simp [*]; done))) ?_))
    refine Br.isF rfl ?_
    (cbv; (try simp only [nc] at *); (try refine Chk.mk (by (try simp only [nc, allc0, allc1, allcE, allcI, Cn.p, and_true, true_and, decide_eq_true_eq, imp_self, List.length_cons, List.length_nil]); all_goals ((repeat' (first | apply And.intro | intro _)) <;> first | omega | rfl | exact Or.inl rfl | assumption | exact nb1 (by assumption) | exact nb2 (by assumption) | exact nb3 (by assumption) | exact nb4 (by assumption) | decide | decide +kernel | (simp [*]; done))) ?_))
    refine call0 (c43 (a + A) (by omega) (by omega)) (by first | rfl | (simp only [zoneA, lst_nt hnt]; rfl)) fun r h₂ hp => ?_
    (try simp only [zoneA, lst_nt hnt] at hp)
    obtain ⟨rfl, rfl⟩ := hp
    (cbv; (try simp only [nc] at *); (try refine Chk.mk (by (try simp only [nc, allc0, allc1, allcE, allcI, Cn.p, and_true, true_and, decide_eq_true_eq, imp_self, List.length_cons, List.length_nil]); all_goals ((repeat' (first | apply And.intro | intro _)) <;> first | omega | rfl | exact Or.inl rfl | assumption | exact nb1 (by assumption) | exact nb2 (by assumption) | exact nb3 (by assumption) | exact nb4 (by assumption) | decide | decide +kernel | (simp [*]; done))) ?_))
    have hW := When_eq hv (d := (a + A + 1440) / 1440 - 1) (m := (a + A + 1440) % 1440) (by omega) (by omega)
    have h44 := c44 z ((a + A + 1440) / 1440 - 1) ((a + A + 1440) % 1440) (by omega)
    rw [hW, show 1440 * ((a + A + 1440) / 1440 - 1) + (a + A + 1440) % 1440 = a + A by omega] at h44
    have hmem := fun t => when_eq hv (r := a + A) (t := t)
    have hasc := when_asc' hv (a + A)
    have hlen : (when (pieces z) (a + A)).length ≤ 101 := by have := when_len (pieces z) (a + A); have := pieces_small (small_of hv); omega
    generalize when (pieces z) (a + A) = w at *
    refine call0 (h44) (by first | rfl | (simp only [zoneA, lst_nt hnt]; rfl)) fun r h₂ hp => ?_
    (try simp only [zoneA, lst_nt hnt] at hp)
    obtain ⟨rfl, rfl⟩ := hp
    have hin : a ∈ w := (hmem a).2 ⟨ha.1, by unfold openT; omega, by rw [hAd]⟩
    have hwz : ∀ t ∈ w, 0 ≤ t ∧ t ≤ 43200 := fun t ht => by have := (hmem t).1 ht; have := haf t; omega
    have hseat := fun t => indexFrom_mem (n := t) w 0 (by omega)
    (cbv; (try simp only [nc] at *); (try refine Chk.mk (by (try simp only [nc, allc0, allc1, allcE, allcI, Cn.p, and_true, true_and, decide_eq_true_eq, imp_self, List.length_cons, List.length_nil]); all_goals ((repeat' (first | apply And.intro | intro _)) <;> first | omega | rfl | exact Or.inl rfl | assumption | exact nb1 (by assumption) | exact nb2 (by assumption) | exact nb3 (by assumption) | exact nb4 (by assumption) | decide | decide +kernel | (simp [*]; done))) ?_))
    refine Br.isT (by decide) ?_
    (cbv; (try simp only [nc] at *); (try refine Chk.mk (by (try simp only [nc, allc0, allc1, allcE, allcI, Cn.p, and_true, true_and, decide_eq_true_eq, imp_self, List.length_cons, List.length_nil]); all_goals ((repeat' (first | apply And.intro | intro _)) <;> first | omega | rfl | exact Or.inl rfl | assumption | exact nb1 (by assumption) | exact nb2 (by assumption) | exact nb3 (by assumption) | exact nb4 (by assumption) | decide | decide +kernel | (simp [*]; done))) ?_))
    refine call0 (c45 w a (by omega)) (by first | rfl | (simp only [zoneA, lst_nt hnt]; rfl)) fun r h₂ hp => ?_
    (try simp only [zoneA, lst_nt hnt] at hp)
    obtain ⟨rfl, rfl⟩ := hp
    have hix := (hseat a).2 hin
    (cbv; (try simp only [nc] at *); (try refine Chk.mk (by (try simp only [nc, allc0, allc1, allcE, allcI, Cn.p, and_true, true_and, decide_eq_true_eq, imp_self, List.length_cons, List.length_nil]); all_goals ((repeat' (first | apply And.intro | intro _)) <;> first | omega | rfl | exact Or.inl rfl | assumption | exact nb1 (by assumption) | exact nb2 (by assumption) | exact nb3 (by assumption) | exact nb4 (by assumption) | decide | decide +kernel | (simp [*]; done))) ?_))
    refine Br.isF (by rw [decide_eq_false (by omega)]; rfl) ?_
    (cbv; (try simp only [nc] at *); (try refine Chk.mk (by (try simp only [nc, allc0, allc1, allcE, allcI, Cn.p, and_true, true_and, decide_eq_true_eq, imp_self, List.length_cons, List.length_nil]); all_goals ((repeat' (first | apply And.intro | intro _)) <;> first | omega | rfl | exact Or.inl rfl | assumption | exact nb1 (by assumption) | exact nb2 (by assumption) | exact nb3 (by assumption) | exact nb4 (by assumption) | decide | decide +kernel | (simp [*]; done))) ?_))
    have hk0 : 0 ≤ (if 0 < a - 100 then a - 100 else 0) ∧ (if 0 < a - 100 then a - 100 else 0) ≤ 7000 := by split <;> omega
    generalize (if 0 < a - 100 then a - 100 else 0) = k0 at *
    refine loopS false false [] [4, 5, 6, 8, 9, 10, 12] [] (fun (k : Int) => [(12, .int .i64 fun _ => k)]) (fun _ => []) (fun k => 0 ≤ k ∧ k ≤ 7000) (fun k => (7000 - k).toNat + 0) k0 hk0 ?_ ?_
    · (refine To.of [] ?_; cbv; (try simp only [nc]); (repeat' (first | exact trivial | exact WkN.refl _ | exact WkB.refl _ | refine ⟨?_, ?_⟩ | refine WkB.cells ?_ | refine WkN.agg ?_ | refine WkN.tup ?_)); (all_goals (first | exact .int rfl | exact .int (by first | omega | (simp only [nc]; omega) | (simp; done)) | exact .bool rfl | exact .snoc hnt rfl rfl rfl | exact lit_nt hnt _ _ _ _ rfl | exact .tok rfl | exact .tok (by simp) | exact .lst hnt rfl | exact .gsl (by simp) | exact .empty rfl | exact .nilOwn (by decide) (by decide) rfl | exact .nilGar (by decide) (by decide) rfl | exact .gd (by first | assumption | decide | (simp [*]; done)) (.refl _) | skip)))
    intro k hk
    (cbv; (try simp only [nc] at *); (try refine Chk.mk (by (try simp only [nc, allc0, allc1, allcE, allcI, Cn.p, and_true, true_and, decide_eq_true_eq, imp_self, List.length_cons, List.length_nil]); all_goals ((repeat' (first | apply And.intro | intro _)) <;> first | omega | rfl | exact Or.inl rfl | assumption | exact nb1 (by assumption) | exact nb2 (by assumption) | exact nb3 (by assumption) | exact nb4 (by assumption) | decide | decide +kernel | (simp [*]; done))) ?_))
    refine ⟨fun hb => ?_, fun hb => ?_⟩
    · simp only [decide_eq_true_eq] at hb
      have hak := ahead_eq hv (t := k) hk.1
      have hK := haf k
      (cbv; (try simp only [nc] at *); (try refine Chk.mk (by (try simp only [nc, allc0, allc1, allcE, allcI, Cn.p, and_true, true_and, decide_eq_true_eq, imp_self, List.length_cons, List.length_nil]); all_goals ((repeat' (first | apply And.intro | intro _)) <;> first | omega | rfl | exact Or.inl rfl | assumption | exact nb1 (by assumption) | exact nb2 (by assumption) | exact nb3 (by assumption) | exact nb4 (by assumption) | decide | decide +kernel | (simp [*]; done))) ?_))
      refine call0 (c42 z k hv (by omega) (by omega)) (by first | rfl | (simp only [zoneA, lst_nt hnt]; rfl)) fun r h₂ hp => ?_
      (try simp only [zoneA, lst_nt hnt] at hp)
      obtain ⟨rfl, rfl⟩ := hp
      rw [hak]
      have hmk := hmem k
      generalize af z.base z.chs k = B at *
      (cbv; (try simp only [nc] at *); (try refine Chk.mk (by (try simp only [nc, allc0, allc1, allcE, allcI, Cn.p, and_true, true_and, decide_eq_true_eq, imp_self, List.length_cons, List.length_nil]); all_goals ((repeat' (first | apply And.intro | intro _)) <;> first | omega | rfl | exact Or.inl rfl | assumption | exact nb1 (by assumption) | exact nb2 (by assumption) | exact nb3 (by assumption) | exact nb4 (by assumption) | decide | decide +kernel | (simp [*]; done))) ?_))
      refine Br.isT (by decide) ?_
      (cbv; (try simp only [nc] at *); (try refine Chk.mk (by (try simp only [nc, allc0, allc1, allcE, allcI, Cn.p, and_true, true_and, decide_eq_true_eq, imp_self, List.length_cons, List.length_nil]); all_goals ((repeat' (first | apply And.intro | intro _)) <;> first | omega | rfl | exact Or.inl rfl | assumption | exact nb1 (by assumption) | exact nb2 (by assumption) | exact nb3 (by assumption) | exact nb4 (by assumption) | decide | decide +kernel | (simp [*]; done))) ?_))
      refine call0 (c45 w k (by omega)) (by first | rfl | (simp only [zoneA, lst_nt hnt]; rfl)) fun r h₂ hp => ?_
      (try simp only [zoneA, lst_nt hnt] at hp)
      obtain ⟨rfl, rfl⟩ := hp
      (cbv; (try simp only [nc] at *); (try refine Chk.mk (by (try simp only [nc, allc0, allc1, allcE, allcI, Cn.p, and_true, true_and, decide_eq_true_eq, imp_self, List.length_cons, List.length_nil]); all_goals ((repeat' (first | apply And.intro | intro _)) <;> first | omega | rfl | exact Or.inl rfl | assumption | exact nb1 (by assumption) | exact nb2 (by assumption) | exact nb3 (by assumption) | exact nb4 (by assumption) | decide | decide +kernel | (simp [*]; done))) ?_))
      refine Br.isF ?_ ?_
      · have e : (k + B = a + A) ↔ 0 ≤ indexFrom (fun x => decide (x = k)) 0 w := by
          rw [hseat k, hmk]
          unfold openT
          omega
        by_cases he : k + B = a + A
        · simp [he, e.1 he]
        · have he' := fun h => he (e.2 h)
          have e1 : (k + B == a + A) = false := by simpa using he
          rw [e1, decide_eq_false he']
          rfl
      · (cbv; (try simp only [nc] at *); (try refine Chk.mk (by (try simp only [nc, allc0, allc1, allcE, allcI, Cn.p, and_true, true_and, decide_eq_true_eq, imp_self, List.length_cons, List.length_nil]); all_goals ((repeat' (first | apply And.intro | intro _)) <;> first | omega | rfl | exact Or.inl rfl | assumption | exact nb1 (by assumption) | exact nb2 (by assumption) | exact nb3 (by assumption) | exact nb4 (by assumption) | decide | decide +kernel | (simp [*]; done))) ?_))
        refine ⟨k + 1, by omega, by show (7000 - (k + 1)).toNat + 0 < (7000 - k).toNat + 0; omega, ?_⟩
        (refine To.of [] ?_; cbv; (try simp only [nc]); (repeat' (first | exact trivial | exact WkN.refl _ | exact WkB.refl _ | refine ⟨?_, ?_⟩ | refine WkB.cells ?_ | refine WkN.agg ?_ | refine WkN.tup ?_)); (all_goals (first | exact .int rfl | exact .int (by first | omega | (simp only [nc]; omega) | (simp; done)) | exact .bool rfl | exact .snoc hnt rfl rfl rfl | exact lit_nt hnt _ _ _ _ rfl | exact .tok rfl | exact .tok (by simp) | exact .lst hnt rfl | exact .gsl (by simp) | exact .empty rfl | exact .nilOwn (by decide) (by decide) rfl | exact .nilGar (by decide) (by decide) rfl | exact .gd (by first | assumption | decide | (simp [*]; done)) (.refl _) | skip)))
    (cbv; (try simp only [nc] at *); (try refine Chk.mk (by (try simp only [nc, allc0, allc1, allcE, allcI, Cn.p, and_true, true_and, decide_eq_true_eq, imp_self, List.length_cons, List.length_nil]); all_goals ((repeat' (first | apply And.intro | intro _)) <;> first | omega | rfl | exact Or.inl rfl | assumption | exact nb1 (by assumption) | exact nb2 (by assumption) | exact nb3 (by assumption) | exact nb4 (by assumption) | decide | decide +kernel | (simp [*]; done))) ?_))
    refine loopS false false [] [4, 6, 8, 9, 10, 15] [] (fun (i : Nat) => [(15, .int .i64 fun _ => i)]) (fun _ => []) (fun i => i ≤ w.length) (fun i => w.length - i + 0) 0 (Nat.zero_le _) ?_ ?_
    · (refine To.of [] ?_; cbv; (try simp only [nc]); (repeat' (first | exact trivial | exact WkN.refl _ | exact WkB.refl _ | refine ⟨?_, ?_⟩ | refine WkB.cells ?_ | refine WkN.agg ?_ | refine WkN.tup ?_)); (all_goals (first | exact .int rfl | exact .int (by first | omega | (simp only [nc]; omega) | (simp; done)) | exact .bool rfl | exact .snoc hnt rfl rfl rfl | exact lit_nt hnt _ _ _ _ rfl | exact .tok rfl | exact .tok (by simp) | exact .lst hnt rfl | exact .gsl (by simp) | exact .empty rfl | exact .nilOwn (by decide) (by decide) rfl | exact .nilGar (by decide) (by decide) rfl | exact .gd (by first | assumption | decide | (simp [*]; done)) (.refl _) | skip)))
    intro i hi
    (cbv; (try simp only [nc] at *); (try refine Chk.mk (by (try simp only [nc, allc0, allc1, allcE, allcI, Cn.p, and_true, true_and, decide_eq_true_eq, imp_self, List.length_cons, List.length_nil]); all_goals ((repeat' (first | apply And.intro | intro _)) <;> first | omega | rfl | exact Or.inl rfl | assumption | exact nb1 (by assumption) | exact nb2 (by assumption) | exact nb3 (by assumption) | exact nb4 (by assumption) | decide | decide +kernel | (simp [*]; done))) ?_))
    refine ⟨fun hb => ?_, fun hb => ?_⟩
    · simp only [decide_eq_true_eq] at hb
      have hiw := nt_mem (d := (0 : Int)) hnt (l := w) (i := i) (by omega)
      have hwi := hwz _ hiw
      have hmi := (hmem _).1 hiw
      have hlt : i = 0 ∨ nt Int 0 w ((i : Int) - 1) < nt Int 0 w i := by
        rcases Nat.eq_zero_or_pos i with h0 | h0
        · exact .inl h0
        · right
          rw [hnt, hnt, List.getD_eq_getElem?_getD, List.getD_eq_getElem?_getD, List.getElem?_eq_getElem (by omega), List.getElem?_eq_getElem (by omega)]
          exact List.pairwise_iff_getElem.1 hasc _ _ (by omega) (by omega) (by omega)
      (cbv; (try simp only [nc] at *); (try refine Chk.mk (by (try simp only [nc, allc0, allc1, allcE, allcI, Cn.p, and_true, true_and, decide_eq_true_eq, imp_self, List.length_cons, List.length_nil]); all_goals ((repeat' (first | apply And.intro | intro _)) <;> first | omega | rfl | exact Or.inl rfl | assumption | exact nb1 (by assumption) | exact nb2 (by assumption) | exact nb3 (by assumption) | exact nb4 (by assumption) | decide | decide +kernel | (simp [*]; done))) ?_))
      have hak := ahead_eq hv (t := nt Int 0 w i) hwi.1
      have hK := haf (nt Int 0 w i)
      refine call0 (c42 z (nt Int 0 w i) hv (by omega) (by omega)) (by first | rfl | (simp only [zoneA, lst_nt hnt]; rfl)) fun r h₂ hp => ?_
      (try simp only [zoneA, lst_nt hnt] at hp)
      obtain ⟨rfl, rfl⟩ := hp
      rw [hak]
      generalize af z.base z.chs (nt Int 0 w i) = B at *
      (cbv; (try simp only [nc] at *); (try refine Chk.mk (by (try simp only [nc, allc0, allc1, allcE, allcI, Cn.p, and_true, true_and, decide_eq_true_eq, imp_self, List.length_cons, List.length_nil]); all_goals ((repeat' (first | apply And.intro | intro _)) <;> first | omega | rfl | exact Or.inl rfl | assumption | exact nb1 (by assumption) | exact nb2 (by assumption) | exact nb3 (by assumption) | exact nb4 (by assumption) | decide | decide +kernel | (simp [*]; done))) ?_))
      refine Br.isF ?_ ?_
      · have q1 : decide (nt Int 0 w i < 0) = false := decide_eq_false (by omega)
        have q2 : decide (43200 < nt Int 0 w i) = false := decide_eq_false (by omega)
        have q3 : (nt Int 0 w i + B != a + A) = false := by simp; omega
        have q4 : (bif decide (0 < (i : Int)) then decide (nt Int 0 w i ≤ nt Int 0 w ((i : Int) - 1)) else false) = false := by
          rcases hlt with h0 | h0
          · subst h0; rfl
          · rw [decide_eq_false (show ¬ nt Int 0 w i ≤ nt Int 0 w ((i : Int) - 1) by omega)]
            cases decide (0 < (i : Int)) <;> rfl
        rw [q4, q1, q2, q3]
        rfl
      · (cbv; (try simp only [nc] at *); (try refine Chk.mk (by (try simp only [nc, allc0, allc1, allcE, allcI, Cn.p, and_true, true_and, decide_eq_true_eq, imp_self, List.length_cons, List.length_nil]); all_goals ((repeat' (first | apply And.intro | intro _)) <;> first | omega | rfl | exact Or.inl rfl | assumption | exact nb1 (by assumption) | exact nb2 (by assumption) | exact nb3 (by assumption) | exact nb4 (by assumption) | decide | decide +kernel | (simp [*]; done))) ?_))
        refine ⟨i + 1, by omega, by show w.length - (i + 1) + 0 < w.length - i + 0; omega, ?_⟩
        (refine To.of [] ?_; cbv; (try simp only [nc]); (repeat' (first | exact trivial | exact WkN.refl _ | exact WkB.refl _ | refine ⟨?_, ?_⟩ | refine WkB.cells ?_ | refine WkN.agg ?_ | refine WkN.tup ?_)); (all_goals (first | exact .int rfl | exact .int (by first | omega | (simp only [nc]; omega) | (simp; done)) | exact .bool rfl | exact .snoc hnt rfl rfl rfl | exact lit_nt hnt _ _ _ _ rfl | exact .tok rfl | exact .tok (by simp) | exact .lst hnt rfl | exact .gsl (by simp) | exact .empty rfl | exact .nilOwn (by decide) (by decide) rfl | exact .nilGar (by decide) (by decide) rfl | exact .gd (by first | assumption | decide | (simp [*]; done)) (.refl _) | skip)))
    · (cbv; (try simp only [nc] at *); (try refine Chk.mk (by (try simp only [nc, allc0, allc1, allcE, allcI, Cn.p, and_true, true_and, decide_eq_true_eq, imp_self, List.length_cons, List.length_nil]); all_goals ((repeat' (first | apply And.intro | intro _)) <;> first | omega | rfl | exact Or.inl rfl | assumption | exact nb1 (by assumption) | exact nb2 (by assumption) | exact nb3 (by assumption) | exact nb4 (by assumption) | decide | decide +kernel | (simp [*]; done))) ?_))
      have hv2 : checkZone ⟨z.base, []⟩ = 0 := by
        unfold checkZone
        rw [if_neg (by simp [inB]; omega), if_neg (by simp)]
        rfl
      have h44' := c44 ⟨z.base, []⟩ ((a + A + 1440) / 1440 - 1) ((a + A + 1440) % 1440) (by simp)
      have hst : when (pieces ⟨z.base, []⟩) (a + A) = if z.base ≤ a + A then [a + A - z.base] else [] := by
        simp only [pieces, pcsGo, when]
        unfold openT
        by_cases h : z.base ≤ a + A
        · rw [if_pos h, if_pos (by omega)]
        · rw [if_neg h, if_neg (by omega)]
      rw [When_eq hv2 (by omega) (by omega), show 1440 * ((a + A + 1440) / 1440 - 1) + (a + A + 1440) % 1440 = a + A by omega, hst] at h44'
      have hsl : (if z.base ≤ a + A then [a + A - z.base] else []).length ≤ 1 := by split <;> simp
      have hse : decide ((if z.base ≤ a + A then [a + A - z.base] else []) = [a + A - z.base]) = decide (z.base ≤ a + A) := by split <;> simp [*]
      have hs0 : ¬ z.base ≤ a + A → (if z.base ≤ a + A then [a + A - z.base] else ([] : List Int)).length = 0 := fun h => by rw [if_neg h]; rfl
      generalize (if z.base ≤ a + A then [a + A - z.base] else []) = st at *
      refine call0T (h44') (by (try simp only [zoneA, lst_nt hnt]); (refine To.of [] ?_; cbv; (try simp only [nc]); (repeat' (first | exact trivial | exact WkN.refl _ | exact WkB.refl _ | refine ⟨?_, ?_⟩ | refine WkB.cells ?_ | refine WkN.agg ?_ | refine WkN.tup ?_)); (all_goals (first | exact .int rfl | exact .int (by first | omega | (simp only [nc]; omega) | (simp; done)) | exact .bool rfl | exact .snoc hnt rfl rfl rfl | exact lit_nt hnt _ _ _ _ rfl | exact .tok rfl | exact .tok (by simp) | exact .lst hnt rfl | exact .gsl (by simp) | exact .empty rfl | exact .nilOwn (by decide) (by decide) rfl | exact .nilGar (by decide) (by decide) rfl | exact .gd (by first | assumption | decide | (simp [*]; done)) (.refl _) | skip)))) (by first | rfl | (simp only [zoneA, lst_nt hnt]; rfl)) fun r h₂ hp => ?_
      (try simp only [zoneA, lst_nt hnt] at hp)
      obtain ⟨rfl, rfl⟩ := hp
      (cbv; (try simp only [nc] at *); (try refine Chk.mk (by (try simp only [nc, allc0, allc1, allcE, allcI, Cn.p, and_true, true_and, decide_eq_true_eq, imp_self, List.length_cons, List.length_nil]); all_goals ((repeat' (first | apply And.intro | intro _)) <;> first | omega | rfl | exact Or.inl rfl | assumption | exact nb1 (by assumption) | exact nb2 (by assumption) | exact nb3 (by assumption) | exact nb4 (by assumption) | decide | decide +kernel | (simp [*]; done))) ?_))
      refine Br.isT (by decide) ?_
      (cbv; (try simp only [nc] at *); (try refine Chk.mk (by (try simp only [nc, allc0, allc1, allcE, allcI, Cn.p, and_true, true_and, decide_eq_true_eq, imp_self, List.length_cons, List.length_nil]); all_goals ((repeat' (first | apply And.intro | intro _)) <;> first | omega | rfl | exact Or.inl rfl | assumption | exact nb1 (by assumption) | exact nb2 (by assumption) | exact nb3 (by assumption) | exact nb4 (by assumption) | decide | decide +kernel | (simp [*]; done))) ?_))
      refine call0T (c39 st [a + A - z.base] (by omega)) (by (try simp only [zoneA, lst_nt hnt]); (refine To.of [] ?_; cbv; (try simp only [nc]); (repeat' (first | exact trivial | exact WkN.refl _ | exact WkB.refl _ | refine ⟨?_, ?_⟩ | refine WkB.cells ?_ | refine WkN.agg ?_ | refine WkN.tup ?_)); (all_goals (first | exact .int rfl | exact .int (by first | omega | (simp only [nc]; omega) | (simp; done)) | exact .bool rfl | exact .snoc hnt rfl rfl rfl | exact lit_nt hnt _ _ _ _ rfl | exact .tok rfl | exact .tok (by simp) | exact .lst hnt rfl | exact .gsl (by simp) | exact .empty rfl | exact .nilOwn (by decide) (by decide) rfl | exact .nilGar (by decide) (by decide) rfl | exact .gd (by first | assumption | decide | (simp [*]; done)) (.refl _) | skip)))) (by first | rfl | (simp only [zoneA, lst_nt hnt]; rfl)) fun r h₂ hp => ?_
      (try simp only [zoneA, lst_nt hnt] at hp)
      obtain ⟨rfl, rfl⟩ := hp
      rw [hse]
      (cbv; (try simp only [nc] at *); (try refine Chk.mk (by (try simp only [nc, allc0, allc1, allcE, allcI, Cn.p, and_true, true_and, decide_eq_true_eq, imp_self, List.length_cons, List.length_nil]); all_goals ((repeat' (first | apply And.intro | intro _)) <;> first | omega | rfl | exact Or.inl rfl | assumption | exact nb1 (by assumption) | exact nb2 (by assumption) | exact nb3 (by assumption) | exact nb4 (by assumption) | decide | decide +kernel | (simp [*]; done))) ?_))
      refine Br.isT ?_ ?_
      · by_cases h : z.base ≤ a + A
        · simp [h]
        · simp [h, hs0 h]
      · (cbv; (try simp only [nc] at *); (try refine Chk.mk (by (try simp only [nc, allc0, allc1, allcE, allcI, Cn.p, and_true, true_and, decide_eq_true_eq, imp_self, List.length_cons, List.length_nil]); all_goals ((repeat' (first | apply And.intro | intro _)) <;> first | omega | rfl | exact Or.inl rfl | assumption | exact nb1 (by assumption) | exact nb2 (by assumption) | exact nb3 (by assumption) | exact nb4 (by assumption) | decide | decide +kernel | (simp [*]; done))) ?_))
        refine call0 (c18) (by first | rfl | (simp only [zoneA, lst_nt hnt]; rfl)) fun r h₂ hp => ?_
        (try simp only [zoneA, lst_nt hnt] at hp)
        obtain ⟨rfl, rfl⟩ := hp
        (cbv; try simp only [nc] at *)
        congr 1; funext _
        by_cases h : z.base ≤ a + A
        · simp [h]
        · simp [h, hs0 h]
end Go.Proofs.Ytlcgliadpalgfaa.Vm
