/- Contract: the statement on hours. -/
import Derived.Test.YtlcgliadpalgfaaZe
import Derived.Test.YtlcgliadpalgfaaCl
set_option linter.unusedSimpArgs false
set_option linter.unusedVariables false
namespace Go.Proofs.Ytlcgliadpalgfaa.Vm
open Go Go.Proofs Sp
set_option maxRecDepth 100000
set_option maxHeartbeats 1600000

/-- Rows of which the second tell less. -/
def RowLe (r r' : List AV) : Prop := r'.length = r.length ∧ ∀ (j : Nat) (c' : AV), r'[j]? = some c' → ∃ c, r[j]? = some c ∧ ∀ w ok v, PR w ok c v → PR w ok c' v
theorem RowLe.refl (r : List AV) : RowLe r r := ⟨rfl, fun j c h => ⟨c, h, fun _ _ _ h => h⟩⟩
theorem RowLe.two {a b b' : AV} (h : ∀ w ok v, PR w ok b v → PR w ok b' v) : RowLe [a, b] [a, b'] := ⟨rfl, fun j c hj => by
  match j with
  | 0 => simp only [List.getElem?_cons_zero, Option.some.injEq] at hj; subst hj; exact ⟨_, rfl, fun _ _ _ h => h⟩
  | 1 => simp only [List.getElem?_cons_succ, List.getElem?_cons_zero, Option.some.injEq] at hj; subst hj; exact ⟨_, rfl, h⟩
  | j + 2 => simp at hj⟩
theorem WkN.elems {n k s : Nat} {m m' : Unit → Int} {f f' : (Unit → Int) → List AV} {tk : Tk} (hm : m () = m' ()) (hf : ∀ i : Nat, (i : Int) < m () → RowLe (f fun _ => (i : Int)) (f' fun _ => (i : Int))) : WkN n k (.isl s m f tk) (.isl s m' f' .none) := ⟨fun R v _ hv => .pure _ _ (by
  cases hv.isl_inv with
  | isl0 _ _ _ _ hz h1 => exact .isl0 _ _ _ _ (by omega) (fun id e => by cases e)
  | islE _ _ _ _ a hz h1 => exact .islE _ _ _ _ a (by omega) (.inl rfl)
  | isl _ _ _ _ b o len cap us hn hc h1 he hl h2 h3 h4 =>
    refine .isl _ _ _ _ b o len cap us (by omega) hc (.inl rfl) (fun e => by cases e) (fun i hi => ?_) (fun i j c hi hj => ?_) (fun i j c hi hj => ?_) h4
    · rw [(hf i (by omega)).1]; exact hl i hi
    · obtain ⟨c0, g1, _⟩ := (hf i (by omega)).2 j c hj
      exact h2 i j c0 hi g1
    · obtain ⟨c0, g1, g2⟩ := (hf i (by omega)).2 j c hj
      exact g2 _ _ _ (h3 i j c0 hi g1))⟩
theorem lit_el {nt : (α : Type) → α → List α → Int → α} (hnt : ∀ (α : Type) (d : α) (l : List α) (i : Int), nt α d l i = l.getD i.toNat d) {α : Type} {n k sz : Nat} (enc : α → List AV) (d : α) (l : List α) (rows : List (List AV)) (hl : rows.length = l.length) (hr : ∀ i, i < l.length → RowLe (rows.getD i (rows.headD [])) (enc (l.getD i d))) :
    WkN n k (.isl sz (fun _ => (rows.length : Int)) (fun e => rows.getD (e ()).toNat (rows.headD [])) .exact) (.isl sz (fun _ => (l.length : Int)) (fun e => enc (nt α d l (e ()))) .none) :=
  .elems (by simp [hl]) fun i hi => by
    have hi : i < l.length := by have : (i : Int) < (rows.length : Int) := hi; omega
    simp only [hnt, Int.toNat_natCast]
    exact hr i hi

theorem snoc_pr {nt : (α : Type) → α → List α → Int → α} (hnt : ∀ (α : Type) (d : α) (l : List α) (i : Int), nt α d l i = l.getD i.toNat d) {α : Type} {s : Nat} {enc : α → List AV} {d x : α} {l : List α} {n0 m' : Unit → Int} {g : (Unit → Int) → List AV} {tk : Tk} (h0 : n0 () = (l.length : Int)) (hm : m' () = (l.length : Int) + 1) (hg : g (fun _ => 0) = enc x) (w : World) (ok : Nat → Nat → Nat → Prop) (v : Value) (h : PR w ok (.isl s m' (snocF n0 (fun e => enc (nt α d l (e ()))) g) tk) v) :
    PR w ok (.isl s (fun _ => ((l ++ [x]).length : Int)) (fun e => enc (nt α d (l ++ [x]) (e ()))) .none) v := by
  rw [← lst_nt hnt]
  refine h.wk (by simp [hm]) (fun i hi => ?_) (.inl rfl)
  have hi : i < l.length + 1 := by omega
  unfold lstR
  simp only [Int.toNat_natCast]
  by_cases h : i < l.length
  · rw [snocF_lt h0 h]
    simp only [hnt, Int.toNat_natCast, List.getD_eq_getElem?_getD, List.getElem?_append_left h]
  · obtain rfl : i = l.length := by omega
    rw [snocF_ge h0 (Nat.le_refl _)]
    simp [hg]

theorem when_len (r : Int) : ∀ l : List Pc, (Sp.when l r).length ≤ l.length
  | [] => Nat.le_refl _
  | p :: l => by
    have ih := when_len r l
    unfold Sp.when
    split
    · rw [List.length_cons, List.length_cons]; omega
    · rw [List.length_cons]; omega
theorem pieces_len (z : Zone) : (pieces z).length ≤ z.chs.length + 1 := (pcsGo_len _ _ _).2
theorem When_len (z : Zone) (d m : Int) (hp : (pieces z).length ≤ z.chs.length + 1) : (When z d m).1.length ≤ z.chs.length + 1 := by
  unfold When
  split
  · exact Nat.zero_le _
  · have := when_len (1440 * d + m) (pieces z)
    show (Sp.when (pieces z) (1440 * d + m)).length ≤ _
    omega

theorem c12 (z : Zone) (c : Chg) (t d m a : Int) (l : List Int) (hz : z.chs.length ≤ 9223372036854775807) (hl : (l.length : Int) ≤ 9223372036854775807) : SC (fun _ => Try.prog) 12 [zoneA z, .agg (encChg c), .int .i64 fun _ => t, .int .i64 fun _ => d, .int .i64 fun _ => m, .int .i64 fun _ => a, lst 1 encI 0 l] [] fun r h => r = .bool (fun _ => true) := by
  obtain ⟨nt, hnt⟩ := nth_ex
  refine con Try.func12 (body := bodyOf Try.f12) rfl (by decide +kernel) ?_
  unfold zoneA
  rw [lst_nt hnt (l := z.chs)]
  (cbv; (try simp only [nc] at *); (try refine Chk.mk (by (try simp only [nc, allc0, allc1, allcE, allcI, Cn.p, and_true, true_and, decide_eq_true_eq, imp_self, List.length_cons, List.length_nil]); all_goals ((repeat' (first | apply And.intro | intro _)) <;> first | omega | rfl | exact Or.inl rfl | assumption | exact nb1 (by assumption) | exact nb2 (by assumption) | exact nb3 (by assumption) | exact nb4 (by assumption) | decide | decide +kernel | (simp [*]; done))) ?_))
  refine ⟨fun h0 => ?_, fun h0 => ?_⟩
  · (cbv; (try simp only [nc] at *); (try refine Chk.mk (by (try simp only [nc, allc0, allc1, allcE, allcI, Cn.p, and_true, true_and, decide_eq_true_eq, imp_self, List.length_cons, List.length_nil]); all_goals ((repeat' (first | apply And.intro | intro _)) <;> first | omega | rfl | exact Or.inl rfl | assumption | exact nb1 (by assumption) | exact nb2 (by assumption) | exact nb3 (by assumption) | exact nb4 (by assumption) | decide | decide +kernel | (simp [*]; done))) ?_))
    refine call0 (c18) (by first | rfl | (simp only [zoneA, zoneR, lst_nt hnt]; rfl)) fun r h₂ hp => ?_
    (try simp only [zoneA, zoneR, lst_nt hnt] at hp)
    obtain ⟨rfl, rfl⟩ := hp
    (cbv; (try simp only [nc] at *); (try refine Chk.mk (by (try simp only [nc, allc0, allc1, allcE, allcI, Cn.p, and_true, true_and, decide_eq_true_eq, imp_self, List.length_cons, List.length_nil]); all_goals ((repeat' (first | apply And.intro | intro _)) <;> first | omega | rfl | exact Or.inl rfl | assumption | exact nb1 (by assumption) | exact nb2 (by assumption) | exact nb3 (by assumption) | exact nb4 (by assumption) | decide | decide +kernel | (simp [*]; done))) ?_))
  simp only [decide_eq_false_iff_not] at h0
  (cbv; (try simp only [nc] at *); (try refine Chk.mk (by (try simp only [nc, allc0, allc1, allcE, allcI, Cn.p, and_true, true_and, decide_eq_true_eq, imp_self, List.length_cons, List.length_nil]); all_goals ((repeat' (first | apply And.intro | intro _)) <;> first | omega | rfl | exact Or.inl rfl | assumption | exact nb1 (by assumption) | exact nb2 (by assumption) | exact nb3 (by assumption) | exact nb4 (by assumption) | decide | decide +kernel | (simp [*]; done))) ?_))
  refine call0 (c14 l hl) rfl fun r h₂ hp => ?_
  obtain ⟨s, rfl, rfl⟩ := hp
  (cbv; (try simp only [nc] at *); (try refine Chk.mk (by (try simp only [nc, allc0, allc1, allcE, allcI, Cn.p, and_true, true_and, decide_eq_true_eq, imp_self, List.length_cons, List.length_nil]); all_goals ((repeat' (first | apply And.intro | intro _)) <;> first | omega | rfl | exact Or.inl rfl | assumption | exact nb1 (by assumption) | exact nb2 (by assumption) | exact nb3 (by assumption) | exact nb4 (by assumption) | decide | decide +kernel | (simp [*]; done))) ?_))
  refine callL [2] (c29 s 3 (by omega)) (by decide) (by simp) (by first | rfl | (simp only [zoneA, zoneR, lst_nt hnt]; rfl)) (by first | rfl | (simp only [zoneA, zoneR, lst_nt hnt]; rfl)) fun r h₂ hp => ?_
  (try simp only [zoneA, zoneR, lst_nt hnt] at hp)
  obtain ⟨y, s1, hy, rfl, rfl⟩ := hp
  have hyl := hy.len
  (cbv; (try simp only [nc] at *); (try refine Chk.mk (by (try simp only [nc, allc0, allc1, allcE, allcI, Cn.p, and_true, true_and, decide_eq_true_eq, imp_self, List.length_cons, List.length_nil]); all_goals ((repeat' (first | apply And.intro | intro _)) <;> first | omega | rfl | exact Or.inl rfl | assumption | exact nb1 (by assumption) | exact nb2 (by assumption) | exact nb3 (by assumption) | exact nb4 (by assumption) | decide | decide +kernel | (simp [*]; done))) ?_))
  refine call0 (c30 y (by omega)) (by first | rfl | (simp only [zoneA, zoneR, lst_nt hnt]; rfl)) fun r h₂ hp => ?_
  (try simp only [zoneA, zoneR, lst_nt hnt] at hp)
  obtain ⟨rfl, rfl⟩ := hp
  simp only [lstR_nt hnt]
  (cbv; (try simp only [nc] at *); (try refine Chk.mk (by (try simp only [nc, allc0, allc1, allcE, allcI, Cn.p, and_true, true_and, decide_eq_true_eq, imp_self, List.length_cons, List.length_nil]); all_goals ((repeat' (first | apply And.intro | intro _)) <;> first | omega | rfl | exact Or.inl rfl | assumption | exact nb1 (by assumption) | exact nb2 (by assumption) | exact nb3 (by assumption) | exact nb4 (by assumption) | decide | decide +kernel | (simp [*]; done))) ?_))
  refine callL [2] (c17 s1 5000 (by omega)) (by decide) (by simp) (by first | rfl | (simp only [zoneA, zoneR, lst_nt hnt]; rfl)) (by first | rfl | (simp only [zoneA, zoneR, lst_nt hnt]; rfl)) fun r h₂ hp => ?_
  (try simp only [zoneA, zoneR, lst_nt hnt] at hp)
  obtain ⟨x, s2, hx, rfl, rfl⟩ := hp
  (cbv; (try simp only [nc] at *); (try refine Chk.mk (by (try simp only [nc, allc0, allc1, allcE, allcI, Cn.p, and_true, true_and, decide_eq_true_eq, imp_self, List.length_cons, List.length_nil]); all_goals ((repeat' (first | apply And.intro | intro _)) <;> first | omega | rfl | exact Or.inl rfl | assumption | exact nb1 (by assumption) | exact nb2 (by assumption) | exact nb3 (by assumption) | exact nb4 (by assumption) | decide | decide +kernel | (simp [*]; done))) ?_))
  obtain ⟨zs, hzs⟩ : ∃ zs : List Zone, zs = [z, y, ⟨y.base, y.chs ++ [c]⟩, y] := ⟨_, rfl⟩
  obtain ⟨ts, hts⟩ : ∃ ts : List Int, ts = [t, x, t, t] := ⟨_, rfl⟩
  have hz4 : zs.length = 4 := by rw [hzs]; rfl
  have ht4 : ts.length = 4 := by rw [hts]; rfl
  have hzl : ∀ q ∈ zs, q.chs.length ≤ 1000 := by
    rw [hzs]
    intro q hq
    simp only [List.mem_cons, List.not_mem_nil, or_false] at hq
    rcases hq with rfl | rfl | rfl | rfl
    · omega
    · omega
    · show (y.chs ++ [c]).length ≤ 1000
      rw [List.length_append, List.length_singleton]; omega
    · omega
  refine loopS false false [] [3, 4, 5, 18, 19, 20] [] (fun (i : Nat) => [(18, .isl 2 (fun _ => (zs.length : Int)) (fun e => (fun q : Zone => [.int .i64 fun _ => q.base, .isl 2 (fun _ => (q.chs.length : Int)) (fun e => encChg (nt Chg default q.chs (e ()))) .none]) (nt Zone default zs (e ()))) .none), (19, .isl 1 (fun _ => (ts.length : Int)) (fun e => encI (nt Int 0 ts (e ()))) .none), (20, .int .i64 fun _ => (i : Int))]) (fun _ => []) (fun i => i ≤ 4) (fun i => 4 - i + 0) 0 (Nat.zero_le _) ?_ ?_
  · (refine To.of [] ?_; cbv; (try simp only [nc]); (repeat' (first | exact trivial | exact WkN.refl _ | exact WkB.refl _ | refine ⟨?_, ?_⟩ | refine WkB.cells ?_ | refine WkN.agg ?_ | refine WkN.tup ?_)); (all_goals (first | exact .int rfl | exact .int (by first | omega | (simp only [nc]; omega) | (simp; done)) | exact .bool rfl | exact .snoc hnt rfl rfl rfl | exact .snoc hnt rfl rfl (by simp only [encZone, encTrain, lst_nt hnt]; rfl) | exact lit_nt hnt _ _ _ _ rfl | exact take_nt hnt (by omega) | exact lstR_wk hnt | exact .tok rfl | exact .tok (by simp) | exact .lst hnt rfl | exact .gsl (by simp) | exact .empty rfl | exact .nilOwn (by decide) (by decide) rfl | exact .nilGar (by decide) (by decide) rfl | exact .gd (by first | assumption | decide | (simp [*]; done)) (.refl _) | skip)))
    · refine lit_el hnt (fun q : Zone => [.int .i64 fun _ => q.base, .isl 2 (fun _ => (q.chs.length : Int)) (fun e => encChg (nt Chg default q.chs (e ()))) .none]) default zs _ (by rw [hz4]; rfl) fun i hi => ?_
      subst hzs
      match i with
      | 0 => exact .refl _
      | 1 => exact .refl _
      | 2 => exact .two fun w ok v h => snoc_pr hnt (enc := encChg) (d := default) (l := y.chs) (x := c) rfl rfl rfl w ok v h
      | 3 => exact .refl _
      | i + 4 => simp only [List.length_cons, List.length_nil] at hi; omega
    · subst hts
      exact lit_nt hnt encI 0 [t, x, t, t] _ rfl
  clear hzs hts
  intro i hi
  (cbv; (try simp only [nc] at *); (try refine Chk.mk (by (try simp only [nc, allc0, allc1, allcE, allcI, Cn.p, and_true, true_and, decide_eq_true_eq, imp_self, List.length_cons, List.length_nil]); all_goals ((repeat' (first | apply And.intro | intro _)) <;> first | omega | rfl | exact Or.inl rfl | assumption | exact nb1 (by assumption) | exact nb2 (by assumption) | exact nb3 (by assumption) | exact nb4 (by assumption) | decide | decide +kernel | (simp [*]; done))) ?_))
  refine ⟨fun hb => ?_, fun hb => ?_⟩
  · simp only [decide_eq_true_eq] at hb
    have hi4 : i < 4 := by omega
    have hql := hzl _ (nt_mem hnt (show i < zs.length by omega) : nt Zone default zs (i : Int) ∈ zs)
    generalize hq : nt Zone default zs (i : Int) = q at *
    generalize hu : nt Int 0 ts (i : Int) = u at *
    (cbv; try simp only [nc] at *)
    simp only [hq]
    refine Chk.mk (by (try simp only [nc, allc0, allc1, allcE, allcI, Cn.p, and_true, true_and, decide_eq_true_eq, imp_self, List.length_cons, List.length_nil]); all_goals ((repeat' (first | apply And.intro | intro _)) <;> first | omega | rfl | exact Or.inl rfl | assumption | exact nb1 (by assumption) | exact nb2 (by assumption) | exact nb3 (by assumption) | exact nb4 (by assumption) | decide | decide +kernel | (simp [*]; done))) ?_
    refine call0 (c30 q (by omega)) (by first | rfl | (simp only [zoneA, zoneR, lst_nt hnt]; rfl)) fun r h₂ hp => ?_
    (try simp only [zoneA, zoneR, lst_nt hnt] at hp)
    obtain ⟨rfl, rfl⟩ := hp
    simp only [lstR_nt hnt]
    (cbv; try simp only [nc] at *)
    simp only [hu]
    refine Chk.mk (by (try simp only [nc, allc0, allc1, allcE, allcI, Cn.p, and_true, true_and, decide_eq_true_eq, imp_self, List.length_cons, List.length_nil]); all_goals ((repeat' (first | apply And.intro | intro _)) <;> first | omega | rfl | exact Or.inl rfl | assumption | exact nb1 (by assumption) | exact nb2 (by assumption) | exact nb3 (by assumption) | exact nb4 (by assumption) | decide | decide +kernel | (simp [*]; done))) ?_
    have k51 := c51 q u (by omega)
    have k52 := c52 q u (by omega)
    have k53 := c53 q u (by omega)
    have k54 := c54 q u (by omega)
    generalize Ahead q u = A at *
    generalize Reads q u = B at *
    obtain ⟨A1, A2⟩ := A
    obtain ⟨B1, B2, B3⟩ := B
    refine call0T k51 (by (try simp only [zoneA, zoneR, lst_nt hnt]); (refine To.of [] ?_; cbv; (try simp only [nc]); (repeat' (first | exact trivial | exact WkN.refl _ | exact WkB.refl _ | refine ⟨?_, ?_⟩ | refine WkB.cells ?_ | refine WkN.agg ?_ | refine WkN.tup ?_)); (all_goals (first | exact .int rfl | exact .int (by first | omega | (simp only [nc]; omega) | (simp; done)) | exact .bool rfl | exact .snoc hnt rfl rfl rfl | exact .snoc hnt rfl rfl (by simp only [encZone, encTrain, lst_nt hnt]; rfl) | exact lit_nt hnt _ _ _ _ rfl | exact take_nt hnt (by omega) | exact lstR_wk hnt | exact .tok rfl | exact .tok (by simp) | exact .lst hnt rfl | exact .gsl (by simp) | exact .empty rfl | exact .nilOwn (by decide) (by decide) rfl | exact .nilGar (by decide) (by decide) rfl | exact .gd (by first | assumption | decide | (simp [*]; done)) (.refl _) | skip))); exact .none rfl fun _ _ => rfl) (by first | rfl | (simp only [zoneA, zoneR, lst_nt hnt]; rfl)) fun r h₂ hp => ?_
    (try simp only [zoneA, zoneR, lst_nt hnt] at hp)
    obtain ⟨rfl, rfl⟩ := hp
    (cbv; try simp only [nc] at *)
    simp only [hq, hu]
    refine Chk.mk (by (try simp only [nc, allc0, allc1, allcE, allcI, Cn.p, and_true, true_and, decide_eq_true_eq, imp_self, List.length_cons, List.length_nil]); all_goals ((repeat' (first | apply And.intro | intro _)) <;> first | omega | rfl | exact Or.inl rfl | assumption | exact nb1 (by assumption) | exact nb2 (by assumption) | exact nb3 (by assumption) | exact nb4 (by assumption) | decide | decide +kernel | (simp [*]; done))) ?_
    refine call0 (k52) (by first | rfl | (simp only [zoneA, zoneR, lst_nt hnt]; rfl)) fun r h₂ hp => ?_
    (try simp only [zoneA, zoneR, lst_nt hnt] at hp)
    obtain ⟨rfl, rfl⟩ := hp
    (cbv; try simp only [nc] at *)
    simp only [hu]
    refine Chk.mk (by (try simp only [nc, allc0, allc1, allcE, allcI, Cn.p, and_true, true_and, decide_eq_true_eq, imp_self, List.length_cons, List.length_nil]); all_goals ((repeat' (first | apply And.intro | intro _)) <;> first | omega | rfl | exact Or.inl rfl | assumption | exact nb1 (by assumption) | exact nb2 (by assumption) | exact nb3 (by assumption) | exact nb4 (by assumption) | decide | decide +kernel | (simp [*]; done))) ?_
    refine call0T k53 (by (try simp only [zoneA, zoneR, lst_nt hnt]); (refine To.of [] ?_; cbv; (try simp only [nc]); (repeat' (first | exact trivial | exact WkN.refl _ | exact WkB.refl _ | refine ⟨?_, ?_⟩ | refine WkB.cells ?_ | refine WkN.agg ?_ | refine WkN.tup ?_)); (all_goals (first | exact .int rfl | exact .int (by first | omega | (simp only [nc]; omega) | (simp; done)) | exact .bool rfl | exact .snoc hnt rfl rfl rfl | exact .snoc hnt rfl rfl (by simp only [encZone, encTrain, lst_nt hnt]; rfl) | exact lit_nt hnt _ _ _ _ rfl | exact take_nt hnt (by omega) | exact lstR_wk hnt | exact .tok rfl | exact .tok (by simp) | exact .lst hnt rfl | exact .gsl (by simp) | exact .empty rfl | exact .nilOwn (by decide) (by decide) rfl | exact .nilGar (by decide) (by decide) rfl | exact .gd (by first | assumption | decide | (simp [*]; done)) (.refl _) | skip))); exact .none rfl fun _ _ => rfl) (by first | rfl | (simp only [zoneA, zoneR, lst_nt hnt]; rfl)) fun r h₂ hp => ?_
    (try simp only [zoneA, zoneR, lst_nt hnt] at hp)
    obtain ⟨rfl, rfl⟩ := hp
    (cbv; try simp only [nc] at *)
    simp only [hq, hu]
    refine Chk.mk (by (try simp only [nc, allc0, allc1, allcE, allcI, Cn.p, and_true, true_and, decide_eq_true_eq, imp_self, List.length_cons, List.length_nil]); all_goals ((repeat' (first | apply And.intro | intro _)) <;> first | omega | rfl | exact Or.inl rfl | assumption | exact nb1 (by assumption) | exact nb2 (by assumption) | exact nb3 (by assumption) | exact nb4 (by assumption) | decide | decide +kernel | (simp [*]; done))) ?_
    refine call0 (k54) (by first | rfl | (simp only [zoneA, zoneR, lst_nt hnt]; rfl)) fun r h₂ hp => ?_
    (try simp only [zoneA, zoneR, lst_nt hnt] at hp)
    obtain ⟨rfl, rfl⟩ := hp
    (cbv; try simp only [nc] at *)
    simp only [bne_self_eq_false, cond_false]
    refine Chk.mk (by (try simp only [nc, allc0, allc1, allcE, allcI, Cn.p, and_true, true_and, decide_eq_true_eq, imp_self, List.length_cons, List.length_nil]); all_goals ((repeat' (first | apply And.intro | intro _)) <;> first | omega | rfl | exact Or.inl rfl | assumption | exact nb1 (by assumption) | exact nb2 (by assumption) | exact nb3 (by assumption) | exact nb4 (by assumption) | decide | decide +kernel | (simp [*]; done))) ?_
    refine Br.isF (by simp) ?_
    (cbv; try simp only [nc] at *)
    simp only [hu]
    refine Chk.mk (by (try simp only [nc, allc0, allc1, allcE, allcI, Cn.p, and_true, true_and, decide_eq_true_eq, imp_self, List.length_cons, List.length_nil]); all_goals ((repeat' (first | apply And.intro | intro _)) <;> first | omega | rfl | exact Or.inl rfl | assumption | exact nb1 (by assumption) | exact nb2 (by assumption) | exact nb3 (by assumption) | exact nb4 (by assumption) | decide | decide +kernel | (simp [*]; done))) ?_
    obtain ⟨ds, hds⟩ : ∃ l : List Int, l = [d, B1, B1] := ⟨_, rfl⟩
    obtain ⟨ms, hms⟩ : ∃ l : List Int, l = [m, B2, B2] := ⟨_, rfl⟩
    obtain ⟨fs, has⟩ : ∃ l : List Int, l = [a, a, u] := ⟨_, rfl⟩
    have hd3 : ds.length = 3 := by rw [hds]; rfl
    have hm3 : ms.length = 3 := by rw [hms]; rfl
    have ha3 : fs.length = 3 := by rw [has]; rfl
    refine loopQ fun Q hQ => ?_
    refine loopS false false [] [3, 4, 5, 18, 19, 20, 21, 32, 33, 34, 35] [] (fun (j : Nat) => [(32, .isl 1 (fun _ => (ds.length : Int)) (fun e => encI (nt Int 0 ds (e ()))) .none), (33, .isl 1 (fun _ => (ms.length : Int)) (fun e => encI (nt Int 0 ms (e ()))) .none), (34, .isl 1 (fun _ => (fs.length : Int)) (fun e => encI (nt Int 0 fs (e ()))) .none), (35, .int .i64 fun _ => (j : Int))]) (fun _ => []) (fun j => j ≤ 3) (fun j => 3 - j + 0) 0 (Nat.zero_le _) ?_ ?_
    · (refine To.of [] ?_; cbv; (try simp only [nc]); (repeat' (first | exact trivial | exact WkN.refl _ | exact WkB.refl _ | refine ⟨?_, ?_⟩ | refine WkB.cells ?_ | refine WkN.agg ?_ | refine WkN.tup ?_)); (all_goals (first | exact .int rfl | exact .int (by first | omega | (simp only [nc]; omega) | (simp; done)) | exact .bool rfl | exact .snoc hnt rfl rfl rfl | exact .snoc hnt rfl rfl (by simp only [encZone, encTrain, lst_nt hnt]; rfl) | exact lit_nt hnt _ _ _ _ rfl | exact take_nt hnt (by omega) | exact lstR_wk hnt | exact .tok rfl | exact .tok (by simp) | exact .lst hnt rfl | exact .gsl (by simp) | exact .empty rfl | exact .nilOwn (by decide) (by decide) rfl | exact .nilGar (by decide) (by decide) rfl | exact .gd (by first | assumption | decide | (simp [*]; done)) (.refl _) | skip)))
      · subst hds
        exact lit_nt hnt encI 0 [d, B1, B1] _ rfl
      · subst hms
        exact lit_nt hnt encI 0 [m, B2, B2] _ rfl
      · subst has
        exact lit_nt hnt encI 0 [a, a, u] _ rfl
    clear hds hms has
    intro j hj
    (cbv; (try simp only [nc] at *); (try refine Chk.mk (by (try simp only [nc, allc0, allc1, allcE, allcI, Cn.p, and_true, true_and, decide_eq_true_eq, imp_self, List.length_cons, List.length_nil]); all_goals ((repeat' (first | apply And.intro | intro _)) <;> first | omega | rfl | exact Or.inl rfl | assumption | exact nb1 (by assumption) | exact nb2 (by assumption) | exact nb3 (by assumption) | exact nb4 (by assumption) | decide | decide +kernel | (simp [*]; done))) ?_))
    refine ⟨fun hb => ?_, fun hb => ?_⟩
    · simp only [decide_eq_true_eq] at hb
      have hj3 : j < 3 := by omega
      generalize hD : nt Int 0 ds (j : Int) = D at *
      generalize hM : nt Int 0 ms (j : Int) = M at *
      generalize hA : nt Int 0 fs (j : Int) = E at *
      have k44 := c44 q D M (by omega)
      have k55 := c55 q D M (by omega)
      have k46 := c46 q D M E (by omega)
      have k56 := c56 q D M E (by omega)
      have hwl := When_len q D M (pieces_len q)
      generalize When q D M = wh at *
      generalize Hour q D M E = ho at *
      obtain ⟨w1, w2⟩ := wh
      obtain ⟨o1, o2⟩ := ho
      (cbv; try simp only [nc] at *)
      simp only [hD, hM]
      refine Chk.mk (by (try simp only [nc, allc0, allc1, allcE, allcI, Cn.p, and_true, true_and, decide_eq_true_eq, imp_self, List.length_cons, List.length_nil]); all_goals ((repeat' (first | apply And.intro | intro _)) <;> first | omega | rfl | exact Or.inl rfl | assumption | exact nb1 (by assumption) | exact nb2 (by assumption) | exact nb3 (by assumption) | exact nb4 (by assumption) | decide | decide +kernel | (simp [*]; done))) ?_
      refine call0T k44 (by (try simp only [zoneA, zoneR, lst_nt hnt]); (refine To.of [] ?_; cbv; (try simp only [nc]); (repeat' (first | exact trivial | exact WkN.refl _ | exact WkB.refl _ | refine ⟨?_, ?_⟩ | refine WkB.cells ?_ | refine WkN.agg ?_ | refine WkN.tup ?_)); (all_goals (first | exact .int rfl | exact .int (by first | omega | (simp only [nc]; omega) | (simp; done)) | exact .bool rfl | exact .snoc hnt rfl rfl rfl | exact .snoc hnt rfl rfl (by simp only [encZone, encTrain, lst_nt hnt]; rfl) | exact lit_nt hnt _ _ _ _ rfl | exact take_nt hnt (by omega) | exact lstR_wk hnt | exact .tok rfl | exact .tok (by simp) | exact .lst hnt rfl | exact .gsl (by simp) | exact .empty rfl | exact .nilOwn (by decide) (by decide) rfl | exact .nilGar (by decide) (by decide) rfl | exact .gd (by first | assumption | decide | (simp [*]; done)) (.refl _) | skip))); exact .none rfl fun _ _ => rfl) (by first | rfl | (simp only [zoneA, zoneR, lst_nt hnt]; rfl)) fun r h₂ hp => ?_
      (try simp only [zoneA, zoneR, lst_nt hnt] at hp)
      obtain ⟨rfl, rfl⟩ := hp
      (cbv; try simp only [nc] at *)
      simp only [hq, hD, hM]
      refine Chk.mk (by (try simp only [nc, allc0, allc1, allcE, allcI, Cn.p, and_true, true_and, decide_eq_true_eq, imp_self, List.length_cons, List.length_nil]); all_goals ((repeat' (first | apply And.intro | intro _)) <;> first | omega | rfl | exact Or.inl rfl | assumption | exact nb1 (by assumption) | exact nb2 (by assumption) | exact nb3 (by assumption) | exact nb4 (by assumption) | decide | decide +kernel | (simp [*]; done))) ?_
      refine call0 (k55) (by first | rfl | (simp only [zoneA, zoneR, lst_nt hnt]; rfl)) fun r h₂ hp => ?_
      (try simp only [zoneA, zoneR, lst_nt hnt] at hp)
      obtain ⟨rfl, rfl⟩ := hp
      (cbv; try simp only [nc] at *)
      simp only [hD, hM, hA]
      refine Chk.mk (by (try simp only [nc, allc0, allc1, allcE, allcI, Cn.p, and_true, true_and, decide_eq_true_eq, imp_self, List.length_cons, List.length_nil]); all_goals ((repeat' (first | apply And.intro | intro _)) <;> first | omega | rfl | exact Or.inl rfl | assumption | exact nb1 (by assumption) | exact nb2 (by assumption) | exact nb3 (by assumption) | exact nb4 (by assumption) | decide | decide +kernel | (simp [*]; done))) ?_
      refine call0T k46 (by (try simp only [zoneA, zoneR, lst_nt hnt]); (refine To.of [] ?_; cbv; (try simp only [nc]); (repeat' (first | exact trivial | exact WkN.refl _ | exact WkB.refl _ | refine ⟨?_, ?_⟩ | refine WkB.cells ?_ | refine WkN.agg ?_ | refine WkN.tup ?_)); (all_goals (first | exact .int rfl | exact .int (by first | omega | (simp only [nc]; omega) | (simp; done)) | exact .bool rfl | exact .snoc hnt rfl rfl rfl | exact .snoc hnt rfl rfl (by simp only [encZone, encTrain, lst_nt hnt]; rfl) | exact lit_nt hnt _ _ _ _ rfl | exact take_nt hnt (by omega) | exact lstR_wk hnt | exact .tok rfl | exact .tok (by simp) | exact .lst hnt rfl | exact .gsl (by simp) | exact .empty rfl | exact .nilOwn (by decide) (by decide) rfl | exact .nilGar (by decide) (by decide) rfl | exact .gd (by first | assumption | decide | (simp [*]; done)) (.refl _) | skip))); exact .none rfl fun _ _ => rfl) (by first | rfl | (simp only [zoneA, zoneR, lst_nt hnt]; rfl)) fun r h₂ hp => ?_
      (try simp only [zoneA, zoneR, lst_nt hnt] at hp)
      obtain ⟨rfl, rfl⟩ := hp
      (cbv; try simp only [nc] at *)
      simp only [hq, hD, hM, hA]
      refine Chk.mk (by (try simp only [nc, allc0, allc1, allcE, allcI, Cn.p, and_true, true_and, decide_eq_true_eq, imp_self, List.length_cons, List.length_nil]); all_goals ((repeat' (first | apply And.intro | intro _)) <;> first | omega | rfl | exact Or.inl rfl | assumption | exact nb1 (by assumption) | exact nb2 (by assumption) | exact nb3 (by assumption) | exact nb4 (by assumption) | decide | decide +kernel | (simp [*]; done))) ?_
      refine call0 (k56) (by first | rfl | (simp only [zoneA, zoneR, lst_nt hnt]; rfl)) fun r h₂ hp => ?_
      (try simp only [zoneA, zoneR, lst_nt hnt] at hp)
      obtain ⟨rfl, rfl⟩ := hp
      have hwl : w1.length ≤ q.chs.length + 1 := hwl
      (cbv; try simp only [nc] at *)
      simp only [bne_self_eq_false, cond_false]
      refine Chk.mk (by (try simp only [nc, allc0, allc1, allcE, allcI, Cn.p, and_true, true_and, decide_eq_true_eq, imp_self, List.length_cons, List.length_nil]); all_goals ((repeat' (first | apply And.intro | intro _)) <;> first | omega | rfl | exact Or.inl rfl | assumption | exact nb1 (by assumption) | exact nb2 (by assumption) | exact nb3 (by assumption) | exact nb4 (by assumption) | decide | decide +kernel | (simp [*]; done))) ?_
      refine Br.isT rfl ?_
      (cbv; (try simp only [nc] at *); (try refine Chk.mk (by (try simp only [nc, allc0, allc1, allcE, allcI, Cn.p, and_true, true_and, decide_eq_true_eq, imp_self, List.length_cons, List.length_nil]); all_goals ((repeat' (first | apply And.intro | intro _)) <;> first | omega | rfl | exact Or.inl rfl | assumption | exact nb1 (by assumption) | exact nb2 (by assumption) | exact nb3 (by assumption) | exact nb4 (by assumption) | decide | decide +kernel | (simp [*]; done))) ?_))
      refine call0 (c39 w1 w1 (by omega)) (by first | rfl | (simp only [zoneA, zoneR, lst_nt hnt]; rfl)) fun r h₂ hp => ?_
      (try simp only [zoneA, zoneR, lst_nt hnt] at hp)
      obtain ⟨rfl, rfl⟩ := hp
      (cbv; try simp only [nc] at *)
      (try simp only [decide_true, Bool.not_true, Bool.not_false, cond_false])
      (try refine Chk.mk (by (try simp only [nc, allc0, allc1, allcE, allcI, Cn.p, and_true, true_and, decide_eq_true_eq, imp_self, List.length_cons, List.length_nil]); all_goals ((repeat' (first | apply And.intro | intro _)) <;> first | omega | rfl | exact Or.inl rfl | assumption | exact nb1 (by assumption) | exact nb2 (by assumption) | exact nb3 (by assumption) | exact nb4 (by assumption) | decide | decide +kernel | (simp [*]; done))) ?_)
      first | refine Br.isT (by simp; done) ?_ | refine Br.isF (by simp; done) ?_
      (cbv; try simp only [nc] at *)
      (try simp only [hq])
      (try refine Chk.mk (by (try simp only [nc, allc0, allc1, allcE, allcI, Cn.p, and_true, true_and, decide_eq_true_eq, imp_self, List.length_cons, List.length_nil]); all_goals ((repeat' (first | apply And.intro | intro _)) <;> first | omega | rfl | exact Or.inl rfl | assumption | exact nb1 (by assumption) | exact nb2 (by assumption) | exact nb3 (by assumption) | exact nb4 (by assumption) | decide | decide +kernel | (simp [*]; done))) ?_)
      refine call0T (c36 q (by omega)) (by (try simp only [zoneA, zoneR, lst_nt hnt]); (refine To.of [] ?_; cbv; (try simp only [nc]); (repeat' (first | exact trivial | exact WkN.refl _ | exact WkB.refl _ | refine ⟨?_, ?_⟩ | refine WkB.cells ?_ | refine WkN.agg ?_ | refine WkN.tup ?_)); (all_goals (first | exact .int rfl | exact .int (by first | omega | (simp only [nc]; omega) | (simp; done)) | exact .bool rfl | exact .snoc hnt rfl rfl rfl | exact .snoc hnt rfl rfl (by simp only [encZone, encTrain, lst_nt hnt]; rfl) | exact lit_nt hnt _ _ _ _ rfl | exact take_nt hnt (by omega) | exact lstR_wk hnt | exact .tok rfl | exact .tok (by simp) | exact .lst hnt rfl | exact .gsl (by simp) | exact .empty rfl | exact .nilOwn (by decide) (by decide) rfl | exact .nilGar (by decide) (by decide) rfl | exact .gd (by first | assumption | decide | (simp [*]; done)) (.refl _) | skip))); exact .none rfl fun _ _ => rfl) (by first | rfl | (simp only [zoneA, zoneR, lst_nt hnt]; rfl)) fun r h₂ hp => ?_
      (try simp only [zoneA, zoneR, lst_nt hnt] at hp)
      obtain ⟨rfl, rfl⟩ := hp
      (cbv; try simp only [nc] at *)
      (try simp only [decide_true, Bool.not_true, Bool.not_false, cond_false])
      (try refine Chk.mk (by (try simp only [nc, allc0, allc1, allcE, allcI, Cn.p, and_true, true_and, decide_eq_true_eq, imp_self, List.length_cons, List.length_nil]); all_goals ((repeat' (first | apply And.intro | intro _)) <;> first | omega | rfl | exact Or.inl rfl | assumption | exact nb1 (by assumption) | exact nb2 (by assumption) | exact nb3 (by assumption) | exact nb4 (by assumption) | decide | decide +kernel | (simp [*]; done))) ?_)
      first | refine Br.isF (by simp; done) ?_ | refine Br.isT (by simp; done) ?_
      (cbv; (try simp only [nc] at *); (try refine Chk.mk (by (try simp only [nc, allc0, allc1, allcE, allcI, Cn.p, and_true, true_and, decide_eq_true_eq, imp_self, List.length_cons, List.length_nil]); all_goals ((repeat' (first | apply And.intro | intro _)) <;> first | omega | rfl | exact Or.inl rfl | assumption | exact nb1 (by assumption) | exact nb2 (by assumption) | exact nb3 (by assumption) | exact nb4 (by assumption) | decide | decide +kernel | (simp [*]; done))) ?_))
      refine ⟨j + 1, by omega, by omega, ?_⟩
      (refine To.of [] ?_; cbv; (try simp only [nc]); (repeat' (first | exact trivial | exact WkN.refl _ | exact WkB.refl _ | refine ⟨?_, ?_⟩ | refine WkB.cells ?_ | refine WkN.agg ?_ | refine WkN.tup ?_)); (all_goals (first | exact .int rfl | exact .int (by first | omega | (simp only [nc]; omega) | (simp; done)) | exact .bool rfl | exact .snoc hnt rfl rfl rfl | exact .snoc hnt rfl rfl (by simp only [encZone, encTrain, lst_nt hnt]; rfl) | exact lit_nt hnt _ _ _ _ rfl | exact take_nt hnt (by omega) | exact lstR_wk hnt | exact .tok rfl | exact .tok (by simp) | exact .lst hnt rfl | exact .gsl (by simp) | exact .empty rfl | exact .nilOwn (by decide) (by decide) rfl | exact .nilGar (by decide) (by decide) rfl | exact .gd (by first | assumption | decide | (simp [*]; done)) (.refl _) | skip)))
    · (cbv; (try simp only [nc] at *); (try refine Chk.mk (by (try simp only [nc, allc0, allc1, allcE, allcI, Cn.p, and_true, true_and, decide_eq_true_eq, imp_self, List.length_cons, List.length_nil]); all_goals ((repeat' (first | apply And.intro | intro _)) <;> first | omega | rfl | exact Or.inl rfl | assumption | exact nb1 (by assumption) | exact nb2 (by assumption) | exact nb3 (by assumption) | exact nb4 (by assumption) | decide | decide +kernel | (simp [*]; done))) ?_))
      refine hQ _ _ _ ?_
      (cbv; (try simp only [nc] at *); (try refine Chk.mk (by (try simp only [nc, allc0, allc1, allcE, allcI, Cn.p, and_true, true_and, decide_eq_true_eq, imp_self, List.length_cons, List.length_nil]); all_goals ((repeat' (first | apply And.intro | intro _)) <;> first | omega | rfl | exact Or.inl rfl | assumption | exact nb1 (by assumption) | exact nb2 (by assumption) | exact nb3 (by assumption) | exact nb4 (by assumption) | decide | decide +kernel | (simp [*]; done))) ?_))
      refine ⟨i + 1, by omega, by omega, ?_⟩
      (refine To.of [] ?_; cbv; (try simp only [nc]); (repeat' (first | exact trivial | exact WkN.refl _ | exact WkB.refl _ | refine ⟨?_, ?_⟩ | refine WkB.cells ?_ | refine WkN.agg ?_ | refine WkN.tup ?_)); (all_goals (first | exact .int rfl | exact .int (by first | omega | (simp only [nc]; omega) | (simp; done)) | exact .bool rfl | exact .snoc hnt rfl rfl rfl | exact .snoc hnt rfl rfl (by simp only [encZone, encTrain, lst_nt hnt]; rfl) | exact lit_nt hnt _ _ _ _ rfl | exact take_nt hnt (by omega) | exact lstR_wk hnt | exact .tok rfl | exact .tok (by simp) | exact .lst hnt rfl | exact .gsl (by simp) | exact .empty rfl | exact .nilOwn (by decide) (by decide) rfl | exact .nilGar (by decide) (by decide) rfl | exact .gd (by first | assumption | decide | (simp [*]; done)) (.refl _) | skip)))
  · (cbv; (try simp only [nc] at *); (try refine Chk.mk (by (try simp only [nc, allc0, allc1, allcE, allcI, Cn.p, and_true, true_and, decide_eq_true_eq, imp_self, List.length_cons, List.length_nil]); all_goals ((repeat' (first | apply And.intro | intro _)) <;> first | omega | rfl | exact Or.inl rfl | assumption | exact nb1 (by assumption) | exact nb2 (by assumption) | exact nb3 (by assumption) | exact nb4 (by assumption) | decide | decide +kernel | (simp [*]; done))) ?_))
    refine call0 (c18) (by first | rfl | (simp only [zoneA, zoneR, lst_nt hnt]; rfl)) fun r h₂ hp => ?_
    (try simp only [zoneA, zoneR, lst_nt hnt] at hp)
    obtain ⟨rfl, rfl⟩ := hp
    (cbv; (try simp only [nc] at *); (try refine Chk.mk (by (try simp only [nc, allc0, allc1, allcE, allcI, Cn.p, and_true, true_and, decide_eq_true_eq, imp_self, List.length_cons, List.length_nil]); all_goals ((repeat' (first | apply And.intro | intro _)) <;> first | omega | rfl | exact Or.inl rfl | assumption | exact nb1 (by assumption) | exact nb2 (by assumption) | exact nb3 (by assumption) | exact nb4 (by assumption) | decide | decide +kernel | (simp [*]; done))) ?_))
end Go.Proofs.Ytlcgliadpalgfaa.Vm
