/- Contracts: the reference's hours. -/
import Derived.Test.YtlcgliadpalgfaaZc
set_option linter.unusedSimpArgs false
set_option linter.unusedVariables false
namespace Go.Proofs.Ytlcgliadpalgfaa.Vm
open Go Go.Proofs Sp
set_option maxRecDepth 100000
set_option maxHeartbeats 1600000

theorem cl_nt {nt : (α : Type) → α → List α → Int → α} (hnt : ∀ (α : Type) (d : α) (l : List α) (i : Int), nt α d l i = l.getD i.toNat d) {l : List Pc} {i : Nat} (hi : i < l.length) : nt Pc default (l.map cl) (i : Int) = cl (nt Pc default l (i : Int)) := by
  rw [hnt, hnt]
  simp [List.getD_eq_getElem?_getD, hi]
theorem cl_fr (p : Pc) : (cl p).fr = p.fr := by unfold cl; split <;> rfl
theorem cl_ahd (p : Pc) : (cl p).ahd = p.ahd := by unfold cl; split <;> rfl
theorem cl_has {p : Pc} {r : Int} (hb : 0 ≤ p.bef) (hr : r - p.ahd < openT) : (decide ((cl p).fr ≤ r - (cl p).ahd) && (decide ((cl p).bef < 0) || decide (r - (cl p).ahd < (cl p).bef))) = decide (p.fr ≤ r - p.ahd ∧ r - p.ahd < p.bef) := by
  rw [cl_fr, cl_ahd]
  unfold cl
  by_cases h : p.bef = openT
  · rw [if_pos h, h]
    by_cases h2 : p.fr ≤ r - p.ahd
    · simp [h2, hr]
    · simp [h2]
  · rw [if_neg h]
    by_cases h2 : p.fr ≤ r - p.ahd
    · simp [h2, show ¬ p.bef < 0 by omega]
    · simp [h2]

/-- Only the last piece is open. -/
theorem pcsGo_open : ∀ (l : List Chg) (fr a : Int), (∀ c ∈ l, c.at_ ≤ 43200) → ∀ i, i < (pcsGo fr a l).length → (((pcsGo fr a l).getD i default).bef = openT ↔ i + 1 = (pcsGo fr a l).length)
  | [], fr, a, _, i, hi => by
    have e : pcsGo fr a [] = [⟨fr, openT, a⟩] := rfl
    rw [e] at hi ⊢
    have : i = 0 := by simpa using hi
    subst this
    simp
  | c :: r, fr, a, h, i, hi => by
    have hc := h c (List.mem_cons_self ..)
    have ih := pcsGo_open r c.at_ (a + c.by_) (fun x hx => h x (List.mem_cons_of_mem _ hx))
    have hl := (pcsGo_len r c.at_ (a + c.by_)).1
    by_cases hlt : fr < c.at_
    · have e : pcsGo fr a (c :: r) = ⟨fr, c.at_, a⟩ :: pcsGo c.at_ (a + c.by_) r := if_pos hlt
      rw [e] at hi ⊢
      cases i with
      | zero =>
        simp only [List.getD_cons_zero, List.length_cons]
        unfold openT
        constructor <;> intro h <;> omega
      | succ i =>
        simp only [List.getD_cons_succ, List.length_cons]
        rw [ih i (by simpa using hi)]
        omega
    · have e : pcsGo fr a (c :: r) = pcsGo c.at_ (a + c.by_) r := if_neg hlt
      rw [e] at hi ⊢
      exact ih i hi

theorem hour_ok {z : Zone} {d m : Int} (h : checkHour z d m = 0) : checkZone z = 0 ∧ (-1 ≤ d ∧ d ≤ 31) ∧ 0 ≤ m ∧ m ≤ 1439 := by
  unfold checkHour at h
  split at h
  · rename_i h1; exact absurd h h1
  rename_i h1
  split at h
  · cases h
  rename_i h2
  simp only [Bool.or_eq_true, not_or, Bool.not_eq_true', Bool.not_eq_false] at h2
  exact ⟨Decidable.of_not_not h1, inB_ok h2.1, inB_ok h2.2⟩

theorem c55 (z : Zone) (d m : Int) (hlen : z.chs.length ≤ 1000) : SC (fun _ => Try.prog) 55 [zoneA z, .int .i64 fun _ => d, .int .i64 fun _ => m] [] fun v h => v = .tup [lst 1 encI 0 (When z d m).1, .int .i64 fun _ => (When z d m).2] ∧ h = [] := by
  obtain ⟨nt, hnt⟩ := nth_ex
  have k1 := c100 z d m hlen
  have k2 := fun h : checkHour z d m = 0 => c101 z (hour_ok h).1
  have k3 := fun h : checkHour z d m = 0 => (hour_ok h).2
  have k4 := fun h : checkHour z d m = 0 => pieces_bd (hour_ok h).1
  unfold When
  generalize checkHour z d m = C at *
  refine SC.less (conX false false [] Try.func55 (body := bodyOf Try.f55) rfl (by decide +kernel) ?_)
  unfold zoneA at *
  simp only [lst_nt hnt] at *
  (cbv; (try simp only [nc] at *); (try refine Chk.mk (by (try simp only [nc, allc0, allc1, allcE, allcI, Cn.p, and_true, true_and, decide_eq_true_eq, imp_self, List.length_cons, List.length_nil]); all_goals ((repeat' (first | apply And.intro | intro _)) <;> first | omega | rfl | exact Or.inl rfl | assumption | exact nb1 (by assumption) | exact nb2 (by assumption) | exact nb3 (by assumption) | exact nb4 (by assumption) | decide | decide +kernel | (simp [*]; done))) ?_))
  refine call0 (k1) (by first | rfl | (simp only [zoneA, lst_nt hnt]; rfl)) fun r h₂ hp => ?_
  (try simp only [zoneA, lst_nt hnt] at hp)
  obtain ⟨rfl, rfl⟩ := hp
  (cbv; (try simp only [nc] at *); (try refine Chk.mk (by (try simp only [nc, allc0, allc1, allcE, allcI, Cn.p, and_true, true_and, decide_eq_true_eq, imp_self, List.length_cons, List.length_nil]); all_goals ((repeat' (first | apply And.intro | intro _)) <;> first | omega | rfl | exact Or.inl rfl | assumption | exact nb1 (by assumption) | exact nb2 (by assumption) | exact nb3 (by assumption) | exact nb4 (by assumption) | decide | decide +kernel | (simp [*]; done))) ?_))
  refine ⟨fun h1 => ?_, fun h1 => ?_⟩
  · rw [if_pos (by simpa using h1)]
    (cbv; (try simp only [nc] at *); (try refine Chk.mk (by (try simp only [nc, allc0, allc1, allcE, allcI, Cn.p, and_true, true_and, decide_eq_true_eq, imp_self, List.length_cons, List.length_nil]); all_goals ((repeat' (first | apply And.intro | intro _)) <;> first | omega | rfl | exact Or.inl rfl | assumption | exact nb1 (by assumption) | exact nb2 (by assumption) | exact nb3 (by assumption) | exact nb4 (by assumption) | decide | decide +kernel | (simp [*]; done))) ?_))
    refine ⟨_, [], ?_, rfl, rfl⟩
    (refine To.of [] ?_; cbv; (try simp only [nc]); (repeat' (first | exact trivial | exact WkN.refl _ | exact WkB.refl _ | refine ⟨?_, ?_⟩ | refine WkB.cells ?_ | refine WkN.agg ?_ | refine WkN.tup ?_)); (all_goals (first | exact .int rfl | exact .int (by first | omega | (simp only [nc]; omega) | (simp; done)) | exact .bool rfl | exact .snoc hnt rfl rfl rfl | exact .snoc hnt rfl rfl (by simp only [encZone, encTrain, lst_nt hnt]; rfl) | exact lit_nt hnt _ _ _ _ rfl | exact take_nt hnt (by omega) | exact lstR_wk hnt | exact .tok rfl | exact .tok (by simp) | exact .lst hnt rfl | exact .gsl (by simp) | exact .empty rfl | exact .nilOwn (by decide) (by decide) rfl | exact .nilGar (by decide) (by decide) rfl | exact .gd (by first | assumption | decide | (simp [*]; done)) (.refl _) | skip)))
  have h1 : C = 0 := by simpa using h1
  have k2 := k2 h1
  have k3 := k3 h1
  have k4 := k4 h1
  rw [if_neg (fun h => h h1)]
  unfold strs at k2
  generalize pieces z = L at *
  have hLl : (L.map cl).length = L.length := List.length_map ..
  obtain ⟨k4, k5⟩ := k4
  generalize hW : when L (1440 * d + m) = W at *
  (cbv; (try simp only [nc] at *); (try refine Chk.mk (by (try simp only [nc, allc0, allc1, allcE, allcI, Cn.p, and_true, true_and, decide_eq_true_eq, imp_self, List.length_cons, List.length_nil]); all_goals ((repeat' (first | apply And.intro | intro _)) <;> first | omega | rfl | exact Or.inl rfl | assumption | exact nb1 (by assumption) | exact nb2 (by assumption) | exact nb3 (by assumption) | exact nb4 (by assumption) | decide | decide +kernel | (simp [*]; done))) ?_))
  refine call0 (k2) (by first | rfl | (simp only [zoneA, lst_nt hnt]; rfl)) fun r h₂ hp => ?_
  (try simp only [zoneA, lst_nt hnt] at hp)
  obtain ⟨rfl, rfl⟩ := hp
  (cbv; (try simp only [nc] at *); (try refine Chk.mk (by (try simp only [nc, allc0, allc1, allcE, allcI, Cn.p, and_true, true_and, decide_eq_true_eq, imp_self, List.length_cons, List.length_nil]); all_goals ((repeat' (first | apply And.intro | intro _)) <;> first | omega | rfl | exact Or.inl rfl | assumption | exact nb1 (by assumption) | exact nb2 (by assumption) | exact nb3 (by assumption) | exact nb4 (by assumption) | decide | decide +kernel | (simp [*]; done))) ?_))
  refine loopS false false [] [9, 10, 11, 12] [.tok 1 fun _ => 0] (fun (⟨i, out⟩ : Nat × List Int) => [(9, .isl 1 (fun _ => (out.length : Int)) (fun e => encI (nt Int 0 out (e ()))) (.own 1)), (12, .int .i64 fun _ => (i : Int))]) (fun ⟨i, out⟩ => [(1, .tok 1 fun _ => (out.length : Int))]) (fun ⟨i, out⟩ => i ≤ L.length ∧ out.length ≤ i ∧ out ++ when (L.drop i) (1440 * d + m) = W) (fun i => L.length - i.1 + 0) (0, []) ⟨Nat.zero_le _, Nat.le_refl _, by simpa using hW⟩ ?_ ?_
  · (refine To.of [(1,false)] ?_; cbv; (try simp only [nc]); (repeat' (first | exact trivial | exact WkN.refl _ | exact WkB.refl _ | refine ⟨?_, ?_⟩ | refine WkB.cells ?_ | refine WkN.agg ?_ | refine WkN.tup ?_)); (all_goals (first | exact .int rfl | exact .int (by first | omega | (simp only [nc]; omega) | (simp; done)) | exact .bool rfl | exact .snoc hnt rfl rfl rfl | exact .snoc hnt rfl rfl (by simp only [encZone, encTrain, lst_nt hnt]; rfl) | exact lit_nt hnt _ _ _ _ rfl | exact take_nt hnt (by omega) | exact lstR_wk hnt | exact .tok rfl | exact .tok (by simp) | exact .lst hnt rfl | exact .gsl (by simp) | exact .empty rfl | exact .nilOwn (by decide) (by decide) rfl | exact .nilGar (by decide) (by decide) rfl | exact .gd (by first | assumption | decide | (simp [*]; done)) (.refl _) | skip)))
  rintro ⟨i, out⟩ ⟨hi, ho, hp⟩
  have hi : i ≤ L.length := hi
  have ho : out.length ≤ i := ho
  have hp : out ++ when (L.drop i) (1440 * d + m) = W := hp
  (cbv; (try simp only [nc] at *); (try refine Chk.mk (by (try simp only [nc, allc0, allc1, allcE, allcI, Cn.p, and_true, true_and, decide_eq_true_eq, imp_self, List.length_cons, List.length_nil]); all_goals ((repeat' (first | apply And.intro | intro _)) <;> first | omega | rfl | exact Or.inl rfl | assumption | exact nb1 (by assumption) | exact nb2 (by assumption) | exact nb3 (by assumption) | exact nb4 (by assumption) | decide | decide +kernel | (simp [*]; done))) ?_))
  refine ⟨fun hb1 => ?_, fun hb1 => ?_⟩
  · simp only [decide_eq_true_eq] at hb1
    have hil : i < L.length := by omega
    have hq := k5 _ (nt_mem (d := default) hnt (l := L) (i := i) hil)
    rw [nt_drop (d := default) hnt hil] at hp
    have hcl := cl_nt hnt (l := L) hil
    generalize nt Pc default L (i : Int) = p at *
    have hah := cl_ahd p
    have k102 := c102 (cl p) (1440 * d + m) (by omega) (by omega)
    rw [cl_has hq.2.2.1 (by unfold openT; omega)] at k102
    generalize cl p = q at *
    (cbv; try simp only [nc] at *)
    simp only [hcl]
    refine Chk.mk (by (try simp only [nc, allc0, allc1, allcE, allcI, Cn.p, and_true, true_and, decide_eq_true_eq, imp_self, List.length_cons, List.length_nil]); all_goals ((repeat' (first | apply And.intro | intro _)) <;> first | omega | rfl | exact Or.inl rfl | assumption | exact nb1 (by assumption) | exact nb2 (by assumption) | exact nb3 (by assumption) | exact nb4 (by assumption) | decide | decide +kernel | (simp [*]; done))) ?_
    refine call0 (k102) (by first | rfl | (simp only [zoneA, lst_nt hnt]; rfl)) fun r h₂ hp => ?_
    (try simp only [zoneA, lst_nt hnt] at hp)
    obtain ⟨rfl, rfl⟩ := hp
    (cbv; (try simp only [nc] at *); (try refine Chk.mk (by (try simp only [nc, allc0, allc1, allcE, allcI, Cn.p, and_true, true_and, decide_eq_true_eq, imp_self, List.length_cons, List.length_nil]); all_goals ((repeat' (first | apply And.intro | intro _)) <;> first | omega | rfl | exact Or.inl rfl | assumption | exact nb1 (by assumption) | exact nb2 (by assumption) | exact nb3 (by assumption) | exact nb4 (by assumption) | decide | decide +kernel | (simp [*]; done))) ?_))
    refine ⟨fun hb2 => ?_, fun hb2 => ?_⟩
    · have hb2' := of_decide_eq_true hb2
      have hw : when (p :: L.drop (i + 1)) (1440 * d + m) = (1440 * d + m - p.ahd) :: when (L.drop (i + 1)) (1440 * d + m) := if_pos hb2'
      rw [hw] at hp
      (cbv; try simp only [nc] at *)
      simp only [hcl, hah]
      refine Chk.mk (by (try simp only [nc, allc0, allc1, allcE, allcI, Cn.p, and_true, true_and, decide_eq_true_eq, imp_self, List.length_cons, List.length_nil]); all_goals ((repeat' (first | apply And.intro | intro _)) <;> first | omega | rfl | exact Or.inl rfl | assumption | exact nb1 (by assumption) | exact nb2 (by assumption) | exact nb3 (by assumption) | exact nb4 (by assumption) | decide | decide +kernel | (simp [*]; done))) ?_
      refine ⟨(i + 1, out ++ [1440 * d + m - p.ahd]), ⟨by show i + 1 ≤ L.length; omega, by show (out ++ [_]).length ≤ i + 1; rw [List.length_append]; simp only [List.length_cons, List.length_nil]; omega, by show (out ++ [1440 * d + m - p.ahd]) ++ _ = W; rw [List.append_assoc]; exact hp⟩, by show L.length - (i + 1) + 0 < L.length - i + 0; omega, ?_⟩
      (refine To.of [] ?_; cbv; (try simp only [nc]); (repeat' (first | exact trivial | exact WkN.refl _ | exact WkB.refl _ | refine ⟨?_, ?_⟩ | refine WkB.cells ?_ | refine WkN.agg ?_ | refine WkN.tup ?_)); (all_goals (first | exact .int rfl | exact .int (by first | omega | (simp only [nc]; omega) | (simp; done)) | exact .bool rfl | exact .snoc hnt rfl rfl rfl | exact .snoc hnt rfl rfl (by simp only [encZone, encTrain, lst_nt hnt]; rfl) | exact lit_nt hnt _ _ _ _ rfl | exact take_nt hnt (by omega) | exact lstR_wk hnt | exact .tok rfl | exact .tok (by simp) | exact .lst hnt rfl | exact .gsl (by simp) | exact .empty rfl | exact .nilOwn (by decide) (by decide) rfl | exact .nilGar (by decide) (by decide) rfl | exact .gd (by first | assumption | decide | (simp [*]; done)) (.refl _) | skip)))
    · have hb2' := of_decide_eq_false hb2
      have hw : when (p :: L.drop (i + 1)) (1440 * d + m) = when (L.drop (i + 1)) (1440 * d + m) := if_neg hb2'
      rw [hw] at hp
      (cbv; (try simp only [nc] at *); (try refine Chk.mk (by (try simp only [nc, allc0, allc1, allcE, allcI, Cn.p, and_true, true_and, decide_eq_true_eq, imp_self, List.length_cons, List.length_nil]); all_goals ((repeat' (first | apply And.intro | intro _)) <;> first | omega | rfl | exact Or.inl rfl | assumption | exact nb1 (by assumption) | exact nb2 (by assumption) | exact nb3 (by assumption) | exact nb4 (by assumption) | decide | decide +kernel | (simp [*]; done))) ?_))
      refine ⟨(i + 1, out), ⟨by show i + 1 ≤ L.length; omega, by show out.length ≤ i + 1; omega, hp⟩, by show L.length - (i + 1) + 0 < L.length - i + 0; omega, ?_⟩
      (refine To.of [] ?_; cbv; (try simp only [nc]); (repeat' (first | exact trivial | exact WkN.refl _ | exact WkB.refl _ | refine ⟨?_, ?_⟩ | refine WkB.cells ?_ | refine WkN.agg ?_ | refine WkN.tup ?_)); (all_goals (first | exact .int rfl | exact .int (by first | omega | (simp only [nc]; omega) | (simp; done)) | exact .bool rfl | exact .snoc hnt rfl rfl rfl | exact .snoc hnt rfl rfl (by simp only [encZone, encTrain, lst_nt hnt]; rfl) | exact lit_nt hnt _ _ _ _ rfl | exact take_nt hnt (by omega) | exact lstR_wk hnt | exact .tok rfl | exact .tok (by simp) | exact .lst hnt rfl | exact .gsl (by simp) | exact .empty rfl | exact .nilOwn (by decide) (by decide) rfl | exact .nilGar (by decide) (by decide) rfl | exact .gd (by first | assumption | decide | (simp [*]; done)) (.refl _) | skip)))
  · have hie : L.length ≤ i := by simp only [decide_eq_false_iff_not] at hb1; omega
    rw [List.drop_eq_nil_of_le hie] at hp
    have hp : out = W := by simpa [when] using hp
    rw [← hp]
    (cbv; (try simp only [nc] at *); (try refine Chk.mk (by (try simp only [nc, allc0, allc1, allcE, allcI, Cn.p, and_true, true_and, decide_eq_true_eq, imp_self, List.length_cons, List.length_nil]); all_goals ((repeat' (first | apply And.intro | intro _)) <;> first | omega | rfl | exact Or.inl rfl | assumption | exact nb1 (by assumption) | exact nb2 (by assumption) | exact nb3 (by assumption) | exact nb4 (by assumption) | decide | decide +kernel | (simp [*]; done))) ?_))
    refine ⟨_, [], ?_, rfl, rfl⟩
    (refine To.of [] ?_; cbv; (try simp only [nc]); (repeat' (first | exact trivial | exact WkN.refl _ | exact WkB.refl _ | refine ⟨?_, ?_⟩ | refine WkB.cells ?_ | refine WkN.agg ?_ | refine WkN.tup ?_)); (all_goals (first | exact .int rfl | exact .int (by first | omega | (simp only [nc]; omega) | (simp; done)) | exact .bool rfl | exact .snoc hnt rfl rfl rfl | exact .snoc hnt rfl rfl (by simp only [encZone, encTrain, lst_nt hnt]; rfl) | exact lit_nt hnt _ _ _ _ rfl | exact take_nt hnt (by omega) | exact lstR_wk hnt | exact .tok rfl | exact .tok (by simp) | exact .lst hnt rfl | exact .gsl (by simp) | exact .empty rfl | exact .nilOwn (by decide) (by decide) rfl | exact .nilGar (by decide) (by decide) rfl | exact .gd (by first | assumption | decide | (simp [*]; done)) (.refl _) | skip)))

theorem c103 (z : Zone) (r a : Int) (hz : checkZone z = 0) (hr : -1000000 ≤ r ∧ r ≤ 1000000) (ha : 0 ≤ a ∧ a < openT) : SC (fun _ => Try.prog) 103 [zoneA z, .int .i64 fun _ => r, .int .i64 fun _ => a] [] fun v h => v = .int .i64 (fun _ => hour (pieces z) r a) ∧ h = [] := by
  obtain ⟨nt, hnt⟩ := nth_ex
  have k2 := c101 z hz
  obtain ⟨k4, k5⟩ := pieces_bd hz
  have hop := pcsGo_open z.chs 0 z.base (fun c hc => ((asc_of hz).2.1 c hc).2.1)
  have hl1 := (pcsGo_len z.chs 0 z.base).1
  change ∀ i, i < (pieces z).length → (((pieces z).getD i default).bef = openT ↔ i + 1 = (pieces z).length) at hop
  change 1 ≤ (pieces z).length at hl1
  unfold openT at *
  refine con Try.func103 (body := bodyOf Try.f103) rfl (by decide +kernel) ?_
  unfold zoneA at *
  simp only [lst_nt hnt] at *
  unfold strs at k2
  generalize pieces z = L at *
  have hLl : (L.map cl).length = L.length := List.length_map ..
  generalize hW : hour L r a = W at *
  (cbv; (try simp only [nc] at *); (try refine Chk.mk (by (try simp only [nc, allc0, allc1, allcE, allcI, Cn.p, and_true, true_and, decide_eq_true_eq, imp_self, List.length_cons, List.length_nil]); all_goals ((repeat' (first | apply And.intro | intro _)) <;> first | omega | rfl | exact Or.inl rfl | assumption | exact nb1 (by assumption) | exact nb2 (by assumption) | exact nb3 (by assumption) | exact nb4 (by assumption) | decide | decide +kernel | (simp [*]; done))) ?_))
  refine call0 (k2) (by first | rfl | (simp only [zoneA, lst_nt hnt]; rfl)) fun r h₂ hp => ?_
  (try simp only [zoneA, lst_nt hnt] at hp)
  obtain ⟨rfl, rfl⟩ := hp
  (cbv; (try simp only [nc] at *); (try refine Chk.mk (by (try simp only [nc, allc0, allc1, allcE, allcI, Cn.p, and_true, true_and, decide_eq_true_eq, imp_self, List.length_cons, List.length_nil]); all_goals ((repeat' (first | apply And.intro | intro _)) <;> first | omega | rfl | exact Or.inl rfl | assumption | exact nb1 (by assumption) | exact nb2 (by assumption) | exact nb3 (by assumption) | exact nb4 (by assumption) | decide | decide +kernel | (simp [*]; done))) ?_))
  refine loopS false false [] [1, 2, 7, 8] [] (fun (i : Nat) => [(8, .int .i64 fun _ => (i : Int))]) (fun _ => []) (fun i => i < L.length ∧ hour (L.drop i) r a = W) (fun i => L.length - i + 0) 0 ⟨by omega, by simpa using hW⟩ ?_ ?_
  · (refine To.of [] ?_; cbv; (try simp only [nc]); (repeat' (first | exact trivial | exact WkN.refl _ | exact WkB.refl _ | refine ⟨?_, ?_⟩ | refine WkB.cells ?_ | refine WkN.agg ?_ | refine WkN.tup ?_)); (all_goals (first | exact .int rfl | exact .int (by first | omega | (simp only [nc]; omega) | (simp; done)) | exact .bool rfl | exact .snoc hnt rfl rfl rfl | exact .snoc hnt rfl rfl (by simp only [encZone, encTrain, lst_nt hnt]; rfl) | exact lit_nt hnt _ _ _ _ rfl | exact take_nt hnt (by omega) | exact lstR_wk hnt | exact .tok rfl | exact .tok (by simp) | exact .lst hnt rfl | exact .gsl (by simp) | exact .empty rfl | exact .nilOwn (by decide) (by decide) rfl | exact .nilGar (by decide) (by decide) rfl | exact .gd (by first | assumption | decide | (simp [*]; done)) (.refl _) | skip)))
  intro i hpp
  have hi : i < L.length := hpp.1
  have hp : hour (L.drop i) r a = W := hpp.2
  clear hpp
  have hq := k5 _ (nt_mem (d := default) hnt (l := L) (i := i) hi)
  have hopi := hop i hi
  have e1 : L.getD i default = nt Pc default L (i : Int) := by rw [hnt]; rfl
  rw [e1] at hopi
  rw [nt_drop (d := default) hnt hi, hour] at hp
  have hcl := cl_nt hnt (l := L) hi
  generalize nt Pc default L (i : Int) = p at *
  have hah := cl_ahd p
  have hfr := cl_fr p
  have hbe : (cl p).bef = if p.bef = 1099511627776 then -1 else p.bef := by
    unfold cl openT
    split <;> rfl
  generalize cl p = q at *
  have hmx : (if (if q.fr < a then a else q.fr) < r - q.ahd then r - q.ahd else (if q.fr < a then a else q.fr)) = max p.fr (max a (r - p.ahd)) := by
    rw [hfr, hah]
    split <;> split <;> omega
  have hmb : 0 ≤ max p.fr (max a (r - p.ahd)) ∧ max p.fr (max a (r - p.ahd)) < 1099511627776 := by omega
  (cbv; try simp only [nc] at *)
  simp only [hcl]
  refine Chk.mk (by (try simp only [nc, allc0, allc1, allcE, allcI, Cn.p, and_true, true_and, decide_eq_true_eq, imp_self, List.length_cons, List.length_nil]); all_goals ((repeat' (first | apply And.intro | intro _)) <;> first | omega | rfl | exact Or.inl rfl | assumption | exact nb1 (by assumption) | exact nb2 (by assumption) | exact nb3 (by assumption) | exact nb4 (by assumption) | decide | decide +kernel | (simp [*]; done))) ?_
  simp only [hmx]
  generalize max p.fr (max a (r - p.ahd)) = M at *
  refine ⟨fun hb2 => ?_, fun hb2 => ?_⟩
  · have hc : M < p.bef := by
      by_cases h : p.bef = 1099511627776
      · omega
      · rw [if_neg h] at hbe
        rw [hbe, decide_eq_false (by omega)] at hb2
        simpa using hb2
    rw [if_pos hc] at hp
    rw [← hp]
    (cbv; (try simp only [nc] at *); (try refine Chk.mk (by (try simp only [nc, allc0, allc1, allcE, allcI, Cn.p, and_true, true_and, decide_eq_true_eq, imp_self, List.length_cons, List.length_nil]); all_goals ((repeat' (first | apply And.intro | intro _)) <;> first | omega | rfl | exact Or.inl rfl | assumption | exact nb1 (by assumption) | exact nb2 (by assumption) | exact nb3 (by assumption) | exact nb4 (by assumption) | decide | decide +kernel | (simp [*]; done))) ?_))
    (try first | exact ⟨rfl, trivial⟩ | exact ⟨trivial, trivial⟩)
  · have hc : ¬ M < p.bef := by
      intro h'
      by_cases h : p.bef = 1099511627776
      · rw [if_pos h] at hbe
        rw [hbe] at hb2
        simp at hb2
      · rw [if_neg h] at hbe
        rw [hbe, decide_eq_false (by omega), decide_eq_true h'] at hb2
        cases hb2
    rw [if_neg hc] at hp
    have hi2 : i + 1 < L.length := by
      rcases Nat.lt_or_ge (i + 1) L.length with h | h
      · exact h
      · have := hopi.2 (by omega); omega
    (cbv; (try simp only [nc] at *); (try refine Chk.mk (by (try simp only [nc, allc0, allc1, allcE, allcI, Cn.p, and_true, true_and, decide_eq_true_eq, imp_self, List.length_cons, List.length_nil]); all_goals ((repeat' (first | apply And.intro | intro _)) <;> first | omega | rfl | exact Or.inl rfl | assumption | exact nb1 (by assumption) | exact nb2 (by assumption) | exact nb3 (by assumption) | exact nb4 (by assumption) | decide | decide +kernel | (simp [*]; done))) ?_))
    refine ⟨i + 1, ⟨hi2, hp⟩, by show L.length - (i + 1) + 0 < L.length - i + 0; omega, ?_⟩
    (refine To.of [] ?_; cbv; (try simp only [nc]); (repeat' (first | exact trivial | exact WkN.refl _ | exact WkB.refl _ | refine ⟨?_, ?_⟩ | refine WkB.cells ?_ | refine WkN.agg ?_ | refine WkN.tup ?_)); (all_goals (first | exact .int rfl | exact .int (by first | omega | (simp only [nc]; omega) | (simp; done)) | exact .bool rfl | exact .snoc hnt rfl rfl rfl | exact .snoc hnt rfl rfl (by simp only [encZone, encTrain, lst_nt hnt]; rfl) | exact lit_nt hnt _ _ _ _ rfl | exact take_nt hnt (by omega) | exact lstR_wk hnt | exact .tok rfl | exact .tok (by simp) | exact .lst hnt rfl | exact .gsl (by simp) | exact .empty rfl | exact .nilOwn (by decide) (by decide) rfl | exact .nilGar (by decide) (by decide) rfl | exact .gd (by first | assumption | decide | (simp [*]; done)) (.refl _) | skip)))

theorem c56 (z : Zone) (d m a : Int) (hlen : z.chs.length ≤ 1000) : SC (fun _ => Try.prog) 56 [zoneA z, .int .i64 fun _ => d, .int .i64 fun _ => m, .int .i64 fun _ => a] [] fun v h => v = .tup [.int .i64 fun _ => (Hour z d m a).1, .int .i64 fun _ => (Hour z d m a).2] ∧ h = [] := by
  obtain ⟨nt, hnt⟩ := nth_ex
  have k1 := c100 z d m hlen
  have k2 := c72 a 0 43200
  have k3 := fun h : checkHour z d m = 0 => (hour_ok h).2
  have k4 := fun (h : checkHour z d m = 0) hr ha => c103 z (1440 * d + m) a (hour_ok h).1 hr ha
  unfold Hour
  generalize checkHour z d m = C at *
  refine con Try.func56 (body := bodyOf Try.f56) rfl (by decide +kernel) ?_
  unfold zoneA at *
  simp only [lst_nt hnt] at *
  (cbv; (try simp only [nc] at *); (try refine Chk.mk (by (try simp only [nc, allc0, allc1, allcE, allcI, Cn.p, and_true, true_and, decide_eq_true_eq, imp_self, List.length_cons, List.length_nil]); all_goals ((repeat' (first | apply And.intro | intro _)) <;> first | omega | rfl | exact Or.inl rfl | assumption | exact nb1 (by assumption) | exact nb2 (by assumption) | exact nb3 (by assumption) | exact nb4 (by assumption) | decide | decide +kernel | (simp [*]; done))) ?_))
  refine call0 (k1) (by first | rfl | (simp only [zoneA, lst_nt hnt]; rfl)) fun r h₂ hp => ?_
  (try simp only [zoneA, lst_nt hnt] at hp)
  obtain ⟨rfl, rfl⟩ := hp
  (cbv; (try simp only [nc] at *); (try refine Chk.mk (by (try simp only [nc, allc0, allc1, allcE, allcI, Cn.p, and_true, true_and, decide_eq_true_eq, imp_self, List.length_cons, List.length_nil]); all_goals ((repeat' (first | apply And.intro | intro _)) <;> first | omega | rfl | exact Or.inl rfl | assumption | exact nb1 (by assumption) | exact nb2 (by assumption) | exact nb3 (by assumption) | exact nb4 (by assumption) | decide | decide +kernel | (simp [*]; done))) ?_))
  refine ⟨fun h1 => ?_, fun h1 => ?_⟩
  · rw [if_pos (by simpa using h1)]
    (cbv; (try simp only [nc] at *); (try refine Chk.mk (by (try simp only [nc, allc0, allc1, allcE, allcI, Cn.p, and_true, true_and, decide_eq_true_eq, imp_self, List.length_cons, List.length_nil]); all_goals ((repeat' (first | apply And.intro | intro _)) <;> first | omega | rfl | exact Or.inl rfl | assumption | exact nb1 (by assumption) | exact nb2 (by assumption) | exact nb3 (by assumption) | exact nb4 (by assumption) | decide | decide +kernel | (simp [*]; done))) ?_))
    (try first | exact ⟨rfl, trivial⟩ | exact ⟨trivial, trivial⟩)
  have h1 : C = 0 := by simpa using h1
  have k3 := k3 h1
  rw [if_neg (fun h => h h1)]
  (cbv; (try simp only [nc] at *); (try refine Chk.mk (by (try simp only [nc, allc0, allc1, allcE, allcI, Cn.p, and_true, true_and, decide_eq_true_eq, imp_self, List.length_cons, List.length_nil]); all_goals ((repeat' (first | apply And.intro | intro _)) <;> first | omega | rfl | exact Or.inl rfl | assumption | exact nb1 (by assumption) | exact nb2 (by assumption) | exact nb3 (by assumption) | exact nb4 (by assumption) | decide | decide +kernel | (simp [*]; done))) ?_))
  refine call0 (k2) (by first | rfl | (simp only [zoneA, lst_nt hnt]; rfl)) fun r h₂ hp => ?_
  (try simp only [zoneA, lst_nt hnt] at hp)
  obtain ⟨rfl, rfl⟩ := hp
  (cbv; (try simp only [nc] at *); (try refine Chk.mk (by (try simp only [nc, allc0, allc1, allcE, allcI, Cn.p, and_true, true_and, decide_eq_true_eq, imp_self, List.length_cons, List.length_nil]); all_goals ((repeat' (first | apply And.intro | intro _)) <;> first | omega | rfl | exact Or.inl rfl | assumption | exact nb1 (by assumption) | exact nb2 (by assumption) | exact nb3 (by assumption) | exact nb4 (by assumption) | decide | decide +kernel | (simp [*]; done))) ?_))
  refine ⟨fun h2 => ?_, fun h2 => ?_⟩
  · rw [if_pos h2]
    (cbv; (try simp only [nc] at *); (try refine Chk.mk (by (try simp only [nc, allc0, allc1, allcE, allcI, Cn.p, and_true, true_and, decide_eq_true_eq, imp_self, List.length_cons, List.length_nil]); all_goals ((repeat' (first | apply And.intro | intro _)) <;> first | omega | rfl | exact Or.inl rfl | assumption | exact nb1 (by assumption) | exact nb2 (by assumption) | exact nb3 (by assumption) | exact nb4 (by assumption) | decide | decide +kernel | (simp [*]; done))) ?_))
    (try first | exact ⟨rfl, trivial⟩ | exact ⟨trivial, trivial⟩)
  have ha := inB_ok (by simpa using h2 : inB a 0 43200 = true)
  rw [if_neg (by rw [h2]; exact Bool.false_ne_true)]
  have k4 := k4 h1 (by omega) (by unfold openT; omega)
  generalize hour (pieces z) (1440 * d + m) a = W at *
  (cbv; (try simp only [nc] at *); (try refine Chk.mk (by (try simp only [nc, allc0, allc1, allcE, allcI, Cn.p, and_true, true_and, decide_eq_true_eq, imp_self, List.length_cons, List.length_nil]); all_goals ((repeat' (first | apply And.intro | intro _)) <;> first | omega | rfl | exact Or.inl rfl | assumption | exact nb1 (by assumption) | exact nb2 (by assumption) | exact nb3 (by assumption) | exact nb4 (by assumption) | decide | decide +kernel | (simp [*]; done))) ?_))
  refine call0 (k4) (by first | rfl | (simp only [zoneA, lst_nt hnt]; rfl)) fun r h₂ hp => ?_
  (try simp only [zoneA, lst_nt hnt] at hp)
  obtain ⟨rfl, rfl⟩ := hp
  (cbv; (try simp only [nc] at *); (try refine Chk.mk (by (try simp only [nc, allc0, allc1, allcE, allcI, Cn.p, and_true, true_and, decide_eq_true_eq, imp_self, List.length_cons, List.length_nil]); all_goals ((repeat' (first | apply And.intro | intro _)) <;> first | omega | rfl | exact Or.inl rfl | assumption | exact nb1 (by assumption) | exact nb2 (by assumption) | exact nb3 (by assumption) | exact nb4 (by assumption) | decide | decide +kernel | (simp [*]; done))) ?_))
  (try first | exact ⟨rfl, trivial⟩ | exact ⟨trivial, trivial⟩)
end Go.Proofs.Ytlcgliadpalgfaa.Vm
