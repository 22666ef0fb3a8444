/- Contracts: the earliest of all choices. -/
import Derived.Test.YtlcgliadpalgfaaRu
set_option linter.unusedSimpArgs false
set_option linter.unusedVariables false
namespace Go.Proofs.Ytlcgliadpalgfaa.Vm
open Go Go.Proofs Sp
set_option maxRecDepth 100000
set_option maxHeartbeats 1600000

def encRows (R : List Sp.Ride) : List AV := [lst 3 encRide default R]
theorem encRows_nt {nt : (α : Type) → α → List α → Int → α} (hnt : ∀ (α : Type) (d : α) (l : List α) (i : Int), nt α d l i = l.getD i.toNat d) (R : List Sp.Ride) : encRows R = [.isl 3 (fun _ => (R.length : Int)) (fun e => encRide (nt Sp.Ride default R (e ()))) .none] := by
  unfold encRows
  rw [lst_nt hnt]

theorem drop1_rows {nt : (α : Type) → α → List α → Int → α} (hnt : ∀ (α : Type) (d : α) (l : List α) (i : Int), nt α d l i = l.getD i.toNat d) {A : List (List Sp.Ride)} (hA : 1 ≤ A.length) {n k : Nat} {tk : Tk} :
    WkN n k (.isl 1 (fun _ => (A.length : Int) - 1) (fun e => [.isl 3 (fun _ => ((nt (List Sp.Ride) [] A (e () + 1)).length : Int)) (fun e' => encRide (nt Sp.Ride default (nt (List Sp.Ride) [] A (e () + 1)) (e' ()))) .none]) tk) (.isl 1 (fun _ => ((A.drop 1).length : Int)) (fun e => [.isl 3 (fun _ => ((nt (List Sp.Ride) [] (A.drop 1) (e ())).length : Int)) (fun e' => encRide (nt Sp.Ride default (nt (List Sp.Ride) [] (A.drop 1) (e ())) (e' ()))) .none]) .none) := by
  refine .none (by show (A.length : Int) - 1 = ((A.drop 1).length : Int); rw [List.length_drop]; omega) fun j hj => ?_
  have e : nt (List Sp.Ride) [] A ((j : Int) + 1) = nt (List Sp.Ride) [] (A.drop 1) (j : Int) := by
    rw [hnt, hnt]
    simp only [List.getD_eq_getElem?_getD, List.getElem?_drop, Int.toNat_natCast]
    congr 2
    omega
  show [AV.isl 3 (fun _ => ((nt (List Sp.Ride) [] A ((j : Int) + 1)).length : Int)) (fun e' => encRide (nt Sp.Ride default (nt (List Sp.Ride) [] A ((j : Int) + 1)) (e' ()))) .none] = _
  rw [e]

theorem c21 : ∀ (all : List (List Sp.Ride)) (a : Int), all.length ≤ 1000 → (∀ R ∈ all, R.length ≤ 1000) → SC (fun _ => Try.prog) 21 [lst 1 encRows [] all, .int .i64 fun _ => a] [] fun v h => v = .int .i64 (fun _ => early all a) ∧ h = []
  | [], a, _, _ => by
    refine con Try.func21 (body := bodyOf Try.f21) rfl (by decide +kernel) ?_
    (cbv; (try simp only [nc] at *); (try refine Chk.mk (by (try simp only [nc, allc0, allc1, allcE, allcI, Cn.p, and_true, true_and, decide_eq_true_eq, imp_self, List.length_cons, List.length_nil]); all_goals ((repeat' (first | apply And.intro | intro _)) <;> first | omega | rfl | exact Or.inl rfl | assumption | exact nb1 (by assumption) | exact nb2 (by assumption) | exact nb3 (by assumption) | exact nb4 (by assumption) | decide | decide +kernel | (simp [*]; done))) ?_))
    refine Br.isT rfl ?_
    (cbv; (try simp only [nc] at *); (try refine Chk.mk (by (try simp only [nc, allc0, allc1, allcE, allcI, Cn.p, and_true, true_and, decide_eq_true_eq, imp_self, List.length_cons, List.length_nil]); all_goals ((repeat' (first | apply And.intro | intro _)) <;> first | omega | rfl | exact Or.inl rfl | assumption | exact nb1 (by assumption) | exact nb2 (by assumption) | exact nb3 (by assumption) | exact nb4 (by assumption) | decide | decide +kernel | (simp [*]; done))) ?_))
    (try first | exact ⟨rfl, trivial⟩ | exact ⟨trivial, trivial⟩)
  | R0 :: rest, a, hl, hR => by
    obtain ⟨nt, hnt⟩ := nth_ex
    have ih := fun x => c21 rest x (by simp at hl; omega) (fun R h => hR R (List.mem_cons_of_mem _ h))
    have hR0 := hR R0 (List.mem_cons_self ..)
    have h0 : nt (List Sp.Ride) [] (R0 :: rest) 0 = R0 := by rw [hnt]; rfl
    have hdr : rest = (R0 :: rest).drop 1 := rfl
    have hE : early (R0 :: rest) a = R0.foldl (eStep (early rest) a) (-1) := rfl
    have hA1 : 1 ≤ (R0 :: rest).length := by simp
    have hdl : rest.length = (R0 :: rest).length - 1 := by simp
    generalize early (R0 :: rest) a = E at *
    generalize hA : R0 :: rest = A at *
    simp only [lst_nt hnt, encRows_nt hnt] at ih ⊢
    refine con Try.func21 (body := bodyOf Try.f21) rfl (by decide +kernel) ?_
    (cbv; (try simp only [nc] at *); (try refine Chk.mk (by (try simp only [nc, allc0, allc1, allcE, allcI, Cn.p, and_true, true_and, decide_eq_true_eq, imp_self, List.length_cons, List.length_nil]); all_goals ((repeat' (first | apply And.intro | intro _)) <;> first | omega | rfl | exact Or.inl rfl | assumption | exact nb1 (by assumption) | exact nb2 (by assumption) | exact nb3 (by assumption) | exact nb4 (by assumption) | decide | decide +kernel | (simp [*]; done))) ?_))
    refine Br.isF (by rw [beq_eq_false_iff_ne]; omega) ?_
    (cbv; (try simp only [nc] at *); (try refine Chk.mk (by (try simp only [nc, allc0, allc1, allcE, allcI, Cn.p, and_true, true_and, decide_eq_true_eq, imp_self, List.length_cons, List.length_nil]); all_goals ((repeat' (first | apply And.intro | intro _)) <;> first | omega | rfl | exact Or.inl rfl | assumption | exact nb1 (by assumption) | exact nb2 (by assumption) | exact nb3 (by assumption) | exact nb4 (by assumption) | decide | decide +kernel | (simp [*]; done))) ?_))
    refine loopS false false [] [0, 1, 5, 6] [] (fun (⟨k, w⟩ : Nat × Int) => [(5, .int .i64 fun _ => w), (6, .int .i64 fun _ => (k : Int))]) (fun _ => []) (fun ⟨k, w⟩ => k ≤ R0.length ∧ (R0.drop k).foldl (eStep (early rest) a) w = E) (fun i => R0.length - i.1 + 0) (0, -1) ⟨Nat.zero_le _, by simpa using hE.symm⟩ ?_ ?_
    · (refine To.of [] ?_; cbv; (try simp only [nc]); (repeat' (first | exact trivial | exact WkN.refl _ | exact WkB.refl _ | refine ⟨?_, ?_⟩ | refine WkB.cells ?_ | refine WkN.agg ?_ | refine WkN.tup ?_)); (all_goals (first | exact .int rfl | exact .int (by first | omega | (simp only [nc]; omega) | (simp; done)) | exact .bool rfl | exact .snoc hnt rfl rfl rfl | exact .snoc hnt rfl rfl (by simp only [encZone, encTrain, lst_nt hnt]; rfl) | exact lit_nt hnt _ _ _ _ rfl | exact take_nt hnt (by omega) | exact lstR_wk hnt | exact .tok rfl | exact .tok (by simp) | exact .lst hnt rfl | exact .gsl (by simp) | exact .empty rfl | exact .nilOwn (by decide) (by decide) rfl | exact .nilGar (by decide) (by decide) rfl | exact .gd (by first | assumption | decide | (simp [*]; done)) (.refl _) | skip)))
    rintro ⟨k, w⟩ ⟨hk, hw⟩
    have hk : k ≤ R0.length := hk
    have hw : (R0.drop k).foldl (eStep (early rest) a) w = E := hw
    (cbv; try simp only [nc] at *)
    simp only [h0]
    refine Chk.mk (by (try simp only [nc, allc0, allc1, allcE, allcI, Cn.p, and_true, true_and, decide_eq_true_eq, imp_self, List.length_cons, List.length_nil]); all_goals ((repeat' (first | apply And.intro | intro _)) <;> first | omega | rfl | exact Or.inl rfl | assumption | exact nb1 (by assumption) | exact nb2 (by assumption) | exact nb3 (by assumption) | exact nb4 (by assumption) | decide | decide +kernel | (simp [*]; done))) ?_
    refine ⟨fun hb => ?_, fun hb => ?_⟩
    · simp only [decide_eq_true_eq] at hb
      have hk' : k < R0.length := by omega
      rw [nt_drop (d := default) hnt (l := R0) (i := k) hk', List.foldl_cons] at hw
      generalize hx : nt Sp.Ride default R0 (k : Int) = x at *
      unfold eStep at hw
      have ih := ih x.arrive
      generalize hn : early rest x.arrive = n at *
      (cbv; try simp only [nc] at *)
      simp only [h0, hx]
      refine Chk.mk (by (try simp only [nc, allc0, allc1, allcE, allcI, Cn.p, and_true, true_and, decide_eq_true_eq, imp_self, List.length_cons, List.length_nil]); all_goals ((repeat' (first | apply And.intro | intro _)) <;> first | omega | rfl | exact Or.inl rfl | assumption | exact nb1 (by assumption) | exact nb2 (by assumption) | exact nb3 (by assumption) | exact nb4 (by assumption) | decide | decide +kernel | (simp [*]; done))) ?_
      refine ⟨fun hb2 => ?_, fun hb2 => ?_⟩
      · have hb2' := bif_and hb2
        rw [if_pos ⟨of_decide_eq_true hb2'.1, of_decide_eq_true hb2'.2⟩] at hw
        rw [hdr] at ih
        (cbv; try simp only [nc] at *)
        simp only [h0, hx]
        refine Chk.mk (by (try simp only [nc, allc0, allc1, allcE, allcI, Cn.p, and_true, true_and, decide_eq_true_eq, imp_self, List.length_cons, List.length_nil]); all_goals ((repeat' (first | apply And.intro | intro _)) <;> first | omega | rfl | exact Or.inl rfl | assumption | exact nb1 (by assumption) | exact nb2 (by assumption) | exact nb3 (by assumption) | exact nb4 (by assumption) | decide | decide +kernel | (simp [*]; done))) ?_
        refine call0T ih (by (refine To.of [] ?_; cbv; (try simp only [nc]); (repeat' (first | exact trivial | exact WkN.refl _ | exact WkB.refl _ | refine ⟨?_, ?_⟩ | refine WkB.cells ?_ | refine WkN.agg ?_ | refine WkN.tup ?_)); (all_goals (first | exact .int rfl | exact .int (by first | omega | (simp only [nc]; omega) | (simp; done)) | exact .bool rfl | exact .snoc hnt rfl rfl rfl | exact .snoc hnt rfl rfl (by simp only [encZone, encTrain, lst_nt hnt]; rfl) | exact lit_nt hnt _ _ _ _ rfl | exact take_nt hnt (by omega) | exact lstR_wk hnt | exact .tok rfl | exact .tok (by simp) | exact .lst hnt rfl | exact .gsl (by simp) | exact .empty rfl | exact .nilOwn (by decide) (by decide) rfl | exact .nilGar (by decide) (by decide) rfl | exact .gd (by first | assumption | decide | (simp [*]; done)) (.refl _) | skip))); exact drop1_rows hnt hA1) rfl fun r h₂ hq => ?_
        obtain ⟨rfl, rfl⟩ := hq
        (cbv; try simp only [nc] at *)
        refine Chk.mk ?_ ?_
        · simp only [nc, allc0, allc1, allcE, allcI, Cn.p, and_true, true_and, decide_eq_true_eq, imp_self, List.length_cons, List.length_nil]
          exact fun h1 h2 => by rw [decide_eq_true h1, h2]; rfl
        refine ⟨fun hb3 => ?_, fun hb3 => ?_⟩
        · have hc : 0 ≤ n ∧ (w < 0 ∨ n < w) := by
            have h1 := bif_and hb3
            refine ⟨of_decide_eq_true h1.1, ?_⟩
            by_cases h : w < 0
            · exact .inl h
            · have h2 := h1.2
              rw [decide_eq_false h] at h2
              exact .inr (of_decide_eq_true h2)
          rw [if_pos hc] at hw
          (cbv; (try simp only [nc] at *); (try refine Chk.mk (by (try simp only [nc, allc0, allc1, allcE, allcI, Cn.p, and_true, true_and, decide_eq_true_eq, imp_self, List.length_cons, List.length_nil]); all_goals ((repeat' (first | apply And.intro | intro _)) <;> first | omega | rfl | exact Or.inl rfl | assumption | exact nb1 (by assumption) | exact nb2 (by assumption) | exact nb3 (by assumption) | exact nb4 (by assumption) | decide | decide +kernel | (simp [*]; done))) ?_))
          refine ⟨(k + 1, n), ⟨by show k + 1 ≤ R0.length; omega, hw⟩, by show R0.length - (k + 1) + 0 < R0.length - k + 0; omega, ?_⟩
          (refine To.of [] ?_; cbv; (try simp only [nc]); (repeat' (first | exact trivial | exact WkN.refl _ | exact WkB.refl _ | refine ⟨?_, ?_⟩ | refine WkB.cells ?_ | refine WkN.agg ?_ | refine WkN.tup ?_)); (all_goals (first | exact .int rfl | exact .int (by first | omega | (simp only [nc]; omega) | (simp; done)) | exact .bool rfl | exact .snoc hnt rfl rfl rfl | exact .snoc hnt rfl rfl (by simp only [encZone, encTrain, lst_nt hnt]; rfl) | exact lit_nt hnt _ _ _ _ rfl | exact take_nt hnt (by omega) | exact lstR_wk hnt | exact .tok rfl | exact .tok (by simp) | exact .lst hnt rfl | exact .gsl (by simp) | exact .empty rfl | exact .nilOwn (by decide) (by decide) rfl | exact .nilGar (by decide) (by decide) rfl | exact .gd (by first | assumption | decide | (simp [*]; done)) (.refl _) | skip)))
        · have hc : ¬ (0 ≤ n ∧ (w < 0 ∨ n < w)) := by
            rintro ⟨h1, h2⟩
            rw [decide_eq_true h1] at hb3
            rcases h2 with h2 | h2
            · rw [decide_eq_true h2] at hb3; cases hb3
            · rw [decide_eq_true h2] at hb3
              cases h3 : decide (w < 0) <;> rw [h3] at hb3 <;> cases hb3
          rw [if_neg hc] at hw
          (cbv; (try simp only [nc] at *); (try refine Chk.mk (by (try simp only [nc, allc0, allc1, allcE, allcI, Cn.p, and_true, true_and, decide_eq_true_eq, imp_self, List.length_cons, List.length_nil]); all_goals ((repeat' (first | apply And.intro | intro _)) <;> first | omega | rfl | exact Or.inl rfl | assumption | exact nb1 (by assumption) | exact nb2 (by assumption) | exact nb3 (by assumption) | exact nb4 (by assumption) | decide | decide +kernel | (simp [*]; done))) ?_))
          refine ⟨(k + 1, w), ⟨by show k + 1 ≤ R0.length; omega, hw⟩, by show R0.length - (k + 1) + 0 < R0.length - k + 0; omega, ?_⟩
          (refine To.of [] ?_; cbv; (try simp only [nc]); (repeat' (first | exact trivial | exact WkN.refl _ | exact WkB.refl _ | refine ⟨?_, ?_⟩ | refine WkB.cells ?_ | refine WkN.agg ?_ | refine WkN.tup ?_)); (all_goals (first | exact .int rfl | exact .int (by first | omega | (simp only [nc]; omega) | (simp; done)) | exact .bool rfl | exact .snoc hnt rfl rfl rfl | exact .snoc hnt rfl rfl (by simp only [encZone, encTrain, lst_nt hnt]; rfl) | exact lit_nt hnt _ _ _ _ rfl | exact take_nt hnt (by omega) | exact lstR_wk hnt | exact .tok rfl | exact .tok (by simp) | exact .lst hnt rfl | exact .gsl (by simp) | exact .empty rfl | exact .nilOwn (by decide) (by decide) rfl | exact .nilGar (by decide) (by decide) rfl | exact .gd (by first | assumption | decide | (simp [*]; done)) (.refl _) | skip)))
      · have hc : ¬ (a ≤ x.depart ∧ x.depart ≤ x.arrive) := by
          rintro ⟨h1, h2⟩
          rw [decide_eq_true h1, decide_eq_true h2] at hb2
          cases hb2
        rw [if_neg hc] at hw
        (cbv; (try simp only [nc] at *); (try refine Chk.mk (by (try simp only [nc, allc0, allc1, allcE, allcI, Cn.p, and_true, true_and, decide_eq_true_eq, imp_self, List.length_cons, List.length_nil]); all_goals ((repeat' (first | apply And.intro | intro _)) <;> first | omega | rfl | exact Or.inl rfl | assumption | exact nb1 (by assumption) | exact nb2 (by assumption) | exact nb3 (by assumption) | exact nb4 (by assumption) | decide | decide +kernel | (simp [*]; done))) ?_))
        refine ⟨(k + 1, w), ⟨by show k + 1 ≤ R0.length; omega, hw⟩, by show R0.length - (k + 1) + 0 < R0.length - k + 0; omega, ?_⟩
        (refine To.of [] ?_; cbv; (try simp only [nc]); (repeat' (first | exact trivial | exact WkN.refl _ | exact WkB.refl _ | refine ⟨?_, ?_⟩ | refine WkB.cells ?_ | refine WkN.agg ?_ | refine WkN.tup ?_)); (all_goals (first | exact .int rfl | exact .int (by first | omega | (simp only [nc]; omega) | (simp; done)) | exact .bool rfl | exact .snoc hnt rfl rfl rfl | exact .snoc hnt rfl rfl (by simp only [encZone, encTrain, lst_nt hnt]; rfl) | exact lit_nt hnt _ _ _ _ rfl | exact take_nt hnt (by omega) | exact lstR_wk hnt | exact .tok rfl | exact .tok (by simp) | exact .lst hnt rfl | exact .gsl (by simp) | exact .empty rfl | exact .nilOwn (by decide) (by decide) rfl | exact .nilGar (by decide) (by decide) rfl | exact .gd (by first | assumption | decide | (simp [*]; done)) (.refl _) | skip)))
    · have hke : R0.length ≤ k := by simp only [decide_eq_false_iff_not] at hb; omega
      rw [List.drop_eq_nil_of_le hke] at hw
      have hw : w = E := hw
      subst hw
      (cbv; (try simp only [nc] at *); (try refine Chk.mk (by (try simp only [nc, allc0, allc1, allcE, allcI, Cn.p, and_true, true_and, decide_eq_true_eq, imp_self, List.length_cons, List.length_nil]); all_goals ((repeat' (first | apply And.intro | intro _)) <;> first | omega | rfl | exact Or.inl rfl | assumption | exact nb1 (by assumption) | exact nb2 (by assumption) | exact nb3 (by assumption) | exact nb4 (by assumption) | decide | decide +kernel | (simp [*]; done))) ?_))
end Go.Proofs.Ytlcgliadpalgfaa.Vm
