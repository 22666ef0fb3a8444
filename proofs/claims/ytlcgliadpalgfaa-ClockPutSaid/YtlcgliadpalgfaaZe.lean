/- Contracts: copies of zones. -/
import Derived.Test.YtlcgliadpalgfaaZd
set_option linter.unusedSimpArgs false
set_option linter.unusedVariables false
namespace Go.Proofs.Ytlcgliadpalgfaa.Vm
open Go Go.Proofs Sp
set_option maxRecDepth 100000
set_option maxHeartbeats 1600000

/-- A copy of a zone: with room behind its changes. -/
def zoneR (z : Zone) (id : Nat) : AV := .agg [.int .i64 fun _ => z.base, .isl 2 (fun _ => (z.chs.length : Int)) (lstR encChg default z.chs) (.own id)]
theorem c30 (z : Zone) (hlen : z.chs.length ≤ 1000) : SC (fun _ => Try.prog) 30 [zoneA z] [] fun v h => v = zoneR z 0 ∧ h = [.tok 2 fun _ => (z.chs.length : Int)] := by
  obtain ⟨nt, hnt⟩ := nth_ex
  refine SC.less (conX true false [] Try.func30 (body := bodyOf Try.f30) rfl (by decide +kernel) ?_)
  unfold zoneA zoneR
  simp only [lst_nt hnt, lstR_nt hnt]
  (cbv; (try simp only [nc] at *); (try refine Chk.mk (by (try simp only [nc, allc0, allc1, allcE, allcI, Cn.p, and_true, true_and, decide_eq_true_eq, imp_self, List.length_cons, List.length_nil]); all_goals ((repeat' (first | apply And.intro | intro _)) <;> first | omega | rfl | exact Or.inl rfl | assumption | exact nb1 (by assumption) | exact nb2 (by assumption) | exact nb3 (by assumption) | exact nb4 (by assumption) | decide | decide +kernel | (simp [*]; done))) ?_))
  refine ⟨_, _, ?_, rfl, rfl⟩
  (refine To.of [] ?_; cbv; (try simp only [nc]); (repeat' (first | exact trivial | exact WkN.refl _ | exact WkB.refl _ | refine ⟨?_, ?_⟩ | refine WkB.cells ?_ | refine WkN.agg ?_ | refine WkN.tup ?_)); (all_goals (first | exact .int rfl | exact .int (by first | omega | (simp only [nc]; omega) | (simp; done)) | exact .bool rfl | exact .snoc hnt rfl rfl rfl | exact .snoc hnt rfl rfl (by simp only [encZone, encTrain, lst_nt hnt]; rfl) | exact lit_nt hnt _ _ _ _ rfl | exact take_nt hnt (by omega) | exact lstR_wk hnt | exact .tok rfl | exact .tok (by simp) | exact .lst hnt rfl | exact .gsl (by simp) | exact .empty rfl | exact .nilOwn (by decide) (by decide) rfl | exact .nilGar (by decide) (by decide) rfl | exact .gd (by first | assumption | decide | (simp [*]; done)) (.refl _) | skip)))
  · refine .isl (by simp) fun i hi => ?_
    show (if ((i : Nat) : Int) < (([] : List Chg).length : Int) then _ else _) = _
    rw [if_neg (by simp)]
    simp

theorem c36 (z : Zone) (hlen : z.chs.length ≤ 1000) : SC (fun _ => Try.prog) 36 [zoneA z, zoneA z] [] fun v h => v = .bool (fun _ => true) ∧ h = [] := by
  obtain ⟨nt, hnt⟩ := nth_ex
  refine con Try.func36 (body := bodyOf Try.f36) rfl (by decide +kernel) ?_
  unfold zoneA
  simp only [lst_nt hnt]
  (cbv; (try simp only [nc] at *); (try refine Chk.mk (by (try simp only [nc, allc0, allc1, allcE, allcI, Cn.p, and_true, true_and, decide_eq_true_eq, imp_self, List.length_cons, List.length_nil]); all_goals ((repeat' (first | apply And.intro | intro _)) <;> first | omega | rfl | exact Or.inl rfl | assumption | exact nb1 (by assumption) | exact nb2 (by assumption) | exact nb3 (by assumption) | exact nb4 (by assumption) | decide | decide +kernel | (simp [*]; done))) ?_))
  refine Br.isF (by simp) ?_
  (cbv; (try simp only [nc] at *); (try refine Chk.mk (by (try simp only [nc, allc0, allc1, allcE, allcI, Cn.p, and_true, true_and, decide_eq_true_eq, imp_self, List.length_cons, List.length_nil]); all_goals ((repeat' (first | apply And.intro | intro _)) <;> first | omega | rfl | exact Or.inl rfl | assumption | exact nb1 (by assumption) | exact nb2 (by assumption) | exact nb3 (by assumption) | exact nb4 (by assumption) | decide | decide +kernel | (simp [*]; done))) ?_))
  refine loopS false false [] [2, 3, 5] [] (fun (i : Nat) => [(5, .int .i64 fun _ => (i : Int))]) (fun _ => []) (fun i => i ≤ z.chs.length) (fun i => z.chs.length - i + 0) 0 (Nat.zero_le _) ?_ ?_
  · (refine To.of [] ?_; cbv; (try simp only [nc]); (repeat' (first | exact trivial | exact WkN.refl _ | exact WkB.refl _ | refine ⟨?_, ?_⟩ | refine WkB.cells ?_ | refine WkN.agg ?_ | refine WkN.tup ?_)); (all_goals (first | exact .int rfl | exact .int (by first | omega | (simp only [nc]; omega) | (simp; done)) | exact .bool rfl | exact .snoc hnt rfl rfl rfl | exact .snoc hnt rfl rfl (by simp only [encZone, encTrain, lst_nt hnt]; rfl) | exact lit_nt hnt _ _ _ _ rfl | exact take_nt hnt (by omega) | exact lstR_wk hnt | exact .tok rfl | exact .tok (by simp) | exact .lst hnt rfl | exact .gsl (by simp) | exact .empty rfl | exact .nilOwn (by decide) (by decide) rfl | exact .nilGar (by decide) (by decide) rfl | exact .gd (by first | assumption | decide | (simp [*]; done)) (.refl _) | skip)))
  intro i hi
  (cbv; (try simp only [nc] at *); (try refine Chk.mk (by (try simp only [nc, allc0, allc1, allcE, allcI, Cn.p, and_true, true_and, decide_eq_true_eq, imp_self, List.length_cons, List.length_nil]); all_goals ((repeat' (first | apply And.intro | intro _)) <;> first | omega | rfl | exact Or.inl rfl | assumption | exact nb1 (by assumption) | exact nb2 (by assumption) | exact nb3 (by assumption) | exact nb4 (by assumption) | decide | decide +kernel | (simp [*]; done))) ?_))
  refine ⟨fun hb => ?_, fun hb => ?_⟩
  · simp only [decide_eq_true_eq] at hb
    (cbv; (try simp only [nc] at *); (try refine Chk.mk (by (try simp only [nc, allc0, allc1, allcE, allcI, Cn.p, and_true, true_and, decide_eq_true_eq, imp_self, List.length_cons, List.length_nil]); all_goals ((repeat' (first | apply And.intro | intro _)) <;> first | omega | rfl | exact Or.inl rfl | assumption | exact nb1 (by assumption) | exact nb2 (by assumption) | exact nb3 (by assumption) | exact nb4 (by assumption) | decide | decide +kernel | (simp [*]; done))) ?_))
    refine Br.isF (by simp) ?_
    (cbv; (try simp only [nc] at *); (try refine Chk.mk (by (try simp only [nc, allc0, allc1, allcE, allcI, Cn.p, and_true, true_and, decide_eq_true_eq, imp_self, List.length_cons, List.length_nil]); all_goals ((repeat' (first | apply And.intro | intro _)) <;> first | omega | rfl | exact Or.inl rfl | assumption | exact nb1 (by assumption) | exact nb2 (by assumption) | exact nb3 (by assumption) | exact nb4 (by assumption) | decide | decide +kernel | (simp [*]; done))) ?_))
    refine ⟨i + 1, by omega, by omega, ?_⟩
    (refine To.of [] ?_; cbv; (try simp only [nc]); (repeat' (first | exact trivial | exact WkN.refl _ | exact WkB.refl _ | refine ⟨?_, ?_⟩ | refine WkB.cells ?_ | refine WkN.agg ?_ | refine WkN.tup ?_)); (all_goals (first | exact .int rfl | exact .int (by first | omega | (simp only [nc]; omega) | (simp; done)) | exact .bool rfl | exact .snoc hnt rfl rfl rfl | exact .snoc hnt rfl rfl (by simp only [encZone, encTrain, lst_nt hnt]; rfl) | exact lit_nt hnt _ _ _ _ rfl | exact take_nt hnt (by omega) | exact lstR_wk hnt | exact .tok rfl | exact .tok (by simp) | exact .lst hnt rfl | exact .gsl (by simp) | exact .empty rfl | exact .nilOwn (by decide) (by decide) rfl | exact .nilGar (by decide) (by decide) rfl | exact .gd (by first | assumption | decide | (simp [*]; done)) (.refl _) | skip)))
  · (cbv; (try simp only [nc] at *); (try refine Chk.mk (by (try simp only [nc, allc0, allc1, allcE, allcI, Cn.p, and_true, true_and, decide_eq_true_eq, imp_self, List.length_cons, List.length_nil]); all_goals ((repeat' (first | apply And.intro | intro _)) <;> first | omega | rfl | exact Or.inl rfl | assumption | exact nb1 (by assumption) | exact nb2 (by assumption) | exact nb3 (by assumption) | exact nb4 (by assumption) | decide | decide +kernel | (simp [*]; done))) ?_))
    (try first | exact ⟨rfl, trivial⟩ | exact ⟨trivial, trivial⟩)

theorem c35 (l : List Span) (hlen : l.length ≤ 100000) : SC (fun _ => Try.prog) 35 [lst 2 encSpan default l, lst 2 encSpan default l] [] fun v h => v = .bool (fun _ => true) ∧ h = [] := by
  obtain ⟨nt, hnt⟩ := nth_ex
  refine con Try.func35 (body := bodyOf Try.f35) rfl (by decide +kernel) ?_
  simp only [lst_nt hnt]
  (cbv; (try simp only [nc] at *); (try refine Chk.mk (by (try simp only [nc, allc0, allc1, allcE, allcI, Cn.p, and_true, true_and, decide_eq_true_eq, imp_self, List.length_cons, List.length_nil]); all_goals ((repeat' (first | apply And.intro | intro _)) <;> first | omega | rfl | exact Or.inl rfl | assumption | exact nb1 (by assumption) | exact nb2 (by assumption) | exact nb3 (by assumption) | exact nb4 (by assumption) | decide | decide +kernel | (simp [*]; done))) ?_))
  refine Br.isF (by simp) ?_
  (cbv; (try simp only [nc] at *); (try refine Chk.mk (by (try simp only [nc, allc0, allc1, allcE, allcI, Cn.p, and_true, true_and, decide_eq_true_eq, imp_self, List.length_cons, List.length_nil]); all_goals ((repeat' (first | apply And.intro | intro _)) <;> first | omega | rfl | exact Or.inl rfl | assumption | exact nb1 (by assumption) | exact nb2 (by assumption) | exact nb3 (by assumption) | exact nb4 (by assumption) | decide | decide +kernel | (simp [*]; done))) ?_))
  refine loopS false false [] [0, 1, 5] [] (fun (i : Nat) => [(5, .int .i64 fun _ => (i : Int))]) (fun _ => []) (fun i => i ≤ l.length) (fun i => l.length - i + 0) 0 (Nat.zero_le _) ?_ ?_
  · (refine To.of [] ?_; cbv; (try simp only [nc]); (repeat' (first | exact trivial | exact WkN.refl _ | exact WkB.refl _ | refine ⟨?_, ?_⟩ | refine WkB.cells ?_ | refine WkN.agg ?_ | refine WkN.tup ?_)); (all_goals (first | exact .int rfl | exact .int (by first | omega | (simp only [nc]; omega) | (simp; done)) | exact .bool rfl | exact .snoc hnt rfl rfl rfl | exact .snoc hnt rfl rfl (by simp only [encZone, encTrain, lst_nt hnt]; rfl) | exact lit_nt hnt _ _ _ _ rfl | exact take_nt hnt (by omega) | exact lstR_wk hnt | exact .tok rfl | exact .tok (by simp) | exact .lst hnt rfl | exact .gsl (by simp) | exact .empty rfl | exact .nilOwn (by decide) (by decide) rfl | exact .nilGar (by decide) (by decide) rfl | exact .gd (by first | assumption | decide | (simp [*]; done)) (.refl _) | skip)))
  intro i hi
  (cbv; (try simp only [nc] at *); (try refine Chk.mk (by (try simp only [nc, allc0, allc1, allcE, allcI, Cn.p, and_true, true_and, decide_eq_true_eq, imp_self, List.length_cons, List.length_nil]); all_goals ((repeat' (first | apply And.intro | intro _)) <;> first | omega | rfl | exact Or.inl rfl | assumption | exact nb1 (by assumption) | exact nb2 (by assumption) | exact nb3 (by assumption) | exact nb4 (by assumption) | decide | decide +kernel | (simp [*]; done))) ?_))
  refine ⟨fun hb => ?_, fun hb => ?_⟩
  · simp only [decide_eq_true_eq] at hb
    (cbv; (try simp only [nc] at *); (try refine Chk.mk (by (try simp only [nc, allc0, allc1, allcE, allcI, Cn.p, and_true, true_and, decide_eq_true_eq, imp_self, List.length_cons, List.length_nil]); all_goals ((repeat' (first | apply And.intro | intro _)) <;> first | omega | rfl | exact Or.inl rfl | assumption | exact nb1 (by assumption) | exact nb2 (by assumption) | exact nb3 (by assumption) | exact nb4 (by assumption) | decide | decide +kernel | (simp [*]; done))) ?_))
    refine Br.isF (by simp) ?_
    (cbv; (try simp only [nc] at *); (try refine Chk.mk (by (try simp only [nc, allc0, allc1, allcE, allcI, Cn.p, and_true, true_and, decide_eq_true_eq, imp_self, List.length_cons, List.length_nil]); all_goals ((repeat' (first | apply And.intro | intro _)) <;> first | omega | rfl | exact Or.inl rfl | assumption | exact nb1 (by assumption) | exact nb2 (by assumption) | exact nb3 (by assumption) | exact nb4 (by assumption) | decide | decide +kernel | (simp [*]; done))) ?_))
    refine ⟨i + 1, by omega, by omega, ?_⟩
    (refine To.of [] ?_; cbv; (try simp only [nc]); (repeat' (first | exact trivial | exact WkN.refl _ | exact WkB.refl _ | refine ⟨?_, ?_⟩ | refine WkB.cells ?_ | refine WkN.agg ?_ | refine WkN.tup ?_)); (all_goals (first | exact .int rfl | exact .int (by first | omega | (simp only [nc]; omega) | (simp; done)) | exact .bool rfl | exact .snoc hnt rfl rfl rfl | exact .snoc hnt rfl rfl (by simp only [encZone, encTrain, lst_nt hnt]; rfl) | exact lit_nt hnt _ _ _ _ rfl | exact take_nt hnt (by omega) | exact lstR_wk hnt | exact .tok rfl | exact .tok (by simp) | exact .lst hnt rfl | exact .gsl (by simp) | exact .empty rfl | exact .nilOwn (by decide) (by decide) rfl | exact .nilGar (by decide) (by decide) rfl | exact .gd (by first | assumption | decide | (simp [*]; done)) (.refl _) | skip)))
  · (cbv; (try simp only [nc] at *); (try refine Chk.mk (by (try simp only [nc, allc0, allc1, allcE, allcI, Cn.p, and_true, true_and, decide_eq_true_eq, imp_self, List.length_cons, List.length_nil]); all_goals ((repeat' (first | apply And.intro | intro _)) <;> first | omega | rfl | exact Or.inl rfl | assumption | exact nb1 (by assumption) | exact nb2 (by assumption) | exact nb3 (by assumption) | exact nb4 (by assumption) | decide | decide +kernel | (simp [*]; done))) ?_))
    (try first | exact ⟨rfl, trivial⟩ | exact ⟨trivial, trivial⟩)
end Go.Proofs.Ytlcgliadpalgfaa.Vm
