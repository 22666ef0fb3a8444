/- The chapter's examples: the function ticking returns true. -/
import Derived.Test.YtlcgliadpalgfaaCk
set_option linter.unusedSimpArgs false
set_option linter.unusedVariables false
namespace Go.Proofs.Ytlcgliadpalgfaa.Vm
open Go Go.Proofs Sp
set_option maxRecDepth 100000
set_option maxHeartbeats 4000000
theorem c18 : SC (fun _ => Try.prog) 18 [] [] fun r h => r = .bool (fun _ => true) ∧ h = [] := by
  obtain ⟨n1, F1, e1⟩ : ∃ n F, sl 1 [row [2950], row [3010]] = .isl 1 n F .none := ⟨_, _, rfl⟩
  obtain ⟨n2, F2, e2⟩ : ∃ n F, sl 2 [row [1560, 1619]] = .isl 2 n F .none := ⟨_, _, rfl⟩
  obtain ⟨n3, F3, e3⟩ : ∃ n F, sl 3 [row [0, 2910, 2910], row [2, 3160, 3160]] = .isl 3 n F .none := ⟨_, _, rfl⟩
  obtain ⟨n4, F4, e4⟩ : ∃ n F, sl 3 [row [0, 60, 140], row [1, 1780, 1830]] = .isl 3 n F .none := ⟨_, _, rfl⟩
  have k44 := fWhen_ok.sc
  have k46 := fHour_ok.sc
  have k31 := fSk_ok.sc
  have k26 := fRun_ok.sc
  have k19 := fTrip_ok.sc
  have k39 := e39_ok.sc
  have k35 := e35_ok.sc
  have k27 := e27_ok.sc
  have k65 := e65_ok.sc
  simp only [fWhen, fHour, fSk, fRun, fTrip, e39, e35, e27, e65, e1, e2, e3, e4] at k44 k46 k31 k26 k19 k39 k35 k27 k65
  refine con Try.func18 (body := bodyOf Try.f18) rfl (by decide +kernel) ?_
  cbv
  refine call0 f61_ok.sc rfl fun r h2 hp => ?_
  obtain ⟨rfl, rfl⟩ := hp
  cbv
  refine call0 k44 rfl fun r h2 hp => ?_
  obtain ⟨rfl, rfl⟩ := hp
  cbv
  refine call0 f62_ok.sc rfl fun r h2 hp => ?_
  obtain ⟨rfl, rfl⟩ := hp
  cbv
  refine call0 k46 rfl fun r h2 hp => ?_
  obtain ⟨rfl, rfl⟩ := hp
  cbv
  refine call0 f62_ok.sc rfl fun r h2 hp => ?_
  obtain ⟨rfl, rfl⟩ := hp
  cbv
  refine call0 k31 rfl fun r h2 hp => ?_
  obtain ⟨rfl, rfl⟩ := hp
  cbv
  refine call0 f63_ok.sc rfl fun r h2 hp => ?_
  obtain ⟨rfl, rfl⟩ := hp
  cbv
  refine call0 k26 rfl fun r h2 hp => ?_
  obtain ⟨rfl, rfl⟩ := hp
  cbv
  refine call0 f63_ok.sc rfl fun r h2 hp => ?_
  obtain ⟨rfl, rfl⟩ := hp
  cbv
  refine call0 f64_ok.sc rfl fun r h2 hp => ?_
  obtain ⟨rfl, rfl⟩ := hp
  cbv
  refine call0 k19 rfl fun r h2 hp => ?_
  obtain ⟨rfl, rfl⟩ := hp
  cbv
  simp only [beq_self_eq_true, cond_true, cond_false, decide_true, imp_self, and_self]
  refine Chk.mk (okC_ok rfl) (Br.isT rfl ?_)
  cbv
  refine Chk.mk (okC_ok rfl) (call0 k39 rfl fun r h2 hp => ?_)
  obtain ⟨rfl, rfl⟩ := hp
  cbv
  simp only [beq_self_eq_true, cond_true, cond_false, decide_true, imp_self, and_self]
  refine Chk.mk (okC_ok rfl) (Br.isT rfl ?_)
  cbv
  simp only [beq_self_eq_true, cond_true, cond_false, decide_true, imp_self, and_self]
  refine Chk.mk (okC_ok rfl) (call0 k35 rfl fun r h2 hp => ?_)
  obtain ⟨rfl, rfl⟩ := hp
  cbv
  simp only [beq_self_eq_true, cond_true, cond_false, decide_true, imp_self, and_self]
  refine Chk.mk (okC_ok rfl) (Br.isT rfl ?_)
  cbv
  simp only [beq_self_eq_true, cond_true, cond_false, decide_true, imp_self, and_self]
  refine Chk.mk (okC_ok rfl) (call0 k27 rfl fun r h2 hp => ?_)
  obtain ⟨rfl, rfl⟩ := hp
  cbv
  simp only [beq_self_eq_true, cond_true, cond_false, decide_true, imp_self, and_self]
  refine Chk.mk (okC_ok rfl) (Br.isT rfl ?_)
  cbv
  simp only [beq_self_eq_true, cond_true, cond_false, decide_true, imp_self, and_self]
  refine Chk.mk (okC_ok rfl) (call0 k65 rfl fun r h2 hp => ?_)
  obtain ⟨rfl, rfl⟩ := hp
  cbv
  simp only [beq_self_eq_true, cond_true, cond_false, decide_true, imp_self, and_self]
end Go.Proofs.Ytlcgliadpalgfaa.Vm
