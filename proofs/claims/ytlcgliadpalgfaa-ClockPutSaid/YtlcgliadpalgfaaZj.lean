/- Contracts: the reference's hours that are skipped or doubled. -/
import Derived.Test.YtlcgliadpalgfaaZi
set_option linter.unusedSimpArgs false
set_option linter.unusedVariables false
namespace Go.Proofs.Ytlcgliadpalgfaa.Vm
open Go Go.Proofs Sp
set_option maxRecDepth 100000
set_option maxHeartbeats 800000

theorem c32 (z : Zone) (hlen : z.chs.length ≤ 1000) : SC (fun _ => Try.prog) 32 [zoneA z] [] fun v h => v = .tup [lst 2 encSpan default (Skipped z).1, .int .i64 fun _ => (Skipped z).2] ∧ h = [] := by
  refine SC.less (con Try.func32 (body := bodyOf Try.f32) rfl (by decide +kernel) ?_)
  unfold zoneA Skipped
  cbv
  refine call0 (c70 z hlen) rfl fun r h₂ hp => ?_
  obtain ⟨rfl, rfl⟩ := hp
  generalize he : checkZone z = e at *
  cbv
  refine ⟨fun hb => ?_, fun hb => ?_⟩
  · simp only [bne_iff_ne, ne_eq] at hb
    cbv
    refine ⟨.tup [lst 2 encSpan default [], .int .i64 fun _ => e], [], To.of [] ⟨⟨.tup ⟨.empty rfl, .refl _, trivial⟩, trivial⟩, trivial⟩, by simp [hb], rfl⟩
  simp only [bne_eq_false_iff_eq] at hb
  subst hb
  have k84 := c84 z true he
  have e : qOf true = fun n => decide (n = 0) := funext fun n => by simp [qOf]
  rw [e] at k84
  cbv
  refine call0 k84 rfl fun r h₂ hp => ?_
  obtain ⟨rfl, rfl⟩ := hp
  generalize spans z _ = l
  cbv
  exact ⟨.tup [lst 2 encSpan default l, .int .i64 fun _ => 0], [], To.of [] ⟨⟨.tup ⟨.refl _, .refl _, trivial⟩, trivial⟩, trivial⟩, by simp, rfl⟩

theorem c34 (z : Zone) (hlen : z.chs.length ≤ 1000) : SC (fun _ => Try.prog) 34 [zoneA z] [] fun v h => v = .tup [lst 2 encSpan default (Doubled z).1, .int .i64 fun _ => (Doubled z).2] ∧ h = [] := by
  refine SC.less (con Try.func34 (body := bodyOf Try.f34) rfl (by decide +kernel) ?_)
  unfold zoneA Doubled
  cbv
  refine call0 (c70 z hlen) rfl fun r h₂ hp => ?_
  obtain ⟨rfl, rfl⟩ := hp
  generalize he : checkZone z = e at *
  cbv
  refine ⟨fun hb => ?_, fun hb => ?_⟩
  · simp only [bne_iff_ne, ne_eq] at hb
    cbv
    refine ⟨.tup [lst 2 encSpan default [], .int .i64 fun _ => e], [], To.of [] ⟨⟨.tup ⟨.empty rfl, .refl _, trivial⟩, trivial⟩, trivial⟩, by simp [hb], rfl⟩
  simp only [bne_eq_false_iff_eq] at hb
  subst hb
  have k84 := c84 z false he
  have e : qOf false = fun n => decide (1 < n) := funext fun n => by simp [qOf]
  rw [e] at k84
  cbv
  refine call0 k84 rfl fun r h₂ hp => ?_
  obtain ⟨rfl, rfl⟩ := hp
  generalize spans z _ = l
  cbv
  exact ⟨.tup [lst 2 encSpan default l, .int .i64 fun _ => 0], [], To.of [] ⟨⟨.tup ⟨.refl _, .refl _, trivial⟩, trivial⟩, trivial⟩, by simp, rfl⟩
end Go.Proofs.Ytlcgliadpalgfaa.Vm
