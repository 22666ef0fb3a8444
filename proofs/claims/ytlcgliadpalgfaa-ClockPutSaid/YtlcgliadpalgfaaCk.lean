/- The chapter's examples: the function ticking returns true. -/
import Derived.Test.YtlcgliadpalgfaaCt2
set_option linter.unusedSimpArgs false
set_option linter.unusedVariables false
namespace Go.Proofs.Ytlcgliadpalgfaa.Vm
open Go Go.Proofs Sp
set_option maxRecDepth 100000
set_option maxHeartbeats 4000000

def f61 : Fact := ⟨61, [], backA⟩
theorem f61_ok : f61.Ok := fact [] noF _ (fun _ => rfl) (fun _ => rfl) (by kernel_rfl)
def f62 : Fact := ⟨62, [], forthA⟩
theorem f62_ok : f62.Ok := fact [] noF _ (fun _ => rfl) (fun _ => rfl) (by kernel_rfl)
def f63 : Fact := ⟨63, [], bookX⟩
theorem f63_ok : f63.Ok := fact [] noF _ (fun _ => rfl) (fun _ => rfl) (by kernel_rfl)
def f64 : Fact := ⟨64, [], legsX⟩
theorem f64_ok : f64.Ok := fact [] noF _ (fun _ => rfl) (fun _ => rfl) (by kernel_rfl)
end Go.Proofs.Ytlcgliadpalgfaa.Vm
