/- The contract of the statement on hours that are skipped or doubled, as the law asks for it. -/
import Derived.Test.YtlcgliadpalgfaaZk
import Derived.Test.YtlcgliadpalgfaaOp
set_option linter.unusedSimpArgs false
set_option linter.unusedVariables false
namespace Go.Proofs.Ytlcgliadpalgfaa.Vm
open Go Go.Proofs Sp

theorem c5L (z : Zone) (c : Chg) (l : List Int) (kz : ZoneI z) (kl : (l.length : Int) ≤ 9223372036854775807) : SC (fun _ => Try.prog) 5 [zoneA z, .agg (encChg c), lst 1 encI 0 l] [] fun r h => r = .bool (fun _ => true) :=
  c5 z c l (by have := kz.2.2; omega) kl
end Go.Proofs.Ytlcgliadpalgfaa.Vm
