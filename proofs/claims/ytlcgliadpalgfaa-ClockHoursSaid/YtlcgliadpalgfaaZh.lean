/- The contract of the statement on hours, as the law asks for it. -/
import Derived.Test.YtlcgliadpalgfaaZf
import Derived.Test.YtlcgliadpalgfaaOp
set_option linter.unusedSimpArgs false
set_option linter.unusedVariables false
namespace Go.Proofs.Ytlcgliadpalgfaa.Vm
open Go Go.Proofs Sp

theorem c12L (z : Zone) (c : Chg) (t d m a : Int) (l : List Int) (kz : ZoneI z) (kl : (l.length : Int) ≤ 9223372036854775807) : SC (fun _ => Try.prog) 12 [zoneA z, .agg (encChg c), .int .i64 fun _ => t, .int .i64 fun _ => d, .int .i64 fun _ => m, .int .i64 fun _ => a, lst 1 encI 0 l] [] fun r h => r = .bool (fun _ => true) :=
  c12 z c t d m a l (by have := kz.2.2; omega) kl
end Go.Proofs.Ytlcgliadpalgfaa.Vm
