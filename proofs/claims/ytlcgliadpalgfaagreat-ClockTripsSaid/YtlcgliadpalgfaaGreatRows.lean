/-
  No cell of these rows narrows 'for every input' (looked for: loops, veiled, ifaces, maps, wideKeys, modest, calm, conditions, laid).
  DERIVED. THE GIVEN ROWS OF THIS SEAT. 3 by the template 'for every input the law returns true; each argument reads behind the call as it read before'; 0 by the template 'total and deterministic' (their statements: YtlcgliadpalgfaaGreatTotals.lean).
  GIVEN WITH THE SEED: the statements are not yours to turn. If you find one false, say at which input.
  Laid BY PROGRAM, IN A SANDBOX (cutbox-rows.mjs): the forced cells as the released guide's own fill.sh prints them over the translation 5adf5136a886db10… (all of the seat's roots in one cut). By AI agents, Wed Nov 11 2026. No macro, syntax, notation, axiom, sorry.
-/
import Derived.Test.YtlcgliadpalgfaaGreatChecked
import GoSem.Claim
import GoSem.ClaimJoined
import GoSem.ClaimMapViews
import Derived.JoinedTies
import Derived.KernelRfl
namespace Go.Proofs.YtlcgliadpalgfaaGreat
/- THE CELL 'sum', in the pinned program and in every row, IS THE sha256 OF THE DUMP (.gsa) THAT YtlcgliadpalgfaaGreatProg.lean LOADS. Nothing in Lean hashes anything: it is a label: what it is worth is what the hold of that sum in a sandbox is worth. -/
noncomputable def Tryz.pinned : Pinned := { name := "ytlcgliadpalgfaagreat", sum := "5adf5136a886db109bcaf2a070673127373ce2591f438f72d36e178c2a998b64", checked := Tryz.checked }
namespace Rows
def none {H : Type} : Left H := { results := [], args := [] }

/-- 'couchettelaw01.ClockRuns': WHATEVER THE INPUT: true; the input reads as it did. -/
def clockRunsSpec : ChangeSpec := { name := "clockRuns", fn := fun _ => fun
  | [d1, d2, d3, d4, d5] => { results := [.lit (.bool true)], args := [d1, d2, d3, d4, d5] }
  | _ => none }
def clockRunsRow : OpenClaim := { program := "ytlcgliadpalgfaagreat", sum := "5adf5136a886db109bcaf2a070673127373ce2591f438f72d36e178c2a998b64", func := "couchette/couchettelaw01.ClockRuns", spec := "clockRuns", unfollowed := true, recurses := true, apart := false }
def ClockRunsSaid : Prop := clockRunsRow.holds Tryz.pinned (OpenSpec.ofChange clockRunsSpec)

/-- ITS FALSE NEIGHBOUR: 'it returns false'. Refute it at one input. -/
def clockRunsWrong : ChangeSpec := { name := "clockRuns", fn := fun _ => fun
  | [d1, d2, d3, d4, d5] => { results := [.lit (.bool false)], args := [d1, d2, d3, d4, d5] }
  | _ => none }
def ClockRunsWrongFalsely : Prop := clockRunsRow.holds Tryz.pinned (OpenSpec.ofChange clockRunsWrong)

/-- 'couchettelaw01.ClockTrips': WHATEVER THE INPUT: true; the input reads as it did. -/
def clockTripsSpec : ChangeSpec := { name := "clockTrips", fn := fun _ => fun
  | [d1, d2, d3, d4, d5, d6] => { results := [.lit (.bool true)], args := [d1, d2, d3, d4, d5, d6] }
  | _ => none }
def clockTripsRow : OpenClaim := { program := "ytlcgliadpalgfaagreat", sum := "5adf5136a886db109bcaf2a070673127373ce2591f438f72d36e178c2a998b64", func := "couchette/couchettelaw01.ClockTrips", spec := "clockTrips", unfollowed := true, recurses := true, apart := false }
def ClockTripsSaid : Prop := clockTripsRow.holds Tryz.pinned (OpenSpec.ofChange clockTripsSpec)

/-- ITS FALSE NEIGHBOUR: 'it returns false'. Refute it at one input. -/
def clockTripsWrong : ChangeSpec := { name := "clockTrips", fn := fun _ => fun
  | [d1, d2, d3, d4, d5, d6] => { results := [.lit (.bool false)], args := [d1, d2, d3, d4, d5, d6] }
  | _ => none }
def ClockTripsWrongFalsely : Prop := clockTripsRow.holds Tryz.pinned (OpenSpec.ofChange clockTripsWrong)

/-- 'couchettelaw01.ClockWays': WHATEVER THE INPUT: true; the input reads as it did. -/
def clockWaysSpec : ChangeSpec := { name := "clockWays", fn := fun _ => fun
  | [d1, d2, d3, d4, d5, d6] => { results := [.lit (.bool true)], args := [d1, d2, d3, d4, d5, d6] }
  | _ => none }
def clockWaysRow : OpenClaim := { program := "ytlcgliadpalgfaagreat", sum := "5adf5136a886db109bcaf2a070673127373ce2591f438f72d36e178c2a998b64", func := "couchette/couchettelaw01.ClockWays", spec := "clockWays", unfollowed := true, recurses := true, apart := false }
def ClockWaysSaid : Prop := clockWaysRow.holds Tryz.pinned (OpenSpec.ofChange clockWaysSpec)

/-- ITS FALSE NEIGHBOUR: 'it returns false'. Refute it at one input. -/
def clockWaysWrong : ChangeSpec := { name := "clockWays", fn := fun _ => fun
  | [d1, d2, d3, d4, d5, d6] => { results := [.lit (.bool false)], args := [d1, d2, d3, d4, d5, d6] }
  | _ => none }
def ClockWaysWrongFalsely : Prop := clockWaysRow.holds Tryz.pinned (OpenSpec.ofChange clockWaysWrong)

/- THE SECOND FORM. 'bulk': how many values and letters a reading holds, each counted each time it is reached (what is shared counts as often as it is met; a slice's spare places count too). A statement '..UptoSaid' is the law's where the arguments, and the package variables that the reading takes, are together of bulk at most 1048576: NARROWER than '..Said'. Prove '..Said' where nothing that the law and all that it calls make is longer than what came in: it says more and counts as full. Else prove '..UptoSaid'. A law counts once. -/
mutual
def uptoBulk {H : Type} : DataW H → Nat
  | .lit (.string bytes) => bytes.length + 1
  | .lit _ => 1
  | .nil => 1
  | .ptr d => uptoBulk d + 1
  | .slice elems spare => uptoBulkAll elems + uptoBulkAll spare + 1
  | .agg parts => uptoBulkAll parts + 1
  | .iface _ d => uptoBulk d + 1
  | .map entries => uptoBulkEntries entries + 1
  | .held _ => 1
def uptoBulkAll {H : Type} : List (DataW H) → Nat
  | [] => 0
  | d :: r => uptoBulk d + uptoBulkAll r
def uptoBulkEntries {H : Type} : List (Lit × DataW H) → Nat
  | [] => 0
  | x :: r => uptoBulkEntry x + uptoBulkEntries r
def uptoBulkEntry {H : Type} : Lit × DataW H → Nat
  | (.string bytes, d) => bytes.length + uptoBulk d + 1
  | (_, d) => uptoBulk d + 1
 end
def uptoSmall : (H : Type) → List (DataW H) → Bool := fun _ ds => decide (uptoBulkAll ds ≤ 1048576)
def OpenSpec.upto (s : _root_.Go.ChangeSpec) : _root_.Go.OpenSpec := { _root_.Go.OpenSpec.ofChange s with cond := some uptoSmall }

/-- 'couchettelaw01.ClockRuns', WHERE WHAT IT READS IS OF BULK AT MOST 1048576: true; the input reads as it did. -/
def clockRunsUptoRow : OpenClaim := { program := "ytlcgliadpalgfaagreat", sum := "5adf5136a886db109bcaf2a070673127373ce2591f438f72d36e178c2a998b64", func := "couchette/couchettelaw01.ClockRuns", spec := "clockRuns", unfollowed := true, recurses := true, apart := false, narrowed := true }
def ClockRunsUptoSaid : Prop := clockRunsUptoRow.holds Tryz.pinned (OpenSpec.upto clockRunsSpec)

/-- 'couchettelaw01.ClockTrips', WHERE WHAT IT READS IS OF BULK AT MOST 1048576: true; the input reads as it did. -/
def clockTripsUptoRow : OpenClaim := { program := "ytlcgliadpalgfaagreat", sum := "5adf5136a886db109bcaf2a070673127373ce2591f438f72d36e178c2a998b64", func := "couchette/couchettelaw01.ClockTrips", spec := "clockTrips", unfollowed := true, recurses := true, apart := false, narrowed := true }
def ClockTripsUptoSaid : Prop := clockTripsUptoRow.holds Tryz.pinned (OpenSpec.upto clockTripsSpec)

/-- 'couchettelaw01.ClockWays', WHERE WHAT IT READS IS OF BULK AT MOST 1048576: true; the input reads as it did. -/
def clockWaysUptoRow : OpenClaim := { program := "ytlcgliadpalgfaagreat", sum := "5adf5136a886db109bcaf2a070673127373ce2591f438f72d36e178c2a998b64", func := "couchette/couchettelaw01.ClockWays", spec := "clockWays", unfollowed := true, recurses := true, apart := false, narrowed := true }
def ClockWaysUptoSaid : Prop := clockWaysUptoRow.holds Tryz.pinned (OpenSpec.upto clockWaysSpec)

end Rows
end Go.Proofs.YtlcgliadpalgfaaGreat
