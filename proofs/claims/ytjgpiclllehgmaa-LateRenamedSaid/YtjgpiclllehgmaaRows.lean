/-
  No cell of these rows narrows 'for every input' (looked for: loops, veiled, ifaces, maps, wideKeys, modest, calm, conditions, laid).
  DERIVED. THE GIVEN ROWS OF THIS SEAT. 2 by the template 'for every input the law returns true; each argument reads behind the call as it read before'; 0 by the template 'total and deterministic' (their statements: YtjgpiclllehgmaaTotals.lean).
  GIVEN WITH THE SEED: the statements are not yours to turn. If you find one false, say at which input.
  Laid BY PROGRAM, IN A SANDBOX (cutbox-rows.mjs): the forced cells as the released guide's own fill.sh prints them over the translation b55e2ad1b0dda2a7… (all of the seat's roots in one cut). By AI agents, Wed Nov 11 2026. No macro, syntax, notation, axiom, sorry.
-/
import Derived.Test.YtjgpiclllehgmaaChecked
import GoSem.Claim
import GoSem.ClaimJoined
import GoSem.ClaimMapViews
import Derived.JoinedTies
import Derived.KernelRfl
namespace Go.Proofs.Ytjgpiclllehgmaa
/- THE CELL 'sum', in the pinned program and in every row, IS THE sha256 OF THE DUMP (.gsa) THAT YtjgpiclllehgmaaProg.lean LOADS. Nothing in Lean hashes anything: it is a label: what it is worth is what the hold of that sum in a sandbox is worth. -/
noncomputable def Try.pinned : Pinned := { name := "ytjgpiclllehgmaa", sum := "b55e2ad1b0dda2a7607d868eea4ab12b32ae27b6e6e5ae7747ca0219ebcebd50", checked := Try.checked }
namespace Rows
def none {H : Type} : Left H := { results := [], args := [] }

/-- 'couchettelaw04.LatePassed': WHATEVER THE INPUT: true; the input reads as it did. -/
def latePassedSpec : ChangeSpec := { name := "latePassed", fn := fun _ => fun
  | [d] => { results := [.lit (.bool true)], args := [d] }
  | _ => none }
def latePassedRow : OpenClaim := { program := "ytjgpiclllehgmaa", sum := "b55e2ad1b0dda2a7607d868eea4ab12b32ae27b6e6e5ae7747ca0219ebcebd50", func := "couchette/couchettelaw04.LatePassed", spec := "latePassed", unfollowed := true, recurses := true, plainKeys := false, leaving := true, apart := false }
def LatePassedSaid : Prop := latePassedRow.holds Try.pinned (OpenSpec.ofChange latePassedSpec)

/-- ITS FALSE NEIGHBOUR: 'it returns false'. Refute it at one input. -/
def latePassedWrong : ChangeSpec := { name := "latePassed", fn := fun _ => fun
  | [d] => { results := [.lit (.bool false)], args := [d] }
  | _ => none }
def LatePassedWrongFalsely : Prop := latePassedRow.holds Try.pinned (OpenSpec.ofChange latePassedWrong)

/-- 'couchettelaw04.LateRenamed': WHATEVER THE INPUT: true; the input reads as it did. -/
def lateRenamedSpec : ChangeSpec := { name := "lateRenamed", fn := fun _ => fun
  | [d] => { results := [.lit (.bool true)], args := [d] }
  | _ => none }
def lateRenamedRow : OpenClaim := { program := "ytjgpiclllehgmaa", sum := "b55e2ad1b0dda2a7607d868eea4ab12b32ae27b6e6e5ae7747ca0219ebcebd50", func := "couchette/couchettelaw04.LateRenamed", spec := "lateRenamed", unfollowed := true, recurses := true, plainKeys := false, leaving := true, apart := false }
def LateRenamedSaid : Prop := lateRenamedRow.holds Try.pinned (OpenSpec.ofChange lateRenamedSpec)

/-- ITS FALSE NEIGHBOUR: 'it returns false'. Refute it at one input. -/
def lateRenamedWrong : ChangeSpec := { name := "lateRenamed", fn := fun _ => fun
  | [d] => { results := [.lit (.bool false)], args := [d] }
  | _ => none }
def LateRenamedWrongFalsely : Prop := lateRenamedRow.holds Try.pinned (OpenSpec.ofChange lateRenamedWrong)

/- THE SECOND FORM. 'bulk': how many values and letters a reading holds, each counted each time it is reached (what is shared counts as often as it is met; a slice's spare places count too). A statement '..UptoSaid' is the law's where the arguments, and the package variables that the reading takes, are together of bulk at most 1048576: NARROWER than '..Said'. Prove '..Said' where nothing that the law and all that it calls make is longer than what came in: it says more and counts as full. Else prove '..UptoSaid'. A law counts once. -/
mutual
def uptoBulk {H : Type} : DataW H → Nat
  | .lit (.string bytes) => bytes.length + 1
  | .lit _ => 1
  | .nil => 1
  | .ptr d => uptoBulk d + 1
  | .slice elems spare => uptoBulkAll elems + uptoBulkAll spare + 1
  | .agg parts => uptoBulkAll parts + 1
  | .iface _ d => uptoBulk d + 1
  | .map entries => uptoBulkEntries entries + 1
  | .held _ => 1
def uptoBulkAll {H : Type} : List (DataW H) → Nat
  | [] => 0
  | d :: r => uptoBulk d + uptoBulkAll r
def uptoBulkEntries {H : Type} : List (Lit × DataW H) → Nat
  | [] => 0
  | x :: r => uptoBulkEntry x + uptoBulkEntries r
def uptoBulkEntry {H : Type} : Lit × DataW H → Nat
  | (.string bytes, d) => bytes.length + uptoBulk d + 1
  | (_, d) => uptoBulk d + 1
 end
def uptoSmall : (H : Type) → List (DataW H) → Bool := fun _ ds => decide (uptoBulkAll ds ≤ 1048576)
def OpenSpec.upto (s : _root_.Go.ChangeSpec) : _root_.Go.OpenSpec := { _root_.Go.OpenSpec.ofChange s with cond := some uptoSmall }

/-- 'couchettelaw04.LatePassed', WHERE WHAT IT READS IS OF BULK AT MOST 1048576: true; the input reads as it did. -/
def latePassedUptoRow : OpenClaim := { program := "ytjgpiclllehgmaa", sum := "b55e2ad1b0dda2a7607d868eea4ab12b32ae27b6e6e5ae7747ca0219ebcebd50", func := "couchette/couchettelaw04.LatePassed", spec := "latePassed", unfollowed := true, recurses := true, plainKeys := false, leaving := true, apart := false, narrowed := true }
def LatePassedUptoSaid : Prop := latePassedUptoRow.holds Try.pinned (OpenSpec.upto latePassedSpec)

/-- 'couchettelaw04.LateRenamed', WHERE WHAT IT READS IS OF BULK AT MOST 1048576: true; the input reads as it did. -/
def lateRenamedUptoRow : OpenClaim := { program := "ytjgpiclllehgmaa", sum := "b55e2ad1b0dda2a7607d868eea4ab12b32ae27b6e6e5ae7747ca0219ebcebd50", func := "couchette/couchettelaw04.LateRenamed", spec := "lateRenamed", unfollowed := true, recurses := true, plainKeys := false, leaving := true, apart := false, narrowed := true }
def LateRenamedUptoSaid : Prop := lateRenamedUptoRow.holds Try.pinned (OpenSpec.upto lateRenamedSpec)

end Rows
end Go.Proofs.Ytjgpiclllehgmaa
