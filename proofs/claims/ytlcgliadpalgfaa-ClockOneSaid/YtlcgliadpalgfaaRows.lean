/-
  No cell of these rows narrows 'for every input' (looked for: loops, veiled, ifaces, maps, wideKeys, modest, calm, conditions, laid).
  DERIVED. THE GIVEN ROWS OF THIS SEAT. 11 by the template 'for every input the law returns true; each argument reads behind the call as it read before'; 0 by the template 'total and deterministic' (their statements: YtlcgliadpalgfaaTotals.lean).
  GIVEN WITH THE SEED: the statements are not yours to turn. If you find one false, say at which input.
  Laid BY PROGRAM, IN A SANDBOX (cutbox-rows.mjs): the forced cells as the released guide's own fill.sh prints them over the translation fa1e4699f2151ac4… (all of the seat's roots in one cut). By AI agents, Wed Nov 11 2026. No macro, syntax, notation, axiom, sorry.
-/
import Derived.Test.YtlcgliadpalgfaaChecked
import GoSem.Claim
import GoSem.ClaimJoined
import GoSem.ClaimMapViews
import Derived.JoinedTies
import Derived.KernelRfl
namespace Go.Proofs.Ytlcgliadpalgfaa
/- THE CELL 'sum', in the pinned program and in every row, IS THE sha256 OF THE DUMP (.gsa) THAT YtlcgliadpalgfaaProg.lean LOADS. Nothing in Lean hashes anything: it is a label: what it is worth is what the hold of that sum in a sandbox is worth. -/
noncomputable def Try.pinned : Pinned := { name := "ytlcgliadpalgfaa", sum := "fa1e4699f2151ac4904a8199e4b40bc0b26626528788c5e4b88f8fbb6d90b04b", checked := Try.checked }
namespace Rows
def none {H : Type} : Left H := { results := [], args := [] }

/-- 'couchettelaw01.ClockSoonest': WHATEVER THE INPUT: true; the input reads as it did. -/
def clockSoonestSpec : ChangeSpec := { name := "clockSoonest", fn := fun _ => fun
  | [d] => { results := [.lit (.bool true)], args := [d] }
  | _ => none }
def clockSoonestRow : OpenClaim := { program := "ytlcgliadpalgfaa", sum := "fa1e4699f2151ac4904a8199e4b40bc0b26626528788c5e4b88f8fbb6d90b04b", func := "couchette/couchettelaw01.ClockSoonest", spec := "clockSoonest", unfollowed := true, recurses := true, apart := false }
def ClockSoonestSaid : Prop := clockSoonestRow.holds Try.pinned (OpenSpec.ofChange clockSoonestSpec)

/-- ITS FALSE NEIGHBOUR: 'it returns false'. Refute it at one input. -/
def clockSoonestWrong : ChangeSpec := { name := "clockSoonest", fn := fun _ => fun
  | [d] => { results := [.lit (.bool false)], args := [d] }
  | _ => none }
def ClockSoonestWrongFalsely : Prop := clockSoonestRow.holds Try.pinned (OpenSpec.ofChange clockSoonestWrong)

/-- 'couchettelaw01.ClockMoved': WHATEVER THE INPUT: true; the input reads as it did. -/
def clockMovedSpec : ChangeSpec := { name := "clockMoved", fn := fun _ => fun
  | [d] => { results := [.lit (.bool true)], args := [d] }
  | _ => none }
def clockMovedRow : OpenClaim := { program := "ytlcgliadpalgfaa", sum := "fa1e4699f2151ac4904a8199e4b40bc0b26626528788c5e4b88f8fbb6d90b04b", func := "couchette/couchettelaw01.ClockMoved", spec := "clockMoved", unfollowed := true, recurses := true, apart := false }
def ClockMovedSaid : Prop := clockMovedRow.holds Try.pinned (OpenSpec.ofChange clockMovedSpec)

/-- ITS FALSE NEIGHBOUR: 'it returns false'. Refute it at one input. -/
def clockMovedWrong : ChangeSpec := { name := "clockMoved", fn := fun _ => fun
  | [d] => { results := [.lit (.bool false)], args := [d] }
  | _ => none }
def ClockMovedWrongFalsely : Prop := clockMovedRow.holds Try.pinned (OpenSpec.ofChange clockMovedWrong)

/-- 'couchettelaw01.ClockPut': WHATEVER THE INPUT: true; the input reads as it did. -/
def clockPutSpec : ChangeSpec := { name := "clockPut", fn := fun _ => fun
  | [d1, d2, d3] => { results := [.lit (.bool true)], args := [d1, d2, d3] }
  | _ => none }
def clockPutRow : OpenClaim := { program := "ytlcgliadpalgfaa", sum := "fa1e4699f2151ac4904a8199e4b40bc0b26626528788c5e4b88f8fbb6d90b04b", func := "couchette/couchettelaw01.ClockPut", spec := "clockPut", unfollowed := true, recurses := true, apart := false }
def ClockPutSaid : Prop := clockPutRow.holds Try.pinned (OpenSpec.ofChange clockPutSpec)

/-- ITS FALSE NEIGHBOUR: 'it returns false'. Refute it at one input. -/
def clockPutWrong : ChangeSpec := { name := "clockPut", fn := fun _ => fun
  | [d1, d2, d3] => { results := [.lit (.bool false)], args := [d1, d2, d3] }
  | _ => none }
def ClockPutWrongFalsely : Prop := clockPutRow.holds Try.pinned (OpenSpec.ofChange clockPutWrong)

/-- 'couchettelaw01.ClockWay': WHATEVER THE INPUT: true; the input reads as it did. -/
def clockWaySpec : ChangeSpec := { name := "clockWay", fn := fun _ => fun
  | [d] => { results := [.lit (.bool true)], args := [d] }
  | _ => none }
def clockWayRow : OpenClaim := { program := "ytlcgliadpalgfaa", sum := "fa1e4699f2151ac4904a8199e4b40bc0b26626528788c5e4b88f8fbb6d90b04b", func := "couchette/couchettelaw01.ClockWay", spec := "clockWay", unfollowed := true, recurses := true, apart := false }
def ClockWaySaid : Prop := clockWayRow.holds Try.pinned (OpenSpec.ofChange clockWaySpec)

/-- ITS FALSE NEIGHBOUR: 'it returns false'. Refute it at one input. -/
def clockWayWrong : ChangeSpec := { name := "clockWay", fn := fun _ => fun
  | [d] => { results := [.lit (.bool false)], args := [d] }
  | _ => none }
def ClockWayWrongFalsely : Prop := clockWayRow.holds Try.pinned (OpenSpec.ofChange clockWayWrong)

/-- 'couchettelaw01.ClockOne': WHATEVER THE INPUT: true; the input reads as it did. -/
def clockOneSpec : ChangeSpec := { name := "clockOne", fn := fun _ => fun
  | [d] => { results := [.lit (.bool true)], args := [d] }
  | _ => none }
def clockOneRow : OpenClaim := { program := "ytlcgliadpalgfaa", sum := "fa1e4699f2151ac4904a8199e4b40bc0b26626528788c5e4b88f8fbb6d90b04b", func := "couchette/couchettelaw01.ClockOne", spec := "clockOne", unfollowed := true, recurses := true, apart := false }
def ClockOneSaid : Prop := clockOneRow.holds Try.pinned (OpenSpec.ofChange clockOneSpec)

/-- ITS FALSE NEIGHBOUR: 'it returns false'. Refute it at one input. -/
def clockOneWrong : ChangeSpec := { name := "clockOne", fn := fun _ => fun
  | [d] => { results := [.lit (.bool false)], args := [d] }
  | _ => none }
def ClockOneWrongFalsely : Prop := clockOneRow.holds Try.pinned (OpenSpec.ofChange clockOneWrong)

/-- 'couchettelaw01.ClockReads': WHATEVER THE INPUT: true; the input reads as it did. -/
def clockReadsSpec : ChangeSpec := { name := "clockReads", fn := fun _ => fun
  | [d] => { results := [.lit (.bool true)], args := [d] }
  | _ => none }
def clockReadsRow : OpenClaim := { program := "ytlcgliadpalgfaa", sum := "fa1e4699f2151ac4904a8199e4b40bc0b26626528788c5e4b88f8fbb6d90b04b", func := "couchette/couchettelaw01.ClockReads", spec := "clockReads", unfollowed := true, recurses := true, apart := false }
def ClockReadsSaid : Prop := clockReadsRow.holds Try.pinned (OpenSpec.ofChange clockReadsSpec)

/-- ITS FALSE NEIGHBOUR: 'it returns false'. Refute it at one input. -/
def clockReadsWrong : ChangeSpec := { name := "clockReads", fn := fun _ => fun
  | [d] => { results := [.lit (.bool false)], args := [d] }
  | _ => none }
def ClockReadsWrongFalsely : Prop := clockReadsRow.holds Try.pinned (OpenSpec.ofChange clockReadsWrong)

/-- 'couchettelaw01.ClockFirst': WHATEVER THE INPUT: true; the input reads as it did. -/
def clockFirstSpec : ChangeSpec := { name := "clockFirst", fn := fun _ => fun
  | [d] => { results := [.lit (.bool true)], args := [d] }
  | _ => none }
def clockFirstRow : OpenClaim := { program := "ytlcgliadpalgfaa", sum := "fa1e4699f2151ac4904a8199e4b40bc0b26626528788c5e4b88f8fbb6d90b04b", func := "couchette/couchettelaw01.ClockFirst", spec := "clockFirst", unfollowed := true, recurses := true, apart := false }
def ClockFirstSaid : Prop := clockFirstRow.holds Try.pinned (OpenSpec.ofChange clockFirstSpec)

/-- ITS FALSE NEIGHBOUR: 'it returns false'. Refute it at one input. -/
def clockFirstWrong : ChangeSpec := { name := "clockFirst", fn := fun _ => fun
  | [d] => { results := [.lit (.bool false)], args := [d] }
  | _ => none }
def ClockFirstWrongFalsely : Prop := clockFirstRow.holds Try.pinned (OpenSpec.ofChange clockFirstWrong)

/-- 'couchettelaw01.ClockKept': WHATEVER THE INPUT: true; the input reads as it did. -/
def clockKeptSpec : ChangeSpec := { name := "clockKept", fn := fun _ => fun
  | [d] => { results := [.lit (.bool true)], args := [d] }
  | _ => none }
def clockKeptRow : OpenClaim := { program := "ytlcgliadpalgfaa", sum := "fa1e4699f2151ac4904a8199e4b40bc0b26626528788c5e4b88f8fbb6d90b04b", func := "couchette/couchettelaw01.ClockKept", spec := "clockKept", unfollowed := true, recurses := true, apart := false }
def ClockKeptSaid : Prop := clockKeptRow.holds Try.pinned (OpenSpec.ofChange clockKeptSpec)

/-- ITS FALSE NEIGHBOUR: 'it returns false'. Refute it at one input. -/
def clockKeptWrong : ChangeSpec := { name := "clockKept", fn := fun _ => fun
  | [d] => { results := [.lit (.bool false)], args := [d] }
  | _ => none }
def ClockKeptWrongFalsely : Prop := clockKeptRow.holds Try.pinned (OpenSpec.ofChange clockKeptWrong)

/-- 'couchettelaw01.ClockLost': WHATEVER THE INPUT: true; the input reads as it did. -/
def clockLostSpec : ChangeSpec := { name := "clockLost", fn := fun _ => fun
  | [d] => { results := [.lit (.bool true)], args := [d] }
  | _ => none }
def clockLostRow : OpenClaim := { program := "ytlcgliadpalgfaa", sum := "fa1e4699f2151ac4904a8199e4b40bc0b26626528788c5e4b88f8fbb6d90b04b", func := "couchette/couchettelaw01.ClockLost", spec := "clockLost", unfollowed := true, recurses := true, apart := false }
def ClockLostSaid : Prop := clockLostRow.holds Try.pinned (OpenSpec.ofChange clockLostSpec)

/-- ITS FALSE NEIGHBOUR: 'it returns false'. Refute it at one input. -/
def clockLostWrong : ChangeSpec := { name := "clockLost", fn := fun _ => fun
  | [d] => { results := [.lit (.bool false)], args := [d] }
  | _ => none }
def ClockLostWrongFalsely : Prop := clockLostRow.holds Try.pinned (OpenSpec.ofChange clockLostWrong)

/-- 'couchettelaw01.ClockHours': WHATEVER THE INPUT: true; the input reads as it did. -/
def clockHoursSpec : ChangeSpec := { name := "clockHours", fn := fun _ => fun
  | [d1, d2, d3, d4, d5, d6, d7] => { results := [.lit (.bool true)], args := [d1, d2, d3, d4, d5, d6, d7] }
  | _ => none }
def clockHoursRow : OpenClaim := { program := "ytlcgliadpalgfaa", sum := "fa1e4699f2151ac4904a8199e4b40bc0b26626528788c5e4b88f8fbb6d90b04b", func := "couchette/couchettelaw01.ClockHours", spec := "clockHours", unfollowed := true, recurses := true, apart := false }
def ClockHoursSaid : Prop := clockHoursRow.holds Try.pinned (OpenSpec.ofChange clockHoursSpec)

/-- ITS FALSE NEIGHBOUR: 'it returns false'. Refute it at one input. -/
def clockHoursWrong : ChangeSpec := { name := "clockHours", fn := fun _ => fun
  | [d1, d2, d3, d4, d5, d6, d7] => { results := [.lit (.bool false)], args := [d1, d2, d3, d4, d5, d6, d7] }
  | _ => none }
def ClockHoursWrongFalsely : Prop := clockHoursRow.holds Try.pinned (OpenSpec.ofChange clockHoursWrong)

/-- 'couchettelaw01.ClockSkips': WHATEVER THE INPUT: true; the input reads as it did. -/
def clockSkipsSpec : ChangeSpec := { name := "clockSkips", fn := fun _ => fun
  | [d] => { results := [.lit (.bool true)], args := [d] }
  | _ => none }
def clockSkipsRow : OpenClaim := { program := "ytlcgliadpalgfaa", sum := "fa1e4699f2151ac4904a8199e4b40bc0b26626528788c5e4b88f8fbb6d90b04b", func := "couchette/couchettelaw01.ClockSkips", spec := "clockSkips", unfollowed := true, recurses := true, apart := false }
def ClockSkipsSaid : Prop := clockSkipsRow.holds Try.pinned (OpenSpec.ofChange clockSkipsSpec)

/-- ITS FALSE NEIGHBOUR: 'it returns false'. Refute it at one input. -/
def clockSkipsWrong : ChangeSpec := { name := "clockSkips", fn := fun _ => fun
  | [d] => { results := [.lit (.bool false)], args := [d] }
  | _ => none }
def ClockSkipsWrongFalsely : Prop := clockSkipsRow.holds Try.pinned (OpenSpec.ofChange clockSkipsWrong)

/- THE SECOND FORM. 'bulk': how many values and letters a reading holds, each counted each time it is reached (what is shared counts as often as it is met; a slice's spare places count too). A statement '..UptoSaid' is the law's where the arguments, and the package variables that the reading takes, are together of bulk at most 1048576: NARROWER than '..Said'. Prove '..Said' where nothing that the law and all that it calls make is longer than what came in: it says more and counts as full. Else prove '..UptoSaid'. A law counts once. -/
mutual
def uptoBulk {H : Type} : DataW H → Nat
  | .lit (.string bytes) => bytes.length + 1
  | .lit _ => 1
  | .nil => 1
  | .ptr d => uptoBulk d + 1
  | .slice elems spare => uptoBulkAll elems + uptoBulkAll spare + 1
  | .agg parts => uptoBulkAll parts + 1
  | .iface _ d => uptoBulk d + 1
  | .map entries => uptoBulkEntries entries + 1
  | .held _ => 1
def uptoBulkAll {H : Type} : List (DataW H) → Nat
  | [] => 0
  | d :: r => uptoBulk d + uptoBulkAll r
def uptoBulkEntries {H : Type} : List (Lit × DataW H) → Nat
  | [] => 0
  | x :: r => uptoBulkEntry x + uptoBulkEntries r
def uptoBulkEntry {H : Type} : Lit × DataW H → Nat
  | (.string bytes, d) => bytes.length + uptoBulk d + 1
  | (_, d) => uptoBulk d + 1
 end
def uptoSmall : (H : Type) → List (DataW H) → Bool := fun _ ds => decide (uptoBulkAll ds ≤ 1048576)
def OpenSpec.upto (s : _root_.Go.ChangeSpec) : _root_.Go.OpenSpec := { _root_.Go.OpenSpec.ofChange s with cond := some uptoSmall }

/-- 'couchettelaw01.ClockSoonest', WHERE WHAT IT READS IS OF BULK AT MOST 1048576: true; the input reads as it did. -/
def clockSoonestUptoRow : OpenClaim := { program := "ytlcgliadpalgfaa", sum := "fa1e4699f2151ac4904a8199e4b40bc0b26626528788c5e4b88f8fbb6d90b04b", func := "couchette/couchettelaw01.ClockSoonest", spec := "clockSoonest", unfollowed := true, recurses := true, apart := false, narrowed := true }
def ClockSoonestUptoSaid : Prop := clockSoonestUptoRow.holds Try.pinned (OpenSpec.upto clockSoonestSpec)

/-- 'couchettelaw01.ClockMoved', WHERE WHAT IT READS IS OF BULK AT MOST 1048576: true; the input reads as it did. -/
def clockMovedUptoRow : OpenClaim := { program := "ytlcgliadpalgfaa", sum := "fa1e4699f2151ac4904a8199e4b40bc0b26626528788c5e4b88f8fbb6d90b04b", func := "couchette/couchettelaw01.ClockMoved", spec := "clockMoved", unfollowed := true, recurses := true, apart := false, narrowed := true }
def ClockMovedUptoSaid : Prop := clockMovedUptoRow.holds Try.pinned (OpenSpec.upto clockMovedSpec)

/-- 'couchettelaw01.ClockPut', WHERE WHAT IT READS IS OF BULK AT MOST 1048576: true; the input reads as it did. -/
def clockPutUptoRow : OpenClaim := { program := "ytlcgliadpalgfaa", sum := "fa1e4699f2151ac4904a8199e4b40bc0b26626528788c5e4b88f8fbb6d90b04b", func := "couchette/couchettelaw01.ClockPut", spec := "clockPut", unfollowed := true, recurses := true, apart := false, narrowed := true }
def ClockPutUptoSaid : Prop := clockPutUptoRow.holds Try.pinned (OpenSpec.upto clockPutSpec)

/-- 'couchettelaw01.ClockWay', WHERE WHAT IT READS IS OF BULK AT MOST 1048576: true; the input reads as it did. -/
def clockWayUptoRow : OpenClaim := { program := "ytlcgliadpalgfaa", sum := "fa1e4699f2151ac4904a8199e4b40bc0b26626528788c5e4b88f8fbb6d90b04b", func := "couchette/couchettelaw01.ClockWay", spec := "clockWay", unfollowed := true, recurses := true, apart := false, narrowed := true }
def ClockWayUptoSaid : Prop := clockWayUptoRow.holds Try.pinned (OpenSpec.upto clockWaySpec)

/-- 'couchettelaw01.ClockOne', WHERE WHAT IT READS IS OF BULK AT MOST 1048576: true; the input reads as it did. -/
def clockOneUptoRow : OpenClaim := { program := "ytlcgliadpalgfaa", sum := "fa1e4699f2151ac4904a8199e4b40bc0b26626528788c5e4b88f8fbb6d90b04b", func := "couchette/couchettelaw01.ClockOne", spec := "clockOne", unfollowed := true, recurses := true, apart := false, narrowed := true }
def ClockOneUptoSaid : Prop := clockOneUptoRow.holds Try.pinned (OpenSpec.upto clockOneSpec)

/-- 'couchettelaw01.ClockReads', WHERE WHAT IT READS IS OF BULK AT MOST 1048576: true; the input reads as it did. -/
def clockReadsUptoRow : OpenClaim := { program := "ytlcgliadpalgfaa", sum := "fa1e4699f2151ac4904a8199e4b40bc0b26626528788c5e4b88f8fbb6d90b04b", func := "couchette/couchettelaw01.ClockReads", spec := "clockReads", unfollowed := true, recurses := true, apart := false, narrowed := true }
def ClockReadsUptoSaid : Prop := clockReadsUptoRow.holds Try.pinned (OpenSpec.upto clockReadsSpec)

/-- 'couchettelaw01.ClockFirst', WHERE WHAT IT READS IS OF BULK AT MOST 1048576: true; the input reads as it did. -/
def clockFirstUptoRow : OpenClaim := { program := "ytlcgliadpalgfaa", sum := "fa1e4699f2151ac4904a8199e4b40bc0b26626528788c5e4b88f8fbb6d90b04b", func := "couchette/couchettelaw01.ClockFirst", spec := "clockFirst", unfollowed := true, recurses := true, apart := false, narrowed := true }
def ClockFirstUptoSaid : Prop := clockFirstUptoRow.holds Try.pinned (OpenSpec.upto clockFirstSpec)

/-- 'couchettelaw01.ClockKept', WHERE WHAT IT READS IS OF BULK AT MOST 1048576: true; the input reads as it did. -/
def clockKeptUptoRow : OpenClaim := { program := "ytlcgliadpalgfaa", sum := "fa1e4699f2151ac4904a8199e4b40bc0b26626528788c5e4b88f8fbb6d90b04b", func := "couchette/couchettelaw01.ClockKept", spec := "clockKept", unfollowed := true, recurses := true, apart := false, narrowed := true }
def ClockKeptUptoSaid : Prop := clockKeptUptoRow.holds Try.pinned (OpenSpec.upto clockKeptSpec)

/-- 'couchettelaw01.ClockLost', WHERE WHAT IT READS IS OF BULK AT MOST 1048576: true; the input reads as it did. -/
def clockLostUptoRow : OpenClaim := { program := "ytlcgliadpalgfaa", sum := "fa1e4699f2151ac4904a8199e4b40bc0b26626528788c5e4b88f8fbb6d90b04b", func := "couchette/couchettelaw01.ClockLost", spec := "clockLost", unfollowed := true, recurses := true, apart := false, narrowed := true }
def ClockLostUptoSaid : Prop := clockLostUptoRow.holds Try.pinned (OpenSpec.upto clockLostSpec)

/-- 'couchettelaw01.ClockHours', WHERE WHAT IT READS IS OF BULK AT MOST 1048576: true; the input reads as it did. -/
def clockHoursUptoRow : OpenClaim := { program := "ytlcgliadpalgfaa", sum := "fa1e4699f2151ac4904a8199e4b40bc0b26626528788c5e4b88f8fbb6d90b04b", func := "couchette/couchettelaw01.ClockHours", spec := "clockHours", unfollowed := true, recurses := true, apart := false, narrowed := true }
def ClockHoursUptoSaid : Prop := clockHoursUptoRow.holds Try.pinned (OpenSpec.upto clockHoursSpec)

/-- 'couchettelaw01.ClockSkips', WHERE WHAT IT READS IS OF BULK AT MOST 1048576: true; the input reads as it did. -/
def clockSkipsUptoRow : OpenClaim := { program := "ytlcgliadpalgfaa", sum := "fa1e4699f2151ac4904a8199e4b40bc0b26626528788c5e4b88f8fbb6d90b04b", func := "couchette/couchettelaw01.ClockSkips", spec := "clockSkips", unfollowed := true, recurses := true, apart := false, narrowed := true }
def ClockSkipsUptoSaid : Prop := clockSkipsUptoRow.holds Try.pinned (OpenSpec.upto clockSkipsSpec)

end Rows
end Go.Proofs.Ytlcgliadpalgfaa
