/-
  No cell of these rows narrows 'for every input' (looked for: loops, veiled, ifaces, maps, wideKeys, modest, calm, conditions, laid).
  DERIVED. THE GIVEN ROWS OF THIS SEAT. 13 by the template 'for every input the law returns true; each argument reads behind the call as it read before'; 0 by the template 'total and deterministic' (their statements: YtjgpiclllehgmaaGreatTotals.lean).
  GIVEN WITH THE SEED: the statements are not yours to turn. If you find one false, say at which input.
  Laid BY PROGRAM, IN A SANDBOX (cutbox-rows.mjs): the forced cells as the released guide's own fill.sh prints them over the translation ae7d68f822f4dd59… (all of the seat's roots in one cut). By AI agents, Wed Nov 11 2026. No macro, syntax, notation, axiom, sorry.
-/
import Derived.Test.YtjgpiclllehgmaaGreatChecked
import GoSem.Claim
import GoSem.ClaimJoined
import GoSem.ClaimMapViews
import Derived.JoinedTies
import Derived.KernelRfl
namespace Go.Proofs.YtjgpiclllehgmaaGreat
/- THE CELL 'sum', in the pinned program and in every row, IS THE sha256 OF THE DUMP (.gsa) THAT YtjgpiclllehgmaaGreatProg.lean LOADS. Nothing in Lean hashes anything: it is a label: what it is worth is what the hold of that sum in a sandbox is worth. -/
noncomputable def Tryz.pinned : Pinned := { name := "ytjgpiclllehgmaagreat", sum := "ae7d68f822f4dd59e5ea0310aa1405239c618cbd55af5537eda0bf67c40b95ee", checked := Tryz.checked }
namespace Rows
def none {H : Type} : Left H := { results := [], args := [] }

/-- 'couchettelaw04.LateTimes': WHATEVER THE INPUT: true; the input reads as it did. -/
def lateTimesSpec : ChangeSpec := { name := "lateTimes", fn := fun _ => fun
  | [d1, d2, d3, d4, d5] => { results := [.lit (.bool true)], args := [d1, d2, d3, d4, d5] }
  | _ => none }
def lateTimesRow : OpenClaim := { program := "ytjgpiclllehgmaagreat", sum := "ae7d68f822f4dd59e5ea0310aa1405239c618cbd55af5537eda0bf67c40b95ee", func := "couchette/couchettelaw04.LateTimes", spec := "lateTimes", unfollowed := true, recurses := true, plainKeys := false, leaving := true, apart := false }
def LateTimesSaid : Prop := lateTimesRow.holds Tryz.pinned (OpenSpec.ofChange lateTimesSpec)

/-- ITS FALSE NEIGHBOUR: 'it returns false'. Refute it at one input. -/
def lateTimesWrong : ChangeSpec := { name := "lateTimes", fn := fun _ => fun
  | [d1, d2, d3, d4, d5] => { results := [.lit (.bool false)], args := [d1, d2, d3, d4, d5] }
  | _ => none }
def LateTimesWrongFalsely : Prop := lateTimesRow.holds Tryz.pinned (OpenSpec.ofChange lateTimesWrong)

/-- 'couchettelaw04.LatePrinted': WHATEVER THE INPUT: true; the input reads as it did. -/
def latePrintedSpec : ChangeSpec := { name := "latePrinted", fn := fun _ => fun
  | [d] => { results := [.lit (.bool true)], args := [d] }
  | _ => none }
def latePrintedRow : OpenClaim := { program := "ytjgpiclllehgmaagreat", sum := "ae7d68f822f4dd59e5ea0310aa1405239c618cbd55af5537eda0bf67c40b95ee", func := "couchette/couchettelaw04.LatePrinted", spec := "latePrinted", unfollowed := true, recurses := true, plainKeys := false, leaving := true, apart := false }
def LatePrintedSaid : Prop := latePrintedRow.holds Tryz.pinned (OpenSpec.ofChange latePrintedSpec)

/-- ITS FALSE NEIGHBOUR: 'it returns false'. Refute it at one input. -/
def latePrintedWrong : ChangeSpec := { name := "latePrinted", fn := fun _ => fun
  | [d] => { results := [.lit (.bool false)], args := [d] }
  | _ => none }
def LatePrintedWrongFalsely : Prop := latePrintedRow.holds Tryz.pinned (OpenSpec.ofChange latePrintedWrong)

/-- 'couchettelaw04.LateGains': WHATEVER THE INPUT: true; the input reads as it did. -/
def lateGainsSpec : ChangeSpec := { name := "lateGains", fn := fun _ => fun
  | [d1, d2, d3, d4, d5] => { results := [.lit (.bool true)], args := [d1, d2, d3, d4, d5] }
  | _ => none }
def lateGainsRow : OpenClaim := { program := "ytjgpiclllehgmaagreat", sum := "ae7d68f822f4dd59e5ea0310aa1405239c618cbd55af5537eda0bf67c40b95ee", func := "couchette/couchettelaw04.LateGains", spec := "lateGains", unfollowed := true, recurses := true, plainKeys := false, leaving := true, apart := false }
def LateGainsSaid : Prop := lateGainsRow.holds Tryz.pinned (OpenSpec.ofChange lateGainsSpec)

/-- ITS FALSE NEIGHBOUR: 'it returns false'. Refute it at one input. -/
def lateGainsWrong : ChangeSpec := { name := "lateGains", fn := fun _ => fun
  | [d1, d2, d3, d4, d5] => { results := [.lit (.bool false)], args := [d1, d2, d3, d4, d5] }
  | _ => none }
def LateGainsWrongFalsely : Prop := lateGainsRow.holds Tryz.pinned (OpenSpec.ofChange lateGainsWrong)

/-- 'couchettelaw04.LateKept': WHATEVER THE INPUT: true; the input reads as it did. -/
def lateKeptSpec : ChangeSpec := { name := "lateKept", fn := fun _ => fun
  | [d1, d2, d3, d4, d5, d6] => { results := [.lit (.bool true)], args := [d1, d2, d3, d4, d5, d6] }
  | _ => none }
def lateKeptRow : OpenClaim := { program := "ytjgpiclllehgmaagreat", sum := "ae7d68f822f4dd59e5ea0310aa1405239c618cbd55af5537eda0bf67c40b95ee", func := "couchette/couchettelaw04.LateKept", spec := "lateKept", unfollowed := true, recurses := true, plainKeys := false, leaving := true, apart := false }
def LateKeptSaid : Prop := lateKeptRow.holds Tryz.pinned (OpenSpec.ofChange lateKeptSpec)

/-- ITS FALSE NEIGHBOUR: 'it returns false'. Refute it at one input. -/
def lateKeptWrong : ChangeSpec := { name := "lateKept", fn := fun _ => fun
  | [d1, d2, d3, d4, d5, d6] => { results := [.lit (.bool false)], args := [d1, d2, d3, d4, d5, d6] }
  | _ => none }
def LateKeptWrongFalsely : Prop := lateKeptRow.holds Tryz.pinned (OpenSpec.ofChange lateKeptWrong)

/-- 'couchettelaw04.LateMoves': WHATEVER THE INPUT: true; the input reads as it did. -/
def lateMovesSpec : ChangeSpec := { name := "lateMoves", fn := fun _ => fun
  | [d1, d2, d3, d4, d5] => { results := [.lit (.bool true)], args := [d1, d2, d3, d4, d5] }
  | _ => none }
def lateMovesRow : OpenClaim := { program := "ytjgpiclllehgmaagreat", sum := "ae7d68f822f4dd59e5ea0310aa1405239c618cbd55af5537eda0bf67c40b95ee", func := "couchette/couchettelaw04.LateMoves", spec := "lateMoves", unfollowed := true, recurses := true, plainKeys := false, leaving := true, apart := false }
def LateMovesSaid : Prop := lateMovesRow.holds Tryz.pinned (OpenSpec.ofChange lateMovesSpec)

/-- ITS FALSE NEIGHBOUR: 'it returns false'. Refute it at one input. -/
def lateMovesWrong : ChangeSpec := { name := "lateMoves", fn := fun _ => fun
  | [d1, d2, d3, d4, d5] => { results := [.lit (.bool false)], args := [d1, d2, d3, d4, d5] }
  | _ => none }
def LateMovesWrongFalsely : Prop := lateMovesRow.holds Tryz.pinned (OpenSpec.ofChange lateMovesWrong)

/-- 'couchettelaw04.LateEnough': WHATEVER THE INPUT: true; the input reads as it did. -/
def lateEnoughSpec : ChangeSpec := { name := "lateEnough", fn := fun _ => fun
  | [d] => { results := [.lit (.bool true)], args := [d] }
  | _ => none }
def lateEnoughRow : OpenClaim := { program := "ytjgpiclllehgmaagreat", sum := "ae7d68f822f4dd59e5ea0310aa1405239c618cbd55af5537eda0bf67c40b95ee", func := "couchette/couchettelaw04.LateEnough", spec := "lateEnough", unfollowed := true, recurses := true, plainKeys := false, leaving := true, apart := false }
def LateEnoughSaid : Prop := lateEnoughRow.holds Tryz.pinned (OpenSpec.ofChange lateEnoughSpec)

/-- ITS FALSE NEIGHBOUR: 'it returns false'. Refute it at one input. -/
def lateEnoughWrong : ChangeSpec := { name := "lateEnough", fn := fun _ => fun
  | [d] => { results := [.lit (.bool false)], args := [d] }
  | _ => none }
def LateEnoughWrongFalsely : Prop := lateEnoughRow.holds Tryz.pinned (OpenSpec.ofChange lateEnoughWrong)

/-- 'couchettelaw04.LateLonger': WHATEVER THE INPUT: true; the input reads as it did. -/
def lateLongerSpec : ChangeSpec := { name := "lateLonger", fn := fun _ => fun
  | [d] => { results := [.lit (.bool true)], args := [d] }
  | _ => none }
def lateLongerRow : OpenClaim := { program := "ytjgpiclllehgmaagreat", sum := "ae7d68f822f4dd59e5ea0310aa1405239c618cbd55af5537eda0bf67c40b95ee", func := "couchette/couchettelaw04.LateLonger", spec := "lateLonger", unfollowed := true, recurses := true, plainKeys := false, leaving := true, apart := false }
def LateLongerSaid : Prop := lateLongerRow.holds Tryz.pinned (OpenSpec.ofChange lateLongerSpec)

/-- ITS FALSE NEIGHBOUR: 'it returns false'. Refute it at one input. -/
def lateLongerWrong : ChangeSpec := { name := "lateLonger", fn := fun _ => fun
  | [d] => { results := [.lit (.bool false)], args := [d] }
  | _ => none }
def LateLongerWrongFalsely : Prop := lateLongerRow.holds Tryz.pinned (OpenSpec.ofChange lateLongerWrong)

/-- 'couchettelaw04.LateGained': WHATEVER THE INPUT: true; the input reads as it did. -/
def lateGainedSpec : ChangeSpec := { name := "lateGained", fn := fun _ => fun
  | [d] => { results := [.lit (.bool true)], args := [d] }
  | _ => none }
def lateGainedRow : OpenClaim := { program := "ytjgpiclllehgmaagreat", sum := "ae7d68f822f4dd59e5ea0310aa1405239c618cbd55af5537eda0bf67c40b95ee", func := "couchette/couchettelaw04.LateGained", spec := "lateGained", unfollowed := true, recurses := true, plainKeys := false, leaving := true, apart := false }
def LateGainedSaid : Prop := lateGainedRow.holds Tryz.pinned (OpenSpec.ofChange lateGainedSpec)

/-- ITS FALSE NEIGHBOUR: 'it returns false'. Refute it at one input. -/
def lateGainedWrong : ChangeSpec := { name := "lateGained", fn := fun _ => fun
  | [d] => { results := [.lit (.bool false)], args := [d] }
  | _ => none }
def LateGainedWrongFalsely : Prop := lateGainedRow.holds Tryz.pinned (OpenSpec.ofChange lateGainedWrong)

/-- 'couchettelaw04.LateComes': WHATEVER THE INPUT: true; the input reads as it did. -/
def lateComesSpec : ChangeSpec := { name := "lateComes", fn := fun _ => fun
  | [d1, d2, d3] => { results := [.lit (.bool true)], args := [d1, d2, d3] }
  | _ => none }
def lateComesRow : OpenClaim := { program := "ytjgpiclllehgmaagreat", sum := "ae7d68f822f4dd59e5ea0310aa1405239c618cbd55af5537eda0bf67c40b95ee", func := "couchette/couchettelaw04.LateComes", spec := "lateComes", inPlace := ["slices.overlaps[[]int]"], unfollowed := true, recurses := true, plainKeys := false, leaving := true, apart := false }
def LateComesSaid : Prop := lateComesRow.holds Tryz.pinned (OpenSpec.ofChange lateComesSpec)

/-- ITS FALSE NEIGHBOUR: 'it returns false'. Refute it at one input. -/
def lateComesWrong : ChangeSpec := { name := "lateComes", fn := fun _ => fun
  | [d1, d2, d3] => { results := [.lit (.bool false)], args := [d1, d2, d3] }
  | _ => none }
def LateComesWrongFalsely : Prop := lateComesRow.holds Tryz.pinned (OpenSpec.ofChange lateComesWrong)

/-- 'couchettelaw04.LateFollowed': WHATEVER THE INPUT: true; the input reads as it did. -/
def lateFollowedSpec : ChangeSpec := { name := "lateFollowed", fn := fun _ => fun
  | [d] => { results := [.lit (.bool true)], args := [d] }
  | _ => none }
def lateFollowedRow : OpenClaim := { program := "ytjgpiclllehgmaagreat", sum := "ae7d68f822f4dd59e5ea0310aa1405239c618cbd55af5537eda0bf67c40b95ee", func := "couchette/couchettelaw04.LateFollowed", spec := "lateFollowed", inPlace := ["slices.overlaps[[]int]"], unfollowed := true, recurses := true, plainKeys := false, leaving := true, apart := false }
def LateFollowedSaid : Prop := lateFollowedRow.holds Tryz.pinned (OpenSpec.ofChange lateFollowedSpec)

/-- ITS FALSE NEIGHBOUR: 'it returns false'. Refute it at one input. -/
def lateFollowedWrong : ChangeSpec := { name := "lateFollowed", fn := fun _ => fun
  | [d] => { results := [.lit (.bool false)], args := [d] }
  | _ => none }
def LateFollowedWrongFalsely : Prop := lateFollowedRow.holds Tryz.pinned (OpenSpec.ofChange lateFollowedWrong)

/-- 'couchettelaw04.LateCome': WHATEVER THE INPUT: true; the input reads as it did. -/
def lateComeSpec : ChangeSpec := { name := "lateCome", fn := fun _ => fun
  | [d] => { results := [.lit (.bool true)], args := [d] }
  | _ => none }
def lateComeRow : OpenClaim := { program := "ytjgpiclllehgmaagreat", sum := "ae7d68f822f4dd59e5ea0310aa1405239c618cbd55af5537eda0bf67c40b95ee", func := "couchette/couchettelaw04.LateCome", spec := "lateCome", inPlace := ["slices.overlaps[[]int]"], unfollowed := true, recurses := true, plainKeys := false, leaving := true, apart := false }
def LateComeSaid : Prop := lateComeRow.holds Tryz.pinned (OpenSpec.ofChange lateComeSpec)

/-- ITS FALSE NEIGHBOUR: 'it returns false'. Refute it at one input. -/
def lateComeWrong : ChangeSpec := { name := "lateCome", fn := fun _ => fun
  | [d] => { results := [.lit (.bool false)], args := [d] }
  | _ => none }
def LateComeWrongFalsely : Prop := lateComeRow.holds Tryz.pinned (OpenSpec.ofChange lateComeWrong)

/-- 'couchettelaw04.LateBetter': WHATEVER THE INPUT: true; the input reads as it did. -/
def lateBetterSpec : ChangeSpec := { name := "lateBetter", fn := fun _ => fun
  | [d] => { results := [.lit (.bool true)], args := [d] }
  | _ => none }
def lateBetterRow : OpenClaim := { program := "ytjgpiclllehgmaagreat", sum := "ae7d68f822f4dd59e5ea0310aa1405239c618cbd55af5537eda0bf67c40b95ee", func := "couchette/couchettelaw04.LateBetter", spec := "lateBetter", inPlace := ["slices.overlaps[[]int]"], unfollowed := true, recurses := true, plainKeys := false, leaving := true, apart := false }
def LateBetterSaid : Prop := lateBetterRow.holds Tryz.pinned (OpenSpec.ofChange lateBetterSpec)

/-- ITS FALSE NEIGHBOUR: 'it returns false'. Refute it at one input. -/
def lateBetterWrong : ChangeSpec := { name := "lateBetter", fn := fun _ => fun
  | [d] => { results := [.lit (.bool false)], args := [d] }
  | _ => none }
def LateBetterWrongFalsely : Prop := lateBetterRow.holds Tryz.pinned (OpenSpec.ofChange lateBetterWrong)

/-- 'couchettelaw04.LateAll': WHATEVER THE INPUT: true; the input reads as it did. -/
def lateAllSpec : ChangeSpec := { name := "lateAll", fn := fun _ => fun
  | [d] => { results := [.lit (.bool true)], args := [d] }
  | _ => none }
def lateAllRow : OpenClaim := { program := "ytjgpiclllehgmaagreat", sum := "ae7d68f822f4dd59e5ea0310aa1405239c618cbd55af5537eda0bf67c40b95ee", func := "couchette/couchettelaw04.LateAll", spec := "lateAll", inPlace := ["slices.overlaps[[]int]"], unfollowed := true, recurses := true, plainKeys := false, leaving := true, apart := false }
def LateAllSaid : Prop := lateAllRow.holds Tryz.pinned (OpenSpec.ofChange lateAllSpec)

/-- ITS FALSE NEIGHBOUR: 'it returns false'. Refute it at one input. -/
def lateAllWrong : ChangeSpec := { name := "lateAll", fn := fun _ => fun
  | [d] => { results := [.lit (.bool false)], args := [d] }
  | _ => none }
def LateAllWrongFalsely : Prop := lateAllRow.holds Tryz.pinned (OpenSpec.ofChange lateAllWrong)

/- THE SECOND FORM. 'bulk': how many values and letters a reading holds, each counted each time it is reached (what is shared counts as often as it is met; a slice's spare places count too). A statement '..UptoSaid' is the law's where the arguments, and the package variables that the reading takes, are together of bulk at most 1048576: NARROWER than '..Said'. Prove '..Said' where nothing that the law and all that it calls make is longer than what came in: it says more and counts as full. Else prove '..UptoSaid'. A law counts once. -/
mutual
def uptoBulk {H : Type} : DataW H → Nat
  | .lit (.string bytes) => bytes.length + 1
  | .lit _ => 1
  | .nil => 1
  | .ptr d => uptoBulk d + 1
  | .slice elems spare => uptoBulkAll elems + uptoBulkAll spare + 1
  | .agg parts => uptoBulkAll parts + 1
  | .iface _ d => uptoBulk d + 1
  | .map entries => uptoBulkEntries entries + 1
  | .held _ => 1
def uptoBulkAll {H : Type} : List (DataW H) → Nat
  | [] => 0
  | d :: r => uptoBulk d + uptoBulkAll r
def uptoBulkEntries {H : Type} : List (Lit × DataW H) → Nat
  | [] => 0
  | x :: r => uptoBulkEntry x + uptoBulkEntries r
def uptoBulkEntry {H : Type} : Lit × DataW H → Nat
  | (.string bytes, d) => bytes.length + uptoBulk d + 1
  | (_, d) => uptoBulk d + 1
 end
def uptoSmall : (H : Type) → List (DataW H) → Bool := fun _ ds => decide (uptoBulkAll ds ≤ 1048576)
def OpenSpec.upto (s : _root_.Go.ChangeSpec) : _root_.Go.OpenSpec := { _root_.Go.OpenSpec.ofChange s with cond := some uptoSmall }

/-- 'couchettelaw04.LateTimes', WHERE WHAT IT READS IS OF BULK AT MOST 1048576: true; the input reads as it did. -/
def lateTimesUptoRow : OpenClaim := { program := "ytjgpiclllehgmaagreat", sum := "ae7d68f822f4dd59e5ea0310aa1405239c618cbd55af5537eda0bf67c40b95ee", func := "couchette/couchettelaw04.LateTimes", spec := "lateTimes", unfollowed := true, recurses := true, plainKeys := false, leaving := true, apart := false, narrowed := true }
def LateTimesUptoSaid : Prop := lateTimesUptoRow.holds Tryz.pinned (OpenSpec.upto lateTimesSpec)

/-- 'couchettelaw04.LatePrinted', WHERE WHAT IT READS IS OF BULK AT MOST 1048576: true; the input reads as it did. -/
def latePrintedUptoRow : OpenClaim := { program := "ytjgpiclllehgmaagreat", sum := "ae7d68f822f4dd59e5ea0310aa1405239c618cbd55af5537eda0bf67c40b95ee", func := "couchette/couchettelaw04.LatePrinted", spec := "latePrinted", unfollowed := true, recurses := true, plainKeys := false, leaving := true, apart := false, narrowed := true }
def LatePrintedUptoSaid : Prop := latePrintedUptoRow.holds Tryz.pinned (OpenSpec.upto latePrintedSpec)

/-- 'couchettelaw04.LateGains', WHERE WHAT IT READS IS OF BULK AT MOST 1048576: true; the input reads as it did. -/
def lateGainsUptoRow : OpenClaim := { program := "ytjgpiclllehgmaagreat", sum := "ae7d68f822f4dd59e5ea0310aa1405239c618cbd55af5537eda0bf67c40b95ee", func := "couchette/couchettelaw04.LateGains", spec := "lateGains", unfollowed := true, recurses := true, plainKeys := false, leaving := true, apart := false, narrowed := true }
def LateGainsUptoSaid : Prop := lateGainsUptoRow.holds Tryz.pinned (OpenSpec.upto lateGainsSpec)

/-- 'couchettelaw04.LateKept', WHERE WHAT IT READS IS OF BULK AT MOST 1048576: true; the input reads as it did. -/
def lateKeptUptoRow : OpenClaim := { program := "ytjgpiclllehgmaagreat", sum := "ae7d68f822f4dd59e5ea0310aa1405239c618cbd55af5537eda0bf67c40b95ee", func := "couchette/couchettelaw04.LateKept", spec := "lateKept", unfollowed := true, recurses := true, plainKeys := false, leaving := true, apart := false, narrowed := true }
def LateKeptUptoSaid : Prop := lateKeptUptoRow.holds Tryz.pinned (OpenSpec.upto lateKeptSpec)

/-- 'couchettelaw04.LateMoves', WHERE WHAT IT READS IS OF BULK AT MOST 1048576: true; the input reads as it did. -/
def lateMovesUptoRow : OpenClaim := { program := "ytjgpiclllehgmaagreat", sum := "ae7d68f822f4dd59e5ea0310aa1405239c618cbd55af5537eda0bf67c40b95ee", func := "couchette/couchettelaw04.LateMoves", spec := "lateMoves", unfollowed := true, recurses := true, plainKeys := false, leaving := true, apart := false, narrowed := true }
def LateMovesUptoSaid : Prop := lateMovesUptoRow.holds Tryz.pinned (OpenSpec.upto lateMovesSpec)

/-- 'couchettelaw04.LateEnough', WHERE WHAT IT READS IS OF BULK AT MOST 1048576: true; the input reads as it did. -/
def lateEnoughUptoRow : OpenClaim := { program := "ytjgpiclllehgmaagreat", sum := "ae7d68f822f4dd59e5ea0310aa1405239c618cbd55af5537eda0bf67c40b95ee", func := "couchette/couchettelaw04.LateEnough", spec := "lateEnough", unfollowed := true, recurses := true, plainKeys := false, leaving := true, apart := false, narrowed := true }
def LateEnoughUptoSaid : Prop := lateEnoughUptoRow.holds Tryz.pinned (OpenSpec.upto lateEnoughSpec)

/-- 'couchettelaw04.LateLonger', WHERE WHAT IT READS IS OF BULK AT MOST 1048576: true; the input reads as it did. -/
def lateLongerUptoRow : OpenClaim := { program := "ytjgpiclllehgmaagreat", sum := "ae7d68f822f4dd59e5ea0310aa1405239c618cbd55af5537eda0bf67c40b95ee", func := "couchette/couchettelaw04.LateLonger", spec := "lateLonger", unfollowed := true, recurses := true, plainKeys := false, leaving := true, apart := false, narrowed := true }
def LateLongerUptoSaid : Prop := lateLongerUptoRow.holds Tryz.pinned (OpenSpec.upto lateLongerSpec)

/-- 'couchettelaw04.LateGained', WHERE WHAT IT READS IS OF BULK AT MOST 1048576: true; the input reads as it did. -/
def lateGainedUptoRow : OpenClaim := { program := "ytjgpiclllehgmaagreat", sum := "ae7d68f822f4dd59e5ea0310aa1405239c618cbd55af5537eda0bf67c40b95ee", func := "couchette/couchettelaw04.LateGained", spec := "lateGained", unfollowed := true, recurses := true, plainKeys := false, leaving := true, apart := false, narrowed := true }
def LateGainedUptoSaid : Prop := lateGainedUptoRow.holds Tryz.pinned (OpenSpec.upto lateGainedSpec)

/-- 'couchettelaw04.LateComes', WHERE WHAT IT READS IS OF BULK AT MOST 1048576: true; the input reads as it did. -/
def lateComesUptoRow : OpenClaim := { program := "ytjgpiclllehgmaagreat", sum := "ae7d68f822f4dd59e5ea0310aa1405239c618cbd55af5537eda0bf67c40b95ee", func := "couchette/couchettelaw04.LateComes", spec := "lateComes", inPlace := ["slices.overlaps[[]int]"], unfollowed := true, recurses := true, plainKeys := false, leaving := true, apart := false, narrowed := true }
def LateComesUptoSaid : Prop := lateComesUptoRow.holds Tryz.pinned (OpenSpec.upto lateComesSpec)

/-- 'couchettelaw04.LateFollowed', WHERE WHAT IT READS IS OF BULK AT MOST 1048576: true; the input reads as it did. -/
def lateFollowedUptoRow : OpenClaim := { program := "ytjgpiclllehgmaagreat", sum := "ae7d68f822f4dd59e5ea0310aa1405239c618cbd55af5537eda0bf67c40b95ee", func := "couchette/couchettelaw04.LateFollowed", spec := "lateFollowed", inPlace := ["slices.overlaps[[]int]"], unfollowed := true, recurses := true, plainKeys := false, leaving := true, apart := false, narrowed := true }
def LateFollowedUptoSaid : Prop := lateFollowedUptoRow.holds Tryz.pinned (OpenSpec.upto lateFollowedSpec)

/-- 'couchettelaw04.LateCome', WHERE WHAT IT READS IS OF BULK AT MOST 1048576: true; the input reads as it did. -/
def lateComeUptoRow : OpenClaim := { program := "ytjgpiclllehgmaagreat", sum := "ae7d68f822f4dd59e5ea0310aa1405239c618cbd55af5537eda0bf67c40b95ee", func := "couchette/couchettelaw04.LateCome", spec := "lateCome", inPlace := ["slices.overlaps[[]int]"], unfollowed := true, recurses := true, plainKeys := false, leaving := true, apart := false, narrowed := true }
def LateComeUptoSaid : Prop := lateComeUptoRow.holds Tryz.pinned (OpenSpec.upto lateComeSpec)

/-- 'couchettelaw04.LateBetter', WHERE WHAT IT READS IS OF BULK AT MOST 1048576: true; the input reads as it did. -/
def lateBetterUptoRow : OpenClaim := { program := "ytjgpiclllehgmaagreat", sum := "ae7d68f822f4dd59e5ea0310aa1405239c618cbd55af5537eda0bf67c40b95ee", func := "couchette/couchettelaw04.LateBetter", spec := "lateBetter", inPlace := ["slices.overlaps[[]int]"], unfollowed := true, recurses := true, plainKeys := false, leaving := true, apart := false, narrowed := true }
def LateBetterUptoSaid : Prop := lateBetterUptoRow.holds Tryz.pinned (OpenSpec.upto lateBetterSpec)

/-- 'couchettelaw04.LateAll', WHERE WHAT IT READS IS OF BULK AT MOST 1048576: true; the input reads as it did. -/
def lateAllUptoRow : OpenClaim := { program := "ytjgpiclllehgmaagreat", sum := "ae7d68f822f4dd59e5ea0310aa1405239c618cbd55af5537eda0bf67c40b95ee", func := "couchette/couchettelaw04.LateAll", spec := "lateAll", inPlace := ["slices.overlaps[[]int]"], unfollowed := true, recurses := true, plainKeys := false, leaving := true, apart := false, narrowed := true }
def LateAllUptoSaid : Prop := lateAllUptoRow.holds Tryz.pinned (OpenSpec.upto lateAllSpec)

end Rows
end Go.Proofs.YtjgpiclllehgmaaGreat
