/-
  No cell of these rows narrows 'for every input' (looked for: loops, veiled, ifaces, maps, wideKeys, modest, calm, conditions, laid).
  DERIVED. THE GIVEN ROWS OF THIS SEAT. 12 by the template 'for every input the law returns true; each argument reads behind the call as it read before'; 0 by the template 'total and deterministic' (their statements: YtbcaoilghmcaeaaTotals.lean).
  GIVEN WITH THE SEED: the statements are not yours to turn. If you find one false, say at which input.
  Laid BY PROGRAM, IN A SANDBOX (cutbox-rows.mjs): the forced cells as the released guide's own fill.sh prints them over the translation 176a055e8b8af0c1… (all of the seat's roots in one cut). By AI agents, Wed Nov 11 2026. No macro, syntax, notation, axiom, sorry.
-/
import Derived.Test.YtbcaoilghmcaeaaChecked
import GoSem.Claim
import GoSem.ClaimJoined
import GoSem.ClaimMapViews
import Derived.JoinedTies
import Derived.KernelRfl
namespace Go.Proofs.Ytbcaoilghmcaeaa
/- THE CELL 'sum', in the pinned program and in every row, IS THE sha256 OF THE DUMP (.gsa) THAT YtbcaoilghmcaeaaProg.lean LOADS. Nothing in Lean hashes anything: it is a label: what it is worth is what the hold of that sum in a sandbox is worth. -/
noncomputable def Try.pinned : Pinned := { name := "ytbcaoilghmcaeaa", sum := "176a055e8b8af0c1b869aa05a7107c3fe2ff7c83b5a005e869af72d0ba0e50ee", checked := Try.checked }
namespace Rows
def none {H : Type} : Left H := { results := [], args := [] }

/-- 'laws.FnBestClock': WHATEVER THE INPUT: true; the input reads as it did. -/
def fnBestClockSpec : ChangeSpec := { name := "fnBestClock", fn := fun _ => fun
  | [d] => { results := [.lit (.bool true)], args := [d] }
  | _ => none }
def fnBestClockRow : OpenClaim := { program := "ytbcaoilghmcaeaa", sum := "176a055e8b8af0c1b869aa05a7107c3fe2ff7c83b5a005e869af72d0ba0e50ee", func := "loop.example/g03313/laws.FnBestClock", spec := "fnBestClock", apart := false }
def FnBestClockSaid : Prop := fnBestClockRow.holds Try.pinned (OpenSpec.ofChange fnBestClockSpec)

/-- ITS FALSE NEIGHBOUR: 'it returns false'. Refute it at one input. -/
def fnBestClockWrong : ChangeSpec := { name := "fnBestClock", fn := fun _ => fun
  | [d] => { results := [.lit (.bool false)], args := [d] }
  | _ => none }
def FnBestClockWrongFalsely : Prop := fnBestClockRow.holds Try.pinned (OpenSpec.ofChange fnBestClockWrong)

/-- 'laws.FnExactBestDivider': WHATEVER THE INPUT: true; the input reads as it did. -/
def fnExactBestDividerSpec : ChangeSpec := { name := "fnExactBestDivider", fn := fun _ => fun
  | [d1, d2, d3, d4] => { results := [.lit (.bool true)], args := [d1, d2, d3, d4] }
  | _ => none }
def fnExactBestDividerRow : OpenClaim := { program := "ytbcaoilghmcaeaa", sum := "176a055e8b8af0c1b869aa05a7107c3fe2ff7c83b5a005e869af72d0ba0e50ee", func := "loop.example/g03313/laws.FnExactBestDivider", spec := "fnExactBestDivider", apart := false }
def FnExactBestDividerSaid : Prop := fnExactBestDividerRow.holds Try.pinned (OpenSpec.ofChange fnExactBestDividerSpec)

/-- ITS FALSE NEIGHBOUR: 'it returns false'. Refute it at one input. -/
def fnExactBestDividerWrong : ChangeSpec := { name := "fnExactBestDivider", fn := fun _ => fun
  | [d1, d2, d3, d4] => { results := [.lit (.bool false)], args := [d1, d2, d3, d4] }
  | _ => none }
def FnExactBestDividerWrongFalsely : Prop := fnExactBestDividerRow.holds Try.pinned (OpenSpec.ofChange fnExactBestDividerWrong)

/-- 'laws.FnExactBeamAt': WHATEVER THE INPUT: true; the input reads as it did. -/
def fnExactBeamAtSpec : ChangeSpec := { name := "fnExactBeamAt", fn := fun _ => fun
  | [d1, d2] => { results := [.lit (.bool true)], args := [d1, d2] }
  | _ => none }
def fnExactBeamAtRow : OpenClaim := { program := "ytbcaoilghmcaeaa", sum := "176a055e8b8af0c1b869aa05a7107c3fe2ff7c83b5a005e869af72d0ba0e50ee", func := "loop.example/g03313/laws.FnExactBeamAt", spec := "fnExactBeamAt", apart := false }
def FnExactBeamAtSaid : Prop := fnExactBeamAtRow.holds Try.pinned (OpenSpec.ofChange fnExactBeamAtSpec)

/-- ITS FALSE NEIGHBOUR: 'it returns false'. Refute it at one input. -/
def fnExactBeamAtWrong : ChangeSpec := { name := "fnExactBeamAt", fn := fun _ => fun
  | [d1, d2] => { results := [.lit (.bool false)], args := [d1, d2] }
  | _ => none }
def FnExactBeamAtWrongFalsely : Prop := fnExactBeamAtRow.holds Try.pinned (OpenSpec.ofChange fnExactBeamAtWrong)

/-- 'laws.FnExactPacketOk': WHATEVER THE INPUT: true; the input reads as it did. -/
def fnExactPacketOkSpec : ChangeSpec := { name := "fnExactPacketOk", fn := fun _ => fun
  | [d] => { results := [.lit (.bool true)], args := [d] }
  | _ => none }
def fnExactPacketOkRow : OpenClaim := { program := "ytbcaoilghmcaeaa", sum := "176a055e8b8af0c1b869aa05a7107c3fe2ff7c83b5a005e869af72d0ba0e50ee", func := "loop.example/g03313/laws.FnExactPacketOk", spec := "fnExactPacketOk", apart := false }
def FnExactPacketOkSaid : Prop := fnExactPacketOkRow.holds Try.pinned (OpenSpec.ofChange fnExactPacketOkSpec)

/-- ITS FALSE NEIGHBOUR: 'it returns false'. Refute it at one input. -/
def fnExactPacketOkWrong : ChangeSpec := { name := "fnExactPacketOk", fn := fun _ => fun
  | [d] => { results := [.lit (.bool false)], args := [d] }
  | _ => none }
def FnExactPacketOkWrongFalsely : Prop := fnExactPacketOkRow.holds Try.pinned (OpenSpec.ofChange fnExactPacketOkWrong)

/-- 'laws.FnPaceReady': WHATEVER THE INPUT: true; the input reads as it did. -/
def fnPaceReadySpec : ChangeSpec := { name := "fnPaceReady", fn := fun _ => fun
  | [d] => { results := [.lit (.bool true)], args := [d] }
  | _ => none }
def fnPaceReadyRow : OpenClaim := { program := "ytbcaoilghmcaeaa", sum := "176a055e8b8af0c1b869aa05a7107c3fe2ff7c83b5a005e869af72d0ba0e50ee", func := "loop.example/g03313/laws.FnPaceReady", spec := "fnPaceReady", apart := false }
def FnPaceReadySaid : Prop := fnPaceReadyRow.holds Try.pinned (OpenSpec.ofChange fnPaceReadySpec)

/-- ITS FALSE NEIGHBOUR: 'it returns false'. Refute it at one input. -/
def fnPaceReadyWrong : ChangeSpec := { name := "fnPaceReady", fn := fun _ => fun
  | [d] => { results := [.lit (.bool false)], args := [d] }
  | _ => none }
def FnPaceReadyWrongFalsely : Prop := fnPaceReadyRow.holds Try.pinned (OpenSpec.ofChange fnPaceReadyWrong)

/-- 'laws.FnPaces': WHATEVER THE INPUT: true; the input reads as it did. -/
def fnPacesSpec : ChangeSpec := { name := "fnPaces", fn := fun _ => fun
  | [d] => { results := [.lit (.bool true)], args := [d] }
  | _ => none }
def fnPacesRow : OpenClaim := { program := "ytbcaoilghmcaeaa", sum := "176a055e8b8af0c1b869aa05a7107c3fe2ff7c83b5a005e869af72d0ba0e50ee", func := "loop.example/g03313/laws.FnPaces", spec := "fnPaces", apart := false }
def FnPacesSaid : Prop := fnPacesRow.holds Try.pinned (OpenSpec.ofChange fnPacesSpec)

/-- ITS FALSE NEIGHBOUR: 'it returns false'. Refute it at one input. -/
def fnPacesWrong : ChangeSpec := { name := "fnPaces", fn := fun _ => fun
  | [d] => { results := [.lit (.bool false)], args := [d] }
  | _ => none }
def FnPacesWrongFalsely : Prop := fnPacesRow.holds Try.pinned (OpenSpec.ofChange fnPacesWrong)

/-- 'laws.FnExactPaceOk': WHATEVER THE INPUT: true; the input reads as it did. -/
def fnExactPaceOkSpec : ChangeSpec := { name := "fnExactPaceOk", fn := fun _ => fun
  | [d] => { results := [.lit (.bool true)], args := [d] }
  | _ => none }
def fnExactPaceOkRow : OpenClaim := { program := "ytbcaoilghmcaeaa", sum := "176a055e8b8af0c1b869aa05a7107c3fe2ff7c83b5a005e869af72d0ba0e50ee", func := "loop.example/g03313/laws.FnExactPaceOk", spec := "fnExactPaceOk", apart := false }
def FnExactPaceOkSaid : Prop := fnExactPaceOkRow.holds Try.pinned (OpenSpec.ofChange fnExactPaceOkSpec)

/-- ITS FALSE NEIGHBOUR: 'it returns false'. Refute it at one input. -/
def fnExactPaceOkWrong : ChangeSpec := { name := "fnExactPaceOk", fn := fun _ => fun
  | [d] => { results := [.lit (.bool false)], args := [d] }
  | _ => none }
def FnExactPaceOkWrongFalsely : Prop := fnExactPaceOkRow.holds Try.pinned (OpenSpec.ofChange fnExactPaceOkWrong)

/-- 'laws.FnExactLongFrame': WHATEVER THE INPUT: true; the input reads as it did. -/
def fnExactLongFrameSpec : ChangeSpec := { name := "fnExactLongFrame", fn := fun _ => fun
  | [d] => { results := [.lit (.bool true)], args := [d] }
  | _ => none }
def fnExactLongFrameRow : OpenClaim := { program := "ytbcaoilghmcaeaa", sum := "176a055e8b8af0c1b869aa05a7107c3fe2ff7c83b5a005e869af72d0ba0e50ee", func := "loop.example/g03313/laws.FnExactLongFrame", spec := "fnExactLongFrame", apart := false }
def FnExactLongFrameSaid : Prop := fnExactLongFrameRow.holds Try.pinned (OpenSpec.ofChange fnExactLongFrameSpec)

/-- ITS FALSE NEIGHBOUR: 'it returns false'. Refute it at one input. -/
def fnExactLongFrameWrong : ChangeSpec := { name := "fnExactLongFrame", fn := fun _ => fun
  | [d] => { results := [.lit (.bool false)], args := [d] }
  | _ => none }
def FnExactLongFrameWrongFalsely : Prop := fnExactLongFrameRow.holds Try.pinned (OpenSpec.ofChange fnExactLongFrameWrong)

/-- 'laws.FnExactShortFrame': WHATEVER THE INPUT: true; the input reads as it did. -/
def fnExactShortFrameSpec : ChangeSpec := { name := "fnExactShortFrame", fn := fun _ => fun
  | [d] => { results := [.lit (.bool true)], args := [d] }
  | _ => none }
def fnExactShortFrameRow : OpenClaim := { program := "ytbcaoilghmcaeaa", sum := "176a055e8b8af0c1b869aa05a7107c3fe2ff7c83b5a005e869af72d0ba0e50ee", func := "loop.example/g03313/laws.FnExactShortFrame", spec := "fnExactShortFrame", apart := false }
def FnExactShortFrameSaid : Prop := fnExactShortFrameRow.holds Try.pinned (OpenSpec.ofChange fnExactShortFrameSpec)

/-- ITS FALSE NEIGHBOUR: 'it returns false'. Refute it at one input. -/
def fnExactShortFrameWrong : ChangeSpec := { name := "fnExactShortFrame", fn := fun _ => fun
  | [d] => { results := [.lit (.bool false)], args := [d] }
  | _ => none }
def FnExactShortFrameWrongFalsely : Prop := fnExactShortFrameRow.holds Try.pinned (OpenSpec.ofChange fnExactShortFrameWrong)

/-- 'laws.FnExactPaceTime': WHATEVER THE INPUT: true; the input reads as it did. -/
def fnExactPaceTimeSpec : ChangeSpec := { name := "fnExactPaceTime", fn := fun _ => fun
  | [d] => { results := [.lit (.bool true)], args := [d] }
  | _ => none }
def fnExactPaceTimeRow : OpenClaim := { program := "ytbcaoilghmcaeaa", sum := "176a055e8b8af0c1b869aa05a7107c3fe2ff7c83b5a005e869af72d0ba0e50ee", func := "loop.example/g03313/laws.FnExactPaceTime", spec := "fnExactPaceTime", apart := false }
def FnExactPaceTimeSaid : Prop := fnExactPaceTimeRow.holds Try.pinned (OpenSpec.ofChange fnExactPaceTimeSpec)

/-- ITS FALSE NEIGHBOUR: 'it returns false'. Refute it at one input. -/
def fnExactPaceTimeWrong : ChangeSpec := { name := "fnExactPaceTime", fn := fun _ => fun
  | [d] => { results := [.lit (.bool false)], args := [d] }
  | _ => none }
def FnExactPaceTimeWrongFalsely : Prop := fnExactPaceTimeRow.holds Try.pinned (OpenSpec.ofChange fnExactPaceTimeWrong)

/-- 'laws.FnExactNextLine': WHATEVER THE INPUT: true; the input reads as it did. -/
def fnExactNextLineSpec : ChangeSpec := { name := "fnExactNextLine", fn := fun _ => fun
  | [d1, d2, d3] => { results := [.lit (.bool true)], args := [d1, d2, d3] }
  | _ => none }
def fnExactNextLineRow : OpenClaim := { program := "ytbcaoilghmcaeaa", sum := "176a055e8b8af0c1b869aa05a7107c3fe2ff7c83b5a005e869af72d0ba0e50ee", func := "loop.example/g03313/laws.FnExactNextLine", spec := "fnExactNextLine", apart := false }
def FnExactNextLineSaid : Prop := fnExactNextLineRow.holds Try.pinned (OpenSpec.ofChange fnExactNextLineSpec)

/-- ITS FALSE NEIGHBOUR: 'it returns false'. Refute it at one input. -/
def fnExactNextLineWrong : ChangeSpec := { name := "fnExactNextLine", fn := fun _ => fun
  | [d1, d2, d3] => { results := [.lit (.bool false)], args := [d1, d2, d3] }
  | _ => none }
def FnExactNextLineWrongFalsely : Prop := fnExactNextLineRow.holds Try.pinned (OpenSpec.ofChange fnExactNextLineWrong)

/-- 'laws.FnExactRunPace': WHATEVER THE INPUT: true; the input reads as it did. -/
def fnExactRunPaceSpec : ChangeSpec := { name := "fnExactRunPace", fn := fun _ => fun
  | [d1, d2, d3] => { results := [.lit (.bool true)], args := [d1, d2, d3] }
  | _ => none }
def fnExactRunPaceRow : OpenClaim := { program := "ytbcaoilghmcaeaa", sum := "176a055e8b8af0c1b869aa05a7107c3fe2ff7c83b5a005e869af72d0ba0e50ee", func := "loop.example/g03313/laws.FnExactRunPace", spec := "fnExactRunPace", apart := false }
def FnExactRunPaceSaid : Prop := fnExactRunPaceRow.holds Try.pinned (OpenSpec.ofChange fnExactRunPaceSpec)

/-- ITS FALSE NEIGHBOUR: 'it returns false'. Refute it at one input. -/
def fnExactRunPaceWrong : ChangeSpec := { name := "fnExactRunPace", fn := fun _ => fun
  | [d1, d2, d3] => { results := [.lit (.bool false)], args := [d1, d2, d3] }
  | _ => none }
def FnExactRunPaceWrongFalsely : Prop := fnExactRunPaceRow.holds Try.pinned (OpenSpec.ofChange fnExactRunPaceWrong)

/- THE SECOND FORM. 'bulk': how many values and letters a reading holds, each counted each time it is reached (what is shared counts as often as it is met; a slice's spare places count too). A statement '..UptoSaid' is the law's where the arguments, and the package variables that the reading takes, are together of bulk at most 1048576: NARROWER than '..Said'. Prove '..Said' where nothing that the law and all that it calls make is longer than what came in: it says more and counts as full. Else prove '..UptoSaid'. A law counts once. -/
mutual
def uptoBulk {H : Type} : DataW H → Nat
  | .lit (.string bytes) => bytes.length + 1
  | .lit _ => 1
  | .nil => 1
  | .ptr d => uptoBulk d + 1
  | .slice elems spare => uptoBulkAll elems + uptoBulkAll spare + 1
  | .agg parts => uptoBulkAll parts + 1
  | .iface _ d => uptoBulk d + 1
  | .map entries => uptoBulkEntries entries + 1
  | .held _ => 1
def uptoBulkAll {H : Type} : List (DataW H) → Nat
  | [] => 0
  | d :: r => uptoBulk d + uptoBulkAll r
def uptoBulkEntries {H : Type} : List (Lit × DataW H) → Nat
  | [] => 0
  | x :: r => uptoBulkEntry x + uptoBulkEntries r
def uptoBulkEntry {H : Type} : Lit × DataW H → Nat
  | (.string bytes, d) => bytes.length + uptoBulk d + 1
  | (_, d) => uptoBulk d + 1
 end
def uptoSmall : (H : Type) → List (DataW H) → Bool := fun _ ds => decide (uptoBulkAll ds ≤ 1048576)
def OpenSpec.upto (s : _root_.Go.ChangeSpec) : _root_.Go.OpenSpec := { _root_.Go.OpenSpec.ofChange s with cond := some uptoSmall }

/-- 'laws.FnBestClock', WHERE WHAT IT READS IS OF BULK AT MOST 1048576: true; the input reads as it did. -/
def fnBestClockUptoRow : OpenClaim := { program := "ytbcaoilghmcaeaa", sum := "176a055e8b8af0c1b869aa05a7107c3fe2ff7c83b5a005e869af72d0ba0e50ee", func := "loop.example/g03313/laws.FnBestClock", spec := "fnBestClock", apart := false, narrowed := true }
def FnBestClockUptoSaid : Prop := fnBestClockUptoRow.holds Try.pinned (OpenSpec.upto fnBestClockSpec)

/-- 'laws.FnExactBestDivider', WHERE WHAT IT READS IS OF BULK AT MOST 1048576: true; the input reads as it did. -/
def fnExactBestDividerUptoRow : OpenClaim := { program := "ytbcaoilghmcaeaa", sum := "176a055e8b8af0c1b869aa05a7107c3fe2ff7c83b5a005e869af72d0ba0e50ee", func := "loop.example/g03313/laws.FnExactBestDivider", spec := "fnExactBestDivider", apart := false, narrowed := true }
def FnExactBestDividerUptoSaid : Prop := fnExactBestDividerUptoRow.holds Try.pinned (OpenSpec.upto fnExactBestDividerSpec)

/-- 'laws.FnExactBeamAt', WHERE WHAT IT READS IS OF BULK AT MOST 1048576: true; the input reads as it did. -/
def fnExactBeamAtUptoRow : OpenClaim := { program := "ytbcaoilghmcaeaa", sum := "176a055e8b8af0c1b869aa05a7107c3fe2ff7c83b5a005e869af72d0ba0e50ee", func := "loop.example/g03313/laws.FnExactBeamAt", spec := "fnExactBeamAt", apart := false, narrowed := true }
def FnExactBeamAtUptoSaid : Prop := fnExactBeamAtUptoRow.holds Try.pinned (OpenSpec.upto fnExactBeamAtSpec)

/-- 'laws.FnExactPacketOk', WHERE WHAT IT READS IS OF BULK AT MOST 1048576: true; the input reads as it did. -/
def fnExactPacketOkUptoRow : OpenClaim := { program := "ytbcaoilghmcaeaa", sum := "176a055e8b8af0c1b869aa05a7107c3fe2ff7c83b5a005e869af72d0ba0e50ee", func := "loop.example/g03313/laws.FnExactPacketOk", spec := "fnExactPacketOk", apart := false, narrowed := true }
def FnExactPacketOkUptoSaid : Prop := fnExactPacketOkUptoRow.holds Try.pinned (OpenSpec.upto fnExactPacketOkSpec)

/-- 'laws.FnPaceReady', WHERE WHAT IT READS IS OF BULK AT MOST 1048576: true; the input reads as it did. -/
def fnPaceReadyUptoRow : OpenClaim := { program := "ytbcaoilghmcaeaa", sum := "176a055e8b8af0c1b869aa05a7107c3fe2ff7c83b5a005e869af72d0ba0e50ee", func := "loop.example/g03313/laws.FnPaceReady", spec := "fnPaceReady", apart := false, narrowed := true }
def FnPaceReadyUptoSaid : Prop := fnPaceReadyUptoRow.holds Try.pinned (OpenSpec.upto fnPaceReadySpec)

/-- 'laws.FnPaces', WHERE WHAT IT READS IS OF BULK AT MOST 1048576: true; the input reads as it did. -/
def fnPacesUptoRow : OpenClaim := { program := "ytbcaoilghmcaeaa", sum := "176a055e8b8af0c1b869aa05a7107c3fe2ff7c83b5a005e869af72d0ba0e50ee", func := "loop.example/g03313/laws.FnPaces", spec := "fnPaces", apart := false, narrowed := true }
def FnPacesUptoSaid : Prop := fnPacesUptoRow.holds Try.pinned (OpenSpec.upto fnPacesSpec)

/-- 'laws.FnExactPaceOk', WHERE WHAT IT READS IS OF BULK AT MOST 1048576: true; the input reads as it did. -/
def fnExactPaceOkUptoRow : OpenClaim := { program := "ytbcaoilghmcaeaa", sum := "176a055e8b8af0c1b869aa05a7107c3fe2ff7c83b5a005e869af72d0ba0e50ee", func := "loop.example/g03313/laws.FnExactPaceOk", spec := "fnExactPaceOk", apart := false, narrowed := true }
def FnExactPaceOkUptoSaid : Prop := fnExactPaceOkUptoRow.holds Try.pinned (OpenSpec.upto fnExactPaceOkSpec)

/-- 'laws.FnExactLongFrame', WHERE WHAT IT READS IS OF BULK AT MOST 1048576: true; the input reads as it did. -/
def fnExactLongFrameUptoRow : OpenClaim := { program := "ytbcaoilghmcaeaa", sum := "176a055e8b8af0c1b869aa05a7107c3fe2ff7c83b5a005e869af72d0ba0e50ee", func := "loop.example/g03313/laws.FnExactLongFrame", spec := "fnExactLongFrame", apart := false, narrowed := true }
def FnExactLongFrameUptoSaid : Prop := fnExactLongFrameUptoRow.holds Try.pinned (OpenSpec.upto fnExactLongFrameSpec)

/-- 'laws.FnExactShortFrame', WHERE WHAT IT READS IS OF BULK AT MOST 1048576: true; the input reads as it did. -/
def fnExactShortFrameUptoRow : OpenClaim := { program := "ytbcaoilghmcaeaa", sum := "176a055e8b8af0c1b869aa05a7107c3fe2ff7c83b5a005e869af72d0ba0e50ee", func := "loop.example/g03313/laws.FnExactShortFrame", spec := "fnExactShortFrame", apart := false, narrowed := true }
def FnExactShortFrameUptoSaid : Prop := fnExactShortFrameUptoRow.holds Try.pinned (OpenSpec.upto fnExactShortFrameSpec)

/-- 'laws.FnExactPaceTime', WHERE WHAT IT READS IS OF BULK AT MOST 1048576: true; the input reads as it did. -/
def fnExactPaceTimeUptoRow : OpenClaim := { program := "ytbcaoilghmcaeaa", sum := "176a055e8b8af0c1b869aa05a7107c3fe2ff7c83b5a005e869af72d0ba0e50ee", func := "loop.example/g03313/laws.FnExactPaceTime", spec := "fnExactPaceTime", apart := false, narrowed := true }
def FnExactPaceTimeUptoSaid : Prop := fnExactPaceTimeUptoRow.holds Try.pinned (OpenSpec.upto fnExactPaceTimeSpec)

/-- 'laws.FnExactNextLine', WHERE WHAT IT READS IS OF BULK AT MOST 1048576: true; the input reads as it did. -/
def fnExactNextLineUptoRow : OpenClaim := { program := "ytbcaoilghmcaeaa", sum := "176a055e8b8af0c1b869aa05a7107c3fe2ff7c83b5a005e869af72d0ba0e50ee", func := "loop.example/g03313/laws.FnExactNextLine", spec := "fnExactNextLine", apart := false, narrowed := true }
def FnExactNextLineUptoSaid : Prop := fnExactNextLineUptoRow.holds Try.pinned (OpenSpec.upto fnExactNextLineSpec)

/-- 'laws.FnExactRunPace', WHERE WHAT IT READS IS OF BULK AT MOST 1048576: true; the input reads as it did. -/
def fnExactRunPaceUptoRow : OpenClaim := { program := "ytbcaoilghmcaeaa", sum := "176a055e8b8af0c1b869aa05a7107c3fe2ff7c83b5a005e869af72d0ba0e50ee", func := "loop.example/g03313/laws.FnExactRunPace", spec := "fnExactRunPace", apart := false, narrowed := true }
def FnExactRunPaceUptoSaid : Prop := fnExactRunPaceUptoRow.holds Try.pinned (OpenSpec.upto fnExactRunPaceSpec)

end Rows
end Go.Proofs.Ytbcaoilghmcaeaa
