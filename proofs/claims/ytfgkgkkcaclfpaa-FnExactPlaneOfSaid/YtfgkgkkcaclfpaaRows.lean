/-
  No cell of these rows narrows 'for every input' (looked for: loops, veiled, ifaces, maps, wideKeys, modest, calm, conditions, laid).
  DERIVED. THE GIVEN ROWS OF THIS SEAT. 12 by the template 'for every input the law returns true; each argument reads behind the call as it read before'; 0 by the template 'total and deterministic' (their statements: YtfgkgkkcaclfpaaTotals.lean).
  GIVEN WITH THE SEED: the statements are not yours to turn. If you find one false, say at which input.
  Laid BY PROGRAM, IN A SANDBOX (cutbox-rows.mjs): the forced cells as the released guide's own fill.sh prints them over the translation 480c15a4cada3947… (all of the seat's roots in one cut). By AI agents, Wed Nov 11 2026. No macro, syntax, notation, axiom, sorry.
-/
import Derived.Test.YtfgkgkkcaclfpaaChecked
import GoSem.Claim
import GoSem.ClaimJoined
import GoSem.ClaimMapViews
import Derived.JoinedTies
import Derived.KernelRfl
namespace Go.Proofs.Ytfgkgkkcaclfpaa
/- THE CELL 'sum', in the pinned program and in every row, IS THE sha256 OF THE DUMP (.gsa) THAT YtfgkgkkcaclfpaaProg.lean LOADS. Nothing in Lean hashes anything: it is a label: what it is worth is what the hold of that sum in a sandbox is worth. -/
noncomputable def Try.pinned : Pinned := { name := "ytfgkgkkcaclfpaa", sum := "480c15a4cada3947830e8fbe9cc7b691189b49f08a74fc2fee072d6a46142fd4", checked := Try.checked }
namespace Rows
def none {H : Type} : Left H := { results := [], args := [] }

/-- 'laws.FnChosen': WHATEVER THE INPUT: true; the input reads as it did. -/
def fnChosenSpec : ChangeSpec := { name := "fnChosen", fn := fun _ => fun
  | [d] => { results := [.lit (.bool true)], args := [d] }
  | _ => none }
def fnChosenRow : OpenClaim := { program := "ytfgkgkkcaclfpaa", sum := "480c15a4cada3947830e8fbe9cc7b691189b49f08a74fc2fee072d6a46142fd4", func := "loop.example/g03313/laws.FnChosen", spec := "fnChosen", apart := false }
def FnChosenSaid : Prop := fnChosenRow.holds Try.pinned (OpenSpec.ofChange fnChosenSpec)

/-- ITS FALSE NEIGHBOUR: 'it returns false'. Refute it at one input. -/
def fnChosenWrong : ChangeSpec := { name := "fnChosen", fn := fun _ => fun
  | [d] => { results := [.lit (.bool false)], args := [d] }
  | _ => none }
def FnChosenWrongFalsely : Prop := fnChosenRow.holds Try.pinned (OpenSpec.ofChange fnChosenWrong)

/-- 'laws.FnDescriptors': WHATEVER THE INPUT: true; the input reads as it did. -/
def fnDescriptorsSpec : ChangeSpec := { name := "fnDescriptors", fn := fun _ => fun
  | [d] => { results := [.lit (.bool true)], args := [d] }
  | _ => none }
def fnDescriptorsRow : OpenClaim := { program := "ytfgkgkkcaclfpaa", sum := "480c15a4cada3947830e8fbe9cc7b691189b49f08a74fc2fee072d6a46142fd4", func := "loop.example/g03313/laws.FnDescriptors", spec := "fnDescriptors", apart := false }
def FnDescriptorsSaid : Prop := fnDescriptorsRow.holds Try.pinned (OpenSpec.ofChange fnDescriptorsSpec)

/-- ITS FALSE NEIGHBOUR: 'it returns false'. Refute it at one input. -/
def fnDescriptorsWrong : ChangeSpec := { name := "fnDescriptors", fn := fun _ => fun
  | [d] => { results := [.lit (.bool false)], args := [d] }
  | _ => none }
def FnDescriptorsWrongFalsely : Prop := fnDescriptorsRow.holds Try.pinned (OpenSpec.ofChange fnDescriptorsWrong)

/-- 'laws.FnExactMonitorOk': WHATEVER THE INPUT: true; the input reads as it did. -/
def fnExactMonitorOkSpec : ChangeSpec := { name := "fnExactMonitorOk", fn := fun _ => fun
  | [d] => { results := [.lit (.bool true)], args := [d] }
  | _ => none }
def fnExactMonitorOkRow : OpenClaim := { program := "ytfgkgkkcaclfpaa", sum := "480c15a4cada3947830e8fbe9cc7b691189b49f08a74fc2fee072d6a46142fd4", func := "loop.example/g03313/laws.FnExactMonitorOk", spec := "fnExactMonitorOk", apart := false }
def FnExactMonitorOkSaid : Prop := fnExactMonitorOkRow.holds Try.pinned (OpenSpec.ofChange fnExactMonitorOkSpec)

/-- ITS FALSE NEIGHBOUR: 'it returns false'. Refute it at one input. -/
def fnExactMonitorOkWrong : ChangeSpec := { name := "fnExactMonitorOk", fn := fun _ => fun
  | [d] => { results := [.lit (.bool false)], args := [d] }
  | _ => none }
def FnExactMonitorOkWrongFalsely : Prop := fnExactMonitorOkRow.holds Try.pinned (OpenSpec.ofChange fnExactMonitorOkWrong)

/-- 'laws.FnExactFitsCursor': WHATEVER THE INPUT: true; the input reads as it did. -/
def fnExactFitsCursorSpec : ChangeSpec := { name := "fnExactFitsCursor", fn := fun _ => fun
  | [d] => { results := [.lit (.bool true)], args := [d] }
  | _ => none }
def fnExactFitsCursorRow : OpenClaim := { program := "ytfgkgkkcaclfpaa", sum := "480c15a4cada3947830e8fbe9cc7b691189b49f08a74fc2fee072d6a46142fd4", func := "loop.example/g03313/laws.FnExactFitsCursor", spec := "fnExactFitsCursor", apart := false }
def FnExactFitsCursorSaid : Prop := fnExactFitsCursorRow.holds Try.pinned (OpenSpec.ofChange fnExactFitsCursorSpec)

/-- ITS FALSE NEIGHBOUR: 'it returns false'. Refute it at one input. -/
def fnExactFitsCursorWrong : ChangeSpec := { name := "fnExactFitsCursor", fn := fun _ => fun
  | [d] => { results := [.lit (.bool false)], args := [d] }
  | _ => none }
def FnExactFitsCursorWrongFalsely : Prop := fnExactFitsCursorRow.holds Try.pinned (OpenSpec.ofChange fnExactFitsCursorWrong)

/-- 'laws.FnExactChooseMode': WHATEVER THE INPUT: true; the input reads as it did. -/
def fnExactChooseModeSpec : ChangeSpec := { name := "fnExactChooseMode", fn := fun _ => fun
  | [d1, d2, d3] => { results := [.lit (.bool true)], args := [d1, d2, d3] }
  | _ => none }
def fnExactChooseModeRow : OpenClaim := { program := "ytfgkgkkcaclfpaa", sum := "480c15a4cada3947830e8fbe9cc7b691189b49f08a74fc2fee072d6a46142fd4", func := "loop.example/g03313/laws.FnExactChooseMode", spec := "fnExactChooseMode", apart := false }
def FnExactChooseModeSaid : Prop := fnExactChooseModeRow.holds Try.pinned (OpenSpec.ofChange fnExactChooseModeSpec)

/-- ITS FALSE NEIGHBOUR: 'it returns false'. Refute it at one input. -/
def fnExactChooseModeWrong : ChangeSpec := { name := "fnExactChooseMode", fn := fun _ => fun
  | [d1, d2, d3] => { results := [.lit (.bool false)], args := [d1, d2, d3] }
  | _ => none }
def FnExactChooseModeWrongFalsely : Prop := fnExactChooseModeRow.holds Try.pinned (OpenSpec.ofChange fnExactChooseModeWrong)

/-- 'laws.FnExactChangeOk': WHATEVER THE INPUT: true; the input reads as it did. -/
def fnExactChangeOkSpec : ChangeSpec := { name := "fnExactChangeOk", fn := fun _ => fun
  | [d] => { results := [.lit (.bool true)], args := [d] }
  | _ => none }
def fnExactChangeOkRow : OpenClaim := { program := "ytfgkgkkcaclfpaa", sum := "480c15a4cada3947830e8fbe9cc7b691189b49f08a74fc2fee072d6a46142fd4", func := "loop.example/g03313/laws.FnExactChangeOk", spec := "fnExactChangeOk", apart := false }
def FnExactChangeOkSaid : Prop := fnExactChangeOkRow.holds Try.pinned (OpenSpec.ofChange fnExactChangeOkSpec)

/-- ITS FALSE NEIGHBOUR: 'it returns false'. Refute it at one input. -/
def fnExactChangeOkWrong : ChangeSpec := { name := "fnExactChangeOk", fn := fun _ => fun
  | [d] => { results := [.lit (.bool false)], args := [d] }
  | _ => none }
def FnExactChangeOkWrongFalsely : Prop := fnExactChangeOkRow.holds Try.pinned (OpenSpec.ofChange fnExactChangeOkWrong)

/-- 'laws.FnExactBuildDescriptor': WHATEVER THE INPUT: true; the input reads as it did. -/
def fnExactBuildDescriptorSpec : ChangeSpec := { name := "fnExactBuildDescriptor", fn := fun _ => fun
  | [d] => { results := [.lit (.bool true)], args := [d] }
  | _ => none }
def fnExactBuildDescriptorRow : OpenClaim := { program := "ytfgkgkkcaclfpaa", sum := "480c15a4cada3947830e8fbe9cc7b691189b49f08a74fc2fee072d6a46142fd4", func := "loop.example/g03313/laws.FnExactBuildDescriptor", spec := "fnExactBuildDescriptor", apart := false }
def FnExactBuildDescriptorSaid : Prop := fnExactBuildDescriptorRow.holds Try.pinned (OpenSpec.ofChange fnExactBuildDescriptorSpec)

/-- ITS FALSE NEIGHBOUR: 'it returns false'. Refute it at one input. -/
def fnExactBuildDescriptorWrong : ChangeSpec := { name := "fnExactBuildDescriptor", fn := fun _ => fun
  | [d] => { results := [.lit (.bool false)], args := [d] }
  | _ => none }
def FnExactBuildDescriptorWrongFalsely : Prop := fnExactBuildDescriptorRow.holds Try.pinned (OpenSpec.ofChange fnExactBuildDescriptorWrong)

/-- 'laws.FnExactSameCrtc': WHATEVER THE INPUT: true; the input reads as it did. -/
def fnExactSameCrtcSpec : ChangeSpec := { name := "fnExactSameCrtc", fn := fun _ => fun
  | [d1, d2] => { results := [.lit (.bool true)], args := [d1, d2] }
  | _ => none }
def fnExactSameCrtcRow : OpenClaim := { program := "ytfgkgkkcaclfpaa", sum := "480c15a4cada3947830e8fbe9cc7b691189b49f08a74fc2fee072d6a46142fd4", func := "loop.example/g03313/laws.FnExactSameCrtc", spec := "fnExactSameCrtc", unfollowed := true, recurses := true, apart := false }
def FnExactSameCrtcSaid : Prop := fnExactSameCrtcRow.holds Try.pinned (OpenSpec.ofChange fnExactSameCrtcSpec)

/-- ITS FALSE NEIGHBOUR: 'it returns false'. Refute it at one input. -/
def fnExactSameCrtcWrong : ChangeSpec := { name := "fnExactSameCrtc", fn := fun _ => fun
  | [d1, d2] => { results := [.lit (.bool false)], args := [d1, d2] }
  | _ => none }
def FnExactSameCrtcWrongFalsely : Prop := fnExactSameCrtcRow.holds Try.pinned (OpenSpec.ofChange fnExactSameCrtcWrong)

/-- 'laws.FnExactPlaneOf': WHATEVER THE INPUT: true; the input reads as it did. -/
def fnExactPlaneOfSpec : ChangeSpec := { name := "fnExactPlaneOf", fn := fun _ => fun
  | [d1, d2, d3, d4] => { results := [.lit (.bool true)], args := [d1, d2, d3, d4] }
  | _ => none }
def fnExactPlaneOfRow : OpenClaim := { program := "ytfgkgkkcaclfpaa", sum := "480c15a4cada3947830e8fbe9cc7b691189b49f08a74fc2fee072d6a46142fd4", func := "loop.example/g03313/laws.FnExactPlaneOf", spec := "fnExactPlaneOf", apart := false }
def FnExactPlaneOfSaid : Prop := fnExactPlaneOfRow.holds Try.pinned (OpenSpec.ofChange fnExactPlaneOfSpec)

/-- ITS FALSE NEIGHBOUR: 'it returns false'. Refute it at one input. -/
def fnExactPlaneOfWrong : ChangeSpec := { name := "fnExactPlaneOf", fn := fun _ => fun
  | [d1, d2, d3, d4] => { results := [.lit (.bool false)], args := [d1, d2, d3, d4] }
  | _ => none }
def FnExactPlaneOfWrongFalsely : Prop := fnExactPlaneOfRow.holds Try.pinned (OpenSpec.ofChange fnExactPlaneOfWrong)

/-- 'laws.FnExactParseDescriptor': WHATEVER THE INPUT: true; the input reads as it did. -/
def fnExactParseDescriptorSpec : ChangeSpec := { name := "fnExactParseDescriptor", fn := fun _ => fun
  | [d] => { results := [.lit (.bool true)], args := [d] }
  | _ => none }
def fnExactParseDescriptorRow : OpenClaim := { program := "ytfgkgkkcaclfpaa", sum := "480c15a4cada3947830e8fbe9cc7b691189b49f08a74fc2fee072d6a46142fd4", func := "loop.example/g03313/laws.FnExactParseDescriptor", spec := "fnExactParseDescriptor", apart := false }
def FnExactParseDescriptorSaid : Prop := fnExactParseDescriptorRow.holds Try.pinned (OpenSpec.ofChange fnExactParseDescriptorSpec)

/-- ITS FALSE NEIGHBOUR: 'it returns false'. Refute it at one input. -/
def fnExactParseDescriptorWrong : ChangeSpec := { name := "fnExactParseDescriptor", fn := fun _ => fun
  | [d] => { results := [.lit (.bool false)], args := [d] }
  | _ => none }
def FnExactParseDescriptorWrongFalsely : Prop := fnExactParseDescriptorRow.holds Try.pinned (OpenSpec.ofChange fnExactParseDescriptorWrong)

/-- 'laws.FnExactTopVisible': WHATEVER THE INPUT: true; the input reads as it did. -/
def fnExactTopVisibleSpec : ChangeSpec := { name := "fnExactTopVisible", fn := fun _ => fun
  | [d1, d2] => { results := [.lit (.bool true)], args := [d1, d2] }
  | _ => none }
def fnExactTopVisibleRow : OpenClaim := { program := "ytfgkgkkcaclfpaa", sum := "480c15a4cada3947830e8fbe9cc7b691189b49f08a74fc2fee072d6a46142fd4", func := "loop.example/g03313/laws.FnExactTopVisible", spec := "fnExactTopVisible", apart := false }
def FnExactTopVisibleSaid : Prop := fnExactTopVisibleRow.holds Try.pinned (OpenSpec.ofChange fnExactTopVisibleSpec)

/-- ITS FALSE NEIGHBOUR: 'it returns false'. Refute it at one input. -/
def fnExactTopVisibleWrong : ChangeSpec := { name := "fnExactTopVisible", fn := fun _ => fun
  | [d1, d2] => { results := [.lit (.bool false)], args := [d1, d2] }
  | _ => none }
def FnExactTopVisibleWrongFalsely : Prop := fnExactTopVisibleRow.holds Try.pinned (OpenSpec.ofChange fnExactTopVisibleWrong)

/-- 'laws.FnExactChangesFor': WHATEVER THE INPUT: true; the input reads as it did. -/
def fnExactChangesForSpec : ChangeSpec := { name := "fnExactChangesFor", fn := fun _ => fun
  | [d1, d2, d3] => { results := [.lit (.bool true)], args := [d1, d2, d3] }
  | _ => none }
def fnExactChangesForRow : OpenClaim := { program := "ytfgkgkkcaclfpaa", sum := "480c15a4cada3947830e8fbe9cc7b691189b49f08a74fc2fee072d6a46142fd4", func := "loop.example/g03313/laws.FnExactChangesFor", spec := "fnExactChangesFor", apart := false }
def FnExactChangesForSaid : Prop := fnExactChangesForRow.holds Try.pinned (OpenSpec.ofChange fnExactChangesForSpec)

/-- ITS FALSE NEIGHBOUR: 'it returns false'. Refute it at one input. -/
def fnExactChangesForWrong : ChangeSpec := { name := "fnExactChangesFor", fn := fun _ => fun
  | [d1, d2, d3] => { results := [.lit (.bool false)], args := [d1, d2, d3] }
  | _ => none }
def FnExactChangesForWrongFalsely : Prop := fnExactChangesForRow.holds Try.pinned (OpenSpec.ofChange fnExactChangesForWrong)

/- THE SECOND FORM. 'bulk': how many values and letters a reading holds, each counted each time it is reached (what is shared counts as often as it is met; a slice's spare places count too). A statement '..UptoSaid' is the law's where the arguments, and the package variables that the reading takes, are together of bulk at most 1048576: NARROWER than '..Said'. Prove '..Said' where nothing that the law and all that it calls make is longer than what came in: it says more and counts as full. Else prove '..UptoSaid'. A law counts once. -/
mutual
def uptoBulk {H : Type} : DataW H → Nat
  | .lit (.string bytes) => bytes.length + 1
  | .lit _ => 1
  | .nil => 1
  | .ptr d => uptoBulk d + 1
  | .slice elems spare => uptoBulkAll elems + uptoBulkAll spare + 1
  | .agg parts => uptoBulkAll parts + 1
  | .iface _ d => uptoBulk d + 1
  | .map entries => uptoBulkEntries entries + 1
  | .held _ => 1
def uptoBulkAll {H : Type} : List (DataW H) → Nat
  | [] => 0
  | d :: r => uptoBulk d + uptoBulkAll r
def uptoBulkEntries {H : Type} : List (Lit × DataW H) → Nat
  | [] => 0
  | x :: r => uptoBulkEntry x + uptoBulkEntries r
def uptoBulkEntry {H : Type} : Lit × DataW H → Nat
  | (.string bytes, d) => bytes.length + uptoBulk d + 1
  | (_, d) => uptoBulk d + 1
 end
def uptoSmall : (H : Type) → List (DataW H) → Bool := fun _ ds => decide (uptoBulkAll ds ≤ 1048576)
def OpenSpec.upto (s : _root_.Go.ChangeSpec) : _root_.Go.OpenSpec := { _root_.Go.OpenSpec.ofChange s with cond := some uptoSmall }

/-- 'laws.FnChosen', WHERE WHAT IT READS IS OF BULK AT MOST 1048576: true; the input reads as it did. -/
def fnChosenUptoRow : OpenClaim := { program := "ytfgkgkkcaclfpaa", sum := "480c15a4cada3947830e8fbe9cc7b691189b49f08a74fc2fee072d6a46142fd4", func := "loop.example/g03313/laws.FnChosen", spec := "fnChosen", apart := false, narrowed := true }
def FnChosenUptoSaid : Prop := fnChosenUptoRow.holds Try.pinned (OpenSpec.upto fnChosenSpec)

/-- 'laws.FnDescriptors', WHERE WHAT IT READS IS OF BULK AT MOST 1048576: true; the input reads as it did. -/
def fnDescriptorsUptoRow : OpenClaim := { program := "ytfgkgkkcaclfpaa", sum := "480c15a4cada3947830e8fbe9cc7b691189b49f08a74fc2fee072d6a46142fd4", func := "loop.example/g03313/laws.FnDescriptors", spec := "fnDescriptors", apart := false, narrowed := true }
def FnDescriptorsUptoSaid : Prop := fnDescriptorsUptoRow.holds Try.pinned (OpenSpec.upto fnDescriptorsSpec)

/-- 'laws.FnExactMonitorOk', WHERE WHAT IT READS IS OF BULK AT MOST 1048576: true; the input reads as it did. -/
def fnExactMonitorOkUptoRow : OpenClaim := { program := "ytfgkgkkcaclfpaa", sum := "480c15a4cada3947830e8fbe9cc7b691189b49f08a74fc2fee072d6a46142fd4", func := "loop.example/g03313/laws.FnExactMonitorOk", spec := "fnExactMonitorOk", apart := false, narrowed := true }
def FnExactMonitorOkUptoSaid : Prop := fnExactMonitorOkUptoRow.holds Try.pinned (OpenSpec.upto fnExactMonitorOkSpec)

/-- 'laws.FnExactFitsCursor', WHERE WHAT IT READS IS OF BULK AT MOST 1048576: true; the input reads as it did. -/
def fnExactFitsCursorUptoRow : OpenClaim := { program := "ytfgkgkkcaclfpaa", sum := "480c15a4cada3947830e8fbe9cc7b691189b49f08a74fc2fee072d6a46142fd4", func := "loop.example/g03313/laws.FnExactFitsCursor", spec := "fnExactFitsCursor", apart := false, narrowed := true }
def FnExactFitsCursorUptoSaid : Prop := fnExactFitsCursorUptoRow.holds Try.pinned (OpenSpec.upto fnExactFitsCursorSpec)

/-- 'laws.FnExactChooseMode', WHERE WHAT IT READS IS OF BULK AT MOST 1048576: true; the input reads as it did. -/
def fnExactChooseModeUptoRow : OpenClaim := { program := "ytfgkgkkcaclfpaa", sum := "480c15a4cada3947830e8fbe9cc7b691189b49f08a74fc2fee072d6a46142fd4", func := "loop.example/g03313/laws.FnExactChooseMode", spec := "fnExactChooseMode", apart := false, narrowed := true }
def FnExactChooseModeUptoSaid : Prop := fnExactChooseModeUptoRow.holds Try.pinned (OpenSpec.upto fnExactChooseModeSpec)

/-- 'laws.FnExactChangeOk', WHERE WHAT IT READS IS OF BULK AT MOST 1048576: true; the input reads as it did. -/
def fnExactChangeOkUptoRow : OpenClaim := { program := "ytfgkgkkcaclfpaa", sum := "480c15a4cada3947830e8fbe9cc7b691189b49f08a74fc2fee072d6a46142fd4", func := "loop.example/g03313/laws.FnExactChangeOk", spec := "fnExactChangeOk", apart := false, narrowed := true }
def FnExactChangeOkUptoSaid : Prop := fnExactChangeOkUptoRow.holds Try.pinned (OpenSpec.upto fnExactChangeOkSpec)

/-- 'laws.FnExactBuildDescriptor', WHERE WHAT IT READS IS OF BULK AT MOST 1048576: true; the input reads as it did. -/
def fnExactBuildDescriptorUptoRow : OpenClaim := { program := "ytfgkgkkcaclfpaa", sum := "480c15a4cada3947830e8fbe9cc7b691189b49f08a74fc2fee072d6a46142fd4", func := "loop.example/g03313/laws.FnExactBuildDescriptor", spec := "fnExactBuildDescriptor", apart := false, narrowed := true }
def FnExactBuildDescriptorUptoSaid : Prop := fnExactBuildDescriptorUptoRow.holds Try.pinned (OpenSpec.upto fnExactBuildDescriptorSpec)

/-- 'laws.FnExactSameCrtc', WHERE WHAT IT READS IS OF BULK AT MOST 1048576: true; the input reads as it did. -/
def fnExactSameCrtcUptoRow : OpenClaim := { program := "ytfgkgkkcaclfpaa", sum := "480c15a4cada3947830e8fbe9cc7b691189b49f08a74fc2fee072d6a46142fd4", func := "loop.example/g03313/laws.FnExactSameCrtc", spec := "fnExactSameCrtc", unfollowed := true, recurses := true, apart := false, narrowed := true }
def FnExactSameCrtcUptoSaid : Prop := fnExactSameCrtcUptoRow.holds Try.pinned (OpenSpec.upto fnExactSameCrtcSpec)

/-- 'laws.FnExactPlaneOf', WHERE WHAT IT READS IS OF BULK AT MOST 1048576: true; the input reads as it did. -/
def fnExactPlaneOfUptoRow : OpenClaim := { program := "ytfgkgkkcaclfpaa", sum := "480c15a4cada3947830e8fbe9cc7b691189b49f08a74fc2fee072d6a46142fd4", func := "loop.example/g03313/laws.FnExactPlaneOf", spec := "fnExactPlaneOf", apart := false, narrowed := true }
def FnExactPlaneOfUptoSaid : Prop := fnExactPlaneOfUptoRow.holds Try.pinned (OpenSpec.upto fnExactPlaneOfSpec)

/-- 'laws.FnExactParseDescriptor', WHERE WHAT IT READS IS OF BULK AT MOST 1048576: true; the input reads as it did. -/
def fnExactParseDescriptorUptoRow : OpenClaim := { program := "ytfgkgkkcaclfpaa", sum := "480c15a4cada3947830e8fbe9cc7b691189b49f08a74fc2fee072d6a46142fd4", func := "loop.example/g03313/laws.FnExactParseDescriptor", spec := "fnExactParseDescriptor", apart := false, narrowed := true }
def FnExactParseDescriptorUptoSaid : Prop := fnExactParseDescriptorUptoRow.holds Try.pinned (OpenSpec.upto fnExactParseDescriptorSpec)

/-- 'laws.FnExactTopVisible', WHERE WHAT IT READS IS OF BULK AT MOST 1048576: true; the input reads as it did. -/
def fnExactTopVisibleUptoRow : OpenClaim := { program := "ytfgkgkkcaclfpaa", sum := "480c15a4cada3947830e8fbe9cc7b691189b49f08a74fc2fee072d6a46142fd4", func := "loop.example/g03313/laws.FnExactTopVisible", spec := "fnExactTopVisible", apart := false, narrowed := true }
def FnExactTopVisibleUptoSaid : Prop := fnExactTopVisibleUptoRow.holds Try.pinned (OpenSpec.upto fnExactTopVisibleSpec)

/-- 'laws.FnExactChangesFor', WHERE WHAT IT READS IS OF BULK AT MOST 1048576: true; the input reads as it did. -/
def fnExactChangesForUptoRow : OpenClaim := { program := "ytfgkgkkcaclfpaa", sum := "480c15a4cada3947830e8fbe9cc7b691189b49f08a74fc2fee072d6a46142fd4", func := "loop.example/g03313/laws.FnExactChangesFor", spec := "fnExactChangesFor", apart := false, narrowed := true }
def FnExactChangesForUptoSaid : Prop := fnExactChangesForUptoRow.holds Try.pinned (OpenSpec.upto fnExactChangesForSpec)

end Rows
end Go.Proofs.Ytfgkgkkcaclfpaa
