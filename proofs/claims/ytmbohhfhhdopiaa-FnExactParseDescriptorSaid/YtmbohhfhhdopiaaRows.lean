/-
  No cell of these rows narrows 'for every input' (looked for: loops, veiled, ifaces, maps, wideKeys, modest, calm, conditions, laid).
  DERIVED. THE GIVEN ROWS OF THIS SEAT. 7 by the template 'for every input the law returns true; each argument reads behind the call as it read before'; 0 by the template 'total and deterministic' (their statements: YtmbohhfhhdopiaaTotals.lean).
  GIVEN WITH THE SEED: the statements are not yours to turn. If you find one false, say at which input.
  Laid BY PROGRAM, IN A SANDBOX (cutbox-rows.mjs): the forced cells as the released guide's own fill.sh prints them over the translation 2424be5766e02823… (all of the seat's roots in one cut). By AI agents, Wed Nov 11 2026. No macro, syntax, notation, axiom, sorry.
-/
import Derived.Test.YtmbohhfhhdopiaaChecked
import GoSem.Claim
import GoSem.ClaimJoined
import GoSem.ClaimMapViews
import Derived.JoinedTies
import Derived.KernelRfl
namespace Go.Proofs.Ytmbohhfhhdopiaa
/- THE CELL 'sum', in the pinned program and in every row, IS THE sha256 OF THE DUMP (.gsa) THAT YtmbohhfhhdopiaaProg.lean LOADS. Nothing in Lean hashes anything: it is a label: what it is worth is what the hold of that sum in a sandbox is worth. -/
noncomputable def Try.pinned : Pinned := { name := "ytmbohhfhhdopiaa", sum := "2424be5766e02823649f9d30803dcd12f2a55e87a979a7f7c473a49faf8524db", checked := Try.checked }
namespace Rows
def none {H : Type} : Left H := { results := [], args := [] }

/-- 'laws.FnBestClock': WHATEVER THE INPUT: true; the input reads as it did. -/
def fnBestClockSpec : ChangeSpec := { name := "fnBestClock", fn := fun _ => fun
  | [d] => { results := [.lit (.bool true)], args := [d] }
  | _ => none }
def fnBestClockRow : OpenClaim := { program := "ytmbohhfhhdopiaa", sum := "2424be5766e02823649f9d30803dcd12f2a55e87a979a7f7c473a49faf8524db", func := "loop.example/g03313/laws.FnBestClock", spec := "fnBestClock", apart := false }
def FnBestClockSaid : Prop := fnBestClockRow.holds Try.pinned (OpenSpec.ofChange fnBestClockSpec)

/-- ITS FALSE NEIGHBOUR: 'it returns false'. Refute it at one input. -/
def fnBestClockWrong : ChangeSpec := { name := "fnBestClock", fn := fun _ => fun
  | [d] => { results := [.lit (.bool false)], args := [d] }
  | _ => none }
def FnBestClockWrongFalsely : Prop := fnBestClockRow.holds Try.pinned (OpenSpec.ofChange fnBestClockWrong)

/-- 'laws.FnPaceReady': WHATEVER THE INPUT: true; the input reads as it did. -/
def fnPaceReadySpec : ChangeSpec := { name := "fnPaceReady", fn := fun _ => fun
  | [d] => { results := [.lit (.bool true)], args := [d] }
  | _ => none }
def fnPaceReadyRow : OpenClaim := { program := "ytmbohhfhhdopiaa", sum := "2424be5766e02823649f9d30803dcd12f2a55e87a979a7f7c473a49faf8524db", func := "loop.example/g03313/laws.FnPaceReady", spec := "fnPaceReady", apart := false }
def FnPaceReadySaid : Prop := fnPaceReadyRow.holds Try.pinned (OpenSpec.ofChange fnPaceReadySpec)

/-- ITS FALSE NEIGHBOUR: 'it returns false'. Refute it at one input. -/
def fnPaceReadyWrong : ChangeSpec := { name := "fnPaceReady", fn := fun _ => fun
  | [d] => { results := [.lit (.bool false)], args := [d] }
  | _ => none }
def FnPaceReadyWrongFalsely : Prop := fnPaceReadyRow.holds Try.pinned (OpenSpec.ofChange fnPaceReadyWrong)

/-- 'laws.FnPaces': WHATEVER THE INPUT: true; the input reads as it did. -/
def fnPacesSpec : ChangeSpec := { name := "fnPaces", fn := fun _ => fun
  | [d] => { results := [.lit (.bool true)], args := [d] }
  | _ => none }
def fnPacesRow : OpenClaim := { program := "ytmbohhfhhdopiaa", sum := "2424be5766e02823649f9d30803dcd12f2a55e87a979a7f7c473a49faf8524db", func := "loop.example/g03313/laws.FnPaces", spec := "fnPaces", apart := false }
def FnPacesSaid : Prop := fnPacesRow.holds Try.pinned (OpenSpec.ofChange fnPacesSpec)

/-- ITS FALSE NEIGHBOUR: 'it returns false'. Refute it at one input. -/
def fnPacesWrong : ChangeSpec := { name := "fnPaces", fn := fun _ => fun
  | [d] => { results := [.lit (.bool false)], args := [d] }
  | _ => none }
def FnPacesWrongFalsely : Prop := fnPacesRow.holds Try.pinned (OpenSpec.ofChange fnPacesWrong)

/-- 'laws.FnChosen': WHATEVER THE INPUT: true; the input reads as it did. -/
def fnChosenSpec : ChangeSpec := { name := "fnChosen", fn := fun _ => fun
  | [d] => { results := [.lit (.bool true)], args := [d] }
  | _ => none }
def fnChosenRow : OpenClaim := { program := "ytmbohhfhhdopiaa", sum := "2424be5766e02823649f9d30803dcd12f2a55e87a979a7f7c473a49faf8524db", func := "loop.example/g03313/laws.FnChosen", spec := "fnChosen", apart := false }
def FnChosenSaid : Prop := fnChosenRow.holds Try.pinned (OpenSpec.ofChange fnChosenSpec)

/-- ITS FALSE NEIGHBOUR: 'it returns false'. Refute it at one input. -/
def fnChosenWrong : ChangeSpec := { name := "fnChosen", fn := fun _ => fun
  | [d] => { results := [.lit (.bool false)], args := [d] }
  | _ => none }
def FnChosenWrongFalsely : Prop := fnChosenRow.holds Try.pinned (OpenSpec.ofChange fnChosenWrong)

/-- 'laws.FnDescriptors': WHATEVER THE INPUT: true; the input reads as it did. -/
def fnDescriptorsSpec : ChangeSpec := { name := "fnDescriptors", fn := fun _ => fun
  | [d] => { results := [.lit (.bool true)], args := [d] }
  | _ => none }
def fnDescriptorsRow : OpenClaim := { program := "ytmbohhfhhdopiaa", sum := "2424be5766e02823649f9d30803dcd12f2a55e87a979a7f7c473a49faf8524db", func := "loop.example/g03313/laws.FnDescriptors", spec := "fnDescriptors", apart := false }
def FnDescriptorsSaid : Prop := fnDescriptorsRow.holds Try.pinned (OpenSpec.ofChange fnDescriptorsSpec)

/-- ITS FALSE NEIGHBOUR: 'it returns false'. Refute it at one input. -/
def fnDescriptorsWrong : ChangeSpec := { name := "fnDescriptors", fn := fun _ => fun
  | [d] => { results := [.lit (.bool false)], args := [d] }
  | _ => none }
def FnDescriptorsWrongFalsely : Prop := fnDescriptorsRow.holds Try.pinned (OpenSpec.ofChange fnDescriptorsWrong)

/-- 'laws.FnExactBuildDescriptor': WHATEVER THE INPUT: true; the input reads as it did. -/
def fnExactBuildDescriptorSpec : ChangeSpec := { name := "fnExactBuildDescriptor", fn := fun _ => fun
  | [d] => { results := [.lit (.bool true)], args := [d] }
  | _ => none }
def fnExactBuildDescriptorRow : OpenClaim := { program := "ytmbohhfhhdopiaa", sum := "2424be5766e02823649f9d30803dcd12f2a55e87a979a7f7c473a49faf8524db", func := "loop.example/g03313/laws.FnExactBuildDescriptor", spec := "fnExactBuildDescriptor", apart := false }
def FnExactBuildDescriptorSaid : Prop := fnExactBuildDescriptorRow.holds Try.pinned (OpenSpec.ofChange fnExactBuildDescriptorSpec)

/-- ITS FALSE NEIGHBOUR: 'it returns false'. Refute it at one input. -/
def fnExactBuildDescriptorWrong : ChangeSpec := { name := "fnExactBuildDescriptor", fn := fun _ => fun
  | [d] => { results := [.lit (.bool false)], args := [d] }
  | _ => none }
def FnExactBuildDescriptorWrongFalsely : Prop := fnExactBuildDescriptorRow.holds Try.pinned (OpenSpec.ofChange fnExactBuildDescriptorWrong)

/-- 'laws.FnExactParseDescriptor': WHATEVER THE INPUT: true; the input reads as it did. -/
def fnExactParseDescriptorSpec : ChangeSpec := { name := "fnExactParseDescriptor", fn := fun _ => fun
  | [d] => { results := [.lit (.bool true)], args := [d] }
  | _ => none }
def fnExactParseDescriptorRow : OpenClaim := { program := "ytmbohhfhhdopiaa", sum := "2424be5766e02823649f9d30803dcd12f2a55e87a979a7f7c473a49faf8524db", func := "loop.example/g03313/laws.FnExactParseDescriptor", spec := "fnExactParseDescriptor", apart := false }
def FnExactParseDescriptorSaid : Prop := fnExactParseDescriptorRow.holds Try.pinned (OpenSpec.ofChange fnExactParseDescriptorSpec)

/-- ITS FALSE NEIGHBOUR: 'it returns false'. Refute it at one input. -/
def fnExactParseDescriptorWrong : ChangeSpec := { name := "fnExactParseDescriptor", fn := fun _ => fun
  | [d] => { results := [.lit (.bool false)], args := [d] }
  | _ => none }
def FnExactParseDescriptorWrongFalsely : Prop := fnExactParseDescriptorRow.holds Try.pinned (OpenSpec.ofChange fnExactParseDescriptorWrong)

/- THE SECOND FORM. 'bulk': how many values and letters a reading holds, each counted each time it is reached (what is shared counts as often as it is met; a slice's spare places count too). A statement '..UptoSaid' is the law's where the arguments, and the package variables that the reading takes, are together of bulk at most 1048576: NARROWER than '..Said'. Prove '..Said' where nothing that the law and all that it calls make is longer than what came in: it says more and counts as full. Else prove '..UptoSaid'. A law counts once. -/
mutual
def uptoBulk {H : Type} : DataW H → Nat
  | .lit (.string bytes) => bytes.length + 1
  | .lit _ => 1
  | .nil => 1
  | .ptr d => uptoBulk d + 1
  | .slice elems spare => uptoBulkAll elems + uptoBulkAll spare + 1
  | .agg parts => uptoBulkAll parts + 1
  | .iface _ d => uptoBulk d + 1
  | .map entries => uptoBulkEntries entries + 1
  | .held _ => 1
def uptoBulkAll {H : Type} : List (DataW H) → Nat
  | [] => 0
  | d :: r => uptoBulk d + uptoBulkAll r
def uptoBulkEntries {H : Type} : List (Lit × DataW H) → Nat
  | [] => 0
  | x :: r => uptoBulkEntry x + uptoBulkEntries r
def uptoBulkEntry {H : Type} : Lit × DataW H → Nat
  | (.string bytes, d) => bytes.length + uptoBulk d + 1
  | (_, d) => uptoBulk d + 1
 end
def uptoSmall : (H : Type) → List (DataW H) → Bool := fun _ ds => decide (uptoBulkAll ds ≤ 1048576)
def OpenSpec.upto (s : _root_.Go.ChangeSpec) : _root_.Go.OpenSpec := { _root_.Go.OpenSpec.ofChange s with cond := some uptoSmall }

/-- 'laws.FnBestClock', WHERE WHAT IT READS IS OF BULK AT MOST 1048576: true; the input reads as it did. -/
def fnBestClockUptoRow : OpenClaim := { program := "ytmbohhfhhdopiaa", sum := "2424be5766e02823649f9d30803dcd12f2a55e87a979a7f7c473a49faf8524db", func := "loop.example/g03313/laws.FnBestClock", spec := "fnBestClock", apart := false, narrowed := true }
def FnBestClockUptoSaid : Prop := fnBestClockUptoRow.holds Try.pinned (OpenSpec.upto fnBestClockSpec)

/-- 'laws.FnPaceReady', WHERE WHAT IT READS IS OF BULK AT MOST 1048576: true; the input reads as it did. -/
def fnPaceReadyUptoRow : OpenClaim := { program := "ytmbohhfhhdopiaa", sum := "2424be5766e02823649f9d30803dcd12f2a55e87a979a7f7c473a49faf8524db", func := "loop.example/g03313/laws.FnPaceReady", spec := "fnPaceReady", apart := false, narrowed := true }
def FnPaceReadyUptoSaid : Prop := fnPaceReadyUptoRow.holds Try.pinned (OpenSpec.upto fnPaceReadySpec)

/-- 'laws.FnPaces', WHERE WHAT IT READS IS OF BULK AT MOST 1048576: true; the input reads as it did. -/
def fnPacesUptoRow : OpenClaim := { program := "ytmbohhfhhdopiaa", sum := "2424be5766e02823649f9d30803dcd12f2a55e87a979a7f7c473a49faf8524db", func := "loop.example/g03313/laws.FnPaces", spec := "fnPaces", apart := false, narrowed := true }
def FnPacesUptoSaid : Prop := fnPacesUptoRow.holds Try.pinned (OpenSpec.upto fnPacesSpec)

/-- 'laws.FnChosen', WHERE WHAT IT READS IS OF BULK AT MOST 1048576: true; the input reads as it did. -/
def fnChosenUptoRow : OpenClaim := { program := "ytmbohhfhhdopiaa", sum := "2424be5766e02823649f9d30803dcd12f2a55e87a979a7f7c473a49faf8524db", func := "loop.example/g03313/laws.FnChosen", spec := "fnChosen", apart := false, narrowed := true }
def FnChosenUptoSaid : Prop := fnChosenUptoRow.holds Try.pinned (OpenSpec.upto fnChosenSpec)

/-- 'laws.FnDescriptors', WHERE WHAT IT READS IS OF BULK AT MOST 1048576: true; the input reads as it did. -/
def fnDescriptorsUptoRow : OpenClaim := { program := "ytmbohhfhhdopiaa", sum := "2424be5766e02823649f9d30803dcd12f2a55e87a979a7f7c473a49faf8524db", func := "loop.example/g03313/laws.FnDescriptors", spec := "fnDescriptors", apart := false, narrowed := true }
def FnDescriptorsUptoSaid : Prop := fnDescriptorsUptoRow.holds Try.pinned (OpenSpec.upto fnDescriptorsSpec)

/-- 'laws.FnExactBuildDescriptor', WHERE WHAT IT READS IS OF BULK AT MOST 1048576: true; the input reads as it did. -/
def fnExactBuildDescriptorUptoRow : OpenClaim := { program := "ytmbohhfhhdopiaa", sum := "2424be5766e02823649f9d30803dcd12f2a55e87a979a7f7c473a49faf8524db", func := "loop.example/g03313/laws.FnExactBuildDescriptor", spec := "fnExactBuildDescriptor", apart := false, narrowed := true }
def FnExactBuildDescriptorUptoSaid : Prop := fnExactBuildDescriptorUptoRow.holds Try.pinned (OpenSpec.upto fnExactBuildDescriptorSpec)

/-- 'laws.FnExactParseDescriptor', WHERE WHAT IT READS IS OF BULK AT MOST 1048576: true; the input reads as it did. -/
def fnExactParseDescriptorUptoRow : OpenClaim := { program := "ytmbohhfhhdopiaa", sum := "2424be5766e02823649f9d30803dcd12f2a55e87a979a7f7c473a49faf8524db", func := "loop.example/g03313/laws.FnExactParseDescriptor", spec := "fnExactParseDescriptor", apart := false, narrowed := true }
def FnExactParseDescriptorUptoSaid : Prop := fnExactParseDescriptorUptoRow.holds Try.pinned (OpenSpec.upto fnExactParseDescriptorSpec)

end Rows
end Go.Proofs.Ytmbohhfhhdopiaa
