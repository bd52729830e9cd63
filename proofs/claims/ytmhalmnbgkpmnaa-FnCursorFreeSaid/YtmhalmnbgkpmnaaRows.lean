/-
  No cell of these rows narrows 'for every input' (looked for: loops, veiled, ifaces, maps, wideKeys, modest, calm, conditions, laid).
  DERIVED. THE GIVEN ROWS OF THIS SEAT. 6 by the template 'for every input the law returns true; each argument reads behind the call as it read before'; 0 by the template 'total and deterministic' (their statements: YtmhalmnbgkpmnaaTotals.lean).
  GIVEN WITH THE SEED: the statements are not yours to turn. If you find one false, say at which input.
  Laid BY PROGRAM, IN A SANDBOX (cutbox-rows.mjs): the forced cells as the released guide's own fill.sh prints them over the translation 3d1d6128230e21fc… (all of the seat's roots in one cut). By AI agents, Wed Nov 11 2026. No macro, syntax, notation, axiom, sorry.
-/
import Derived.Test.YtmhalmnbgkpmnaaChecked
import GoSem.Claim
import GoSem.ClaimJoined
import GoSem.ClaimMapViews
import Derived.JoinedTies
import Derived.KernelRfl
namespace Go.Proofs.Ytmhalmnbgkpmnaa
/- THE CELL 'sum', in the pinned program and in every row, IS THE sha256 OF THE DUMP (.gsa) THAT YtmhalmnbgkpmnaaProg.lean LOADS. Nothing in Lean hashes anything: it is a label: what it is worth is what the hold of that sum in a sandbox is worth. -/
noncomputable def Try.pinned : Pinned := { name := "ytmhalmnbgkpmnaa", sum := "3d1d6128230e21fc6352d70b40ecbaaf5764a71b05005212ff1f4439c8f39fe9", checked := Try.checked }
namespace Rows
def none {H : Type} : Left H := { results := [], args := [] }

/-- 'laws.FnExactChangesFor': WHATEVER THE INPUT: true; the input reads as it did. -/
def fnExactChangesForSpec : ChangeSpec := { name := "fnExactChangesFor", fn := fun _ => fun
  | [d1, d2, d3] => { results := [.lit (.bool true)], args := [d1, d2, d3] }
  | _ => none }
def fnExactChangesForRow : OpenClaim := { program := "ytmhalmnbgkpmnaa", sum := "3d1d6128230e21fc6352d70b40ecbaaf5764a71b05005212ff1f4439c8f39fe9", func := "loop.example/g03313/laws.FnExactChangesFor", spec := "fnExactChangesFor", apart := false }
def FnExactChangesForSaid : Prop := fnExactChangesForRow.holds Try.pinned (OpenSpec.ofChange fnExactChangesForSpec)

/-- ITS FALSE NEIGHBOUR: 'it returns false'. Refute it at one input. -/
def fnExactChangesForWrong : ChangeSpec := { name := "fnExactChangesFor", fn := fun _ => fun
  | [d1, d2, d3] => { results := [.lit (.bool false)], args := [d1, d2, d3] }
  | _ => none }
def FnExactChangesForWrongFalsely : Prop := fnExactChangesForRow.holds Try.pinned (OpenSpec.ofChange fnExactChangesForWrong)

/-- 'laws.FnAtomic': WHATEVER THE INPUT: true; the input reads as it did. -/
def fnAtomicSpec : ChangeSpec := { name := "fnAtomic", fn := fun _ => fun
  | [d] => { results := [.lit (.bool true)], args := [d] }
  | _ => none }
def fnAtomicRow : OpenClaim := { program := "ytmhalmnbgkpmnaa", sum := "3d1d6128230e21fc6352d70b40ecbaaf5764a71b05005212ff1f4439c8f39fe9", func := "loop.example/g03313/laws.FnAtomic", spec := "fnAtomic", unfollowed := true, recurses := true, apart := false }
def FnAtomicSaid : Prop := fnAtomicRow.holds Try.pinned (OpenSpec.ofChange fnAtomicSpec)

/-- ITS FALSE NEIGHBOUR: 'it returns false'. Refute it at one input. -/
def fnAtomicWrong : ChangeSpec := { name := "fnAtomic", fn := fun _ => fun
  | [d] => { results := [.lit (.bool false)], args := [d] }
  | _ => none }
def FnAtomicWrongFalsely : Prop := fnAtomicRow.holds Try.pinned (OpenSpec.ofChange fnAtomicWrong)

/-- 'laws.FnMorePlanes': WHATEVER THE INPUT: true; the input reads as it did. -/
def fnMorePlanesSpec : ChangeSpec := { name := "fnMorePlanes", fn := fun _ => fun
  | [d] => { results := [.lit (.bool true)], args := [d] }
  | _ => none }
def fnMorePlanesRow : OpenClaim := { program := "ytmhalmnbgkpmnaa", sum := "3d1d6128230e21fc6352d70b40ecbaaf5764a71b05005212ff1f4439c8f39fe9", func := "loop.example/g03313/laws.FnMorePlanes", spec := "fnMorePlanes", apart := false }
def FnMorePlanesSaid : Prop := fnMorePlanesRow.holds Try.pinned (OpenSpec.ofChange fnMorePlanesSpec)

/-- ITS FALSE NEIGHBOUR: 'it returns false'. Refute it at one input. -/
def fnMorePlanesWrong : ChangeSpec := { name := "fnMorePlanes", fn := fun _ => fun
  | [d] => { results := [.lit (.bool false)], args := [d] }
  | _ => none }
def FnMorePlanesWrongFalsely : Prop := fnMorePlanesRow.holds Try.pinned (OpenSpec.ofChange fnMorePlanesWrong)

/-- 'laws.FnPlaneOrder': WHATEVER THE INPUT: true; the input reads as it did. -/
def fnPlaneOrderSpec : ChangeSpec := { name := "fnPlaneOrder", fn := fun _ => fun
  | [d] => { results := [.lit (.bool true)], args := [d] }
  | _ => none }
def fnPlaneOrderRow : OpenClaim := { program := "ytmhalmnbgkpmnaa", sum := "3d1d6128230e21fc6352d70b40ecbaaf5764a71b05005212ff1f4439c8f39fe9", func := "loop.example/g03313/laws.FnPlaneOrder", spec := "fnPlaneOrder", unfollowed := true, recurses := true, apart := false }
def FnPlaneOrderSaid : Prop := fnPlaneOrderRow.holds Try.pinned (OpenSpec.ofChange fnPlaneOrderSpec)

/-- ITS FALSE NEIGHBOUR: 'it returns false'. Refute it at one input. -/
def fnPlaneOrderWrong : ChangeSpec := { name := "fnPlaneOrder", fn := fun _ => fun
  | [d] => { results := [.lit (.bool false)], args := [d] }
  | _ => none }
def FnPlaneOrderWrongFalsely : Prop := fnPlaneOrderRow.holds Try.pinned (OpenSpec.ofChange fnPlaneOrderWrong)

/-- 'laws.FnAssigned': WHATEVER THE INPUT: true; the input reads as it did. -/
def fnAssignedSpec : ChangeSpec := { name := "fnAssigned", fn := fun _ => fun
  | [d] => { results := [.lit (.bool true)], args := [d] }
  | _ => none }
def fnAssignedRow : OpenClaim := { program := "ytmhalmnbgkpmnaa", sum := "3d1d6128230e21fc6352d70b40ecbaaf5764a71b05005212ff1f4439c8f39fe9", func := "loop.example/g03313/laws.FnAssigned", spec := "fnAssigned", unfollowed := true, recurses := true, apart := false }
def FnAssignedSaid : Prop := fnAssignedRow.holds Try.pinned (OpenSpec.ofChange fnAssignedSpec)

/-- ITS FALSE NEIGHBOUR: 'it returns false'. Refute it at one input. -/
def fnAssignedWrong : ChangeSpec := { name := "fnAssigned", fn := fun _ => fun
  | [d] => { results := [.lit (.bool false)], args := [d] }
  | _ => none }
def FnAssignedWrongFalsely : Prop := fnAssignedRow.holds Try.pinned (OpenSpec.ofChange fnAssignedWrong)

/-- 'laws.FnCursorFree': WHATEVER THE INPUT: true; the input reads as it did. -/
def fnCursorFreeSpec : ChangeSpec := { name := "fnCursorFree", fn := fun _ => fun
  | [d] => { results := [.lit (.bool true)], args := [d] }
  | _ => none }
def fnCursorFreeRow : OpenClaim := { program := "ytmhalmnbgkpmnaa", sum := "3d1d6128230e21fc6352d70b40ecbaaf5764a71b05005212ff1f4439c8f39fe9", func := "loop.example/g03313/laws.FnCursorFree", spec := "fnCursorFree", apart := false }
def FnCursorFreeSaid : Prop := fnCursorFreeRow.holds Try.pinned (OpenSpec.ofChange fnCursorFreeSpec)

/-- ITS FALSE NEIGHBOUR: 'it returns false'. Refute it at one input. -/
def fnCursorFreeWrong : ChangeSpec := { name := "fnCursorFree", fn := fun _ => fun
  | [d] => { results := [.lit (.bool false)], args := [d] }
  | _ => none }
def FnCursorFreeWrongFalsely : Prop := fnCursorFreeRow.holds Try.pinned (OpenSpec.ofChange fnCursorFreeWrong)

/- THE SECOND FORM. 'bulk': how many values and letters a reading holds, each counted each time it is reached (what is shared counts as often as it is met; a slice's spare places count too). A statement '..UptoSaid' is the law's where the arguments, and the package variables that the reading takes, are together of bulk at most 1048576: NARROWER than '..Said'. Prove '..Said' where nothing that the law and all that it calls make is longer than what came in: it says more and counts as full. Else prove '..UptoSaid'. A law counts once. -/
mutual
def uptoBulk {H : Type} : DataW H → Nat
  | .lit (.string bytes) => bytes.length + 1
  | .lit _ => 1
  | .nil => 1
  | .ptr d => uptoBulk d + 1
  | .slice elems spare => uptoBulkAll elems + uptoBulkAll spare + 1
  | .agg parts => uptoBulkAll parts + 1
  | .iface _ d => uptoBulk d + 1
  | .map entries => uptoBulkEntries entries + 1
  | .held _ => 1
def uptoBulkAll {H : Type} : List (DataW H) → Nat
  | [] => 0
  | d :: r => uptoBulk d + uptoBulkAll r
def uptoBulkEntries {H : Type} : List (Lit × DataW H) → Nat
  | [] => 0
  | x :: r => uptoBulkEntry x + uptoBulkEntries r
def uptoBulkEntry {H : Type} : Lit × DataW H → Nat
  | (.string bytes, d) => bytes.length + uptoBulk d + 1
  | (_, d) => uptoBulk d + 1
 end
def uptoSmall : (H : Type) → List (DataW H) → Bool := fun _ ds => decide (uptoBulkAll ds ≤ 1048576)
def OpenSpec.upto (s : _root_.Go.ChangeSpec) : _root_.Go.OpenSpec := { _root_.Go.OpenSpec.ofChange s with cond := some uptoSmall }

/-- 'laws.FnExactChangesFor', WHERE WHAT IT READS IS OF BULK AT MOST 1048576: true; the input reads as it did. -/
def fnExactChangesForUptoRow : OpenClaim := { program := "ytmhalmnbgkpmnaa", sum := "3d1d6128230e21fc6352d70b40ecbaaf5764a71b05005212ff1f4439c8f39fe9", func := "loop.example/g03313/laws.FnExactChangesFor", spec := "fnExactChangesFor", apart := false, narrowed := true }
def FnExactChangesForUptoSaid : Prop := fnExactChangesForUptoRow.holds Try.pinned (OpenSpec.upto fnExactChangesForSpec)

/-- 'laws.FnAtomic', WHERE WHAT IT READS IS OF BULK AT MOST 1048576: true; the input reads as it did. -/
def fnAtomicUptoRow : OpenClaim := { program := "ytmhalmnbgkpmnaa", sum := "3d1d6128230e21fc6352d70b40ecbaaf5764a71b05005212ff1f4439c8f39fe9", func := "loop.example/g03313/laws.FnAtomic", spec := "fnAtomic", unfollowed := true, recurses := true, apart := false, narrowed := true }
def FnAtomicUptoSaid : Prop := fnAtomicUptoRow.holds Try.pinned (OpenSpec.upto fnAtomicSpec)

/-- 'laws.FnMorePlanes', WHERE WHAT IT READS IS OF BULK AT MOST 1048576: true; the input reads as it did. -/
def fnMorePlanesUptoRow : OpenClaim := { program := "ytmhalmnbgkpmnaa", sum := "3d1d6128230e21fc6352d70b40ecbaaf5764a71b05005212ff1f4439c8f39fe9", func := "loop.example/g03313/laws.FnMorePlanes", spec := "fnMorePlanes", apart := false, narrowed := true }
def FnMorePlanesUptoSaid : Prop := fnMorePlanesUptoRow.holds Try.pinned (OpenSpec.upto fnMorePlanesSpec)

/-- 'laws.FnPlaneOrder', WHERE WHAT IT READS IS OF BULK AT MOST 1048576: true; the input reads as it did. -/
def fnPlaneOrderUptoRow : OpenClaim := { program := "ytmhalmnbgkpmnaa", sum := "3d1d6128230e21fc6352d70b40ecbaaf5764a71b05005212ff1f4439c8f39fe9", func := "loop.example/g03313/laws.FnPlaneOrder", spec := "fnPlaneOrder", unfollowed := true, recurses := true, apart := false, narrowed := true }
def FnPlaneOrderUptoSaid : Prop := fnPlaneOrderUptoRow.holds Try.pinned (OpenSpec.upto fnPlaneOrderSpec)

/-- 'laws.FnAssigned', WHERE WHAT IT READS IS OF BULK AT MOST 1048576: true; the input reads as it did. -/
def fnAssignedUptoRow : OpenClaim := { program := "ytmhalmnbgkpmnaa", sum := "3d1d6128230e21fc6352d70b40ecbaaf5764a71b05005212ff1f4439c8f39fe9", func := "loop.example/g03313/laws.FnAssigned", spec := "fnAssigned", unfollowed := true, recurses := true, apart := false, narrowed := true }
def FnAssignedUptoSaid : Prop := fnAssignedUptoRow.holds Try.pinned (OpenSpec.upto fnAssignedSpec)

/-- 'laws.FnCursorFree', WHERE WHAT IT READS IS OF BULK AT MOST 1048576: true; the input reads as it did. -/
def fnCursorFreeUptoRow : OpenClaim := { program := "ytmhalmnbgkpmnaa", sum := "3d1d6128230e21fc6352d70b40ecbaaf5764a71b05005212ff1f4439c8f39fe9", func := "loop.example/g03313/laws.FnCursorFree", spec := "fnCursorFree", apart := false, narrowed := true }
def FnCursorFreeUptoSaid : Prop := fnCursorFreeUptoRow.holds Try.pinned (OpenSpec.upto fnCursorFreeSpec)

end Rows
end Go.Proofs.Ytmhalmnbgkpmnaa
