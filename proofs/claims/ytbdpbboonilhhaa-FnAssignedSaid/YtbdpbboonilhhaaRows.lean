/-
  No cell of these rows narrows 'for every input' (looked for: loops, veiled, ifaces, maps, wideKeys, modest, calm, conditions, laid).
  DERIVED. THE GIVEN ROWS OF THIS SEAT. 7 by the template 'for every input the law returns true; each argument reads behind the call as it read before'; 0 by the template 'total and deterministic' (their statements: YtbdpbboonilhhaaTotals.lean).
  GIVEN WITH THE SEED: the statements are not yours to turn. If you find one false, say at which input.
  Laid BY PROGRAM, IN A SANDBOX (cutbox-rows.mjs): the forced cells as the released guide's own fill.sh prints them over the translation d091f8c94dd062b6… (all of the seat's roots in one cut). By AI agents, Wed Nov 11 2026. No macro, syntax, notation, axiom, sorry.
-/
import Derived.Test.YtbdpbboonilhhaaChecked
import GoSem.Claim
import GoSem.ClaimJoined
import GoSem.ClaimMapViews
import Derived.JoinedTies
import Derived.KernelRfl
namespace Go.Proofs.Ytbdpbboonilhhaa
/- THE CELL 'sum', in the pinned program and in every row, IS THE sha256 OF THE DUMP (.gsa) THAT YtbdpbboonilhhaaProg.lean LOADS. Nothing in Lean hashes anything: it is a label: what it is worth is what the hold of that sum in a sandbox is worth. -/
noncomputable def Try.pinned : Pinned := { name := "ytbdpbboonilhhaa", sum := "d091f8c94dd062b625b5c849528f600c24f051cd1fab35eeae8b156e3cdfee0a", checked := Try.checked }
namespace Rows
def none {H : Type} : Left H := { results := [], args := [] }

/-- 'laws.FnPlaneOrder': WHATEVER THE INPUT: true; the input reads as it did. -/
def fnPlaneOrderSpec : ChangeSpec := { name := "fnPlaneOrder", fn := fun _ => fun
  | [d] => { results := [.lit (.bool true)], args := [d] }
  | _ => none }
def fnPlaneOrderRow : OpenClaim := { program := "ytbdpbboonilhhaa", sum := "d091f8c94dd062b625b5c849528f600c24f051cd1fab35eeae8b156e3cdfee0a", func := "loop.example/g03313/laws.FnPlaneOrder", spec := "fnPlaneOrder", unfollowed := true, recurses := true, apart := false }
def FnPlaneOrderSaid : Prop := fnPlaneOrderRow.holds Try.pinned (OpenSpec.ofChange fnPlaneOrderSpec)

/-- ITS FALSE NEIGHBOUR: 'it returns false'. Refute it at one input. -/
def fnPlaneOrderWrong : ChangeSpec := { name := "fnPlaneOrder", fn := fun _ => fun
  | [d] => { results := [.lit (.bool false)], args := [d] }
  | _ => none }
def FnPlaneOrderWrongFalsely : Prop := fnPlaneOrderRow.holds Try.pinned (OpenSpec.ofChange fnPlaneOrderWrong)

/-- 'laws.FnAtomic': WHATEVER THE INPUT: true; the input reads as it did. -/
def fnAtomicSpec : ChangeSpec := { name := "fnAtomic", fn := fun _ => fun
  | [d] => { results := [.lit (.bool true)], args := [d] }
  | _ => none }
def fnAtomicRow : OpenClaim := { program := "ytbdpbboonilhhaa", sum := "d091f8c94dd062b625b5c849528f600c24f051cd1fab35eeae8b156e3cdfee0a", func := "loop.example/g03313/laws.FnAtomic", spec := "fnAtomic", unfollowed := true, recurses := true, apart := false }
def FnAtomicSaid : Prop := fnAtomicRow.holds Try.pinned (OpenSpec.ofChange fnAtomicSpec)

/-- ITS FALSE NEIGHBOUR: 'it returns false'. Refute it at one input. -/
def fnAtomicWrong : ChangeSpec := { name := "fnAtomic", fn := fun _ => fun
  | [d] => { results := [.lit (.bool false)], args := [d] }
  | _ => none }
def FnAtomicWrongFalsely : Prop := fnAtomicRow.holds Try.pinned (OpenSpec.ofChange fnAtomicWrong)

/-- 'laws.FnAssigned': WHATEVER THE INPUT: true; the input reads as it did. -/
def fnAssignedSpec : ChangeSpec := { name := "fnAssigned", fn := fun _ => fun
  | [d] => { results := [.lit (.bool true)], args := [d] }
  | _ => none }
def fnAssignedRow : OpenClaim := { program := "ytbdpbboonilhhaa", sum := "d091f8c94dd062b625b5c849528f600c24f051cd1fab35eeae8b156e3cdfee0a", func := "loop.example/g03313/laws.FnAssigned", spec := "fnAssigned", unfollowed := true, recurses := true, apart := false }
def FnAssignedSaid : Prop := fnAssignedRow.holds Try.pinned (OpenSpec.ofChange fnAssignedSpec)

/-- ITS FALSE NEIGHBOUR: 'it returns false'. Refute it at one input. -/
def fnAssignedWrong : ChangeSpec := { name := "fnAssigned", fn := fun _ => fun
  | [d] => { results := [.lit (.bool false)], args := [d] }
  | _ => none }
def FnAssignedWrongFalsely : Prop := fnAssignedRow.holds Try.pinned (OpenSpec.ofChange fnAssignedWrong)

/-- 'laws.FnExactScanOut': WHATEVER THE INPUT: true; the input reads as it did. -/
def fnExactScanOutSpec : ChangeSpec := { name := "fnExactScanOut", fn := fun _ => fun
  | [d1, d2, d3] => { results := [.lit (.bool true)], args := [d1, d2, d3] }
  | _ => none }
def fnExactScanOutRow : OpenClaim := { program := "ytbdpbboonilhhaa", sum := "d091f8c94dd062b625b5c849528f600c24f051cd1fab35eeae8b156e3cdfee0a", func := "loop.example/g03313/laws.FnExactScanOut", spec := "fnExactScanOut", unfollowed := true, recurses := true, apart := false }
def FnExactScanOutSaid : Prop := fnExactScanOutRow.holds Try.pinned (OpenSpec.ofChange fnExactScanOutSpec)

/-- ITS FALSE NEIGHBOUR: 'it returns false'. Refute it at one input. -/
def fnExactScanOutWrong : ChangeSpec := { name := "fnExactScanOut", fn := fun _ => fun
  | [d1, d2, d3] => { results := [.lit (.bool false)], args := [d1, d2, d3] }
  | _ => none }
def FnExactScanOutWrongFalsely : Prop := fnExactScanOutRow.holds Try.pinned (OpenSpec.ofChange fnExactScanOutWrong)

/-- 'laws.FnExactPlanesOf': WHATEVER THE INPUT: true; the input reads as it did. -/
def fnExactPlanesOfSpec : ChangeSpec := { name := "fnExactPlanesOf", fn := fun _ => fun
  | [d1, d2, d3] => { results := [.lit (.bool true)], args := [d1, d2, d3] }
  | _ => none }
def fnExactPlanesOfRow : OpenClaim := { program := "ytbdpbboonilhhaa", sum := "d091f8c94dd062b625b5c849528f600c24f051cd1fab35eeae8b156e3cdfee0a", func := "loop.example/g03313/laws.FnExactPlanesOf", spec := "fnExactPlanesOf", apart := false }
def FnExactPlanesOfSaid : Prop := fnExactPlanesOfRow.holds Try.pinned (OpenSpec.ofChange fnExactPlanesOfSpec)

/-- ITS FALSE NEIGHBOUR: 'it returns false'. Refute it at one input. -/
def fnExactPlanesOfWrong : ChangeSpec := { name := "fnExactPlanesOf", fn := fun _ => fun
  | [d1, d2, d3] => { results := [.lit (.bool false)], args := [d1, d2, d3] }
  | _ => none }
def FnExactPlanesOfWrongFalsely : Prop := fnExactPlanesOfRow.holds Try.pinned (OpenSpec.ofChange fnExactPlanesOfWrong)

/-- 'laws.FnExactCrtcOk': WHATEVER THE INPUT: true; the input reads as it did. -/
def fnExactCrtcOkSpec : ChangeSpec := { name := "fnExactCrtcOk", fn := fun _ => fun
  | [d] => { results := [.lit (.bool true)], args := [d] }
  | _ => none }
def fnExactCrtcOkRow : OpenClaim := { program := "ytbdpbboonilhhaa", sum := "d091f8c94dd062b625b5c849528f600c24f051cd1fab35eeae8b156e3cdfee0a", func := "loop.example/g03313/laws.FnExactCrtcOk", spec := "fnExactCrtcOk", unfollowed := true, recurses := true, apart := false }
def FnExactCrtcOkSaid : Prop := fnExactCrtcOkRow.holds Try.pinned (OpenSpec.ofChange fnExactCrtcOkSpec)

/-- ITS FALSE NEIGHBOUR: 'it returns false'. Refute it at one input. -/
def fnExactCrtcOkWrong : ChangeSpec := { name := "fnExactCrtcOk", fn := fun _ => fun
  | [d] => { results := [.lit (.bool false)], args := [d] }
  | _ => none }
def FnExactCrtcOkWrongFalsely : Prop := fnExactCrtcOkRow.holds Try.pinned (OpenSpec.ofChange fnExactCrtcOkWrong)

/-- 'laws.FnExactRestOf': WHATEVER THE INPUT: true; the input reads as it did. -/
def fnExactRestOfSpec : ChangeSpec := { name := "fnExactRestOf", fn := fun _ => fun
  | [d1, d2] => { results := [.lit (.bool true)], args := [d1, d2] }
  | _ => none }
def fnExactRestOfRow : OpenClaim := { program := "ytbdpbboonilhhaa", sum := "d091f8c94dd062b625b5c849528f600c24f051cd1fab35eeae8b156e3cdfee0a", func := "loop.example/g03313/laws.FnExactRestOf", spec := "fnExactRestOf", apart := false }
def FnExactRestOfSaid : Prop := fnExactRestOfRow.holds Try.pinned (OpenSpec.ofChange fnExactRestOfSpec)

/-- ITS FALSE NEIGHBOUR: 'it returns false'. Refute it at one input. -/
def fnExactRestOfWrong : ChangeSpec := { name := "fnExactRestOf", fn := fun _ => fun
  | [d1, d2] => { results := [.lit (.bool false)], args := [d1, d2] }
  | _ => none }
def FnExactRestOfWrongFalsely : Prop := fnExactRestOfRow.holds Try.pinned (OpenSpec.ofChange fnExactRestOfWrong)

/- THE SECOND FORM. 'bulk': how many values and letters a reading holds, each counted each time it is reached (what is shared counts as often as it is met; a slice's spare places count too). A statement '..UptoSaid' is the law's where the arguments, and the package variables that the reading takes, are together of bulk at most 1048576: NARROWER than '..Said'. Prove '..Said' where nothing that the law and all that it calls make is longer than what came in: it says more and counts as full. Else prove '..UptoSaid'. A law counts once. -/
mutual
def uptoBulk {H : Type} : DataW H → Nat
  | .lit (.string bytes) => bytes.length + 1
  | .lit _ => 1
  | .nil => 1
  | .ptr d => uptoBulk d + 1
  | .slice elems spare => uptoBulkAll elems + uptoBulkAll spare + 1
  | .agg parts => uptoBulkAll parts + 1
  | .iface _ d => uptoBulk d + 1
  | .map entries => uptoBulkEntries entries + 1
  | .held _ => 1
def uptoBulkAll {H : Type} : List (DataW H) → Nat
  | [] => 0
  | d :: r => uptoBulk d + uptoBulkAll r
def uptoBulkEntries {H : Type} : List (Lit × DataW H) → Nat
  | [] => 0
  | x :: r => uptoBulkEntry x + uptoBulkEntries r
def uptoBulkEntry {H : Type} : Lit × DataW H → Nat
  | (.string bytes, d) => bytes.length + uptoBulk d + 1
  | (_, d) => uptoBulk d + 1
 end
def uptoSmall : (H : Type) → List (DataW H) → Bool := fun _ ds => decide (uptoBulkAll ds ≤ 1048576)
def OpenSpec.upto (s : _root_.Go.ChangeSpec) : _root_.Go.OpenSpec := { _root_.Go.OpenSpec.ofChange s with cond := some uptoSmall }

/-- 'laws.FnPlaneOrder', WHERE WHAT IT READS IS OF BULK AT MOST 1048576: true; the input reads as it did. -/
def fnPlaneOrderUptoRow : OpenClaim := { program := "ytbdpbboonilhhaa", sum := "d091f8c94dd062b625b5c849528f600c24f051cd1fab35eeae8b156e3cdfee0a", func := "loop.example/g03313/laws.FnPlaneOrder", spec := "fnPlaneOrder", unfollowed := true, recurses := true, apart := false, narrowed := true }
def FnPlaneOrderUptoSaid : Prop := fnPlaneOrderUptoRow.holds Try.pinned (OpenSpec.upto fnPlaneOrderSpec)

/-- 'laws.FnAtomic', WHERE WHAT IT READS IS OF BULK AT MOST 1048576: true; the input reads as it did. -/
def fnAtomicUptoRow : OpenClaim := { program := "ytbdpbboonilhhaa", sum := "d091f8c94dd062b625b5c849528f600c24f051cd1fab35eeae8b156e3cdfee0a", func := "loop.example/g03313/laws.FnAtomic", spec := "fnAtomic", unfollowed := true, recurses := true, apart := false, narrowed := true }
def FnAtomicUptoSaid : Prop := fnAtomicUptoRow.holds Try.pinned (OpenSpec.upto fnAtomicSpec)

/-- 'laws.FnAssigned', WHERE WHAT IT READS IS OF BULK AT MOST 1048576: true; the input reads as it did. -/
def fnAssignedUptoRow : OpenClaim := { program := "ytbdpbboonilhhaa", sum := "d091f8c94dd062b625b5c849528f600c24f051cd1fab35eeae8b156e3cdfee0a", func := "loop.example/g03313/laws.FnAssigned", spec := "fnAssigned", unfollowed := true, recurses := true, apart := false, narrowed := true }
def FnAssignedUptoSaid : Prop := fnAssignedUptoRow.holds Try.pinned (OpenSpec.upto fnAssignedSpec)

/-- 'laws.FnExactScanOut', WHERE WHAT IT READS IS OF BULK AT MOST 1048576: true; the input reads as it did. -/
def fnExactScanOutUptoRow : OpenClaim := { program := "ytbdpbboonilhhaa", sum := "d091f8c94dd062b625b5c849528f600c24f051cd1fab35eeae8b156e3cdfee0a", func := "loop.example/g03313/laws.FnExactScanOut", spec := "fnExactScanOut", unfollowed := true, recurses := true, apart := false, narrowed := true }
def FnExactScanOutUptoSaid : Prop := fnExactScanOutUptoRow.holds Try.pinned (OpenSpec.upto fnExactScanOutSpec)

/-- 'laws.FnExactPlanesOf', WHERE WHAT IT READS IS OF BULK AT MOST 1048576: true; the input reads as it did. -/
def fnExactPlanesOfUptoRow : OpenClaim := { program := "ytbdpbboonilhhaa", sum := "d091f8c94dd062b625b5c849528f600c24f051cd1fab35eeae8b156e3cdfee0a", func := "loop.example/g03313/laws.FnExactPlanesOf", spec := "fnExactPlanesOf", apart := false, narrowed := true }
def FnExactPlanesOfUptoSaid : Prop := fnExactPlanesOfUptoRow.holds Try.pinned (OpenSpec.upto fnExactPlanesOfSpec)

/-- 'laws.FnExactCrtcOk', WHERE WHAT IT READS IS OF BULK AT MOST 1048576: true; the input reads as it did. -/
def fnExactCrtcOkUptoRow : OpenClaim := { program := "ytbdpbboonilhhaa", sum := "d091f8c94dd062b625b5c849528f600c24f051cd1fab35eeae8b156e3cdfee0a", func := "loop.example/g03313/laws.FnExactCrtcOk", spec := "fnExactCrtcOk", unfollowed := true, recurses := true, apart := false, narrowed := true }
def FnExactCrtcOkUptoSaid : Prop := fnExactCrtcOkUptoRow.holds Try.pinned (OpenSpec.upto fnExactCrtcOkSpec)

/-- 'laws.FnExactRestOf', WHERE WHAT IT READS IS OF BULK AT MOST 1048576: true; the input reads as it did. -/
def fnExactRestOfUptoRow : OpenClaim := { program := "ytbdpbboonilhhaa", sum := "d091f8c94dd062b625b5c849528f600c24f051cd1fab35eeae8b156e3cdfee0a", func := "loop.example/g03313/laws.FnExactRestOf", spec := "fnExactRestOf", apart := false, narrowed := true }
def FnExactRestOfUptoSaid : Prop := fnExactRestOfUptoRow.holds Try.pinned (OpenSpec.upto fnExactRestOfSpec)

end Rows
end Go.Proofs.Ytbdpbboonilhhaa
