/-
  No cell of these rows narrows 'for every input' (looked for: loops, veiled, ifaces, maps, wideKeys, modest, calm, conditions, laid).
  DERIVED. THE GIVEN ROWS OF THIS SEAT. 12 by the template 'for every input the law returns true; each argument reads behind the call as it read before'; 0 by the template 'total and deterministic' (their statements: YtkojfdgljmhmlaaTotals.lean).
  GIVEN WITH THE SEED: the statements are not yours to turn. If you find one false, say at which input.
  Laid BY PROGRAM, IN A SANDBOX (cutbox-rows.mjs): the forced cells as the released guide's own fill.sh prints them over the translation 67c17f9598d78bab… (all of the seat's roots in one cut). By AI agents, Wed Nov 11 2026. No macro, syntax, notation, axiom, sorry.
-/
import Derived.Test.YtkojfdgljmhmlaaChecked
import GoSem.Claim
import GoSem.ClaimJoined
import GoSem.ClaimMapViews
import Derived.JoinedTies
import Derived.KernelRfl
namespace Go.Proofs.Ytkojfdgljmhmlaa
/- THE CELL 'sum', in the pinned program and in every row, IS THE sha256 OF THE DUMP (.gsa) THAT YtkojfdgljmhmlaaProg.lean LOADS. Nothing in Lean hashes anything: it is a label: what it is worth is what the hold of that sum in a sandbox is worth. -/
noncomputable def Try.pinned : Pinned := { name := "ytkojfdgljmhmlaa", sum := "67c17f9598d78bab3cff1f44364ca757f043f6d1f933abc607f48c11abeecf8f", checked := Try.checked }
namespace Rows
def none {H : Type} : Left H := { results := [], args := [] }

/-- 'laws.FnMorePlanes': WHATEVER THE INPUT: true; the input reads as it did. -/
def fnMorePlanesSpec : ChangeSpec := { name := "fnMorePlanes", fn := fun _ => fun
  | [d] => { results := [.lit (.bool true)], args := [d] }
  | _ => none }
def fnMorePlanesRow : OpenClaim := { program := "ytkojfdgljmhmlaa", sum := "67c17f9598d78bab3cff1f44364ca757f043f6d1f933abc607f48c11abeecf8f", func := "loop.example/g03313/laws.FnMorePlanes", spec := "fnMorePlanes", apart := false }
def FnMorePlanesSaid : Prop := fnMorePlanesRow.holds Try.pinned (OpenSpec.ofChange fnMorePlanesSpec)

/-- ITS FALSE NEIGHBOUR: 'it returns false'. Refute it at one input. -/
def fnMorePlanesWrong : ChangeSpec := { name := "fnMorePlanes", fn := fun _ => fun
  | [d] => { results := [.lit (.bool false)], args := [d] }
  | _ => none }
def FnMorePlanesWrongFalsely : Prop := fnMorePlanesRow.holds Try.pinned (OpenSpec.ofChange fnMorePlanesWrong)

/-- 'laws.FnExactAssignedOf': WHATEVER THE INPUT: true; the input reads as it did. -/
def fnExactAssignedOfSpec : ChangeSpec := { name := "fnExactAssignedOf", fn := fun _ => fun
  | [d1, d2] => { results := [.lit (.bool true)], args := [d1, d2] }
  | _ => none }
def fnExactAssignedOfRow : OpenClaim := { program := "ytkojfdgljmhmlaa", sum := "67c17f9598d78bab3cff1f44364ca757f043f6d1f933abc607f48c11abeecf8f", func := "loop.example/g03313/laws.FnExactAssignedOf", spec := "fnExactAssignedOf", apart := false }
def FnExactAssignedOfSaid : Prop := fnExactAssignedOfRow.holds Try.pinned (OpenSpec.ofChange fnExactAssignedOfSpec)

/-- ITS FALSE NEIGHBOUR: 'it returns false'. Refute it at one input. -/
def fnExactAssignedOfWrong : ChangeSpec := { name := "fnExactAssignedOf", fn := fun _ => fun
  | [d1, d2] => { results := [.lit (.bool false)], args := [d1, d2] }
  | _ => none }
def FnExactAssignedOfWrongFalsely : Prop := fnExactAssignedOfRow.holds Try.pinned (OpenSpec.ofChange fnExactAssignedOfWrong)

/-- 'laws.FnExactRestOf': WHATEVER THE INPUT: true; the input reads as it did. -/
def fnExactRestOfSpec : ChangeSpec := { name := "fnExactRestOf", fn := fun _ => fun
  | [d1, d2] => { results := [.lit (.bool true)], args := [d1, d2] }
  | _ => none }
def fnExactRestOfRow : OpenClaim := { program := "ytkojfdgljmhmlaa", sum := "67c17f9598d78bab3cff1f44364ca757f043f6d1f933abc607f48c11abeecf8f", func := "loop.example/g03313/laws.FnExactRestOf", spec := "fnExactRestOf", apart := false }
def FnExactRestOfSaid : Prop := fnExactRestOfRow.holds Try.pinned (OpenSpec.ofChange fnExactRestOfSpec)

/-- ITS FALSE NEIGHBOUR: 'it returns false'. Refute it at one input. -/
def fnExactRestOfWrong : ChangeSpec := { name := "fnExactRestOf", fn := fun _ => fun
  | [d1, d2] => { results := [.lit (.bool false)], args := [d1, d2] }
  | _ => none }
def FnExactRestOfWrongFalsely : Prop := fnExactRestOfRow.holds Try.pinned (OpenSpec.ofChange fnExactRestOfWrong)

/-- 'laws.FnPlaneOrder': WHATEVER THE INPUT: true; the input reads as it did. -/
def fnPlaneOrderSpec : ChangeSpec := { name := "fnPlaneOrder", fn := fun _ => fun
  | [d] => { results := [.lit (.bool true)], args := [d] }
  | _ => none }
def fnPlaneOrderRow : OpenClaim := { program := "ytkojfdgljmhmlaa", sum := "67c17f9598d78bab3cff1f44364ca757f043f6d1f933abc607f48c11abeecf8f", func := "loop.example/g03313/laws.FnPlaneOrder", spec := "fnPlaneOrder", unfollowed := true, recurses := true, apart := false }
def FnPlaneOrderSaid : Prop := fnPlaneOrderRow.holds Try.pinned (OpenSpec.ofChange fnPlaneOrderSpec)

/-- ITS FALSE NEIGHBOUR: 'it returns false'. Refute it at one input. -/
def fnPlaneOrderWrong : ChangeSpec := { name := "fnPlaneOrder", fn := fun _ => fun
  | [d] => { results := [.lit (.bool false)], args := [d] }
  | _ => none }
def FnPlaneOrderWrongFalsely : Prop := fnPlaneOrderRow.holds Try.pinned (OpenSpec.ofChange fnPlaneOrderWrong)

/-- 'laws.FnExactPlaneImage': WHATEVER THE INPUT: true; the input reads as it did. -/
def fnExactPlaneImageSpec : ChangeSpec := { name := "fnExactPlaneImage", fn := fun _ => fun
  | [d] => { results := [.lit (.bool true)], args := [d] }
  | _ => none }
def fnExactPlaneImageRow : OpenClaim := { program := "ytkojfdgljmhmlaa", sum := "67c17f9598d78bab3cff1f44364ca757f043f6d1f933abc607f48c11abeecf8f", func := "loop.example/g03313/laws.FnExactPlaneImage", spec := "fnExactPlaneImage", unfollowed := true, recurses := true, apart := false }
def FnExactPlaneImageSaid : Prop := fnExactPlaneImageRow.holds Try.pinned (OpenSpec.ofChange fnExactPlaneImageSpec)

/-- ITS FALSE NEIGHBOUR: 'it returns false'. Refute it at one input. -/
def fnExactPlaneImageWrong : ChangeSpec := { name := "fnExactPlaneImage", fn := fun _ => fun
  | [d] => { results := [.lit (.bool false)], args := [d] }
  | _ => none }
def FnExactPlaneImageWrongFalsely : Prop := fnExactPlaneImageRow.holds Try.pinned (OpenSpec.ofChange fnExactPlaneImageWrong)

/-- 'laws.FnExactPlaneOk': WHATEVER THE INPUT: true; the input reads as it did. -/
def fnExactPlaneOkSpec : ChangeSpec := { name := "fnExactPlaneOk", fn := fun _ => fun
  | [d1, d2, d3, d4] => { results := [.lit (.bool true)], args := [d1, d2, d3, d4] }
  | _ => none }
def fnExactPlaneOkRow : OpenClaim := { program := "ytkojfdgljmhmlaa", sum := "67c17f9598d78bab3cff1f44364ca757f043f6d1f933abc607f48c11abeecf8f", func := "loop.example/g03313/laws.FnExactPlaneOk", spec := "fnExactPlaneOk", unfollowed := true, recurses := true, apart := false }
def FnExactPlaneOkSaid : Prop := fnExactPlaneOkRow.holds Try.pinned (OpenSpec.ofChange fnExactPlaneOkSpec)

/-- ITS FALSE NEIGHBOUR: 'it returns false'. Refute it at one input. -/
def fnExactPlaneOkWrong : ChangeSpec := { name := "fnExactPlaneOk", fn := fun _ => fun
  | [d1, d2, d3, d4] => { results := [.lit (.bool false)], args := [d1, d2, d3, d4] }
  | _ => none }
def FnExactPlaneOkWrongFalsely : Prop := fnExactPlaneOkRow.holds Try.pinned (OpenSpec.ofChange fnExactPlaneOkWrong)

/-- 'laws.FnExactPlanesOk': WHATEVER THE INPUT: true; the input reads as it did. -/
def fnExactPlanesOkSpec : ChangeSpec := { name := "fnExactPlanesOk", fn := fun _ => fun
  | [d1, d2, d3] => { results := [.lit (.bool true)], args := [d1, d2, d3] }
  | _ => none }
def fnExactPlanesOkRow : OpenClaim := { program := "ytkojfdgljmhmlaa", sum := "67c17f9598d78bab3cff1f44364ca757f043f6d1f933abc607f48c11abeecf8f", func := "loop.example/g03313/laws.FnExactPlanesOk", spec := "fnExactPlanesOk", unfollowed := true, recurses := true, apart := false }
def FnExactPlanesOkSaid : Prop := fnExactPlanesOkRow.holds Try.pinned (OpenSpec.ofChange fnExactPlanesOkSpec)

/-- ITS FALSE NEIGHBOUR: 'it returns false'. Refute it at one input. -/
def fnExactPlanesOkWrong : ChangeSpec := { name := "fnExactPlanesOk", fn := fun _ => fun
  | [d1, d2, d3] => { results := [.lit (.bool false)], args := [d1, d2, d3] }
  | _ => none }
def FnExactPlanesOkWrongFalsely : Prop := fnExactPlanesOkRow.holds Try.pinned (OpenSpec.ofChange fnExactPlanesOkWrong)

/-- 'laws.FnScanned': WHATEVER THE INPUT: true; the input reads as it did. -/
def fnScannedSpec : ChangeSpec := { name := "fnScanned", fn := fun _ => fun
  | [d] => { results := [.lit (.bool true)], args := [d] }
  | _ => none }
def fnScannedRow : OpenClaim := { program := "ytkojfdgljmhmlaa", sum := "67c17f9598d78bab3cff1f44364ca757f043f6d1f933abc607f48c11abeecf8f", func := "loop.example/g03313/laws.FnScanned", spec := "fnScanned", unfollowed := true, recurses := true, apart := false }
def FnScannedSaid : Prop := fnScannedRow.holds Try.pinned (OpenSpec.ofChange fnScannedSpec)

/-- ITS FALSE NEIGHBOUR: 'it returns false'. Refute it at one input. -/
def fnScannedWrong : ChangeSpec := { name := "fnScanned", fn := fun _ => fun
  | [d] => { results := [.lit (.bool false)], args := [d] }
  | _ => none }
def FnScannedWrongFalsely : Prop := fnScannedRow.holds Try.pinned (OpenSpec.ofChange fnScannedWrong)

/-- 'laws.FnExactPlanesOf': WHATEVER THE INPUT: true; the input reads as it did. -/
def fnExactPlanesOfSpec : ChangeSpec := { name := "fnExactPlanesOf", fn := fun _ => fun
  | [d1, d2, d3] => { results := [.lit (.bool true)], args := [d1, d2, d3] }
  | _ => none }
def fnExactPlanesOfRow : OpenClaim := { program := "ytkojfdgljmhmlaa", sum := "67c17f9598d78bab3cff1f44364ca757f043f6d1f933abc607f48c11abeecf8f", func := "loop.example/g03313/laws.FnExactPlanesOf", spec := "fnExactPlanesOf", apart := false }
def FnExactPlanesOfSaid : Prop := fnExactPlanesOfRow.holds Try.pinned (OpenSpec.ofChange fnExactPlanesOfSpec)

/-- ITS FALSE NEIGHBOUR: 'it returns false'. Refute it at one input. -/
def fnExactPlanesOfWrong : ChangeSpec := { name := "fnExactPlanesOf", fn := fun _ => fun
  | [d1, d2, d3] => { results := [.lit (.bool false)], args := [d1, d2, d3] }
  | _ => none }
def FnExactPlanesOfWrongFalsely : Prop := fnExactPlanesOfRow.holds Try.pinned (OpenSpec.ofChange fnExactPlanesOfWrong)

/-- 'laws.FnExactScanPixel': WHATEVER THE INPUT: true; the input reads as it did. -/
def fnExactScanPixelSpec : ChangeSpec := { name := "fnExactScanPixel", fn := fun _ => fun
  | [d1, d2, d3, d4, d5] => { results := [.lit (.bool true)], args := [d1, d2, d3, d4, d5] }
  | _ => none }
def fnExactScanPixelRow : OpenClaim := { program := "ytkojfdgljmhmlaa", sum := "67c17f9598d78bab3cff1f44364ca757f043f6d1f933abc607f48c11abeecf8f", func := "loop.example/g03313/laws.FnExactScanPixel", spec := "fnExactScanPixel", unfollowed := true, recurses := true, apart := false }
def FnExactScanPixelSaid : Prop := fnExactScanPixelRow.holds Try.pinned (OpenSpec.ofChange fnExactScanPixelSpec)

/-- ITS FALSE NEIGHBOUR: 'it returns false'. Refute it at one input. -/
def fnExactScanPixelWrong : ChangeSpec := { name := "fnExactScanPixel", fn := fun _ => fun
  | [d1, d2, d3, d4, d5] => { results := [.lit (.bool false)], args := [d1, d2, d3, d4, d5] }
  | _ => none }
def FnExactScanPixelWrongFalsely : Prop := fnExactScanPixelRow.holds Try.pinned (OpenSpec.ofChange fnExactScanPixelWrong)

/-- 'laws.FnExactScanLine': WHATEVER THE INPUT: true; the input reads as it did. -/
def fnExactScanLineSpec : ChangeSpec := { name := "fnExactScanLine", fn := fun _ => fun
  | [d1, d2, d3, d4] => { results := [.lit (.bool true)], args := [d1, d2, d3, d4] }
  | _ => none }
def fnExactScanLineRow : OpenClaim := { program := "ytkojfdgljmhmlaa", sum := "67c17f9598d78bab3cff1f44364ca757f043f6d1f933abc607f48c11abeecf8f", func := "loop.example/g03313/laws.FnExactScanLine", spec := "fnExactScanLine", unfollowed := true, recurses := true, apart := false }
def FnExactScanLineSaid : Prop := fnExactScanLineRow.holds Try.pinned (OpenSpec.ofChange fnExactScanLineSpec)

/-- ITS FALSE NEIGHBOUR: 'it returns false'. Refute it at one input. -/
def fnExactScanLineWrong : ChangeSpec := { name := "fnExactScanLine", fn := fun _ => fun
  | [d1, d2, d3, d4] => { results := [.lit (.bool false)], args := [d1, d2, d3, d4] }
  | _ => none }
def FnExactScanLineWrongFalsely : Prop := fnExactScanLineRow.holds Try.pinned (OpenSpec.ofChange fnExactScanLineWrong)

/-- 'laws.FnExactScanOut': WHATEVER THE INPUT: true; the input reads as it did. -/
def fnExactScanOutSpec : ChangeSpec := { name := "fnExactScanOut", fn := fun _ => fun
  | [d1, d2, d3] => { results := [.lit (.bool true)], args := [d1, d2, d3] }
  | _ => none }
def fnExactScanOutRow : OpenClaim := { program := "ytkojfdgljmhmlaa", sum := "67c17f9598d78bab3cff1f44364ca757f043f6d1f933abc607f48c11abeecf8f", func := "loop.example/g03313/laws.FnExactScanOut", spec := "fnExactScanOut", unfollowed := true, recurses := true, apart := false }
def FnExactScanOutSaid : Prop := fnExactScanOutRow.holds Try.pinned (OpenSpec.ofChange fnExactScanOutSpec)

/-- ITS FALSE NEIGHBOUR: 'it returns false'. Refute it at one input. -/
def fnExactScanOutWrong : ChangeSpec := { name := "fnExactScanOut", fn := fun _ => fun
  | [d1, d2, d3] => { results := [.lit (.bool false)], args := [d1, d2, d3] }
  | _ => none }
def FnExactScanOutWrongFalsely : Prop := fnExactScanOutRow.holds Try.pinned (OpenSpec.ofChange fnExactScanOutWrong)

/- THE SECOND FORM. 'bulk': how many values and letters a reading holds, each counted each time it is reached (what is shared counts as often as it is met; a slice's spare places count too). A statement '..UptoSaid' is the law's where the arguments, and the package variables that the reading takes, are together of bulk at most 1048576: NARROWER than '..Said'. Prove '..Said' where nothing that the law and all that it calls make is longer than what came in: it says more and counts as full. Else prove '..UptoSaid'. A law counts once. -/
mutual
def uptoBulk {H : Type} : DataW H → Nat
  | .lit (.string bytes) => bytes.length + 1
  | .lit _ => 1
  | .nil => 1
  | .ptr d => uptoBulk d + 1
  | .slice elems spare => uptoBulkAll elems + uptoBulkAll spare + 1
  | .agg parts => uptoBulkAll parts + 1
  | .iface _ d => uptoBulk d + 1
  | .map entries => uptoBulkEntries entries + 1
  | .held _ => 1
def uptoBulkAll {H : Type} : List (DataW H) → Nat
  | [] => 0
  | d :: r => uptoBulk d + uptoBulkAll r
def uptoBulkEntries {H : Type} : List (Lit × DataW H) → Nat
  | [] => 0
  | x :: r => uptoBulkEntry x + uptoBulkEntries r
def uptoBulkEntry {H : Type} : Lit × DataW H → Nat
  | (.string bytes, d) => bytes.length + uptoBulk d + 1
  | (_, d) => uptoBulk d + 1
 end
def uptoSmall : (H : Type) → List (DataW H) → Bool := fun _ ds => decide (uptoBulkAll ds ≤ 1048576)
def OpenSpec.upto (s : _root_.Go.ChangeSpec) : _root_.Go.OpenSpec := { _root_.Go.OpenSpec.ofChange s with cond := some uptoSmall }

/-- 'laws.FnMorePlanes', WHERE WHAT IT READS IS OF BULK AT MOST 1048576: true; the input reads as it did. -/
def fnMorePlanesUptoRow : OpenClaim := { program := "ytkojfdgljmhmlaa", sum := "67c17f9598d78bab3cff1f44364ca757f043f6d1f933abc607f48c11abeecf8f", func := "loop.example/g03313/laws.FnMorePlanes", spec := "fnMorePlanes", apart := false, narrowed := true }
def FnMorePlanesUptoSaid : Prop := fnMorePlanesUptoRow.holds Try.pinned (OpenSpec.upto fnMorePlanesSpec)

/-- 'laws.FnExactAssignedOf', WHERE WHAT IT READS IS OF BULK AT MOST 1048576: true; the input reads as it did. -/
def fnExactAssignedOfUptoRow : OpenClaim := { program := "ytkojfdgljmhmlaa", sum := "67c17f9598d78bab3cff1f44364ca757f043f6d1f933abc607f48c11abeecf8f", func := "loop.example/g03313/laws.FnExactAssignedOf", spec := "fnExactAssignedOf", apart := false, narrowed := true }
def FnExactAssignedOfUptoSaid : Prop := fnExactAssignedOfUptoRow.holds Try.pinned (OpenSpec.upto fnExactAssignedOfSpec)

/-- 'laws.FnExactRestOf', WHERE WHAT IT READS IS OF BULK AT MOST 1048576: true; the input reads as it did. -/
def fnExactRestOfUptoRow : OpenClaim := { program := "ytkojfdgljmhmlaa", sum := "67c17f9598d78bab3cff1f44364ca757f043f6d1f933abc607f48c11abeecf8f", func := "loop.example/g03313/laws.FnExactRestOf", spec := "fnExactRestOf", apart := false, narrowed := true }
def FnExactRestOfUptoSaid : Prop := fnExactRestOfUptoRow.holds Try.pinned (OpenSpec.upto fnExactRestOfSpec)

/-- 'laws.FnPlaneOrder', WHERE WHAT IT READS IS OF BULK AT MOST 1048576: true; the input reads as it did. -/
def fnPlaneOrderUptoRow : OpenClaim := { program := "ytkojfdgljmhmlaa", sum := "67c17f9598d78bab3cff1f44364ca757f043f6d1f933abc607f48c11abeecf8f", func := "loop.example/g03313/laws.FnPlaneOrder", spec := "fnPlaneOrder", unfollowed := true, recurses := true, apart := false, narrowed := true }
def FnPlaneOrderUptoSaid : Prop := fnPlaneOrderUptoRow.holds Try.pinned (OpenSpec.upto fnPlaneOrderSpec)

/-- 'laws.FnExactPlaneImage', WHERE WHAT IT READS IS OF BULK AT MOST 1048576: true; the input reads as it did. -/
def fnExactPlaneImageUptoRow : OpenClaim := { program := "ytkojfdgljmhmlaa", sum := "67c17f9598d78bab3cff1f44364ca757f043f6d1f933abc607f48c11abeecf8f", func := "loop.example/g03313/laws.FnExactPlaneImage", spec := "fnExactPlaneImage", unfollowed := true, recurses := true, apart := false, narrowed := true }
def FnExactPlaneImageUptoSaid : Prop := fnExactPlaneImageUptoRow.holds Try.pinned (OpenSpec.upto fnExactPlaneImageSpec)

/-- 'laws.FnExactPlaneOk', WHERE WHAT IT READS IS OF BULK AT MOST 1048576: true; the input reads as it did. -/
def fnExactPlaneOkUptoRow : OpenClaim := { program := "ytkojfdgljmhmlaa", sum := "67c17f9598d78bab3cff1f44364ca757f043f6d1f933abc607f48c11abeecf8f", func := "loop.example/g03313/laws.FnExactPlaneOk", spec := "fnExactPlaneOk", unfollowed := true, recurses := true, apart := false, narrowed := true }
def FnExactPlaneOkUptoSaid : Prop := fnExactPlaneOkUptoRow.holds Try.pinned (OpenSpec.upto fnExactPlaneOkSpec)

/-- 'laws.FnExactPlanesOk', WHERE WHAT IT READS IS OF BULK AT MOST 1048576: true; the input reads as it did. -/
def fnExactPlanesOkUptoRow : OpenClaim := { program := "ytkojfdgljmhmlaa", sum := "67c17f9598d78bab3cff1f44364ca757f043f6d1f933abc607f48c11abeecf8f", func := "loop.example/g03313/laws.FnExactPlanesOk", spec := "fnExactPlanesOk", unfollowed := true, recurses := true, apart := false, narrowed := true }
def FnExactPlanesOkUptoSaid : Prop := fnExactPlanesOkUptoRow.holds Try.pinned (OpenSpec.upto fnExactPlanesOkSpec)

/-- 'laws.FnScanned', WHERE WHAT IT READS IS OF BULK AT MOST 1048576: true; the input reads as it did. -/
def fnScannedUptoRow : OpenClaim := { program := "ytkojfdgljmhmlaa", sum := "67c17f9598d78bab3cff1f44364ca757f043f6d1f933abc607f48c11abeecf8f", func := "loop.example/g03313/laws.FnScanned", spec := "fnScanned", unfollowed := true, recurses := true, apart := false, narrowed := true }
def FnScannedUptoSaid : Prop := fnScannedUptoRow.holds Try.pinned (OpenSpec.upto fnScannedSpec)

/-- 'laws.FnExactPlanesOf', WHERE WHAT IT READS IS OF BULK AT MOST 1048576: true; the input reads as it did. -/
def fnExactPlanesOfUptoRow : OpenClaim := { program := "ytkojfdgljmhmlaa", sum := "67c17f9598d78bab3cff1f44364ca757f043f6d1f933abc607f48c11abeecf8f", func := "loop.example/g03313/laws.FnExactPlanesOf", spec := "fnExactPlanesOf", apart := false, narrowed := true }
def FnExactPlanesOfUptoSaid : Prop := fnExactPlanesOfUptoRow.holds Try.pinned (OpenSpec.upto fnExactPlanesOfSpec)

/-- 'laws.FnExactScanPixel', WHERE WHAT IT READS IS OF BULK AT MOST 1048576: true; the input reads as it did. -/
def fnExactScanPixelUptoRow : OpenClaim := { program := "ytkojfdgljmhmlaa", sum := "67c17f9598d78bab3cff1f44364ca757f043f6d1f933abc607f48c11abeecf8f", func := "loop.example/g03313/laws.FnExactScanPixel", spec := "fnExactScanPixel", unfollowed := true, recurses := true, apart := false, narrowed := true }
def FnExactScanPixelUptoSaid : Prop := fnExactScanPixelUptoRow.holds Try.pinned (OpenSpec.upto fnExactScanPixelSpec)

/-- 'laws.FnExactScanLine', WHERE WHAT IT READS IS OF BULK AT MOST 1048576: true; the input reads as it did. -/
def fnExactScanLineUptoRow : OpenClaim := { program := "ytkojfdgljmhmlaa", sum := "67c17f9598d78bab3cff1f44364ca757f043f6d1f933abc607f48c11abeecf8f", func := "loop.example/g03313/laws.FnExactScanLine", spec := "fnExactScanLine", unfollowed := true, recurses := true, apart := false, narrowed := true }
def FnExactScanLineUptoSaid : Prop := fnExactScanLineUptoRow.holds Try.pinned (OpenSpec.upto fnExactScanLineSpec)

/-- 'laws.FnExactScanOut', WHERE WHAT IT READS IS OF BULK AT MOST 1048576: true; the input reads as it did. -/
def fnExactScanOutUptoRow : OpenClaim := { program := "ytkojfdgljmhmlaa", sum := "67c17f9598d78bab3cff1f44364ca757f043f6d1f933abc607f48c11abeecf8f", func := "loop.example/g03313/laws.FnExactScanOut", spec := "fnExactScanOut", unfollowed := true, recurses := true, apart := false, narrowed := true }
def FnExactScanOutUptoSaid : Prop := fnExactScanOutUptoRow.holds Try.pinned (OpenSpec.upto fnExactScanOutSpec)

end Rows
end Go.Proofs.Ytkojfdgljmhmlaa
