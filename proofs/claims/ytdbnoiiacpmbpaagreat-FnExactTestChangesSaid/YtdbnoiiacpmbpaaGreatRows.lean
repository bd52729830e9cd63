/-
  No cell of these rows narrows 'for every input' (looked for: loops, veiled, ifaces, maps, wideKeys, modest, calm, conditions, laid).
  DERIVED. THE GIVEN ROWS OF THIS SEAT. 6 by the template 'for every input the law returns true; each argument reads behind the call as it read before'; 0 by the template 'total and deterministic' (their statements: YtdbnoiiacpmbpaaGreatTotals.lean).
  GIVEN WITH THE SEED: the statements are not yours to turn. If you find one false, say at which input.
  Laid BY PROGRAM, IN A SANDBOX (cutbox-rows.mjs): the forced cells as the released guide's own fill.sh prints them over the translation 1aae8a240c70cff5… (all of the seat's roots in one cut). By AI agents, Wed Nov 11 2026. No macro, syntax, notation, axiom, sorry.
-/
import Derived.Test.YtdbnoiiacpmbpaaGreatChecked
import GoSem.Claim
import GoSem.ClaimJoined
import GoSem.ClaimMapViews
import Derived.JoinedTies
import Derived.KernelRfl
namespace Go.Proofs.YtdbnoiiacpmbpaaGreat
/- THE CELL 'sum', in the pinned program and in every row, IS THE sha256 OF THE DUMP (.gsa) THAT YtdbnoiiacpmbpaaGreatProg.lean LOADS. Nothing in Lean hashes anything: it is a label: what it is worth is what the hold of that sum in a sandbox is worth. -/
noncomputable def Tryz.pinned : Pinned := { name := "ytdbnoiiacpmbpaagreat", sum := "1aae8a240c70cff5e3cf0f9150a5436fbdea35c14a3c41c411255bcca27cfe29", checked := Tryz.checked }
namespace Rows
def none {H : Type} : Left H := { results := [], args := [] }

/-- 'laws.FnExactScanDots': WHATEVER THE INPUT: true; the input reads as it did. -/
def fnExactScanDotsSpec : ChangeSpec := { name := "fnExactScanDots", fn := fun _ => fun
  | [d1, d2, d3, d4, d5] => { results := [.lit (.bool true)], args := [d1, d2, d3, d4, d5] }
  | _ => none }
def fnExactScanDotsRow : OpenClaim := { program := "ytdbnoiiacpmbpaagreat", sum := "1aae8a240c70cff5e3cf0f9150a5436fbdea35c14a3c41c411255bcca27cfe29", func := "loop.example/g03313/laws.FnExactScanDots", spec := "fnExactScanDots", unfollowed := true, recurses := true, apart := false }
def FnExactScanDotsSaid : Prop := fnExactScanDotsRow.holds Tryz.pinned (OpenSpec.ofChange fnExactScanDotsSpec)

/-- ITS FALSE NEIGHBOUR: 'it returns false'. Refute it at one input. -/
def fnExactScanDotsWrong : ChangeSpec := { name := "fnExactScanDots", fn := fun _ => fun
  | [d1, d2, d3, d4, d5] => { results := [.lit (.bool false)], args := [d1, d2, d3, d4, d5] }
  | _ => none }
def FnExactScanDotsWrongFalsely : Prop := fnExactScanDotsRow.holds Tryz.pinned (OpenSpec.ofChange fnExactScanDotsWrong)

/-- 'laws.FnExactTestChanges': WHATEVER THE INPUT: true; the input reads as it did. -/
def fnExactTestChangesSpec : ChangeSpec := { name := "fnExactTestChanges", fn := fun _ => fun
  | [d1, d2] => { results := [.lit (.bool true)], args := [d1, d2] }
  | _ => none }
def fnExactTestChangesRow : OpenClaim := { program := "ytdbnoiiacpmbpaagreat", sum := "1aae8a240c70cff5e3cf0f9150a5436fbdea35c14a3c41c411255bcca27cfe29", func := "loop.example/g03313/laws.FnExactTestChanges", spec := "fnExactTestChanges", unfollowed := true, recurses := true, apart := false }
def FnExactTestChangesSaid : Prop := fnExactTestChangesRow.holds Tryz.pinned (OpenSpec.ofChange fnExactTestChangesSpec)

/-- ITS FALSE NEIGHBOUR: 'it returns false'. Refute it at one input. -/
def fnExactTestChangesWrong : ChangeSpec := { name := "fnExactTestChanges", fn := fun _ => fun
  | [d1, d2] => { results := [.lit (.bool false)], args := [d1, d2] }
  | _ => none }
def FnExactTestChangesWrongFalsely : Prop := fnExactTestChangesRow.holds Tryz.pinned (OpenSpec.ofChange fnExactTestChangesWrong)

/-- 'laws.FnExactQueueFlip': WHATEVER THE INPUT: true; the input reads as it did. -/
def fnExactQueueFlipSpec : ChangeSpec := { name := "fnExactQueueFlip", fn := fun _ => fun
  | [d1, d2, d3] => { results := [.lit (.bool true)], args := [d1, d2, d3] }
  | _ => none }
def fnExactQueueFlipRow : OpenClaim := { program := "ytdbnoiiacpmbpaagreat", sum := "1aae8a240c70cff5e3cf0f9150a5436fbdea35c14a3c41c411255bcca27cfe29", func := "loop.example/g03313/laws.FnExactQueueFlip", spec := "fnExactQueueFlip", unfollowed := true, recurses := true, apart := false }
def FnExactQueueFlipSaid : Prop := fnExactQueueFlipRow.holds Tryz.pinned (OpenSpec.ofChange fnExactQueueFlipSpec)

/-- ITS FALSE NEIGHBOUR: 'it returns false'. Refute it at one input. -/
def fnExactQueueFlipWrong : ChangeSpec := { name := "fnExactQueueFlip", fn := fun _ => fun
  | [d1, d2, d3] => { results := [.lit (.bool false)], args := [d1, d2, d3] }
  | _ => none }
def FnExactQueueFlipWrongFalsely : Prop := fnExactQueueFlipRow.holds Tryz.pinned (OpenSpec.ofChange fnExactQueueFlipWrong)

/-- 'laws.FnExactTakeFlip': WHATEVER THE INPUT: true; the input reads as it did. -/
def fnExactTakeFlipSpec : ChangeSpec := { name := "fnExactTakeFlip", fn := fun _ => fun
  | [d1, d2] => { results := [.lit (.bool true)], args := [d1, d2] }
  | _ => none }
def fnExactTakeFlipRow : OpenClaim := { program := "ytdbnoiiacpmbpaagreat", sum := "1aae8a240c70cff5e3cf0f9150a5436fbdea35c14a3c41c411255bcca27cfe29", func := "loop.example/g03313/laws.FnExactTakeFlip", spec := "fnExactTakeFlip", unfollowed := true, recurses := true, apart := false }
def FnExactTakeFlipSaid : Prop := fnExactTakeFlipRow.holds Tryz.pinned (OpenSpec.ofChange fnExactTakeFlipSpec)

/-- ITS FALSE NEIGHBOUR: 'it returns false'. Refute it at one input. -/
def fnExactTakeFlipWrong : ChangeSpec := { name := "fnExactTakeFlip", fn := fun _ => fun
  | [d1, d2] => { results := [.lit (.bool false)], args := [d1, d2] }
  | _ => none }
def FnExactTakeFlipWrongFalsely : Prop := fnExactTakeFlipRow.holds Tryz.pinned (OpenSpec.ofChange fnExactTakeFlipWrong)

/-- 'laws.FnExactSignalFence': WHATEVER THE INPUT: true; the input reads as it did. -/
def fnExactSignalFenceSpec : ChangeSpec := { name := "fnExactSignalFence", fn := fun _ => fun
  | [d1, d2] => { results := [.lit (.bool true)], args := [d1, d2] }
  | _ => none }
def fnExactSignalFenceRow : OpenClaim := { program := "ytdbnoiiacpmbpaagreat", sum := "1aae8a240c70cff5e3cf0f9150a5436fbdea35c14a3c41c411255bcca27cfe29", func := "loop.example/g03313/laws.FnExactSignalFence", spec := "fnExactSignalFence", inPlace := ["slices.overlaps[int]"], unfollowed := true, recurses := true, apart := false }
def FnExactSignalFenceSaid : Prop := fnExactSignalFenceRow.holds Tryz.pinned (OpenSpec.ofChange fnExactSignalFenceSpec)

/-- ITS FALSE NEIGHBOUR: 'it returns false'. Refute it at one input. -/
def fnExactSignalFenceWrong : ChangeSpec := { name := "fnExactSignalFence", fn := fun _ => fun
  | [d1, d2] => { results := [.lit (.bool false)], args := [d1, d2] }
  | _ => none }
def FnExactSignalFenceWrongFalsely : Prop := fnExactSignalFenceRow.holds Tryz.pinned (OpenSpec.ofChange fnExactSignalFenceWrong)

/-- 'laws.FnChangesLead': WHATEVER THE INPUT: true; the input reads as it did. -/
def fnChangesLeadSpec : ChangeSpec := { name := "fnChangesLead", fn := fun _ => fun
  | [d] => { results := [.lit (.bool true)], args := [d] }
  | _ => none }
def fnChangesLeadRow : OpenClaim := { program := "ytdbnoiiacpmbpaagreat", sum := "1aae8a240c70cff5e3cf0f9150a5436fbdea35c14a3c41c411255bcca27cfe29", func := "loop.example/g03313/laws.FnChangesLead", spec := "fnChangesLead", unfollowed := true, recurses := true, apart := false }
def FnChangesLeadSaid : Prop := fnChangesLeadRow.holds Tryz.pinned (OpenSpec.ofChange fnChangesLeadSpec)

/-- ITS FALSE NEIGHBOUR: 'it returns false'. Refute it at one input. -/
def fnChangesLeadWrong : ChangeSpec := { name := "fnChangesLead", fn := fun _ => fun
  | [d] => { results := [.lit (.bool false)], args := [d] }
  | _ => none }
def FnChangesLeadWrongFalsely : Prop := fnChangesLeadRow.holds Tryz.pinned (OpenSpec.ofChange fnChangesLeadWrong)

/- THE SECOND FORM. 'bulk': how many values and letters a reading holds, each counted each time it is reached (what is shared counts as often as it is met; a slice's spare places count too). A statement '..UptoSaid' is the law's where the arguments, and the package variables that the reading takes, are together of bulk at most 1048576: NARROWER than '..Said'. Prove '..Said' where nothing that the law and all that it calls make is longer than what came in: it says more and counts as full. Else prove '..UptoSaid'. A law counts once. -/
mutual
def uptoBulk {H : Type} : DataW H → Nat
  | .lit (.string bytes) => bytes.length + 1
  | .lit _ => 1
  | .nil => 1
  | .ptr d => uptoBulk d + 1
  | .slice elems spare => uptoBulkAll elems + uptoBulkAll spare + 1
  | .agg parts => uptoBulkAll parts + 1
  | .iface _ d => uptoBulk d + 1
  | .map entries => uptoBulkEntries entries + 1
  | .held _ => 1
def uptoBulkAll {H : Type} : List (DataW H) → Nat
  | [] => 0
  | d :: r => uptoBulk d + uptoBulkAll r
def uptoBulkEntries {H : Type} : List (Lit × DataW H) → Nat
  | [] => 0
  | x :: r => uptoBulkEntry x + uptoBulkEntries r
def uptoBulkEntry {H : Type} : Lit × DataW H → Nat
  | (.string bytes, d) => bytes.length + uptoBulk d + 1
  | (_, d) => uptoBulk d + 1
 end
def uptoSmall : (H : Type) → List (DataW H) → Bool := fun _ ds => decide (uptoBulkAll ds ≤ 1048576)
def OpenSpec.upto (s : _root_.Go.ChangeSpec) : _root_.Go.OpenSpec := { _root_.Go.OpenSpec.ofChange s with cond := some uptoSmall }

/-- 'laws.FnExactScanDots', WHERE WHAT IT READS IS OF BULK AT MOST 1048576: true; the input reads as it did. -/
def fnExactScanDotsUptoRow : OpenClaim := { program := "ytdbnoiiacpmbpaagreat", sum := "1aae8a240c70cff5e3cf0f9150a5436fbdea35c14a3c41c411255bcca27cfe29", func := "loop.example/g03313/laws.FnExactScanDots", spec := "fnExactScanDots", unfollowed := true, recurses := true, apart := false, narrowed := true }
def FnExactScanDotsUptoSaid : Prop := fnExactScanDotsUptoRow.holds Tryz.pinned (OpenSpec.upto fnExactScanDotsSpec)

/-- 'laws.FnExactTestChanges', WHERE WHAT IT READS IS OF BULK AT MOST 1048576: true; the input reads as it did. -/
def fnExactTestChangesUptoRow : OpenClaim := { program := "ytdbnoiiacpmbpaagreat", sum := "1aae8a240c70cff5e3cf0f9150a5436fbdea35c14a3c41c411255bcca27cfe29", func := "loop.example/g03313/laws.FnExactTestChanges", spec := "fnExactTestChanges", unfollowed := true, recurses := true, apart := false, narrowed := true }
def FnExactTestChangesUptoSaid : Prop := fnExactTestChangesUptoRow.holds Tryz.pinned (OpenSpec.upto fnExactTestChangesSpec)

/-- 'laws.FnExactQueueFlip', WHERE WHAT IT READS IS OF BULK AT MOST 1048576: true; the input reads as it did. -/
def fnExactQueueFlipUptoRow : OpenClaim := { program := "ytdbnoiiacpmbpaagreat", sum := "1aae8a240c70cff5e3cf0f9150a5436fbdea35c14a3c41c411255bcca27cfe29", func := "loop.example/g03313/laws.FnExactQueueFlip", spec := "fnExactQueueFlip", unfollowed := true, recurses := true, apart := false, narrowed := true }
def FnExactQueueFlipUptoSaid : Prop := fnExactQueueFlipUptoRow.holds Tryz.pinned (OpenSpec.upto fnExactQueueFlipSpec)

/-- 'laws.FnExactTakeFlip', WHERE WHAT IT READS IS OF BULK AT MOST 1048576: true; the input reads as it did. -/
def fnExactTakeFlipUptoRow : OpenClaim := { program := "ytdbnoiiacpmbpaagreat", sum := "1aae8a240c70cff5e3cf0f9150a5436fbdea35c14a3c41c411255bcca27cfe29", func := "loop.example/g03313/laws.FnExactTakeFlip", spec := "fnExactTakeFlip", unfollowed := true, recurses := true, apart := false, narrowed := true }
def FnExactTakeFlipUptoSaid : Prop := fnExactTakeFlipUptoRow.holds Tryz.pinned (OpenSpec.upto fnExactTakeFlipSpec)

/-- 'laws.FnExactSignalFence', WHERE WHAT IT READS IS OF BULK AT MOST 1048576: true; the input reads as it did. -/
def fnExactSignalFenceUptoRow : OpenClaim := { program := "ytdbnoiiacpmbpaagreat", sum := "1aae8a240c70cff5e3cf0f9150a5436fbdea35c14a3c41c411255bcca27cfe29", func := "loop.example/g03313/laws.FnExactSignalFence", spec := "fnExactSignalFence", inPlace := ["slices.overlaps[int]"], unfollowed := true, recurses := true, apart := false, narrowed := true }
def FnExactSignalFenceUptoSaid : Prop := fnExactSignalFenceUptoRow.holds Tryz.pinned (OpenSpec.upto fnExactSignalFenceSpec)

/-- 'laws.FnChangesLead', WHERE WHAT IT READS IS OF BULK AT MOST 1048576: true; the input reads as it did. -/
def fnChangesLeadUptoRow : OpenClaim := { program := "ytdbnoiiacpmbpaagreat", sum := "1aae8a240c70cff5e3cf0f9150a5436fbdea35c14a3c41c411255bcca27cfe29", func := "loop.example/g03313/laws.FnChangesLead", spec := "fnChangesLead", unfollowed := true, recurses := true, apart := false, narrowed := true }
def FnChangesLeadUptoSaid : Prop := fnChangesLeadUptoRow.holds Tryz.pinned (OpenSpec.upto fnChangesLeadSpec)

end Rows
end Go.Proofs.YtdbnoiiacpmbpaaGreat
