/-
  No cell of these rows narrows 'for every input' (looked for: loops, veiled, ifaces, maps, wideKeys, modest, calm, conditions, laid).
  DERIVED. THE GIVEN ROWS OF THIS SEAT. 4 by the template 'for every input the law returns true; each argument reads behind the call as it read before'; 0 by the template 'total and deterministic' (their statements: YtmhalmnbgkpmnaaGreatTotals.lean).
  GIVEN WITH THE SEED: the statements are not yours to turn. If you find one false, say at which input.
  Laid BY PROGRAM, IN A SANDBOX (cutbox-rows.mjs): the forced cells as the released guide's own fill.sh prints them over the translation d8d6d9610149f3a6… (all of the seat's roots in one cut). By AI agents, Wed Nov 11 2026. No macro, syntax, notation, axiom, sorry.
-/
import Derived.Test.YtmhalmnbgkpmnaaGreatChecked
import GoSem.Claim
import GoSem.ClaimJoined
import GoSem.ClaimMapViews
import Derived.JoinedTies
import Derived.KernelRfl
namespace Go.Proofs.YtmhalmnbgkpmnaaGreat
/- THE CELL 'sum', in the pinned program and in every row, IS THE sha256 OF THE DUMP (.gsa) THAT YtmhalmnbgkpmnaaGreatProg.lean LOADS. Nothing in Lean hashes anything: it is a label: what it is worth is what the hold of that sum in a sandbox is worth. -/
noncomputable def Tryz.pinned : Pinned := { name := "ytmhalmnbgkpmnaagreat", sum := "d8d6d9610149f3a623490fd42c547329f52ec67805fef8a75783e2aa2b9ef0fa", checked := Tryz.checked }
namespace Rows
def none {H : Type} : Left H := { results := [], args := [] }

/-- 'laws.FnExactTakeFlip': WHATEVER THE INPUT: true; the input reads as it did. -/
def fnExactTakeFlipSpec : ChangeSpec := { name := "fnExactTakeFlip", fn := fun _ => fun
  | [d1, d2] => { results := [.lit (.bool true)], args := [d1, d2] }
  | _ => none }
def fnExactTakeFlipRow : OpenClaim := { program := "ytmhalmnbgkpmnaagreat", sum := "d8d6d9610149f3a623490fd42c547329f52ec67805fef8a75783e2aa2b9ef0fa", func := "loop.example/g03313/laws.FnExactTakeFlip", spec := "fnExactTakeFlip", unfollowed := true, recurses := true, apart := false }
def FnExactTakeFlipSaid : Prop := fnExactTakeFlipRow.holds Tryz.pinned (OpenSpec.ofChange fnExactTakeFlipSpec)

/-- ITS FALSE NEIGHBOUR: 'it returns false'. Refute it at one input. -/
def fnExactTakeFlipWrong : ChangeSpec := { name := "fnExactTakeFlip", fn := fun _ => fun
  | [d1, d2] => { results := [.lit (.bool false)], args := [d1, d2] }
  | _ => none }
def FnExactTakeFlipWrongFalsely : Prop := fnExactTakeFlipRow.holds Tryz.pinned (OpenSpec.ofChange fnExactTakeFlipWrong)

/-- 'laws.FnExactSignalFence': WHATEVER THE INPUT: true; the input reads as it did. -/
def fnExactSignalFenceSpec : ChangeSpec := { name := "fnExactSignalFence", fn := fun _ => fun
  | [d1, d2] => { results := [.lit (.bool true)], args := [d1, d2] }
  | _ => none }
def fnExactSignalFenceRow : OpenClaim := { program := "ytmhalmnbgkpmnaagreat", sum := "d8d6d9610149f3a623490fd42c547329f52ec67805fef8a75783e2aa2b9ef0fa", func := "loop.example/g03313/laws.FnExactSignalFence", spec := "fnExactSignalFence", inPlace := ["slices.overlaps[int]"], unfollowed := true, recurses := true, apart := false }
def FnExactSignalFenceSaid : Prop := fnExactSignalFenceRow.holds Tryz.pinned (OpenSpec.ofChange fnExactSignalFenceSpec)

/-- ITS FALSE NEIGHBOUR: 'it returns false'. Refute it at one input. -/
def fnExactSignalFenceWrong : ChangeSpec := { name := "fnExactSignalFence", fn := fun _ => fun
  | [d1, d2] => { results := [.lit (.bool false)], args := [d1, d2] }
  | _ => none }
def FnExactSignalFenceWrongFalsely : Prop := fnExactSignalFenceRow.holds Tryz.pinned (OpenSpec.ofChange fnExactSignalFenceWrong)

/-- 'laws.FnChangesLead': WHATEVER THE INPUT: true; the input reads as it did. -/
def fnChangesLeadSpec : ChangeSpec := { name := "fnChangesLead", fn := fun _ => fun
  | [d] => { results := [.lit (.bool true)], args := [d] }
  | _ => none }
def fnChangesLeadRow : OpenClaim := { program := "ytmhalmnbgkpmnaagreat", sum := "d8d6d9610149f3a623490fd42c547329f52ec67805fef8a75783e2aa2b9ef0fa", func := "loop.example/g03313/laws.FnChangesLead", spec := "fnChangesLead", unfollowed := true, recurses := true, apart := false }
def FnChangesLeadSaid : Prop := fnChangesLeadRow.holds Tryz.pinned (OpenSpec.ofChange fnChangesLeadSpec)

/-- ITS FALSE NEIGHBOUR: 'it returns false'. Refute it at one input. -/
def fnChangesLeadWrong : ChangeSpec := { name := "fnChangesLead", fn := fun _ => fun
  | [d] => { results := [.lit (.bool false)], args := [d] }
  | _ => none }
def FnChangesLeadWrongFalsely : Prop := fnChangesLeadRow.holds Tryz.pinned (OpenSpec.ofChange fnChangesLeadWrong)

/-- 'laws.FnFlipsOnce': WHATEVER THE INPUT: true; the input reads as it did. -/
def fnFlipsOnceSpec : ChangeSpec := { name := "fnFlipsOnce", fn := fun _ => fun
  | [d] => { results := [.lit (.bool true)], args := [d] }
  | _ => none }
def fnFlipsOnceRow : OpenClaim := { program := "ytmhalmnbgkpmnaagreat", sum := "d8d6d9610149f3a623490fd42c547329f52ec67805fef8a75783e2aa2b9ef0fa", func := "loop.example/g03313/laws.FnFlipsOnce", spec := "fnFlipsOnce", inPlace := ["slices.overlaps[int]"], unfollowed := true, recurses := true, apart := false }
def FnFlipsOnceSaid : Prop := fnFlipsOnceRow.holds Tryz.pinned (OpenSpec.ofChange fnFlipsOnceSpec)

/-- ITS FALSE NEIGHBOUR: 'it returns false'. Refute it at one input. -/
def fnFlipsOnceWrong : ChangeSpec := { name := "fnFlipsOnce", fn := fun _ => fun
  | [d] => { results := [.lit (.bool false)], args := [d] }
  | _ => none }
def FnFlipsOnceWrongFalsely : Prop := fnFlipsOnceRow.holds Tryz.pinned (OpenSpec.ofChange fnFlipsOnceWrong)

/- THE SECOND FORM. 'bulk': how many values and letters a reading holds, each counted each time it is reached (what is shared counts as often as it is met; a slice's spare places count too). A statement '..UptoSaid' is the law's where the arguments, and the package variables that the reading takes, are together of bulk at most 1048576: NARROWER than '..Said'. Prove '..Said' where nothing that the law and all that it calls make is longer than what came in: it says more and counts as full. Else prove '..UptoSaid'. A law counts once. -/
mutual
def uptoBulk {H : Type} : DataW H → Nat
  | .lit (.string bytes) => bytes.length + 1
  | .lit _ => 1
  | .nil => 1
  | .ptr d => uptoBulk d + 1
  | .slice elems spare => uptoBulkAll elems + uptoBulkAll spare + 1
  | .agg parts => uptoBulkAll parts + 1
  | .iface _ d => uptoBulk d + 1
  | .map entries => uptoBulkEntries entries + 1
  | .held _ => 1
def uptoBulkAll {H : Type} : List (DataW H) → Nat
  | [] => 0
  | d :: r => uptoBulk d + uptoBulkAll r
def uptoBulkEntries {H : Type} : List (Lit × DataW H) → Nat
  | [] => 0
  | x :: r => uptoBulkEntry x + uptoBulkEntries r
def uptoBulkEntry {H : Type} : Lit × DataW H → Nat
  | (.string bytes, d) => bytes.length + uptoBulk d + 1
  | (_, d) => uptoBulk d + 1
 end
def uptoSmall : (H : Type) → List (DataW H) → Bool := fun _ ds => decide (uptoBulkAll ds ≤ 1048576)
def OpenSpec.upto (s : _root_.Go.ChangeSpec) : _root_.Go.OpenSpec := { _root_.Go.OpenSpec.ofChange s with cond := some uptoSmall }

/-- 'laws.FnExactTakeFlip', WHERE WHAT IT READS IS OF BULK AT MOST 1048576: true; the input reads as it did. -/
def fnExactTakeFlipUptoRow : OpenClaim := { program := "ytmhalmnbgkpmnaagreat", sum := "d8d6d9610149f3a623490fd42c547329f52ec67805fef8a75783e2aa2b9ef0fa", func := "loop.example/g03313/laws.FnExactTakeFlip", spec := "fnExactTakeFlip", unfollowed := true, recurses := true, apart := false, narrowed := true }
def FnExactTakeFlipUptoSaid : Prop := fnExactTakeFlipUptoRow.holds Tryz.pinned (OpenSpec.upto fnExactTakeFlipSpec)

/-- 'laws.FnExactSignalFence', WHERE WHAT IT READS IS OF BULK AT MOST 1048576: true; the input reads as it did. -/
def fnExactSignalFenceUptoRow : OpenClaim := { program := "ytmhalmnbgkpmnaagreat", sum := "d8d6d9610149f3a623490fd42c547329f52ec67805fef8a75783e2aa2b9ef0fa", func := "loop.example/g03313/laws.FnExactSignalFence", spec := "fnExactSignalFence", inPlace := ["slices.overlaps[int]"], unfollowed := true, recurses := true, apart := false, narrowed := true }
def FnExactSignalFenceUptoSaid : Prop := fnExactSignalFenceUptoRow.holds Tryz.pinned (OpenSpec.upto fnExactSignalFenceSpec)

/-- 'laws.FnChangesLead', WHERE WHAT IT READS IS OF BULK AT MOST 1048576: true; the input reads as it did. -/
def fnChangesLeadUptoRow : OpenClaim := { program := "ytmhalmnbgkpmnaagreat", sum := "d8d6d9610149f3a623490fd42c547329f52ec67805fef8a75783e2aa2b9ef0fa", func := "loop.example/g03313/laws.FnChangesLead", spec := "fnChangesLead", unfollowed := true, recurses := true, apart := false, narrowed := true }
def FnChangesLeadUptoSaid : Prop := fnChangesLeadUptoRow.holds Tryz.pinned (OpenSpec.upto fnChangesLeadSpec)

/-- 'laws.FnFlipsOnce', WHERE WHAT IT READS IS OF BULK AT MOST 1048576: true; the input reads as it did. -/
def fnFlipsOnceUptoRow : OpenClaim := { program := "ytmhalmnbgkpmnaagreat", sum := "d8d6d9610149f3a623490fd42c547329f52ec67805fef8a75783e2aa2b9ef0fa", func := "loop.example/g03313/laws.FnFlipsOnce", spec := "fnFlipsOnce", inPlace := ["slices.overlaps[int]"], unfollowed := true, recurses := true, apart := false, narrowed := true }
def FnFlipsOnceUptoSaid : Prop := fnFlipsOnceUptoRow.holds Tryz.pinned (OpenSpec.upto fnFlipsOnceSpec)

end Rows
end Go.Proofs.YtmhalmnbgkpmnaaGreat
