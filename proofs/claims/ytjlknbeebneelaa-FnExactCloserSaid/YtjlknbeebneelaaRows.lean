/-
  No cell of these rows narrows 'for every input' (looked for: loops, veiled, ifaces, maps, wideKeys, modest, calm, conditions, laid).
  DERIVED. THE GIVEN ROWS OF THIS SEAT. 6 by the template 'for every input the law returns true; each argument reads behind the call as it read before'; 0 by the template 'total and deterministic' (their statements: YtjlknbeebneelaaTotals.lean).
  GIVEN WITH THE SEED: the statements are not yours to turn. If you find one false, say at which input.
  Laid BY PROGRAM, IN A SANDBOX (cutbox-rows.mjs): the forced cells as the released guide's own fill.sh prints them over the translation b6eb4adf6f943d11… (all of the seat's roots in one cut). By AI agents, Wed Nov 11 2026. No macro, syntax, notation, axiom, sorry.
-/
import Derived.Test.YtjlknbeebneelaaChecked
import GoSem.Claim
import GoSem.ClaimJoined
import GoSem.ClaimMapViews
import Derived.JoinedTies
import Derived.KernelRfl
namespace Go.Proofs.Ytjlknbeebneelaa
/- THE CELL 'sum', in the pinned program and in every row, IS THE sha256 OF THE DUMP (.gsa) THAT YtjlknbeebneelaaProg.lean LOADS. Nothing in Lean hashes anything: it is a label: what it is worth is what the hold of that sum in a sandbox is worth. -/
noncomputable def Try.pinned : Pinned := { name := "ytjlknbeebneelaa", sum := "b6eb4adf6f943d110f1144107bb11dfd91b1fc2ac4a753c82499e4f4a7cdbe7e", checked := Try.checked }
namespace Rows
def none {H : Type} : Left H := { results := [], args := [] }

/-- 'laws.FnExactByteSum': WHATEVER THE INPUT: true; the input reads as it did. -/
def fnExactByteSumSpec : ChangeSpec := { name := "fnExactByteSum", fn := fun _ => fun
  | [d] => { results := [.lit (.bool true)], args := [d] }
  | _ => none }
def fnExactByteSumRow : OpenClaim := { program := "ytjlknbeebneelaa", sum := "b6eb4adf6f943d110f1144107bb11dfd91b1fc2ac4a753c82499e4f4a7cdbe7e", func := "loop.example/g03313/laws.FnExactByteSum", spec := "fnExactByteSum", apart := false }
def FnExactByteSumSaid : Prop := fnExactByteSumRow.holds Try.pinned (OpenSpec.ofChange fnExactByteSumSpec)

/-- ITS FALSE NEIGHBOUR: 'it returns false'. Refute it at one input. -/
def fnExactByteSumWrong : ChangeSpec := { name := "fnExactByteSum", fn := fun _ => fun
  | [d] => { results := [.lit (.bool false)], args := [d] }
  | _ => none }
def FnExactByteSumWrongFalsely : Prop := fnExactByteSumRow.holds Try.pinned (OpenSpec.ofChange fnExactByteSumWrong)

/-- 'laws.FnExactOptionsOk': WHATEVER THE INPUT: true; the input reads as it did. -/
def fnExactOptionsOkSpec : ChangeSpec := { name := "fnExactOptionsOk", fn := fun _ => fun
  | [d] => { results := [.lit (.bool true)], args := [d] }
  | _ => none }
def fnExactOptionsOkRow : OpenClaim := { program := "ytjlknbeebneelaa", sum := "b6eb4adf6f943d110f1144107bb11dfd91b1fc2ac4a753c82499e4f4a7cdbe7e", func := "loop.example/g03313/laws.FnExactOptionsOk", spec := "fnExactOptionsOk", apart := false }
def FnExactOptionsOkSaid : Prop := fnExactOptionsOkRow.holds Try.pinned (OpenSpec.ofChange fnExactOptionsOkSpec)

/-- ITS FALSE NEIGHBOUR: 'it returns false'. Refute it at one input. -/
def fnExactOptionsOkWrong : ChangeSpec := { name := "fnExactOptionsOk", fn := fun _ => fun
  | [d] => { results := [.lit (.bool false)], args := [d] }
  | _ => none }
def FnExactOptionsOkWrongFalsely : Prop := fnExactOptionsOkRow.holds Try.pinned (OpenSpec.ofChange fnExactOptionsOkWrong)

/-- 'laws.FnExactPacketLength': WHATEVER THE INPUT: true; the input reads as it did. -/
def fnExactPacketLengthSpec : ChangeSpec := { name := "fnExactPacketLength", fn := fun _ => fun
  | [d1, d2] => { results := [.lit (.bool true)], args := [d1, d2] }
  | _ => none }
def fnExactPacketLengthRow : OpenClaim := { program := "ytjlknbeebneelaa", sum := "b6eb4adf6f943d110f1144107bb11dfd91b1fc2ac4a753c82499e4f4a7cdbe7e", func := "loop.example/g03313/laws.FnExactPacketLength", spec := "fnExactPacketLength", apart := false }
def FnExactPacketLengthSaid : Prop := fnExactPacketLengthRow.holds Try.pinned (OpenSpec.ofChange fnExactPacketLengthSpec)

/-- ITS FALSE NEIGHBOUR: 'it returns false'. Refute it at one input. -/
def fnExactPacketLengthWrong : ChangeSpec := { name := "fnExactPacketLength", fn := fun _ => fun
  | [d1, d2] => { results := [.lit (.bool false)], args := [d1, d2] }
  | _ => none }
def FnExactPacketLengthWrongFalsely : Prop := fnExactPacketLengthRow.holds Try.pinned (OpenSpec.ofChange fnExactPacketLengthWrong)

/-- 'laws.FnExactDividerOk': WHATEVER THE INPUT: true; the input reads as it did. -/
def fnExactDividerOkSpec : ChangeSpec := { name := "fnExactDividerOk", fn := fun _ => fun
  | [d1, d2, d3, d4] => { results := [.lit (.bool true)], args := [d1, d2, d3, d4] }
  | _ => none }
def fnExactDividerOkRow : OpenClaim := { program := "ytjlknbeebneelaa", sum := "b6eb4adf6f943d110f1144107bb11dfd91b1fc2ac4a753c82499e4f4a7cdbe7e", func := "loop.example/g03313/laws.FnExactDividerOk", spec := "fnExactDividerOk", apart := false }
def FnExactDividerOkSaid : Prop := fnExactDividerOkRow.holds Try.pinned (OpenSpec.ofChange fnExactDividerOkSpec)

/-- ITS FALSE NEIGHBOUR: 'it returns false'. Refute it at one input. -/
def fnExactDividerOkWrong : ChangeSpec := { name := "fnExactDividerOk", fn := fun _ => fun
  | [d1, d2, d3, d4] => { results := [.lit (.bool false)], args := [d1, d2, d3, d4] }
  | _ => none }
def FnExactDividerOkWrongFalsely : Prop := fnExactDividerOkRow.holds Try.pinned (OpenSpec.ofChange fnExactDividerOkWrong)

/-- 'laws.FnExactErrorOf': WHATEVER THE INPUT: true; the input reads as it did. -/
def fnExactErrorOfSpec : ChangeSpec := { name := "fnExactErrorOf", fn := fun _ => fun
  | [d1, d2, d3] => { results := [.lit (.bool true)], args := [d1, d2, d3] }
  | _ => none }
def fnExactErrorOfRow : OpenClaim := { program := "ytjlknbeebneelaa", sum := "b6eb4adf6f943d110f1144107bb11dfd91b1fc2ac4a753c82499e4f4a7cdbe7e", func := "loop.example/g03313/laws.FnExactErrorOf", spec := "fnExactErrorOf", apart := false }
def FnExactErrorOfSaid : Prop := fnExactErrorOfRow.holds Try.pinned (OpenSpec.ofChange fnExactErrorOfSpec)

/-- ITS FALSE NEIGHBOUR: 'it returns false'. Refute it at one input. -/
def fnExactErrorOfWrong : ChangeSpec := { name := "fnExactErrorOf", fn := fun _ => fun
  | [d1, d2, d3] => { results := [.lit (.bool false)], args := [d1, d2, d3] }
  | _ => none }
def FnExactErrorOfWrongFalsely : Prop := fnExactErrorOfRow.holds Try.pinned (OpenSpec.ofChange fnExactErrorOfWrong)

/-- 'laws.FnExactCloser': WHATEVER THE INPUT: true; the input reads as it did. -/
def fnExactCloserSpec : ChangeSpec := { name := "fnExactCloser", fn := fun _ => fun
  | [d1, d2, d3, d4] => { results := [.lit (.bool true)], args := [d1, d2, d3, d4] }
  | _ => none }
def fnExactCloserRow : OpenClaim := { program := "ytjlknbeebneelaa", sum := "b6eb4adf6f943d110f1144107bb11dfd91b1fc2ac4a753c82499e4f4a7cdbe7e", func := "loop.example/g03313/laws.FnExactCloser", spec := "fnExactCloser", apart := false }
def FnExactCloserSaid : Prop := fnExactCloserRow.holds Try.pinned (OpenSpec.ofChange fnExactCloserSpec)

/-- ITS FALSE NEIGHBOUR: 'it returns false'. Refute it at one input. -/
def fnExactCloserWrong : ChangeSpec := { name := "fnExactCloser", fn := fun _ => fun
  | [d1, d2, d3, d4] => { results := [.lit (.bool false)], args := [d1, d2, d3, d4] }
  | _ => none }
def FnExactCloserWrongFalsely : Prop := fnExactCloserRow.holds Try.pinned (OpenSpec.ofChange fnExactCloserWrong)

/- THE SECOND FORM. 'bulk': how many values and letters a reading holds, each counted each time it is reached (what is shared counts as often as it is met; a slice's spare places count too). A statement '..UptoSaid' is the law's where the arguments, and the package variables that the reading takes, are together of bulk at most 1048576: NARROWER than '..Said'. Prove '..Said' where nothing that the law and all that it calls make is longer than what came in: it says more and counts as full. Else prove '..UptoSaid'. A law counts once. -/
mutual
def uptoBulk {H : Type} : DataW H → Nat
  | .lit (.string bytes) => bytes.length + 1
  | .lit _ => 1
  | .nil => 1
  | .ptr d => uptoBulk d + 1
  | .slice elems spare => uptoBulkAll elems + uptoBulkAll spare + 1
  | .agg parts => uptoBulkAll parts + 1
  | .iface _ d => uptoBulk d + 1
  | .map entries => uptoBulkEntries entries + 1
  | .held _ => 1
def uptoBulkAll {H : Type} : List (DataW H) → Nat
  | [] => 0
  | d :: r => uptoBulk d + uptoBulkAll r
def uptoBulkEntries {H : Type} : List (Lit × DataW H) → Nat
  | [] => 0
  | x :: r => uptoBulkEntry x + uptoBulkEntries r
def uptoBulkEntry {H : Type} : Lit × DataW H → Nat
  | (.string bytes, d) => bytes.length + uptoBulk d + 1
  | (_, d) => uptoBulk d + 1
 end
def uptoSmall : (H : Type) → List (DataW H) → Bool := fun _ ds => decide (uptoBulkAll ds ≤ 1048576)
def OpenSpec.upto (s : _root_.Go.ChangeSpec) : _root_.Go.OpenSpec := { _root_.Go.OpenSpec.ofChange s with cond := some uptoSmall }

/-- 'laws.FnExactByteSum', WHERE WHAT IT READS IS OF BULK AT MOST 1048576: true; the input reads as it did. -/
def fnExactByteSumUptoRow : OpenClaim := { program := "ytjlknbeebneelaa", sum := "b6eb4adf6f943d110f1144107bb11dfd91b1fc2ac4a753c82499e4f4a7cdbe7e", func := "loop.example/g03313/laws.FnExactByteSum", spec := "fnExactByteSum", apart := false, narrowed := true }
def FnExactByteSumUptoSaid : Prop := fnExactByteSumUptoRow.holds Try.pinned (OpenSpec.upto fnExactByteSumSpec)

/-- 'laws.FnExactOptionsOk', WHERE WHAT IT READS IS OF BULK AT MOST 1048576: true; the input reads as it did. -/
def fnExactOptionsOkUptoRow : OpenClaim := { program := "ytjlknbeebneelaa", sum := "b6eb4adf6f943d110f1144107bb11dfd91b1fc2ac4a753c82499e4f4a7cdbe7e", func := "loop.example/g03313/laws.FnExactOptionsOk", spec := "fnExactOptionsOk", apart := false, narrowed := true }
def FnExactOptionsOkUptoSaid : Prop := fnExactOptionsOkUptoRow.holds Try.pinned (OpenSpec.upto fnExactOptionsOkSpec)

/-- 'laws.FnExactPacketLength', WHERE WHAT IT READS IS OF BULK AT MOST 1048576: true; the input reads as it did. -/
def fnExactPacketLengthUptoRow : OpenClaim := { program := "ytjlknbeebneelaa", sum := "b6eb4adf6f943d110f1144107bb11dfd91b1fc2ac4a753c82499e4f4a7cdbe7e", func := "loop.example/g03313/laws.FnExactPacketLength", spec := "fnExactPacketLength", apart := false, narrowed := true }
def FnExactPacketLengthUptoSaid : Prop := fnExactPacketLengthUptoRow.holds Try.pinned (OpenSpec.upto fnExactPacketLengthSpec)

/-- 'laws.FnExactDividerOk', WHERE WHAT IT READS IS OF BULK AT MOST 1048576: true; the input reads as it did. -/
def fnExactDividerOkUptoRow : OpenClaim := { program := "ytjlknbeebneelaa", sum := "b6eb4adf6f943d110f1144107bb11dfd91b1fc2ac4a753c82499e4f4a7cdbe7e", func := "loop.example/g03313/laws.FnExactDividerOk", spec := "fnExactDividerOk", apart := false, narrowed := true }
def FnExactDividerOkUptoSaid : Prop := fnExactDividerOkUptoRow.holds Try.pinned (OpenSpec.upto fnExactDividerOkSpec)

/-- 'laws.FnExactErrorOf', WHERE WHAT IT READS IS OF BULK AT MOST 1048576: true; the input reads as it did. -/
def fnExactErrorOfUptoRow : OpenClaim := { program := "ytjlknbeebneelaa", sum := "b6eb4adf6f943d110f1144107bb11dfd91b1fc2ac4a753c82499e4f4a7cdbe7e", func := "loop.example/g03313/laws.FnExactErrorOf", spec := "fnExactErrorOf", apart := false, narrowed := true }
def FnExactErrorOfUptoSaid : Prop := fnExactErrorOfUptoRow.holds Try.pinned (OpenSpec.upto fnExactErrorOfSpec)

/-- 'laws.FnExactCloser', WHERE WHAT IT READS IS OF BULK AT MOST 1048576: true; the input reads as it did. -/
def fnExactCloserUptoRow : OpenClaim := { program := "ytjlknbeebneelaa", sum := "b6eb4adf6f943d110f1144107bb11dfd91b1fc2ac4a753c82499e4f4a7cdbe7e", func := "loop.example/g03313/laws.FnExactCloser", spec := "fnExactCloser", apart := false, narrowed := true }
def FnExactCloserUptoSaid : Prop := fnExactCloserUptoRow.holds Try.pinned (OpenSpec.upto fnExactCloserSpec)

end Rows
end Go.Proofs.Ytjlknbeebneelaa
