/-
  No cell of these rows narrows 'for every input' (looked for: loops, veiled, ifaces, maps, wideKeys, modest, calm, conditions, laid).
  DERIVED. THE GIVEN ROWS OF THIS SEAT. 5 by the template 'for every input the law returns true; each argument reads behind the call as it read before'; 0 by the template 'total and deterministic' (their statements: YtdbnoiiacpmbpaaTotals.lean).
  GIVEN WITH THE SEED: the statements are not yours to turn. If you find one false, say at which input.
  Laid BY PROGRAM, IN A SANDBOX (cutbox-rows.mjs): the forced cells as the released guide's own fill.sh prints them over the translation 7c07c02c2e922f97… (all of the seat's roots in one cut). By AI agents, Wed Nov 11 2026. No macro, syntax, notation, axiom, sorry.
-/
import Derived.Test.YtdbnoiiacpmbpaaChecked
import GoSem.Claim
import GoSem.ClaimJoined
import GoSem.ClaimMapViews
import Derived.JoinedTies
import Derived.KernelRfl
namespace Go.Proofs.Ytdbnoiiacpmbpaa
/- THE CELL 'sum', in the pinned program and in every row, IS THE sha256 OF THE DUMP (.gsa) THAT YtdbnoiiacpmbpaaProg.lean LOADS. Nothing in Lean hashes anything: it is a label: what it is worth is what the hold of that sum in a sandbox is worth. -/
noncomputable def Try.pinned : Pinned := { name := "ytdbnoiiacpmbpaa", sum := "7c07c02c2e922f975354fbe27938cf7b51e55c16f8cad032662ae4c01374d905", checked := Try.checked }
namespace Rows
def none {H : Type} : Left H := { results := [], args := [] }

/-- 'laws.FnExactCrtcOk': WHATEVER THE INPUT: true; the input reads as it did. -/
def fnExactCrtcOkSpec : ChangeSpec := { name := "fnExactCrtcOk", fn := fun _ => fun
  | [d] => { results := [.lit (.bool true)], args := [d] }
  | _ => none }
def fnExactCrtcOkRow : OpenClaim := { program := "ytdbnoiiacpmbpaa", sum := "7c07c02c2e922f975354fbe27938cf7b51e55c16f8cad032662ae4c01374d905", func := "loop.example/g03313/laws.FnExactCrtcOk", spec := "fnExactCrtcOk", unfollowed := true, recurses := true, apart := false }
def FnExactCrtcOkSaid : Prop := fnExactCrtcOkRow.holds Try.pinned (OpenSpec.ofChange fnExactCrtcOkSpec)

/-- ITS FALSE NEIGHBOUR: 'it returns false'. Refute it at one input. -/
def fnExactCrtcOkWrong : ChangeSpec := { name := "fnExactCrtcOk", fn := fun _ => fun
  | [d] => { results := [.lit (.bool false)], args := [d] }
  | _ => none }
def FnExactCrtcOkWrongFalsely : Prop := fnExactCrtcOkRow.holds Try.pinned (OpenSpec.ofChange fnExactCrtcOkWrong)

/-- 'laws.FnExactBlankCrtc': WHATEVER THE INPUT: true; the input reads as it did. -/
def fnExactBlankCrtcSpec : ChangeSpec := { name := "fnExactBlankCrtc", fn := fun _ => fun
  | [d1, d2, d3] => { results := [.lit (.bool true)], args := [d1, d2, d3] }
  | _ => none }
def fnExactBlankCrtcRow : OpenClaim := { program := "ytdbnoiiacpmbpaa", sum := "7c07c02c2e922f975354fbe27938cf7b51e55c16f8cad032662ae4c01374d905", func := "loop.example/g03313/laws.FnExactBlankCrtc", spec := "fnExactBlankCrtc", unfollowed := true, recurses := true, apart := false }
def FnExactBlankCrtcSaid : Prop := fnExactBlankCrtcRow.holds Try.pinned (OpenSpec.ofChange fnExactBlankCrtcSpec)

/-- ITS FALSE NEIGHBOUR: 'it returns false'. Refute it at one input. -/
def fnExactBlankCrtcWrong : ChangeSpec := { name := "fnExactBlankCrtc", fn := fun _ => fun
  | [d1, d2, d3] => { results := [.lit (.bool false)], args := [d1, d2, d3] }
  | _ => none }
def FnExactBlankCrtcWrongFalsely : Prop := fnExactBlankCrtcRow.holds Try.pinned (OpenSpec.ofChange fnExactBlankCrtcWrong)

/-- 'laws.FnExactFlipsOk': WHATEVER THE INPUT: true; the input reads as it did. -/
def fnExactFlipsOkSpec : ChangeSpec := { name := "fnExactFlipsOk", fn := fun _ => fun
  | [d] => { results := [.lit (.bool true)], args := [d] }
  | _ => none }
def fnExactFlipsOkRow : OpenClaim := { program := "ytdbnoiiacpmbpaa", sum := "7c07c02c2e922f975354fbe27938cf7b51e55c16f8cad032662ae4c01374d905", func := "loop.example/g03313/laws.FnExactFlipsOk", spec := "fnExactFlipsOk", unfollowed := true, recurses := true, apart := false }
def FnExactFlipsOkSaid : Prop := fnExactFlipsOkRow.holds Try.pinned (OpenSpec.ofChange fnExactFlipsOkSpec)

/-- ITS FALSE NEIGHBOUR: 'it returns false'. Refute it at one input. -/
def fnExactFlipsOkWrong : ChangeSpec := { name := "fnExactFlipsOk", fn := fun _ => fun
  | [d] => { results := [.lit (.bool false)], args := [d] }
  | _ => none }
def FnExactFlipsOkWrongFalsely : Prop := fnExactFlipsOkRow.holds Try.pinned (OpenSpec.ofChange fnExactFlipsOkWrong)

/-- 'laws.FnExactFlipReady': WHATEVER THE INPUT: true; the input reads as it did. -/
def fnExactFlipReadySpec : ChangeSpec := { name := "fnExactFlipReady", fn := fun _ => fun
  | [d] => { results := [.lit (.bool true)], args := [d] }
  | _ => none }
def fnExactFlipReadyRow : OpenClaim := { program := "ytdbnoiiacpmbpaa", sum := "7c07c02c2e922f975354fbe27938cf7b51e55c16f8cad032662ae4c01374d905", func := "loop.example/g03313/laws.FnExactFlipReady", spec := "fnExactFlipReady", unfollowed := true, recurses := true, apart := false }
def FnExactFlipReadySaid : Prop := fnExactFlipReadyRow.holds Try.pinned (OpenSpec.ofChange fnExactFlipReadySpec)

/-- ITS FALSE NEIGHBOUR: 'it returns false'. Refute it at one input. -/
def fnExactFlipReadyWrong : ChangeSpec := { name := "fnExactFlipReady", fn := fun _ => fun
  | [d] => { results := [.lit (.bool false)], args := [d] }
  | _ => none }
def FnExactFlipReadyWrongFalsely : Prop := fnExactFlipReadyRow.holds Try.pinned (OpenSpec.ofChange fnExactFlipReadyWrong)

/-- 'laws.FnAtomic': WHATEVER THE INPUT: true; the input reads as it did. -/
def fnAtomicSpec : ChangeSpec := { name := "fnAtomic", fn := fun _ => fun
  | [d] => { results := [.lit (.bool true)], args := [d] }
  | _ => none }
def fnAtomicRow : OpenClaim := { program := "ytdbnoiiacpmbpaa", sum := "7c07c02c2e922f975354fbe27938cf7b51e55c16f8cad032662ae4c01374d905", func := "loop.example/g03313/laws.FnAtomic", spec := "fnAtomic", unfollowed := true, recurses := true, apart := false }
def FnAtomicSaid : Prop := fnAtomicRow.holds Try.pinned (OpenSpec.ofChange fnAtomicSpec)

/-- ITS FALSE NEIGHBOUR: 'it returns false'. Refute it at one input. -/
def fnAtomicWrong : ChangeSpec := { name := "fnAtomic", fn := fun _ => fun
  | [d] => { results := [.lit (.bool false)], args := [d] }
  | _ => none }
def FnAtomicWrongFalsely : Prop := fnAtomicRow.holds Try.pinned (OpenSpec.ofChange fnAtomicWrong)

/- THE SECOND FORM. 'bulk': how many values and letters a reading holds, each counted each time it is reached (what is shared counts as often as it is met; a slice's spare places count too). A statement '..UptoSaid' is the law's where the arguments, and the package variables that the reading takes, are together of bulk at most 1048576: NARROWER than '..Said'. Prove '..Said' where nothing that the law and all that it calls make is longer than what came in: it says more and counts as full. Else prove '..UptoSaid'. A law counts once. -/
mutual
def uptoBulk {H : Type} : DataW H → Nat
  | .lit (.string bytes) => bytes.length + 1
  | .lit _ => 1
  | .nil => 1
  | .ptr d => uptoBulk d + 1
  | .slice elems spare => uptoBulkAll elems + uptoBulkAll spare + 1
  | .agg parts => uptoBulkAll parts + 1
  | .iface _ d => uptoBulk d + 1
  | .map entries => uptoBulkEntries entries + 1
  | .held _ => 1
def uptoBulkAll {H : Type} : List (DataW H) → Nat
  | [] => 0
  | d :: r => uptoBulk d + uptoBulkAll r
def uptoBulkEntries {H : Type} : List (Lit × DataW H) → Nat
  | [] => 0
  | x :: r => uptoBulkEntry x + uptoBulkEntries r
def uptoBulkEntry {H : Type} : Lit × DataW H → Nat
  | (.string bytes, d) => bytes.length + uptoBulk d + 1
  | (_, d) => uptoBulk d + 1
 end
def uptoSmall : (H : Type) → List (DataW H) → Bool := fun _ ds => decide (uptoBulkAll ds ≤ 1048576)
def OpenSpec.upto (s : _root_.Go.ChangeSpec) : _root_.Go.OpenSpec := { _root_.Go.OpenSpec.ofChange s with cond := some uptoSmall }

/-- 'laws.FnExactCrtcOk', WHERE WHAT IT READS IS OF BULK AT MOST 1048576: true; the input reads as it did. -/
def fnExactCrtcOkUptoRow : OpenClaim := { program := "ytdbnoiiacpmbpaa", sum := "7c07c02c2e922f975354fbe27938cf7b51e55c16f8cad032662ae4c01374d905", func := "loop.example/g03313/laws.FnExactCrtcOk", spec := "fnExactCrtcOk", unfollowed := true, recurses := true, apart := false, narrowed := true }
def FnExactCrtcOkUptoSaid : Prop := fnExactCrtcOkUptoRow.holds Try.pinned (OpenSpec.upto fnExactCrtcOkSpec)

/-- 'laws.FnExactBlankCrtc', WHERE WHAT IT READS IS OF BULK AT MOST 1048576: true; the input reads as it did. -/
def fnExactBlankCrtcUptoRow : OpenClaim := { program := "ytdbnoiiacpmbpaa", sum := "7c07c02c2e922f975354fbe27938cf7b51e55c16f8cad032662ae4c01374d905", func := "loop.example/g03313/laws.FnExactBlankCrtc", spec := "fnExactBlankCrtc", unfollowed := true, recurses := true, apart := false, narrowed := true }
def FnExactBlankCrtcUptoSaid : Prop := fnExactBlankCrtcUptoRow.holds Try.pinned (OpenSpec.upto fnExactBlankCrtcSpec)

/-- 'laws.FnExactFlipsOk', WHERE WHAT IT READS IS OF BULK AT MOST 1048576: true; the input reads as it did. -/
def fnExactFlipsOkUptoRow : OpenClaim := { program := "ytdbnoiiacpmbpaa", sum := "7c07c02c2e922f975354fbe27938cf7b51e55c16f8cad032662ae4c01374d905", func := "loop.example/g03313/laws.FnExactFlipsOk", spec := "fnExactFlipsOk", unfollowed := true, recurses := true, apart := false, narrowed := true }
def FnExactFlipsOkUptoSaid : Prop := fnExactFlipsOkUptoRow.holds Try.pinned (OpenSpec.upto fnExactFlipsOkSpec)

/-- 'laws.FnExactFlipReady', WHERE WHAT IT READS IS OF BULK AT MOST 1048576: true; the input reads as it did. -/
def fnExactFlipReadyUptoRow : OpenClaim := { program := "ytdbnoiiacpmbpaa", sum := "7c07c02c2e922f975354fbe27938cf7b51e55c16f8cad032662ae4c01374d905", func := "loop.example/g03313/laws.FnExactFlipReady", spec := "fnExactFlipReady", unfollowed := true, recurses := true, apart := false, narrowed := true }
def FnExactFlipReadyUptoSaid : Prop := fnExactFlipReadyUptoRow.holds Try.pinned (OpenSpec.upto fnExactFlipReadySpec)

/-- 'laws.FnAtomic', WHERE WHAT IT READS IS OF BULK AT MOST 1048576: true; the input reads as it did. -/
def fnAtomicUptoRow : OpenClaim := { program := "ytdbnoiiacpmbpaa", sum := "7c07c02c2e922f975354fbe27938cf7b51e55c16f8cad032662ae4c01374d905", func := "loop.example/g03313/laws.FnAtomic", spec := "fnAtomic", unfollowed := true, recurses := true, apart := false, narrowed := true }
def FnAtomicUptoSaid : Prop := fnAtomicUptoRow.holds Try.pinned (OpenSpec.upto fnAtomicSpec)

end Rows
end Go.Proofs.Ytdbnoiiacpmbpaa
