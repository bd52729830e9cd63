/- FnAssigned returns true at all arguments. No conditions. -/
import Derived.Test.YtbdpbboonilhhaaRows
import Derived.Test.YtbdpbboonilhhaaW4
import Derived.Test.YtbdpbboonilhhaaOpen
import Derived.Test.YtbdpbboonilhhaaPAll2
import Derived.ProofKit
namespace Go.Proofs.Ytbdpbboonilhhaa
open Go.RowKit Go.ChangeShapes Go.WideShapes Go.ChangeAt K
set_option maxRecDepth 100000
set_option maxHeartbeats 4000000

theorem Try.own : ownKnob Try.prog.godebug = none := by kernel_rfl
theorem Try.laidOut : laidOutB Try.prog = true := by kernel_rfl
theorem ce_5 : Try.prog.cellsOf 5 = 1 := by kernel_rfl
theorem sl_22 : Try.prog.underlying 22 = some (.slice 5) := by kernel_rfl
theorem ui_5_u8 : Try.prog.underlying 5 = some (.int .u8) := by kernel_rfl


theorem FnAssigned_walk : LawWalk Try.checked 5 Try.f5 := by
  intro H enc W base args ds p hval0 hA0
  have hval : ∀ (j : Nat) t v, Try.f5.params[j]? = some t → args[j]? = some v → Value.okWide Try.prog W .any base t v := hval0
  have hA : DataW.TrodAll enc Try.prog W 0 (fun _ => true) true Try.f5.params.toList args.toList ds p := hA0
  rw [Try.params5] at hA hval
  clear hA0 hval0
  obtain ⟨v0, d0, rfl, rfl, h0⟩ := trodAll_one hA
  obtain ⟨a0, n0, c0, x0, rfl, r0, o0⟩ := arg_rd (A := tU8) (ok := fun y => 0 ≤ y ∧ y ≤ 255) sl_22 ce_5 (hval 0 22 v0 rfl rfl) h0 (fun _ _ _ _ h => el_u8 (fun _ _ _ h => h) ui_5_u8 h)
  exact w_laws_FnAssigned (FnAssigned_true _ o0) r0

theorem FnAssigned_lifted (os : Os) (started : os.Started) (H : Type) (enc : TypeId × Value → H) :
    ReturnsInHanded {} Try.checked os 5 .any (Rows.fnAssignedSpec.pre6 enc Try.prog Try.f5 Rows.fnAssignedRow.domain false) (Rows.fnAssignedSpec.post enc Try.prog Try.f5 false true false false) := by
  refine law_frame (C := Try.checked) (tb := 4) Try.own Try.laidOut started (by kernel_rfl) Try.func5 rfl ?_ rfl ub_4 (by kernel_rfl)
    (ChangeSpec.witness6 (enc := enc) (C := Try.checked) false ⟨#[], #[.slice none 0 0], []⟩ 8 (by kernel_rfl) (by kernel_rfl) (by kernel_rfl) (by kernel_rfl)) FnAssigned_walk
  intro ds hl
  match ds, hl with
  | [d0], _ => rfl

theorem FnAssigned_holds : Rows.FnAssignedSaid :=
  OpenClaim.holds_of_wide 5 Try.f5 rfl rfl rfl rfl rfl rfl rfl ⟨rfl, rfl, rfl, rfl, rfl⟩ rfl rfl rfl rfl rfl (by kernel_rfl) Try.func5 (by kernel_rfl)
    (of_decide_eq_true (by kernel_rfl)) (by unfold Func.isWrapper; rw [if_neg (of_decide_eq_false (by kernel_rfl))]; exact ⟨rfl, rfl⟩)
    (fun os started H enc _ => FnAssigned_lifted os started H enc)

end Go.Proofs.Ytbdpbboonilhhaa
