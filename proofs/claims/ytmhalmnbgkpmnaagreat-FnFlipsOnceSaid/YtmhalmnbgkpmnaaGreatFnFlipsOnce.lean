/- FnFlipsOnce returns true at all arguments. No conditions. -/
import Derived.Test.YtmhalmnbgkpmnaaGreatRows
import Derived.Test.YtmhalmnbgkpmnaaGreatW3
import Derived.Test.YtmhalmnbgkpmnaaGreatOpen
import Derived.Test.YtmhalmnbgkpmnaaGreatPAll2
import Derived.ProofKit
namespace Go.Proofs.YtmhalmnbgkpmnaaGreat
open Go.RowKit Go.ChangeShapes Go.WideShapes Go.ChangeAt K
set_option maxRecDepth 100000
set_option maxHeartbeats 4000000

theorem Tryz.own : ownKnob Tryz.prog.godebug = none := by kernel_rfl
theorem Tryz.laidOut : laidOutB Tryz.prog = true := by kernel_rfl
theorem ce_5 : Tryz.prog.cellsOf 5 = 1 := by kernel_rfl
theorem sl_51 : Tryz.prog.underlying 51 = some (.slice 5) := by kernel_rfl
theorem ui_5_u8 : Tryz.prog.underlying 5 = some (.int .u8) := by kernel_rfl


theorem FnFlipsOnce_walk : LawWalk Tryz.checked 6 Tryz.f6 := by
  intro H enc W base args ds p hval0 hA0
  have hval : ∀ (j : Nat) t v, Tryz.f6.params[j]? = some t → args[j]? = some v → Value.okWide Tryz.prog W .any base t v := hval0
  have hA : DataW.TrodAll enc Tryz.prog W 0 (fun _ => true) true Tryz.f6.params.toList args.toList ds p := hA0
  rw [Tryz.params6] at hA hval
  clear hA0 hval0
  obtain ⟨v0, d0, rfl, rfl, h0⟩ := trodAll_one hA
  obtain ⟨a0, n0, c0, x0, rfl, r0, o0⟩ := arg_rd (A := tU8) (ok := fun y => 0 ≤ y ∧ y ≤ 255) sl_51 ce_5 (hval 0 51 v0 rfl rfl) h0 (fun _ _ _ _ h => el_u8 (fun _ _ _ h => h) ui_5_u8 h)
  exact w_laws_FnFlipsOnce (FnFlipsOnce_true _ o0) r0

theorem FnFlipsOnce_lifted (os : Os) (started : os.Started) (H : Type) (enc : TypeId × Value → H) :
    ReturnsInHanded {} Tryz.checked os 6 .any (Rows.fnFlipsOnceSpec.pre6 enc Tryz.prog Tryz.f6 Rows.fnFlipsOnceRow.domain false) (Rows.fnFlipsOnceSpec.post enc Tryz.prog Tryz.f6 false true false false) := by
  refine law_frame (C := Tryz.checked) (tb := 4) Tryz.own Tryz.laidOut started (by kernel_rfl) Tryz.func6 rfl ?_ rfl ub_4 (by kernel_rfl)
    (ChangeSpec.witness6 (enc := enc) (C := Tryz.checked) false ⟨#[], #[.slice none 0 0], []⟩ 8 (by kernel_rfl) (by kernel_rfl) (by kernel_rfl) (by kernel_rfl)) FnFlipsOnce_walk
  intro ds hl
  match ds, hl with
  | [d0], _ => rfl

theorem FnFlipsOnce_holds : Rows.FnFlipsOnceSaid :=
  OpenClaim.holds_of_wide 6 Tryz.f6 rfl rfl rfl rfl rfl rfl rfl ⟨rfl, rfl, rfl, rfl, rfl⟩ rfl rfl rfl rfl rfl (by kernel_rfl) Tryz.func6 (by kernel_rfl)
    (of_decide_eq_true (by kernel_rfl)) (by unfold Func.isWrapper; rw [if_neg (of_decide_eq_false (by kernel_rfl))]; exact ⟨rfl, rfl⟩)
    (fun os started H enc _ => FnFlipsOnce_lifted os started H enc)

end Go.Proofs.YtmhalmnbgkpmnaaGreat
