/- FnExactBlankCrtc returns true at all arguments. No conditions. -/
import Derived.Test.YtdbnoiiacpmbpaaRows
import Derived.Test.YtdbnoiiacpmbpaaW4
import Derived.Test.YtdbnoiiacpmbpaaOpen
import Derived.Test.YtdbnoiiacpmbpaaPBlank
import Derived.ProofKit
namespace Go.Proofs.Ytdbnoiiacpmbpaa
open Go.RowKit Go.ChangeShapes Go.WideShapes Go.ChangeAt K
set_option maxRecDepth 100000
set_option maxHeartbeats 4000000

theorem Try.own : ownKnob Try.prog.godebug = none := by kernel_rfl
theorem Try.laidOut : laidOutB Try.prog = true := by kernel_rfl
theorem ui_3_i64 : Try.prog.underlying 3 = some (.int .i64) := by kernel_rfl


theorem FnExactBlankCrtc_walk : LawWalk Try.checked 4 Try.f4 := by
  intro H enc W base args ds p hval0 hA0
  have hval : ∀ (j : Nat) t v, Try.f4.params[j]? = some t → args[j]? = some v → Value.okWide Try.prog W .any base t v := hval0
  have hA : DataW.TrodAll enc Try.prog W 0 (fun _ => true) true Try.f4.params.toList args.toList ds p := hA0
  rw [Try.params4] at hA hval
  clear hA0 hval0
  obtain ⟨v0, v1, v2, d0, d1, d2, p0, p1, p2, rfl, rfl, rfl, h0, h1, h2⟩ := trodAll_three hA
  obtain ⟨n0, rfl, o0⟩ := arg_int ui_3_i64 (hval 0 3 v0 rfl rfl) h0
  obtain ⟨n1, rfl, o1⟩ := arg_int ui_3_i64 (hval 1 3 v1 rfl rfl) h1
  obtain ⟨n2, rfl, o2⟩ := arg_int ui_3_i64 (hval 2 3 v2 rfl rfl) h2
  exact w_laws_FnExactBlankCrtc (FnExactBlankCrtc_true _ _ _ o0 o1 o2) 

theorem FnExactBlankCrtc_lifted (os : Os) (started : os.Started) (H : Type) (enc : TypeId × Value → H) :
    ReturnsInHanded {} Try.checked os 4 .any (Rows.fnExactBlankCrtcSpec.pre6 enc Try.prog Try.f4 Rows.fnExactBlankCrtcRow.domain false) (Rows.fnExactBlankCrtcSpec.post enc Try.prog Try.f4 false true false false) := by
  refine law_frame (C := Try.checked) (tb := 4) Try.own Try.laidOut started (by kernel_rfl) Try.func4 rfl ?_ rfl ub_4 (by kernel_rfl)
    (ChangeSpec.witness6 (enc := enc) (C := Try.checked) false ⟨#[], #[.int .i64 0, .int .i64 0, .int .i64 0], []⟩ 8 (by kernel_rfl) (by kernel_rfl) (by kernel_rfl) (by kernel_rfl)) FnExactBlankCrtc_walk
  intro ds hl
  match ds, hl with
  | [d0, d1, d2], _ => rfl

theorem FnExactBlankCrtc_holds : Rows.FnExactBlankCrtcSaid :=
  OpenClaim.holds_of_wide 4 Try.f4 rfl rfl rfl rfl rfl rfl rfl ⟨rfl, rfl, rfl, rfl, rfl⟩ rfl rfl rfl rfl rfl (by kernel_rfl) Try.func4 (by kernel_rfl)
    (of_decide_eq_true (by kernel_rfl)) (by unfold Func.isWrapper; rw [if_neg (of_decide_eq_false (by kernel_rfl))]; exact ⟨rfl, rfl⟩)
    (fun os started H enc _ => FnExactBlankCrtc_lifted os started H enc)

end Go.Proofs.Ytdbnoiiacpmbpaa
