/- FnExactBestDivider returns true: the program and the reference agree at all arguments. No conditions. -/
import Derived.Test.YtbcaoilghmcaeaaWalks
import Derived.Test.YtbcaoilghmcaeaaFrame
import Derived.ProofKit
namespace Go.Proofs.Ytbcaoilghmcaeaa
open Go.RowKit Go.ChangeShapes Go.WideShapes Go.ChangeAt K
set_option maxRecDepth 100000

theorem Try.own : ownKnob Try.prog.godebug = none := by kernel_rfl
theorem Try.laidOut : laidOutB Try.prog = true := by kernel_rfl
theorem ui_3_i64 : Try.prog.underlying 3 = some (.int .i64) := by kernel_rfl

theorem FnExactBestDivider_walk : LawWalk Try.checked 4 Try.f4 := by
  intro H enc W base args ds p hval0 hA0
  have hval : ∀ (j : Nat) t v, Try.f4.params[j]? = some t → args[j]? = some v → Value.okWide Try.prog W .any base t v := hval0
  have hA : DataW.TrodAll enc Try.prog W 0 (fun _ => true) true Try.f4.params.toList args.toList ds p := hA0
  rw [Try.params4] at hA hval
  clear hA0 hval0
  obtain ⟨v0, v1, v2, v3, d0, d1, d2, d3, p0, p1, p2, p3, rfl, rfl, rfl, h0, h1, h2, h3⟩ := trodAll_four hA
  obtain ⟨n0, rfl, r0⟩ := arg_int ui_3_i64 (hval 0 3 v0 rfl rfl) h0
  obtain ⟨n1, rfl, r1⟩ := arg_int ui_3_i64 (hval 1 3 v1 rfl rfl) h1
  obtain ⟨n2, rfl, r2⟩ := arg_int ui_3_i64 (hval 2 3 v2 rfl rfl) h2
  obtain ⟨n3, rfl, r3⟩ := arg_int ui_3_i64 (hval 3 3 v3 rfl rfl) h3
  exact w_BestDivider _ _ _ _ W

theorem FnExactBestDivider_lifted (os : Os) (started : os.Started) (H : Type) (enc : TypeId × Value → H) :
    ReturnsInHanded {} Try.checked os 4 .any (Rows.fnExactBestDividerSpec.pre6 enc Try.prog Try.f4 Rows.fnExactBestDividerRow.domain false) (Rows.fnExactBestDividerSpec.post enc Try.prog Try.f4 false true false false) := by
  refine law_frame (C := Try.checked) (tb := 4) Try.own Try.laidOut started (by kernel_rfl) Try.func4 rfl ?_ rfl ub_4 (by kernel_rfl)
    (ChangeSpec.witness6 (enc := enc) (C := Try.checked) false ⟨#[], #[.int .i64 0, .int .i64 0, .int .i64 0, .int .i64 0], []⟩ 8 (by kernel_rfl) (by kernel_rfl) (by kernel_rfl) (by kernel_rfl)) FnExactBestDivider_walk
  intro ds hl
  match ds, hl with
  | [d0, d1, d2, d3], _ => rfl

theorem FnExactBestDivider_holds : Rows.FnExactBestDividerSaid :=
  OpenClaim.holds_of_wide 4 Try.f4 rfl rfl rfl rfl rfl rfl rfl ⟨rfl, rfl, rfl, rfl, rfl⟩ rfl rfl rfl rfl rfl (by kernel_rfl) Try.func4 (by kernel_rfl)
    (of_decide_eq_true (by kernel_rfl)) (by unfold Func.isWrapper; rw [if_neg (of_decide_eq_false (by kernel_rfl))]; exact ⟨rfl, rfl⟩)
    (fun os started H enc _ => FnExactBestDivider_lifted os started H enc)

end Go.Proofs.Ytbcaoilghmcaeaa
