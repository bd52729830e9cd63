/- FnExactErrorOf returns true: the program and the reference agree at all arguments. No conditions. -/
import Derived.Test.YtjlknbeebneelaaWalks
import Derived.Test.YtjlknbeebneelaaFrame
import Derived.ProofKit
namespace Go.Proofs.Ytjlknbeebneelaa
open Go.RowKit Go.ChangeShapes Go.WideShapes Go.ChangeAt K

theorem Try.own : ownKnob Try.prog.godebug = none := by kernel_rfl
theorem Try.laidOut : laidOutB Try.prog = true := by kernel_rfl
theorem fl_33_0 : fldAt Try.prog 33 0 = some (3, 0, 1) := by kernel_rfl
theorem fl_33_1 : fldAt Try.prog 33 1 = some (3, 1, 1) := by kernel_rfl
theorem fl_33_2 : fldAt Try.prog 33 2 = some (3, 2, 1) := by kernel_rfl

theorem FnExactErrorOf_walk : LawWalk Try.checked 7 Try.f7 := by
  intro H enc W base args ds p hval0 hA0
  have hval : ∀ (j : Nat) t v, Try.f7.params[j]? = some t → args[j]? = some v → Value.okWide Try.prog W .any base t v := hval0
  have hA : DataW.TrodAll enc Try.prog W 0 (fun _ => true) true Try.f7.params.toList args.toList ds p := hA0
  rw [Try.params7] at hA hval
  clear hA0 hval0
  obtain ⟨v0, v1, v2, d0, d1, d2, p0, p1, p2, rfl, rfl, rfl, h0, h1, h2⟩ := trodAll_three hA
  obtain ⟨l0, rfl, q0, fu0, hf0⟩ := arg_struct ag_33 (by kernel_rfl) (hval 0 33 v0 rfl rfl) h0
  match l0, q0 with
  | [c0_0, c0_1, c0_2], _ =>
    obtain ⟨x0_0, e0_0, _⟩ := field_int hf0 fl_33_0 ui_3_i64
    obtain rfl : c0_0 = _ := List.cons.inj e0_0 |>.1
    obtain ⟨x0_1, e0_1, _⟩ := field_int hf0 fl_33_1 ui_3_i64
    obtain rfl : c0_1 = _ := List.cons.inj e0_1 |>.1
    obtain ⟨x0_2, e0_2, _⟩ := field_int hf0 fl_33_2 ui_3_i64
    obtain rfl : c0_2 = _ := List.cons.inj e0_2 |>.1
    obtain ⟨n1, rfl, r1⟩ := arg_int ui_3_i64 (hval 1 3 v1 rfl rfl) h1
    obtain ⟨n2, rfl, r2⟩ := arg_int ui_3_i64 (hval 2 3 v2 rfl rfl) h2
    exact w_ErrorOf _ _ _ _ _ W

theorem FnExactErrorOf_lifted (os : Os) (started : os.Started) (H : Type) (enc : TypeId × Value → H) :
    ReturnsInHanded {} Try.checked os 7 .any (Rows.fnExactErrorOfSpec.pre6 enc Try.prog Try.f7 Rows.fnExactErrorOfRow.domain false) (Rows.fnExactErrorOfSpec.post enc Try.prog Try.f7 false true false false) := by
  refine law_frame (C := Try.checked) (tb := 4) Try.own Try.laidOut started (by kernel_rfl) Try.func7 rfl ?_ rfl ub_4 (by kernel_rfl)
    (ChangeSpec.witness6 (enc := enc) (C := Try.checked) false ⟨#[], #[.agg #[.int .i64 0, .int .i64 0, .int .i64 0], .int .i64 0, .int .i64 0], []⟩ 8 (by kernel_rfl) (by kernel_rfl) (by kernel_rfl) (by kernel_rfl)) FnExactErrorOf_walk
  intro ds hl
  match ds, hl with
  | [d0, d1, d2], _ => rfl

theorem FnExactErrorOf_holds : Rows.FnExactErrorOfSaid :=
  OpenClaim.holds_of_wide 7 Try.f7 rfl rfl rfl rfl rfl rfl rfl ⟨rfl, rfl, rfl, rfl, rfl⟩ rfl rfl rfl rfl rfl (by kernel_rfl) Try.func7 (by kernel_rfl)
    (of_decide_eq_true (by kernel_rfl)) (by unfold Func.isWrapper; rw [if_neg (of_decide_eq_false (by kernel_rfl))]; exact ⟨rfl, rfl⟩)
    (fun os started H enc _ => FnExactErrorOf_lifted os started H enc)

end Go.Proofs.Ytjlknbeebneelaa
