/- FnExactOptionsOk returns true: the program and the reference agree on every Options value. No conditions. -/
import Derived.Test.YtjlknbeebneelaaWalks
import Derived.Test.YtjlknbeebneelaaFrame
import Derived.ProofKit
namespace Go.Proofs.Ytjlknbeebneelaa
open Go.RowKit Go.ChangeShapes Go.WideShapes Go.ChangeAt K

theorem Try.own : ownKnob Try.prog.godebug = none := by kernel_rfl
theorem Try.laidOut : laidOutB Try.prog = true := by kernel_rfl
theorem fl_25_0 : fldAt Try.prog 25 0 = some (3, 0, 1) := by kernel_rfl
theorem fl_25_1 : fldAt Try.prog 25 1 = some (4, 1, 1) := by kernel_rfl
theorem fl_25_2 : fldAt Try.prog 25 2 = some (3, 2, 1) := by kernel_rfl
theorem fl_25_3 : fldAt Try.prog 25 3 = some (4, 3, 1) := by kernel_rfl
theorem fl_25_4 : fldAt Try.prog 25 4 = some (4, 4, 1) := by kernel_rfl
theorem fl_25_5 : fldAt Try.prog 25 5 = some (4, 5, 1) := by kernel_rfl

theorem FnExactOptionsOk_walk : LawWalk Try.checked 4 Try.f4 := by
  intro H enc W base args ds p hval0 hA0
  have hval : ∀ (j : Nat) t v, Try.f4.params[j]? = some t → args[j]? = some v → Value.okWide Try.prog W .any base t v := hval0
  have hA : DataW.TrodAll enc Try.prog W 0 (fun _ => true) true Try.f4.params.toList args.toList ds p := hA0
  rw [Try.params4] at hA hval
  clear hA0 hval0
  obtain ⟨v0, d0, rfl, rfl, h0⟩ := trodAll_one hA
  obtain ⟨l0, rfl, q0, fu0, hf0⟩ := arg_struct ag_25 (by kernel_rfl) (hval 0 25 v0 rfl rfl) h0
  match l0, q0 with
  | [c0_0, c0_1, c0_2, c0_3, c0_4, c0_5], _ =>
    obtain ⟨x0_0, e0_0, _⟩ := field_int hf0 fl_25_0 ui_3_i64
    obtain rfl : c0_0 = _ := List.cons.inj e0_0 |>.1
    obtain ⟨x0_1, e0_1⟩ := field_bool hf0 fl_25_1 ub_4
    obtain rfl : c0_1 = _ := List.cons.inj e0_1 |>.1
    obtain ⟨x0_2, e0_2, _⟩ := field_int hf0 fl_25_2 ui_3_i64
    obtain rfl : c0_2 = _ := List.cons.inj e0_2 |>.1
    obtain ⟨x0_3, e0_3⟩ := field_bool hf0 fl_25_3 ub_4
    obtain rfl : c0_3 = _ := List.cons.inj e0_3 |>.1
    obtain ⟨x0_4, e0_4⟩ := field_bool hf0 fl_25_4 ub_4
    obtain rfl : c0_4 = _ := List.cons.inj e0_4 |>.1
    obtain ⟨x0_5, e0_5⟩ := field_bool hf0 fl_25_5 ub_4
    obtain rfl : c0_5 = _ := List.cons.inj e0_5 |>.1
    exact w_OptionsOk _ _ _ _ _ _ W

theorem FnExactOptionsOk_lifted (os : Os) (started : os.Started) (H : Type) (enc : TypeId × Value → H) :
    ReturnsInHanded {} Try.checked os 4 .any (Rows.fnExactOptionsOkSpec.pre6 enc Try.prog Try.f4 Rows.fnExactOptionsOkRow.domain false) (Rows.fnExactOptionsOkSpec.post enc Try.prog Try.f4 false true false false) := by
  refine law_frame (C := Try.checked) (tb := 4) Try.own Try.laidOut started (by kernel_rfl) Try.func4 rfl ?_ rfl ub_4 (by kernel_rfl)
    (ChangeSpec.witness6 (enc := enc) (C := Try.checked) false ⟨#[], #[.agg #[.int .i64 0, .bool false, .int .i64 0, .bool false, .bool false, .bool false]], []⟩ 8 (by kernel_rfl) (by kernel_rfl) (by kernel_rfl) (by kernel_rfl)) FnExactOptionsOk_walk
  intro ds hl
  match ds, hl with
  | [d0], _ => rfl

theorem FnExactOptionsOk_holds : Rows.FnExactOptionsOkSaid :=
  OpenClaim.holds_of_wide 4 Try.f4 rfl rfl rfl rfl rfl rfl rfl ⟨rfl, rfl, rfl, rfl, rfl⟩ rfl rfl rfl rfl rfl (by kernel_rfl) Try.func4 (by kernel_rfl)
    (of_decide_eq_true (by kernel_rfl)) (by unfold Func.isWrapper; rw [if_neg (of_decide_eq_false (by kernel_rfl))]; exact ⟨rfl, rfl⟩)
    (fun os started H enc _ => FnExactOptionsOk_lifted os started H enc)

end Go.Proofs.Ytjlknbeebneelaa
