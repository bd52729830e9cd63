/- FnExactRunPace returns true: the program and the reference agree at all arguments. No conditions. -/
import Derived.Test.YtbcaoilghmcaeaaWalksE
import Derived.Test.YtbcaoilghmcaeaaFrame
import Derived.ProofKit
namespace Go.Proofs.Ytbcaoilghmcaeaa
open Go.RowKit Go.ChangeShapes Go.WideShapes Go.ChangeAt K
set_option maxRecDepth 100000

theorem Try.own : ownKnob Try.prog.godebug = none := by kernel_rfl
theorem Try.laidOut : laidOutB Try.prog = true := by kernel_rfl
theorem fl_64_0 : fldAt Try.prog 64 0 = some (35, 0, 9) := by kernel_rfl
theorem fl_35_0 : fldAt Try.prog 35 0 = some (3, 0, 1) := by kernel_rfl
theorem ui_3_i64 : Try.prog.underlying 3 = some (.int .i64) := by kernel_rfl
theorem fl_35_1 : fldAt Try.prog 35 1 = some (3, 1, 1) := by kernel_rfl
theorem fl_35_2 : fldAt Try.prog 35 2 = some (3, 2, 1) := by kernel_rfl
theorem fl_35_3 : fldAt Try.prog 35 3 = some (3, 3, 1) := by kernel_rfl
theorem fl_35_4 : fldAt Try.prog 35 4 = some (3, 4, 1) := by kernel_rfl
theorem fl_35_5 : fldAt Try.prog 35 5 = some (3, 5, 1) := by kernel_rfl
theorem fl_35_6 : fldAt Try.prog 35 6 = some (3, 6, 1) := by kernel_rfl
theorem fl_35_7 : fldAt Try.prog 35 7 = some (3, 7, 1) := by kernel_rfl
theorem fl_35_8 : fldAt Try.prog 35 8 = some (3, 8, 1) := by kernel_rfl
theorem fl_64_1 : fldAt Try.prog 64 1 = some (3, 9, 1) := by kernel_rfl
theorem fl_64_2 : fldAt Try.prog 64 2 = some (3, 10, 1) := by kernel_rfl
theorem fl_64_3 : fldAt Try.prog 64 3 = some (44, 11, 1) := by kernel_rfl
theorem sl_44 : Try.prog.underlying 44 = some (.slice 3) := by kernel_rfl
theorem ce_3 : Try.prog.cellsOf 3 = 1 := by kernel_rfl
theorem sl_55 : Try.prog.underlying 55 = some (.slice 4) := by kernel_rfl
theorem ce_4 : Try.prog.cellsOf 4 = 1 := by kernel_rfl

theorem FnExactRunPace_walk : LawWalk Try.checked 14 Try.f14 := by
  intro H enc W base args ds p hval0 hA0
  have hval : ∀ (j : Nat) t v, Try.f14.params[j]? = some t → args[j]? = some v → Value.okWide Try.prog W .any base t v := hval0
  have hA : DataW.TrodAll enc Try.prog W 0 (fun _ => true) true Try.f14.params.toList args.toList ds p := hA0
  rw [Try.params14] at hA hval
  clear hA0 hval0
  obtain ⟨v0, v1, v2, d0, d1, d2, p0, p1, p2, rfl, rfl, rfl, h0, h1, h2⟩ := trodAll_three hA
  obtain ⟨l0, rfl, q0, fu0, hf0⟩ := arg_struct ag_64 (by kernel_rfl) (hval 0 64 v0 rfl rfl) h0
  match l0, q0 with
  | [c0_0, c0_1, c0_2, c0_3, c0_4, c0_5, c0_6, c0_7, c0_8, c0_9, c0_10, c0_11], _ =>
    obtain ⟨fu0_0, y0_0, hf0_0⟩ := field_at hf0 fl_64_0
    obtain ⟨x0_0_0, e0_0_0, _⟩ := field_int hf0_0 fl_35_0 ui_3_i64
    obtain rfl : c0_0 = _ := List.cons.inj e0_0_0 |>.1
    obtain ⟨x0_0_1, e0_0_1, _⟩ := field_int hf0_0 fl_35_1 ui_3_i64
    obtain rfl : c0_1 = _ := List.cons.inj e0_0_1 |>.1
    obtain ⟨x0_0_2, e0_0_2, _⟩ := field_int hf0_0 fl_35_2 ui_3_i64
    obtain rfl : c0_2 = _ := List.cons.inj e0_0_2 |>.1
    obtain ⟨x0_0_3, e0_0_3, _⟩ := field_int hf0_0 fl_35_3 ui_3_i64
    obtain rfl : c0_3 = _ := List.cons.inj e0_0_3 |>.1
    obtain ⟨x0_0_4, e0_0_4, _⟩ := field_int hf0_0 fl_35_4 ui_3_i64
    obtain rfl : c0_4 = _ := List.cons.inj e0_0_4 |>.1
    obtain ⟨x0_0_5, e0_0_5, _⟩ := field_int hf0_0 fl_35_5 ui_3_i64
    obtain rfl : c0_5 = _ := List.cons.inj e0_0_5 |>.1
    obtain ⟨x0_0_6, e0_0_6, _⟩ := field_int hf0_0 fl_35_6 ui_3_i64
    obtain rfl : c0_6 = _ := List.cons.inj e0_0_6 |>.1
    obtain ⟨x0_0_7, e0_0_7, _⟩ := field_int hf0_0 fl_35_7 ui_3_i64
    obtain rfl : c0_7 = _ := List.cons.inj e0_0_7 |>.1
    obtain ⟨x0_0_8, e0_0_8, _⟩ := field_int hf0_0 fl_35_8 ui_3_i64
    obtain rfl : c0_8 = _ := List.cons.inj e0_0_8 |>.1
    obtain ⟨x0_1, e0_1, _⟩ := field_int hf0 fl_64_1 ui_3_i64
    obtain rfl : c0_9 = _ := List.cons.inj e0_1 |>.1
    obtain ⟨x0_2, e0_2, _⟩ := field_int hf0 fl_64_2 ui_3_i64
    obtain rfl : c0_10 = _ := List.cons.inj e0_2 |>.1
    obtain ⟨a0_3, m0_3, k0_3, xs0_3, e0_3, hr0_3⟩ := field_ints hf0 fl_64_3 sl_44 ui_3_i64 ce_3
    obtain rfl : c0_11 = _ := List.cons.inj e0_3 |>.1
    obtain ⟨a1, m1, c1, xs1, rfl, hr1⟩ := arg_bools sl_55 ub_4 ce_4 (hval 1 55 v1 rfl rfl) h1
    obtain ⟨a2, m2, c2, xs2, rfl, hr2⟩ := arg_bools sl_55 ub_4 ce_4 (hval 2 55 v2 rfl rfl) h2
    exact w_RunPace _ _ _ _ _ _ _ _ _ _ _ _ _ _ _ _ _ _ _ _ _ _ _ W hr0_3 hr1 hr2

theorem FnExactRunPace_lifted (os : Os) (started : os.Started) (H : Type) (enc : TypeId × Value → H) :
    ReturnsInHanded {} Try.checked os 14 .any (Rows.fnExactRunPaceSpec.pre6 enc Try.prog Try.f14 Rows.fnExactRunPaceRow.domain false) (Rows.fnExactRunPaceSpec.post enc Try.prog Try.f14 false true false false) := by
  refine law_frame (C := Try.checked) (tb := 4) Try.own Try.laidOut started (by kernel_rfl) Try.func14 rfl ?_ rfl ub_4 (by kernel_rfl)
    (ChangeSpec.witness6 (enc := enc) (C := Try.checked) false ⟨#[], #[.agg #[.int .i64 0, .int .i64 0, .int .i64 0, .int .i64 0, .int .i64 0, .int .i64 0, .int .i64 0, .int .i64 0, .int .i64 0, .int .i64 0, .int .i64 0, .slice none 0 0], .slice none 0 0, .slice none 0 0], []⟩ 8 (by kernel_rfl) (by kernel_rfl) (by kernel_rfl) (by kernel_rfl)) FnExactRunPace_walk
  intro ds hl
  match ds, hl with
  | [d0, d1, d2], _ => rfl

theorem FnExactRunPace_holds : Rows.FnExactRunPaceSaid :=
  OpenClaim.holds_of_wide 14 Try.f14 rfl rfl rfl rfl rfl rfl rfl ⟨rfl, rfl, rfl, rfl, rfl⟩ rfl rfl rfl rfl rfl (by kernel_rfl) Try.func14 (by kernel_rfl)
    (of_decide_eq_true (by kernel_rfl)) (by unfold Func.isWrapper; rw [if_neg (of_decide_eq_false (by kernel_rfl))]; exact ⟨rfl, rfl⟩)
    (fun os started H enc _ => FnExactRunPace_lifted os started H enc)

end Go.Proofs.Ytbcaoilghmcaeaa
