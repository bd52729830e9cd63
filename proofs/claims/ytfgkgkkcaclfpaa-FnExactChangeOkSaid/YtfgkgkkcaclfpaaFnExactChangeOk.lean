/- FnExactChangeOk returns true at all arguments. No conditions. -/
import Derived.Test.YtfgkgkkcaclfpaaRows
import Derived.Test.YtfgkgkkcaclfpaaW2
import Derived.Test.YtfgkgkkcaclfpaaOpen
import Derived.Test.YtfgkgkkcaclfpaaPState
import Derived.ProofKit
namespace Go.Proofs.Ytfgkgkkcaclfpaa
open Go.RowKit Go.ChangeShapes Go.WideShapes Go.ChangeAt K
set_option maxRecDepth 100000
set_option maxHeartbeats 4000000

theorem Try.own : ownKnob Try.prog.godebug = none := by kernel_rfl
theorem Try.laidOut : laidOutB Try.prog = true := by kernel_rfl
theorem fl_66_0 : fldAt Try.prog 66 0 = some (3, 0, 1) := by kernel_rfl
theorem fl_66_1 : fldAt Try.prog 66 1 = some (62, 1, 11) := by kernel_rfl
theorem fl_62_0 : fldAt Try.prog 62 0 = some (4, 0, 1) := by kernel_rfl
theorem fl_62_1 : fldAt Try.prog 62 1 = some (3, 1, 1) := by kernel_rfl
theorem fl_62_2 : fldAt Try.prog 62 2 = some (3, 2, 1) := by kernel_rfl
theorem fl_62_3 : fldAt Try.prog 62 3 = some (3, 3, 1) := by kernel_rfl
theorem fl_62_4 : fldAt Try.prog 62 4 = some (3, 4, 1) := by kernel_rfl
theorem fl_62_5 : fldAt Try.prog 62 5 = some (3, 5, 1) := by kernel_rfl
theorem fl_62_6 : fldAt Try.prog 62 6 = some (46, 6, 1) := by kernel_rfl
theorem ce_3 : Try.prog.cellsOf 3 = 1 := by kernel_rfl
theorem sl_46 : Try.prog.underlying 46 = some (.slice 3) := by kernel_rfl
theorem fl_62_7 : fldAt Try.prog 62 7 = some (3, 7, 1) := by kernel_rfl
theorem fl_62_8 : fldAt Try.prog 62 8 = some (3, 8, 1) := by kernel_rfl
theorem fl_62_9 : fldAt Try.prog 62 9 = some (3, 9, 1) := by kernel_rfl
theorem fl_62_10 : fldAt Try.prog 62 10 = some (3, 10, 1) := by kernel_rfl
theorem fl_66_2 : fldAt Try.prog 66 2 = some (64, 12, 2) := by kernel_rfl
theorem fl_64_0 : fldAt Try.prog 64 0 = some (46, 0, 1) := by kernel_rfl
theorem fl_64_1 : fldAt Try.prog 64 1 = some (46, 1, 1) := by kernel_rfl
theorem op_62 {H : Type} {enc : TypeId × Value → H} {w : World} {base : Nat} {spare : Nat → Bool} {held : Bool} {fuel : Nat} {cs : List Value} {x : DataW H × List MemPlace} (h : DataW.trod enc Try.prog w base spare held fuel 62 cs = some x) (hl : cs.length = 11) : ∃ v : PlaneT, tPlane.rd w cs v ∧ okPlane v := by
  match cs, hl with
  | [c0, c1, c2, c3, c4, c5, c6, c7, c8, c9, c10], _ =>
    obtain ⟨x0, e0⟩ := field_bool h fl_62_0 ub_4
    obtain rfl : c0 = _ := List.cons.inj e0 |>.1
    obtain ⟨x1, e1, o1⟩ := field_int h fl_62_1 ui_3_i64
    obtain rfl : c1 = _ := List.cons.inj e1 |>.1
    obtain ⟨x2, e2, o2⟩ := field_int h fl_62_2 ui_3_i64
    obtain rfl : c2 = _ := List.cons.inj e2 |>.1
    obtain ⟨x3, e3, o3⟩ := field_int h fl_62_3 ui_3_i64
    obtain rfl : c3 = _ := List.cons.inj e3 |>.1
    obtain ⟨x4, e4, o4⟩ := field_int h fl_62_4 ui_3_i64
    obtain rfl : c4 = _ := List.cons.inj e4 |>.1
    obtain ⟨x5, e5, o5⟩ := field_int h fl_62_5 ui_3_i64
    obtain rfl : c5 = _ := List.cons.inj e5 |>.1
    obtain ⟨a6, n6, k6, x6, e6, r6, o6⟩ := field_rd (A := tInt) (ok := fun y => I64 y) h fl_62_6 sl_46 ce_3 (fun _ _ _ _ h => el_int (fun _ _ _ h => h) ui_3_i64 h)
    obtain rfl : c6 = _ := List.cons.inj e6 |>.1
    obtain rfl := r6.1
    obtain ⟨x7, e7, o7⟩ := field_int h fl_62_7 ui_3_i64
    obtain rfl : c7 = _ := List.cons.inj e7 |>.1
    obtain ⟨x8, e8, o8⟩ := field_int h fl_62_8 ui_3_i64
    obtain rfl : c8 = _ := List.cons.inj e8 |>.1
    obtain ⟨x9, e9, o9⟩ := field_int h fl_62_9 ui_3_i64
    obtain rfl : c9 = _ := List.cons.inj e9 |>.1
    obtain ⟨x10, e10, o10⟩ := field_int h fl_62_10 ui_3_i64
    obtain rfl : c10 = _ := List.cons.inj e10 |>.1
    exact ⟨PlaneT.mk x0 x1 x2 x3 x4 x5 x6 x7 x8 x9 x10, ⟨a6, k6, rfl, r6⟩, ⟨trivial, o1, o2, o3, o4, o5, o6, o7, o8, o9, o10⟩⟩
theorem op_64 {H : Type} {enc : TypeId × Value → H} {w : World} {base : Nat} {spare : Nat → Bool} {held : Bool} {fuel : Nat} {cs : List Value} {x : DataW H × List MemPlace} (h : DataW.trod enc Try.prog w base spare held fuel 64 cs = some x) (hl : cs.length = 2) : ∃ v : ColorMapT, tColorMap.rd w cs v ∧ okColorMap v := by
  match cs, hl with
  | [c0, c1], _ =>
    obtain ⟨a0, n0, k0, x0, e0, r0, o0⟩ := field_rd (A := tInt) (ok := fun y => I64 y) h fl_64_0 sl_46 ce_3 (fun _ _ _ _ h => el_int (fun _ _ _ h => h) ui_3_i64 h)
    obtain rfl : c0 = _ := List.cons.inj e0 |>.1
    obtain rfl := r0.1
    obtain ⟨a1, n1, k1, x1, e1, r1, o1⟩ := field_rd (A := tInt) (ok := fun y => I64 y) h fl_64_1 sl_46 ce_3 (fun _ _ _ _ h => el_int (fun _ _ _ h => h) ui_3_i64 h)
    obtain rfl : c1 = _ := List.cons.inj e1 |>.1
    obtain rfl := r1.1
    exact ⟨ColorMapT.mk x0 x1, ⟨a0, k0, a1, k1, rfl, r0, r1⟩, ⟨o0, o1⟩⟩
theorem op_66 {H : Type} {enc : TypeId × Value → H} {w : World} {base : Nat} {spare : Nat → Bool} {held : Bool} {fuel : Nat} {cs : List Value} {x : DataW H × List MemPlace} (h : DataW.trod enc Try.prog w base spare held fuel 66 cs = some x) (hl : cs.length = 14) : ∃ v : ChangeT, tChange.rd w cs v ∧ okChange v := by
  match cs, hl with
  | [c0, c1, c2, c3, c4, c5, c6, c7, c8, c9, c10, c11, c12, c13], _ =>
    obtain ⟨x0, e0, o0⟩ := field_int h fl_66_0 ui_3_i64
    obtain rfl : c0 = _ := List.cons.inj e0 |>.1
    obtain ⟨fu1, y1, h1⟩ := field_at h fl_66_1
    obtain ⟨x1, ⟨a1_0, k1_0, e1, r1_0⟩, o1⟩ := op_62 h1 rfl
    replace e1 : [c1, c2, c3, c4, c5, c6, c7, c8, c9, c10, c11] = [.bool x1.On, .int .i64 x1.X, .int .i64 x1.Y, .int .i64 x1.W, .int .i64 x1.H, .int .i64 x1.Layout, .slice a1_0 x1.Words.length k1_0, .int .i64 x1.Alpha, .int .i64 x1.Orient, .int .i64 x1.ToW, .int .i64 x1.ToH] := e1
    simp only [List.cons.injEq, and_true] at e1
    obtain ⟨rfl, rfl, rfl, rfl, rfl, rfl, rfl, rfl, rfl, rfl, rfl⟩ := e1
    obtain ⟨fu2, y2, h2⟩ := field_at h fl_66_2
    obtain ⟨x2, ⟨a2_0, k2_0, a2_1, k2_1, e2, r2_0, r2_1⟩, o2⟩ := op_64 h2 rfl
    replace e2 : [c12, c13] = [.slice a2_0 x2.Matrix.length k2_0, .slice a2_1 x2.Curve.length k2_1] := e2
    simp only [List.cons.injEq, and_true] at e2
    obtain ⟨rfl, rfl⟩ := e2
    exact ⟨ChangeT.mk x0 x1 x2, ⟨a1_0, k1_0, a2_0, k2_0, a2_1, k2_1, rfl, r1_0, r2_0, r2_1⟩, ⟨o0, o1, o2⟩⟩

theorem FnExactChangeOk_walk : LawWalk Try.checked 8 Try.f8 := by
  intro H enc W base args ds p hval0 hA0
  have hval : ∀ (j : Nat) t v, Try.f8.params[j]? = some t → args[j]? = some v → Value.okWide Try.prog W .any base t v := hval0
  have hA : DataW.TrodAll enc Try.prog W 0 (fun _ => true) true Try.f8.params.toList args.toList ds p := hA0
  rw [Try.params8] at hA hval
  clear hA0 hval0
  obtain ⟨v0, d0, rfl, rfl, h0⟩ := trodAll_one hA
  obtain ⟨l0, rfl, q0, fu0, hf0⟩ := arg_struct ag_66 (by kernel_rfl) (hval 0 66 v0 rfl rfl) h0
  obtain ⟨x0, ⟨a0_0, k0_0, a0_1, k0_1, a0_2, k0_2, rfl, r0_0, r0_1, r0_2⟩, o0⟩ := op_66 hf0 q0
  exact w_laws_FnExactChangeOk (FnExactChangeOk_true _ o0) r0_0 r0_1 r0_2

theorem FnExactChangeOk_lifted (os : Os) (started : os.Started) (H : Type) (enc : TypeId × Value → H) :
    ReturnsInHanded {} Try.checked os 8 .any (Rows.fnExactChangeOkSpec.pre6 enc Try.prog Try.f8 Rows.fnExactChangeOkRow.domain false) (Rows.fnExactChangeOkSpec.post enc Try.prog Try.f8 false true false false) := by
  refine law_frame (C := Try.checked) (tb := 4) Try.own Try.laidOut started (by kernel_rfl) Try.func8 rfl ?_ rfl ub_4 (by kernel_rfl)
    (ChangeSpec.witness6 (enc := enc) (C := Try.checked) false ⟨#[], #[.agg #[.int .i64 0, .bool false, .int .i64 0, .int .i64 0, .int .i64 0, .int .i64 0, .int .i64 0, .slice none 0 0, .int .i64 0, .int .i64 0, .int .i64 0, .int .i64 0, .slice none 0 0, .slice none 0 0]], []⟩ 8 (by kernel_rfl) (by kernel_rfl) (by kernel_rfl) (by kernel_rfl)) FnExactChangeOk_walk
  intro ds hl
  match ds, hl with
  | [d0], _ => rfl

theorem FnExactChangeOk_holds : Rows.FnExactChangeOkSaid :=
  OpenClaim.holds_of_wide 8 Try.f8 rfl rfl rfl rfl rfl rfl rfl ⟨rfl, rfl, rfl, rfl, rfl⟩ rfl rfl rfl rfl rfl (by kernel_rfl) Try.func8 (by kernel_rfl)
    (of_decide_eq_true (by kernel_rfl)) (by unfold Func.isWrapper; rw [if_neg (of_decide_eq_false (by kernel_rfl))]; exact ⟨rfl, rfl⟩)
    (fun os started H enc _ => FnExactChangeOk_lifted os started H enc)

end Go.Proofs.Ytfgkgkkcaclfpaa
