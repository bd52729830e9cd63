/- FnExactChangesFor returns true at all arguments. No conditions. -/
import Derived.Test.YtmhalmnbgkpmnaaRows
import Derived.Test.YtmhalmnbgkpmnaaW2
import Derived.Test.YtmhalmnbgkpmnaaOpen
import Derived.Test.YtmhalmnbgkpmnaaPChanges
import Derived.ProofKit
namespace Go.Proofs.Ytmhalmnbgkpmnaa
open Go.RowKit Go.ChangeShapes Go.WideShapes Go.ChangeAt K
set_option maxRecDepth 100000
set_option maxHeartbeats 4000000

theorem Try.own : ownKnob Try.prog.godebug = none := by kernel_rfl
theorem Try.laidOut : laidOutB Try.prog = true := by kernel_rfl
theorem fl_27_0 : fldAt Try.prog 27 0 = some (3, 0, 1) := by kernel_rfl
theorem ui_3_i64 : Try.prog.underlying 3 = some (.int .i64) := by kernel_rfl
theorem fl_27_1 : fldAt Try.prog 27 1 = some (3, 1, 1) := by kernel_rfl
theorem fl_27_2 : fldAt Try.prog 27 2 = some (22, 2, 1) := by kernel_rfl
theorem ce_99 : Try.prog.cellsOf 99 = 11 := by kernel_rfl
theorem sl_22 : Try.prog.underlying 22 = some (.slice 99) := by kernel_rfl
theorem fl_99_0 : fldAt Try.prog 99 0 = some (4, 0, 1) := by kernel_rfl
theorem fl_99_1 : fldAt Try.prog 99 1 = some (3, 1, 1) := by kernel_rfl
theorem fl_99_2 : fldAt Try.prog 99 2 = some (3, 2, 1) := by kernel_rfl
theorem fl_99_3 : fldAt Try.prog 99 3 = some (3, 3, 1) := by kernel_rfl
theorem fl_99_4 : fldAt Try.prog 99 4 = some (3, 4, 1) := by kernel_rfl
theorem fl_99_5 : fldAt Try.prog 99 5 = some (3, 5, 1) := by kernel_rfl
theorem fl_99_6 : fldAt Try.prog 99 6 = some (23, 6, 1) := by kernel_rfl
theorem ce_3 : Try.prog.cellsOf 3 = 1 := by kernel_rfl
theorem sl_23 : Try.prog.underlying 23 = some (.slice 3) := by kernel_rfl
theorem fl_99_7 : fldAt Try.prog 99 7 = some (3, 7, 1) := by kernel_rfl
theorem fl_99_8 : fldAt Try.prog 99 8 = some (3, 8, 1) := by kernel_rfl
theorem fl_99_9 : fldAt Try.prog 99 9 = some (3, 9, 1) := by kernel_rfl
theorem fl_99_10 : fldAt Try.prog 99 10 = some (3, 10, 1) := by kernel_rfl
theorem fl_27_3 : fldAt Try.prog 27 3 = some (25, 3, 2) := by kernel_rfl
theorem fl_25_0 : fldAt Try.prog 25 0 = some (23, 0, 1) := by kernel_rfl
theorem fl_25_1 : fldAt Try.prog 25 1 = some (23, 1, 1) := by kernel_rfl
theorem op_99 {H : Type} {enc : TypeId × Value → H} {w : World} {base : Nat} {spare : Nat → Bool} {held : Bool} {fuel : Nat} {cs : List Value} {x : DataW H × List MemPlace} (h : DataW.trod enc Try.prog w base spare held fuel 99 cs = some x) (hl : cs.length = 11) : ∃ v : PlaneT, tPlane.rd w cs v ∧ okPlane v := by
  match cs, hl with
  | [c0, c1, c2, c3, c4, c5, c6, c7, c8, c9, c10], _ =>
    obtain ⟨x0, e0⟩ := field_bool h fl_99_0 ub_4
    obtain rfl : c0 = _ := List.cons.inj e0 |>.1
    obtain ⟨x1, e1, o1⟩ := field_int h fl_99_1 ui_3_i64
    obtain rfl : c1 = _ := List.cons.inj e1 |>.1
    obtain ⟨x2, e2, o2⟩ := field_int h fl_99_2 ui_3_i64
    obtain rfl : c2 = _ := List.cons.inj e2 |>.1
    obtain ⟨x3, e3, o3⟩ := field_int h fl_99_3 ui_3_i64
    obtain rfl : c3 = _ := List.cons.inj e3 |>.1
    obtain ⟨x4, e4, o4⟩ := field_int h fl_99_4 ui_3_i64
    obtain rfl : c4 = _ := List.cons.inj e4 |>.1
    obtain ⟨x5, e5, o5⟩ := field_int h fl_99_5 ui_3_i64
    obtain rfl : c5 = _ := List.cons.inj e5 |>.1
    obtain ⟨a6, n6, k6, x6, e6, r6, o6⟩ := field_rd (A := tInt) (ok := fun y => I64 y) h fl_99_6 sl_23 ce_3 (fun _ _ _ _ h => el_int (fun _ _ _ h => h) ui_3_i64 h)
    obtain rfl : c6 = _ := List.cons.inj e6 |>.1
    obtain rfl := r6.1
    obtain ⟨x7, e7, o7⟩ := field_int h fl_99_7 ui_3_i64
    obtain rfl : c7 = _ := List.cons.inj e7 |>.1
    obtain ⟨x8, e8, o8⟩ := field_int h fl_99_8 ui_3_i64
    obtain rfl : c8 = _ := List.cons.inj e8 |>.1
    obtain ⟨x9, e9, o9⟩ := field_int h fl_99_9 ui_3_i64
    obtain rfl : c9 = _ := List.cons.inj e9 |>.1
    obtain ⟨x10, e10, o10⟩ := field_int h fl_99_10 ui_3_i64
    obtain rfl : c10 = _ := List.cons.inj e10 |>.1
    exact ⟨PlaneT.mk x0 x1 x2 x3 x4 x5 x6 x7 x8 x9 x10, ⟨a6, k6, rfl, r6⟩, ⟨trivial, o1, o2, o3, o4, o5, o6, o7, o8, o9, o10⟩⟩
theorem op_25 {H : Type} {enc : TypeId × Value → H} {w : World} {base : Nat} {spare : Nat → Bool} {held : Bool} {fuel : Nat} {cs : List Value} {x : DataW H × List MemPlace} (h : DataW.trod enc Try.prog w base spare held fuel 25 cs = some x) (hl : cs.length = 2) : ∃ v : ColorMapT, tColorMap.rd w cs v ∧ okColorMap v := by
  match cs, hl with
  | [c0, c1], _ =>
    obtain ⟨a0, n0, k0, x0, e0, r0, o0⟩ := field_rd (A := tInt) (ok := fun y => I64 y) h fl_25_0 sl_23 ce_3 (fun _ _ _ _ h => el_int (fun _ _ _ h => h) ui_3_i64 h)
    obtain rfl : c0 = _ := List.cons.inj e0 |>.1
    obtain rfl := r0.1
    obtain ⟨a1, n1, k1, x1, e1, r1, o1⟩ := field_rd (A := tInt) (ok := fun y => I64 y) h fl_25_1 sl_23 ce_3 (fun _ _ _ _ h => el_int (fun _ _ _ h => h) ui_3_i64 h)
    obtain rfl : c1 = _ := List.cons.inj e1 |>.1
    obtain rfl := r1.1
    exact ⟨ColorMapT.mk x0 x1, ⟨a0, k0, a1, k1, rfl, r0, r1⟩, ⟨o0, o1⟩⟩
theorem op_27 {H : Type} {enc : TypeId × Value → H} {w : World} {base : Nat} {spare : Nat → Bool} {held : Bool} {fuel : Nat} {cs : List Value} {x : DataW H × List MemPlace} (h : DataW.trod enc Try.prog w base spare held fuel 27 cs = some x) (hl : cs.length = 5) : ∃ v : CrtcT, tCrtc.rd w cs v ∧ okCrtc v := by
  match cs, hl with
  | [c0, c1, c2, c3, c4], _ =>
    obtain ⟨x0, e0, o0⟩ := field_int h fl_27_0 ui_3_i64
    obtain rfl : c0 = _ := List.cons.inj e0 |>.1
    obtain ⟨x1, e1, o1⟩ := field_int h fl_27_1 ui_3_i64
    obtain rfl : c1 = _ := List.cons.inj e1 |>.1
    obtain ⟨a2, n2, k2, x2, e2, r2, o2⟩ := field_rd (A := tPlane) (ok := fun y => okPlane y) h fl_27_2 sl_22 ce_99 (fun _ _ _ hl h => op_99 h hl)
    obtain rfl : c2 = _ := List.cons.inj e2 |>.1
    obtain rfl := r2.1
    obtain ⟨fu3, y3, h3⟩ := field_at h fl_27_3
    obtain ⟨x3, ⟨a3_0, k3_0, a3_1, k3_1, e3, r3_0, r3_1⟩, o3⟩ := op_25 h3 rfl
    replace e3 : [c3, c4] = [.slice a3_0 x3.Matrix.length k3_0, .slice a3_1 x3.Curve.length k3_1] := e3
    simp only [List.cons.injEq, and_true] at e3
    obtain ⟨rfl, rfl⟩ := e3
    exact ⟨CrtcT.mk x0 x1 x2 x3, ⟨a2, k2, a3_0, k3_0, a3_1, k3_1, rfl, r2, r3_0, r3_1⟩, ⟨o0, o1, o2, o3⟩⟩

theorem FnExactChangesFor_walk : LawWalk Try.checked 3 Try.f3 := by
  intro H enc W base args ds p hval0 hA0
  have hval : ∀ (j : Nat) t v, Try.f3.params[j]? = some t → args[j]? = some v → Value.okWide Try.prog W .any base t v := hval0
  have hA : DataW.TrodAll enc Try.prog W 0 (fun _ => true) true Try.f3.params.toList args.toList ds p := hA0
  rw [Try.params3] at hA hval
  clear hA0 hval0
  obtain ⟨v0, v1, v2, d0, d1, d2, p0, p1, p2, rfl, rfl, rfl, h0, h1, h2⟩ := trodAll_three hA
  obtain ⟨l0, rfl, q0, fu0, hf0⟩ := arg_struct ag_27 (by kernel_rfl) (hval 0 27 v0 rfl rfl) h0
  obtain ⟨x0, ⟨a0_0, k0_0, a0_1, k0_1, a0_2, k0_2, rfl, r0_0, r0_1, r0_2⟩, o0⟩ := op_27 hf0 q0
  obtain ⟨a1, n1, c1, x1, rfl, r1, o1⟩ := arg_rd (A := tPlane) (ok := fun y => okPlane y) sl_22 ce_99 (hval 1 22 v1 rfl rfl) h1 (fun _ _ _ hl h => op_99 h hl)
  obtain ⟨l2, rfl, q2, fu2, hf2⟩ := arg_struct ag_25 (by kernel_rfl) (hval 2 25 v2 rfl rfl) h2
  obtain ⟨x2, ⟨a2_0, k2_0, a2_1, k2_1, rfl, r2_0, r2_1⟩, o2⟩ := op_25 hf2 q2
  exact w_laws_FnExactChangesFor (FnExactChangesFor_true _ _ _ o0 o1 o2) r0_0 r0_1 r0_2 r1 r2_0 r2_1

theorem FnExactChangesFor_lifted (os : Os) (started : os.Started) (H : Type) (enc : TypeId × Value → H) :
    ReturnsInHanded {} Try.checked os 3 .any (Rows.fnExactChangesForSpec.pre6 enc Try.prog Try.f3 Rows.fnExactChangesForRow.domain false) (Rows.fnExactChangesForSpec.post enc Try.prog Try.f3 false true false false) := by
  refine law_frame (C := Try.checked) (tb := 4) Try.own Try.laidOut started (by kernel_rfl) Try.func3 rfl ?_ rfl ub_4 (by kernel_rfl)
    (ChangeSpec.witness6 (enc := enc) (C := Try.checked) false ⟨#[], #[.agg #[.int .i64 0, .int .i64 0, .slice none 0 0, .slice none 0 0, .slice none 0 0], .slice none 0 0, .agg #[.slice none 0 0, .slice none 0 0]], []⟩ 8 (by kernel_rfl) (by kernel_rfl) (by kernel_rfl) (by kernel_rfl)) FnExactChangesFor_walk
  intro ds hl
  match ds, hl with
  | [d0, d1, d2], _ => rfl

theorem FnExactChangesFor_holds : Rows.FnExactChangesForSaid :=
  OpenClaim.holds_of_wide 3 Try.f3 rfl rfl rfl rfl rfl rfl rfl ⟨rfl, rfl, rfl, rfl, rfl⟩ rfl rfl rfl rfl rfl (by kernel_rfl) Try.func3 (by kernel_rfl)
    (of_decide_eq_true (by kernel_rfl)) (by unfold Func.isWrapper; rw [if_neg (of_decide_eq_false (by kernel_rfl))]; exact ⟨rfl, rfl⟩)
    (fun os started H enc _ => FnExactChangesFor_lifted os started H enc)

end Go.Proofs.Ytmhalmnbgkpmnaa
