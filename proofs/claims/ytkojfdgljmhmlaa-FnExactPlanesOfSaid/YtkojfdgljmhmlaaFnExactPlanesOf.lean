/- FnExactPlanesOf returns true at all arguments. No conditions. -/
import Derived.Test.YtkojfdgljmhmlaaRows
import Derived.Test.YtkojfdgljmhmlaaW4
import Derived.Test.YtkojfdgljmhmlaaOpen
import Derived.Test.YtkojfdgljmhmlaaPPlanes
import Derived.ProofKit
namespace Go.Proofs.Ytkojfdgljmhmlaa
open Go.RowKit Go.ChangeShapes Go.WideShapes Go.ChangeAt K
set_option maxRecDepth 100000
set_option maxHeartbeats 4000000

theorem Try.own : ownKnob Try.prog.godebug = none := by kernel_rfl
theorem Try.laidOut : laidOutB Try.prog = true := by kernel_rfl
theorem fl_43_0 : fldAt Try.prog 43 0 = some (3, 0, 1) := by kernel_rfl
theorem fl_43_1 : fldAt Try.prog 43 1 = some (3, 1, 1) := by kernel_rfl
theorem fl_43_2 : fldAt Try.prog 43 2 = some (3, 2, 1) := by kernel_rfl
theorem fl_43_3 : fldAt Try.prog 43 3 = some (41, 3, 1) := by kernel_rfl
theorem ce_138 : Try.prog.cellsOf 138 = 11 := by kernel_rfl
theorem sl_41 : Try.prog.underlying 41 = some (.slice 138) := by kernel_rfl
theorem fl_138_0 : fldAt Try.prog 138 0 = some (3, 0, 1) := by kernel_rfl
theorem fl_138_1 : fldAt Try.prog 138 1 = some (3, 1, 1) := by kernel_rfl
theorem fl_138_2 : fldAt Try.prog 138 2 = some (3, 2, 1) := by kernel_rfl
theorem fl_138_3 : fldAt Try.prog 138 3 = some (3, 3, 1) := by kernel_rfl
theorem fl_138_4 : fldAt Try.prog 138 4 = some (3, 4, 1) := by kernel_rfl
theorem fl_138_5 : fldAt Try.prog 138 5 = some (3, 5, 1) := by kernel_rfl
theorem fl_138_6 : fldAt Try.prog 138 6 = some (3, 6, 1) := by kernel_rfl
theorem fl_138_7 : fldAt Try.prog 138 7 = some (4, 7, 1) := by kernel_rfl
theorem fl_138_8 : fldAt Try.prog 138 8 = some (86, 8, 3) := by kernel_rfl
theorem fl_86_0 : fldAt Try.prog 86 0 = some (3, 0, 1) := by kernel_rfl
theorem fl_86_1 : fldAt Try.prog 86 1 = some (3, 1, 1) := by kernel_rfl
theorem fl_86_2 : fldAt Try.prog 86 2 = some (32, 2, 1) := by kernel_rfl
theorem ce_3 : Try.prog.cellsOf 3 = 1 := by kernel_rfl
theorem sl_32 : Try.prog.underlying 32 = some (.slice 3) := by kernel_rfl
theorem fl_44_0 : fldAt Try.prog 44 0 = some (3, 0, 1) := by kernel_rfl
theorem fl_44_1 : fldAt Try.prog 44 1 = some (4, 1, 1) := by kernel_rfl
theorem fl_44_2 : fldAt Try.prog 44 2 = some (3, 2, 1) := by kernel_rfl
theorem fl_44_3 : fldAt Try.prog 44 3 = some (4, 3, 1) := by kernel_rfl
theorem fl_44_4 : fldAt Try.prog 44 4 = some (4, 4, 1) := by kernel_rfl
theorem fl_44_5 : fldAt Try.prog 44 5 = some (4, 5, 1) := by kernel_rfl
theorem op_86 {H : Type} {enc : TypeId × Value → H} {w : World} {base : Nat} {spare : Nat → Bool} {held : Bool} {fuel : Nat} {cs : List Value} {x : DataW H × List MemPlace} (h : DataW.trod enc Try.prog w base spare held fuel 86 cs = some x) (hl : cs.length = 3) : ∃ v : ImageT, tImage.rd w cs v ∧ okImage v := by
  match cs, hl with
  | [c0, c1, c2], _ =>
    obtain ⟨x0, e0, o0⟩ := field_int h fl_86_0 ui_3_i64
    obtain rfl : c0 = _ := List.cons.inj e0 |>.1
    obtain ⟨x1, e1, o1⟩ := field_int h fl_86_1 ui_3_i64
    obtain rfl : c1 = _ := List.cons.inj e1 |>.1
    obtain ⟨a2, n2, k2, x2, e2, r2, o2⟩ := field_rd (A := tInt) (ok := fun y => I64 y) h fl_86_2 sl_32 ce_3 (fun _ _ _ _ h => el_int (fun _ _ _ h => h) ui_3_i64 h)
    obtain rfl : c2 = _ := List.cons.inj e2 |>.1
    obtain rfl := r2.1
    exact ⟨ImageT.mk x0 x1 x2, ⟨a2, k2, rfl, r2⟩, ⟨o0, o1, o2⟩⟩
theorem op_138 {H : Type} {enc : TypeId × Value → H} {w : World} {base : Nat} {spare : Nat → Bool} {held : Bool} {fuel : Nat} {cs : List Value} {x : DataW H × List MemPlace} (h : DataW.trod enc Try.prog w base spare held fuel 138 cs = some x) (hl : cs.length = 11) : ∃ v : SurfaceT, tSurface.rd w cs v ∧ okSurface v := by
  match cs, hl with
  | [c0, c1, c2, c3, c4, c5, c6, c7, c8, c9, c10], _ =>
    obtain ⟨x0, e0, o0⟩ := field_int h fl_138_0 ui_3_i64
    obtain rfl : c0 = _ := List.cons.inj e0 |>.1
    obtain ⟨x1, e1, o1⟩ := field_int h fl_138_1 ui_3_i64
    obtain rfl : c1 = _ := List.cons.inj e1 |>.1
    obtain ⟨x2, e2, o2⟩ := field_int h fl_138_2 ui_3_i64
    obtain rfl : c2 = _ := List.cons.inj e2 |>.1
    obtain ⟨x3, e3, o3⟩ := field_int h fl_138_3 ui_3_i64
    obtain rfl : c3 = _ := List.cons.inj e3 |>.1
    obtain ⟨x4, e4, o4⟩ := field_int h fl_138_4 ui_3_i64
    obtain rfl : c4 = _ := List.cons.inj e4 |>.1
    obtain ⟨x5, e5, o5⟩ := field_int h fl_138_5 ui_3_i64
    obtain rfl : c5 = _ := List.cons.inj e5 |>.1
    obtain ⟨x6, e6, o6⟩ := field_int h fl_138_6 ui_3_i64
    obtain rfl : c6 = _ := List.cons.inj e6 |>.1
    obtain ⟨x7, e7⟩ := field_bool h fl_138_7 ub_4
    obtain rfl : c7 = _ := List.cons.inj e7 |>.1
    obtain ⟨fu8, y8, h8⟩ := field_at h fl_138_8
    obtain ⟨x8, ⟨a8_0, k8_0, e8, r8_0⟩, o8⟩ := op_86 h8 rfl
    replace e8 : [c8, c9, c10] = [.int .i64 x8.W, .int .i64 x8.H, .slice a8_0 x8.Data.length k8_0] := e8
    simp only [List.cons.injEq, and_true] at e8
    obtain ⟨rfl, rfl, rfl⟩ := e8
    exact ⟨SurfaceT.mk x0 x1 x2 x3 x4 x5 x6 x7 x8, ⟨a8_0, k8_0, rfl, r8_0⟩, ⟨o0, o1, o2, o3, o4, o5, o6, trivial, o8⟩⟩
theorem op_43 {H : Type} {enc : TypeId × Value → H} {w : World} {base : Nat} {spare : Nat → Bool} {held : Bool} {fuel : Nat} {cs : List Value} {x : DataW H × List MemPlace} (h : DataW.trod enc Try.prog w base spare held fuel 43 cs = some x) (hl : cs.length = 4) : ∃ v : SceneT, tScene.rd w cs v ∧ okScene v := by
  match cs, hl with
  | [c0, c1, c2, c3], _ =>
    obtain ⟨x0, e0, o0⟩ := field_int h fl_43_0 ui_3_i64
    obtain rfl : c0 = _ := List.cons.inj e0 |>.1
    obtain ⟨x1, e1, o1⟩ := field_int h fl_43_1 ui_3_i64
    obtain rfl : c1 = _ := List.cons.inj e1 |>.1
    obtain ⟨x2, e2, o2⟩ := field_int h fl_43_2 ui_3_i64
    obtain rfl : c2 = _ := List.cons.inj e2 |>.1
    obtain ⟨a3, n3, k3, x3, e3, r3, o3⟩ := field_rd (A := tSurface) (ok := fun y => okSurface y) h fl_43_3 sl_41 ce_138 (fun _ _ _ hl h => op_138 h hl)
    obtain rfl : c3 = _ := List.cons.inj e3 |>.1
    obtain rfl := r3.1
    exact ⟨SceneT.mk x0 x1 x2 x3, ⟨a3, k3, rfl, r3⟩, ⟨o0, o1, o2, o3⟩⟩
theorem op_44 {H : Type} {enc : TypeId × Value → H} {w : World} {base : Nat} {spare : Nat → Bool} {held : Bool} {fuel : Nat} {cs : List Value} {x : DataW H × List MemPlace} (h : DataW.trod enc Try.prog w base spare held fuel 44 cs = some x) (hl : cs.length = 6) : ∃ v : OptionsT, tOptions.rd w cs v ∧ okOptions v := by
  match cs, hl with
  | [c0, c1, c2, c3, c4, c5], _ =>
    obtain ⟨x0, e0, o0⟩ := field_int h fl_44_0 ui_3_i64
    obtain rfl : c0 = _ := List.cons.inj e0 |>.1
    obtain ⟨x1, e1⟩ := field_bool h fl_44_1 ub_4
    obtain rfl : c1 = _ := List.cons.inj e1 |>.1
    obtain ⟨x2, e2, o2⟩ := field_int h fl_44_2 ui_3_i64
    obtain rfl : c2 = _ := List.cons.inj e2 |>.1
    obtain ⟨x3, e3⟩ := field_bool h fl_44_3 ub_4
    obtain rfl : c3 = _ := List.cons.inj e3 |>.1
    obtain ⟨x4, e4⟩ := field_bool h fl_44_4 ub_4
    obtain rfl : c4 = _ := List.cons.inj e4 |>.1
    obtain ⟨x5, e5⟩ := field_bool h fl_44_5 ub_4
    obtain rfl : c5 = _ := List.cons.inj e5 |>.1
    exact ⟨OptionsT.mk x0 x1 x2 x3 x4 x5, rfl, ⟨o0, trivial, o2, trivial, trivial, trivial⟩⟩

theorem FnExactPlanesOf_walk : LawWalk Try.checked 11 Try.f11 := by
  intro H enc W base args ds p hval0 hA0
  have hval : ∀ (j : Nat) t v, Try.f11.params[j]? = some t → args[j]? = some v → Value.okWide Try.prog W .any base t v := hval0
  have hA : DataW.TrodAll enc Try.prog W 0 (fun _ => true) true Try.f11.params.toList args.toList ds p := hA0
  rw [Try.params11] at hA hval
  clear hA0 hval0
  obtain ⟨v0, v1, v2, d0, d1, d2, p0, p1, p2, rfl, rfl, rfl, h0, h1, h2⟩ := trodAll_three hA
  obtain ⟨l0, rfl, q0, fu0, hf0⟩ := arg_struct ag_43 (by kernel_rfl) (hval 0 43 v0 rfl rfl) h0
  obtain ⟨x0, ⟨a0_0, k0_0, rfl, r0_0⟩, o0⟩ := op_43 hf0 q0
  obtain ⟨l1, rfl, q1, fu1, hf1⟩ := arg_struct ag_44 (by kernel_rfl) (hval 1 44 v1 rfl rfl) h1
  obtain ⟨x1, rfl, o1⟩ := op_44 hf1 q1
  obtain ⟨l2, rfl, q2, fu2, hf2⟩ := arg_struct ag_86 (by kernel_rfl) (hval 2 86 v2 rfl rfl) h2
  obtain ⟨x2, ⟨a2_0, k2_0, rfl, r2_0⟩, o2⟩ := op_86 hf2 q2
  exact w_laws_FnExactPlanesOf (FnExactPlanesOf_true _ _ _ o0 o1 o2) r0_0 r2_0

theorem FnExactPlanesOf_lifted (os : Os) (started : os.Started) (H : Type) (enc : TypeId × Value → H) :
    ReturnsInHanded {} Try.checked os 11 .any (Rows.fnExactPlanesOfSpec.pre6 enc Try.prog Try.f11 Rows.fnExactPlanesOfRow.domain false) (Rows.fnExactPlanesOfSpec.post enc Try.prog Try.f11 false true false false) := by
  refine law_frame (C := Try.checked) (tb := 4) Try.own Try.laidOut started (by kernel_rfl) Try.func11 rfl ?_ rfl ub_4 (by kernel_rfl)
    (ChangeSpec.witness6 (enc := enc) (C := Try.checked) false ⟨#[], #[.agg #[.int .i64 0, .int .i64 0, .int .i64 0, .slice none 0 0], .agg #[.int .i64 0, .bool false, .int .i64 0, .bool false, .bool false, .bool false], .agg #[.int .i64 0, .int .i64 0, .slice none 0 0]], []⟩ 8 (by kernel_rfl) (by kernel_rfl) (by kernel_rfl) (by kernel_rfl)) FnExactPlanesOf_walk
  intro ds hl
  match ds, hl with
  | [d0, d1, d2], _ => rfl

theorem FnExactPlanesOf_holds : Rows.FnExactPlanesOfSaid :=
  OpenClaim.holds_of_wide 11 Try.f11 rfl rfl rfl rfl rfl rfl rfl ⟨rfl, rfl, rfl, rfl, rfl⟩ rfl rfl rfl rfl rfl (by kernel_rfl) Try.func11 (by kernel_rfl)
    (of_decide_eq_true (by kernel_rfl)) (by unfold Func.isWrapper; rw [if_neg (of_decide_eq_false (by kernel_rfl))]; exact ⟨rfl, rfl⟩)
    (fun os started H enc _ => FnExactPlanesOf_lifted os started H enc)

end Go.Proofs.Ytkojfdgljmhmlaa
