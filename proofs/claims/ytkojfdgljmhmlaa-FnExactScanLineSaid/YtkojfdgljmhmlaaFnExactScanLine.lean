/- FnExactScanLine returns true at all arguments. No conditions. -/
import Derived.Test.YtkojfdgljmhmlaaRows
import Derived.Test.YtkojfdgljmhmlaaW4
import Derived.Test.YtkojfdgljmhmlaaOpen
import Derived.Test.YtkojfdgljmhmlaaPScanLaws
import Derived.ProofKit
namespace Go.Proofs.Ytkojfdgljmhmlaa
open Go.RowKit Go.ChangeShapes Go.WideShapes Go.ChangeAt K
set_option maxRecDepth 100000
set_option maxHeartbeats 4000000

theorem Try.own : ownKnob Try.prog.godebug = none := by kernel_rfl
theorem Try.laidOut : laidOutB Try.prog = true := by kernel_rfl
theorem ce_63 : Try.prog.cellsOf 63 = 11 := by kernel_rfl
theorem sl_74 : Try.prog.underlying 74 = some (.slice 63) := by kernel_rfl
theorem fl_63_0 : fldAt Try.prog 63 0 = some (4, 0, 1) := by kernel_rfl
theorem fl_63_1 : fldAt Try.prog 63 1 = some (3, 1, 1) := by kernel_rfl
theorem ui_3_i64 : Try.prog.underlying 3 = some (.int .i64) := by kernel_rfl
theorem fl_63_2 : fldAt Try.prog 63 2 = some (3, 2, 1) := by kernel_rfl
theorem fl_63_3 : fldAt Try.prog 63 3 = some (3, 3, 1) := by kernel_rfl
theorem fl_63_4 : fldAt Try.prog 63 4 = some (3, 4, 1) := by kernel_rfl
theorem fl_63_5 : fldAt Try.prog 63 5 = some (3, 5, 1) := by kernel_rfl
theorem fl_63_6 : fldAt Try.prog 63 6 = some (32, 6, 1) := by kernel_rfl
theorem ce_3 : Try.prog.cellsOf 3 = 1 := by kernel_rfl
theorem sl_32 : Try.prog.underlying 32 = some (.slice 3) := by kernel_rfl
theorem fl_63_7 : fldAt Try.prog 63 7 = some (3, 7, 1) := by kernel_rfl
theorem fl_63_8 : fldAt Try.prog 63 8 = some (3, 8, 1) := by kernel_rfl
theorem fl_63_9 : fldAt Try.prog 63 9 = some (3, 9, 1) := by kernel_rfl
theorem fl_63_10 : fldAt Try.prog 63 10 = some (3, 10, 1) := by kernel_rfl
theorem op_63 {H : Type} {enc : TypeId × Value → H} {w : World} {base : Nat} {spare : Nat → Bool} {held : Bool} {fuel : Nat} {cs : List Value} {x : DataW H × List MemPlace} (h : DataW.trod enc Try.prog w base spare held fuel 63 cs = some x) (hl : cs.length = 11) : ∃ v : PlaneT, tPlane.rd w cs v ∧ okPlane v := by
  match cs, hl with
  | [c0, c1, c2, c3, c4, c5, c6, c7, c8, c9, c10], _ =>
    obtain ⟨x0, e0⟩ := field_bool h fl_63_0 ub_4
    obtain rfl : c0 = _ := List.cons.inj e0 |>.1
    obtain ⟨x1, e1, o1⟩ := field_int h fl_63_1 ui_3_i64
    obtain rfl : c1 = _ := List.cons.inj e1 |>.1
    obtain ⟨x2, e2, o2⟩ := field_int h fl_63_2 ui_3_i64
    obtain rfl : c2 = _ := List.cons.inj e2 |>.1
    obtain ⟨x3, e3, o3⟩ := field_int h fl_63_3 ui_3_i64
    obtain rfl : c3 = _ := List.cons.inj e3 |>.1
    obtain ⟨x4, e4, o4⟩ := field_int h fl_63_4 ui_3_i64
    obtain rfl : c4 = _ := List.cons.inj e4 |>.1
    obtain ⟨x5, e5, o5⟩ := field_int h fl_63_5 ui_3_i64
    obtain rfl : c5 = _ := List.cons.inj e5 |>.1
    obtain ⟨a6, n6, k6, x6, e6, r6, o6⟩ := field_rd (A := tInt) (ok := fun y => I64 y) h fl_63_6 sl_32 ce_3 (fun _ _ _ _ h => el_int (fun _ _ _ h => h) ui_3_i64 h)
    obtain rfl : c6 = _ := List.cons.inj e6 |>.1
    obtain rfl := r6.1
    obtain ⟨x7, e7, o7⟩ := field_int h fl_63_7 ui_3_i64
    obtain rfl : c7 = _ := List.cons.inj e7 |>.1
    obtain ⟨x8, e8, o8⟩ := field_int h fl_63_8 ui_3_i64
    obtain rfl : c8 = _ := List.cons.inj e8 |>.1
    obtain ⟨x9, e9, o9⟩ := field_int h fl_63_9 ui_3_i64
    obtain rfl : c9 = _ := List.cons.inj e9 |>.1
    obtain ⟨x10, e10, o10⟩ := field_int h fl_63_10 ui_3_i64
    obtain rfl : c10 = _ := List.cons.inj e10 |>.1
    exact ⟨PlaneT.mk x0 x1 x2 x3 x4 x5 x6 x7 x8 x9 x10, ⟨a6, k6, rfl, r6⟩, ⟨trivial, o1, o2, o3, o4, o5, o6, o7, o8, o9, o10⟩⟩

theorem FnExactScanLine_walk : LawWalk Try.checked 13 Try.f13 := by
  intro H enc W base args ds p hval0 hA0
  have hval : ∀ (j : Nat) t v, Try.f13.params[j]? = some t → args[j]? = some v → Value.okWide Try.prog W .any base t v := hval0
  have hA : DataW.TrodAll enc Try.prog W 0 (fun _ => true) true Try.f13.params.toList args.toList ds p := hA0
  rw [Try.params13] at hA hval
  clear hA0 hval0
  obtain ⟨v0, v1, v2, v3, d0, d1, d2, d3, p0, p1, p2, p3, rfl, rfl, rfl, h0, h1, h2, h3⟩ := trodAll_four hA
  obtain ⟨a0, n0, c0, x0, rfl, r0, o0⟩ := arg_rd (A := tPlane) (ok := fun y => okPlane y) sl_74 ce_63 (hval 0 74 v0 rfl rfl) h0 (fun _ _ _ hl h => op_63 h hl)
  obtain ⟨n1, rfl, o1⟩ := arg_int ui_3_i64 (hval 1 3 v1 rfl rfl) h1
  obtain ⟨n2, rfl, o2⟩ := arg_int ui_3_i64 (hval 2 3 v2 rfl rfl) h2
  obtain ⟨n3, rfl, o3⟩ := arg_int ui_3_i64 (hval 3 3 v3 rfl rfl) h3
  exact w_laws_FnExactScanLine (FnExactScanLine_true _ _ _ _ o0 o1 o2 o3) r0

theorem FnExactScanLine_lifted (os : Os) (started : os.Started) (H : Type) (enc : TypeId × Value → H) :
    ReturnsInHanded {} Try.checked os 13 .any (Rows.fnExactScanLineSpec.pre6 enc Try.prog Try.f13 Rows.fnExactScanLineRow.domain false) (Rows.fnExactScanLineSpec.post enc Try.prog Try.f13 false true false false) := by
  refine law_frame (C := Try.checked) (tb := 4) Try.own Try.laidOut started (by kernel_rfl) Try.func13 rfl ?_ rfl ub_4 (by kernel_rfl)
    (ChangeSpec.witness6 (enc := enc) (C := Try.checked) false ⟨#[], #[.slice none 0 0, .int .i64 0, .int .i64 0, .int .i64 0], []⟩ 8 (by kernel_rfl) (by kernel_rfl) (by kernel_rfl) (by kernel_rfl)) FnExactScanLine_walk
  intro ds hl
  match ds, hl with
  | [d0, d1, d2, d3], _ => rfl

theorem FnExactScanLine_holds : Rows.FnExactScanLineSaid :=
  OpenClaim.holds_of_wide 13 Try.f13 rfl rfl rfl rfl rfl rfl rfl ⟨rfl, rfl, rfl, rfl, rfl⟩ rfl rfl rfl rfl rfl (by kernel_rfl) Try.func13 (by kernel_rfl)
    (of_decide_eq_true (by kernel_rfl)) (by unfold Func.isWrapper; rw [if_neg (of_decide_eq_false (by kernel_rfl))]; exact ⟨rfl, rfl⟩)
    (fun os started H enc _ => FnExactScanLine_lifted os started H enc)

end Go.Proofs.Ytkojfdgljmhmlaa
