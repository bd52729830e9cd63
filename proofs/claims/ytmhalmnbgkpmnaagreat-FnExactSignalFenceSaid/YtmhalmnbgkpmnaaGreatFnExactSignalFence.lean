/- FnExactSignalFence returns true at all arguments. No conditions. -/
import Derived.Test.YtmhalmnbgkpmnaaGreatRows
import Derived.Test.YtmhalmnbgkpmnaaGreatW4
import Derived.Test.YtmhalmnbgkpmnaaGreatOpen
import Derived.Test.YtmhalmnbgkpmnaaGreatPAll1
import Derived.ProofKit
namespace Go.Proofs.YtmhalmnbgkpmnaaGreat
open Go.RowKit Go.ChangeShapes Go.WideShapes Go.ChangeAt K
set_option maxRecDepth 100000
set_option maxHeartbeats 4000000

theorem Tryz.own : ownKnob Tryz.prog.godebug = none := by kernel_rfl
theorem Tryz.laidOut : laidOutB Tryz.prog = true := by kernel_rfl
theorem fl_25_0 : fldAt Tryz.prog 25 0 = some (22, 0, 1) := by kernel_rfl
theorem ce_116 : Tryz.prog.cellsOf 116 = 7 := by kernel_rfl
theorem sl_22 : Tryz.prog.underlying 22 = some (.slice 116) := by kernel_rfl
theorem fl_116_0 : fldAt Tryz.prog 116 0 = some (3, 0, 1) := by kernel_rfl
theorem fl_116_1 : fldAt Tryz.prog 116 1 = some (3, 1, 1) := by kernel_rfl
theorem fl_116_2 : fldAt Tryz.prog 116 2 = some (30, 2, 5) := by kernel_rfl
theorem fl_30_0 : fldAt Tryz.prog 30 0 = some (3, 0, 1) := by kernel_rfl
theorem fl_30_1 : fldAt Tryz.prog 30 1 = some (3, 1, 1) := by kernel_rfl
theorem fl_30_2 : fldAt Tryz.prog 30 2 = some (26, 2, 1) := by kernel_rfl
theorem ce_118 : Tryz.prog.cellsOf 118 = 11 := by kernel_rfl
theorem sl_26 : Tryz.prog.underlying 26 = some (.slice 118) := by kernel_rfl
theorem fl_118_0 : fldAt Tryz.prog 118 0 = some (4, 0, 1) := by kernel_rfl
theorem fl_118_1 : fldAt Tryz.prog 118 1 = some (3, 1, 1) := by kernel_rfl
theorem fl_118_2 : fldAt Tryz.prog 118 2 = some (3, 2, 1) := by kernel_rfl
theorem fl_118_3 : fldAt Tryz.prog 118 3 = some (3, 3, 1) := by kernel_rfl
theorem fl_118_4 : fldAt Tryz.prog 118 4 = some (3, 4, 1) := by kernel_rfl
theorem fl_118_5 : fldAt Tryz.prog 118 5 = some (3, 5, 1) := by kernel_rfl
theorem fl_118_6 : fldAt Tryz.prog 118 6 = some (23, 6, 1) := by kernel_rfl
theorem ce_3 : Tryz.prog.cellsOf 3 = 1 := by kernel_rfl
theorem sl_23 : Tryz.prog.underlying 23 = some (.slice 3) := by kernel_rfl
theorem fl_118_7 : fldAt Tryz.prog 118 7 = some (3, 7, 1) := by kernel_rfl
theorem fl_118_8 : fldAt Tryz.prog 118 8 = some (3, 8, 1) := by kernel_rfl
theorem fl_118_9 : fldAt Tryz.prog 118 9 = some (3, 9, 1) := by kernel_rfl
theorem fl_118_10 : fldAt Tryz.prog 118 10 = some (3, 10, 1) := by kernel_rfl
theorem fl_30_3 : fldAt Tryz.prog 30 3 = some (28, 3, 2) := by kernel_rfl
theorem fl_28_0 : fldAt Tryz.prog 28 0 = some (23, 0, 1) := by kernel_rfl
theorem fl_28_1 : fldAt Tryz.prog 28 1 = some (23, 1, 1) := by kernel_rfl
theorem fl_25_1 : fldAt Tryz.prog 25 1 = some (23, 1, 1) := by kernel_rfl
theorem fl_25_2 : fldAt Tryz.prog 25 2 = some (3, 2, 1) := by kernel_rfl
theorem fl_25_3 : fldAt Tryz.prog 25 3 = some (23, 3, 1) := by kernel_rfl
theorem op_118 {H : Type} {enc : TypeId × Value → H} {w : World} {base : Nat} {spare : Nat → Bool} {held : Bool} {fuel : Nat} {cs : List Value} {x : DataW H × List MemPlace} (h : DataW.trod enc Tryz.prog w base spare held fuel 118 cs = some x) (hl : cs.length = 11) : ∃ v : PlaneT, tPlane.rd w cs v ∧ okPlane v := by
  match cs, hl with
  | [c0, c1, c2, c3, c4, c5, c6, c7, c8, c9, c10], _ =>
    obtain ⟨x0, e0⟩ := field_bool h fl_118_0 ub_4
    obtain rfl : c0 = _ := List.cons.inj e0 |>.1
    obtain ⟨x1, e1, o1⟩ := field_int h fl_118_1 ui_3_i64
    obtain rfl : c1 = _ := List.cons.inj e1 |>.1
    obtain ⟨x2, e2, o2⟩ := field_int h fl_118_2 ui_3_i64
    obtain rfl : c2 = _ := List.cons.inj e2 |>.1
    obtain ⟨x3, e3, o3⟩ := field_int h fl_118_3 ui_3_i64
    obtain rfl : c3 = _ := List.cons.inj e3 |>.1
    obtain ⟨x4, e4, o4⟩ := field_int h fl_118_4 ui_3_i64
    obtain rfl : c4 = _ := List.cons.inj e4 |>.1
    obtain ⟨x5, e5, o5⟩ := field_int h fl_118_5 ui_3_i64
    obtain rfl : c5 = _ := List.cons.inj e5 |>.1
    obtain ⟨a6, n6, k6, x6, e6, r6, o6⟩ := field_rd (A := tInt) (ok := fun y => I64 y) h fl_118_6 sl_23 ce_3 (fun _ _ _ _ h => el_int (fun _ _ _ h => h) ui_3_i64 h)
    obtain rfl : c6 = _ := List.cons.inj e6 |>.1
    obtain rfl := r6.1
    obtain ⟨x7, e7, o7⟩ := field_int h fl_118_7 ui_3_i64
    obtain rfl : c7 = _ := List.cons.inj e7 |>.1
    obtain ⟨x8, e8, o8⟩ := field_int h fl_118_8 ui_3_i64
    obtain rfl : c8 = _ := List.cons.inj e8 |>.1
    obtain ⟨x9, e9, o9⟩ := field_int h fl_118_9 ui_3_i64
    obtain rfl : c9 = _ := List.cons.inj e9 |>.1
    obtain ⟨x10, e10, o10⟩ := field_int h fl_118_10 ui_3_i64
    obtain rfl : c10 = _ := List.cons.inj e10 |>.1
    exact ⟨PlaneT.mk x0 x1 x2 x3 x4 x5 x6 x7 x8 x9 x10, ⟨a6, k6, rfl, r6⟩, ⟨trivial, o1, o2, o3, o4, o5, o6, o7, o8, o9, o10⟩⟩
theorem op_28 {H : Type} {enc : TypeId × Value → H} {w : World} {base : Nat} {spare : Nat → Bool} {held : Bool} {fuel : Nat} {cs : List Value} {x : DataW H × List MemPlace} (h : DataW.trod enc Tryz.prog w base spare held fuel 28 cs = some x) (hl : cs.length = 2) : ∃ v : ColorMapT, tColorMap.rd w cs v ∧ okColorMap v := by
  match cs, hl with
  | [c0, c1], _ =>
    obtain ⟨a0, n0, k0, x0, e0, r0, o0⟩ := field_rd (A := tInt) (ok := fun y => I64 y) h fl_28_0 sl_23 ce_3 (fun _ _ _ _ h => el_int (fun _ _ _ h => h) ui_3_i64 h)
    obtain rfl : c0 = _ := List.cons.inj e0 |>.1
    obtain rfl := r0.1
    obtain ⟨a1, n1, k1, x1, e1, r1, o1⟩ := field_rd (A := tInt) (ok := fun y => I64 y) h fl_28_1 sl_23 ce_3 (fun _ _ _ _ h => el_int (fun _ _ _ h => h) ui_3_i64 h)
    obtain rfl : c1 = _ := List.cons.inj e1 |>.1
    obtain rfl := r1.1
    exact ⟨ColorMapT.mk x0 x1, ⟨a0, k0, a1, k1, rfl, r0, r1⟩, ⟨o0, o1⟩⟩
theorem op_30 {H : Type} {enc : TypeId × Value → H} {w : World} {base : Nat} {spare : Nat → Bool} {held : Bool} {fuel : Nat} {cs : List Value} {x : DataW H × List MemPlace} (h : DataW.trod enc Tryz.prog w base spare held fuel 30 cs = some x) (hl : cs.length = 5) : ∃ v : CrtcT, tCrtc.rd w cs v ∧ okCrtc v := by
  match cs, hl with
  | [c0, c1, c2, c3, c4], _ =>
    obtain ⟨x0, e0, o0⟩ := field_int h fl_30_0 ui_3_i64
    obtain rfl : c0 = _ := List.cons.inj e0 |>.1
    obtain ⟨x1, e1, o1⟩ := field_int h fl_30_1 ui_3_i64
    obtain rfl : c1 = _ := List.cons.inj e1 |>.1
    obtain ⟨a2, n2, k2, x2, e2, r2, o2⟩ := field_rd (A := tPlane) (ok := fun y => okPlane y) h fl_30_2 sl_26 ce_118 (fun _ _ _ hl h => op_118 h hl)
    obtain rfl : c2 = _ := List.cons.inj e2 |>.1
    obtain rfl := r2.1
    obtain ⟨fu3, y3, h3⟩ := field_at h fl_30_3
    obtain ⟨x3, ⟨a3_0, k3_0, a3_1, k3_1, e3, r3_0, r3_1⟩, o3⟩ := op_28 h3 rfl
    replace e3 : [c3, c4] = [.slice a3_0 x3.Matrix.length k3_0, .slice a3_1 x3.Curve.length k3_1] := e3
    simp only [List.cons.injEq, and_true] at e3
    obtain ⟨rfl, rfl⟩ := e3
    exact ⟨CrtcT.mk x0 x1 x2 x3, ⟨a2, k2, a3_0, k3_0, a3_1, k3_1, rfl, r2, r3_0, r3_1⟩, ⟨o0, o1, o2, o3⟩⟩
theorem op_116 {H : Type} {enc : TypeId × Value → H} {w : World} {base : Nat} {spare : Nat → Bool} {held : Bool} {fuel : Nat} {cs : List Value} {x : DataW H × List MemPlace} (h : DataW.trod enc Tryz.prog w base spare held fuel 116 cs = some x) (hl : cs.length = 7) : ∃ v : FlipT, tFlip.rd w cs v ∧ okFlip v := by
  match cs, hl with
  | [c0, c1, c2, c3, c4, c5, c6], _ =>
    obtain ⟨x0, e0, o0⟩ := field_int h fl_116_0 ui_3_i64
    obtain rfl : c0 = _ := List.cons.inj e0 |>.1
    obtain ⟨x1, e1, o1⟩ := field_int h fl_116_1 ui_3_i64
    obtain rfl : c1 = _ := List.cons.inj e1 |>.1
    obtain ⟨fu2, y2, h2⟩ := field_at h fl_116_2
    obtain ⟨x2, ⟨a2_0, k2_0, a2_1, k2_1, a2_2, k2_2, e2, r2_0, r2_1, r2_2⟩, o2⟩ := op_30 h2 rfl
    replace e2 : [c2, c3, c4, c5, c6] = [.int .i64 x2.W, .int .i64 x2.H, .slice a2_0 x2.Planes.length k2_0, .slice a2_1 x2.Color.Matrix.length k2_1, .slice a2_2 x2.Color.Curve.length k2_2] := e2
    simp only [List.cons.injEq, and_true] at e2
    obtain ⟨rfl, rfl, rfl, rfl, rfl⟩ := e2
    exact ⟨FlipT.mk x0 x1 x2, ⟨a2_0, k2_0, a2_1, k2_1, a2_2, k2_2, rfl, r2_0, r2_1, r2_2⟩, ⟨o0, o1, o2⟩⟩
theorem op_25 {H : Type} {enc : TypeId × Value → H} {w : World} {base : Nat} {spare : Nat → Bool} {held : Bool} {fuel : Nat} {cs : List Value} {x : DataW H × List MemPlace} (h : DataW.trod enc Tryz.prog w base spare held fuel 25 cs = some x) (hl : cs.length = 4) : ∃ v : FlipsT, tFlips.rd w cs v ∧ okFlips v := by
  match cs, hl with
  | [c0, c1, c2, c3], _ =>
    obtain ⟨a0, n0, k0, x0, e0, r0, o0⟩ := field_rd (A := tFlip) (ok := fun y => okFlip y) h fl_25_0 sl_22 ce_116 (fun _ _ _ hl h => op_116 h hl)
    obtain rfl : c0 = _ := List.cons.inj e0 |>.1
    obtain rfl := r0.1
    obtain ⟨a1, n1, k1, x1, e1, r1, o1⟩ := field_rd (A := tInt) (ok := fun y => I64 y) h fl_25_1 sl_23 ce_3 (fun _ _ _ _ h => el_int (fun _ _ _ h => h) ui_3_i64 h)
    obtain rfl : c1 = _ := List.cons.inj e1 |>.1
    obtain rfl := r1.1
    obtain ⟨x2, e2, o2⟩ := field_int h fl_25_2 ui_3_i64
    obtain rfl : c2 = _ := List.cons.inj e2 |>.1
    obtain ⟨a3, n3, k3, x3, e3, r3, o3⟩ := field_rd (A := tInt) (ok := fun y => I64 y) h fl_25_3 sl_23 ce_3 (fun _ _ _ _ h => el_int (fun _ _ _ h => h) ui_3_i64 h)
    obtain rfl : c3 = _ := List.cons.inj e3 |>.1
    obtain rfl := r3.1
    exact ⟨FlipsT.mk x0 x1 x2 x3, ⟨a0, k0, a1, k1, a3, k3, rfl, r0, r1, r3⟩, ⟨o0, o1, o2, o3⟩⟩

theorem FnExactSignalFence_walk : LawWalk Tryz.checked 4 Tryz.f4 := by
  intro H enc W base args ds p hval0 hA0
  have hval : ∀ (j : Nat) t v, Tryz.f4.params[j]? = some t → args[j]? = some v → Value.okWide Tryz.prog W .any base t v := hval0
  have hA : DataW.TrodAll enc Tryz.prog W 0 (fun _ => true) true Tryz.f4.params.toList args.toList ds p := hA0
  rw [Tryz.params4] at hA hval
  clear hA0 hval0
  obtain ⟨v0, v1, d0, d1, p0, p1, rfl, rfl, rfl, h0, h1⟩ := trodAll_two hA
  obtain ⟨l0, rfl, q0, fu0, hf0⟩ := arg_struct ag_25 (by kernel_rfl) (hval 0 25 v0 rfl rfl) h0
  obtain ⟨x0, ⟨a0_0, k0_0, a0_1, k0_1, a0_2, k0_2, rfl, r0_0, r0_1, r0_2⟩, o0⟩ := op_25 hf0 q0
  obtain ⟨n1, rfl, o1⟩ := arg_int ui_3_i64 (hval 1 3 v1 rfl rfl) h1
  exact w_laws_FnExactSignalFence (FnExactSignalFence_true _ _ o0 o1) r0_0 r0_1 r0_2

theorem FnExactSignalFence_lifted (os : Os) (started : os.Started) (H : Type) (enc : TypeId × Value → H) :
    ReturnsInHanded {} Tryz.checked os 4 .any (Rows.fnExactSignalFenceSpec.pre6 enc Tryz.prog Tryz.f4 Rows.fnExactSignalFenceRow.domain false) (Rows.fnExactSignalFenceSpec.post enc Tryz.prog Tryz.f4 false true false false) := by
  refine law_frame (C := Tryz.checked) (tb := 4) Tryz.own Tryz.laidOut started (by kernel_rfl) Tryz.func4 rfl ?_ rfl ub_4 (by kernel_rfl)
    (ChangeSpec.witness6 (enc := enc) (C := Tryz.checked) false ⟨#[], #[.agg #[.slice none 0 0, .slice none 0 0, .int .i64 0, .slice none 0 0], .int .i64 0], []⟩ 8 (by kernel_rfl) (by kernel_rfl) (by kernel_rfl) (by kernel_rfl)) FnExactSignalFence_walk
  intro ds hl
  match ds, hl with
  | [d0, d1], _ => rfl

theorem FnExactSignalFence_holds : Rows.FnExactSignalFenceSaid :=
  OpenClaim.holds_of_wide 4 Tryz.f4 rfl rfl rfl rfl rfl rfl rfl ⟨rfl, rfl, rfl, rfl, rfl⟩ rfl rfl rfl rfl rfl (by kernel_rfl) Tryz.func4 (by kernel_rfl)
    (of_decide_eq_true (by kernel_rfl)) (by unfold Func.isWrapper; rw [if_neg (of_decide_eq_false (by kernel_rfl))]; exact ⟨rfl, rfl⟩)
    (fun os started H enc _ => FnExactSignalFence_lifted os started H enc)

end Go.Proofs.YtmhalmnbgkpmnaaGreat
