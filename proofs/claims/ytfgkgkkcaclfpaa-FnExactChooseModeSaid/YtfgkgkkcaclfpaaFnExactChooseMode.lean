/- FnExactChooseMode returns true at all arguments. No conditions. -/
import Derived.Test.YtfgkgkkcaclfpaaRows
import Derived.Test.YtfgkgkkcaclfpaaW1
import Derived.Test.YtfgkgkkcaclfpaaOpen
import Derived.Test.YtfgkgkkcaclfpaaPMonitor
import Derived.ProofKit
namespace Go.Proofs.Ytfgkgkkcaclfpaa
open Go.RowKit Go.ChangeShapes Go.WideShapes Go.ChangeAt K
set_option maxRecDepth 100000
set_option maxHeartbeats 4000000

theorem Try.own : ownKnob Try.prog.godebug = none := by kernel_rfl
theorem Try.laidOut : laidOutB Try.prog = true := by kernel_rfl
theorem fl_41_0 : fldAt Try.prog 41 0 = some (9, 0, 1) := by kernel_rfl
theorem fl_41_1 : fldAt Try.prog 41 1 = some (39, 1, 1) := by kernel_rfl
theorem ce_160 : Try.prog.cellsOf 160 = 9 := by kernel_rfl
theorem sl_39 : Try.prog.underlying 39 = some (.slice 160) := by kernel_rfl
theorem fl_160_0 : fldAt Try.prog 160 0 = some (3, 0, 1) := by kernel_rfl
theorem fl_160_1 : fldAt Try.prog 160 1 = some (3, 1, 1) := by kernel_rfl
theorem fl_160_2 : fldAt Try.prog 160 2 = some (3, 2, 1) := by kernel_rfl
theorem fl_160_3 : fldAt Try.prog 160 3 = some (3, 3, 1) := by kernel_rfl
theorem fl_160_4 : fldAt Try.prog 160 4 = some (3, 4, 1) := by kernel_rfl
theorem fl_160_5 : fldAt Try.prog 160 5 = some (3, 5, 1) := by kernel_rfl
theorem fl_160_6 : fldAt Try.prog 160 6 = some (3, 6, 1) := by kernel_rfl
theorem fl_160_7 : fldAt Try.prog 160 7 = some (3, 7, 1) := by kernel_rfl
theorem fl_160_8 : fldAt Try.prog 160 8 = some (3, 8, 1) := by kernel_rfl
theorem fl_41_2 : fldAt Try.prog 41 2 = some (3, 2, 1) := by kernel_rfl
theorem op_160 {H : Type} {enc : TypeId × Value → H} {w : World} {base : Nat} {spare : Nat → Bool} {held : Bool} {fuel : Nat} {cs : List Value} {x : DataW H × List MemPlace} (h : DataW.trod enc Try.prog w base spare held fuel 160 cs = some x) (hl : cs.length = 9) : ∃ v : ModeT, tMode.rd w cs v ∧ okMode v := by
  match cs, hl with
  | [c0, c1, c2, c3, c4, c5, c6, c7, c8], _ =>
    obtain ⟨x0, e0, o0⟩ := field_int h fl_160_0 ui_3_i64
    obtain rfl : c0 = _ := List.cons.inj e0 |>.1
    obtain ⟨x1, e1, o1⟩ := field_int h fl_160_1 ui_3_i64
    obtain rfl : c1 = _ := List.cons.inj e1 |>.1
    obtain ⟨x2, e2, o2⟩ := field_int h fl_160_2 ui_3_i64
    obtain rfl : c2 = _ := List.cons.inj e2 |>.1
    obtain ⟨x3, e3, o3⟩ := field_int h fl_160_3 ui_3_i64
    obtain rfl : c3 = _ := List.cons.inj e3 |>.1
    obtain ⟨x4, e4, o4⟩ := field_int h fl_160_4 ui_3_i64
    obtain rfl : c4 = _ := List.cons.inj e4 |>.1
    obtain ⟨x5, e5, o5⟩ := field_int h fl_160_5 ui_3_i64
    obtain rfl : c5 = _ := List.cons.inj e5 |>.1
    obtain ⟨x6, e6, o6⟩ := field_int h fl_160_6 ui_3_i64
    obtain rfl : c6 = _ := List.cons.inj e6 |>.1
    obtain ⟨x7, e7, o7⟩ := field_int h fl_160_7 ui_3_i64
    obtain rfl : c7 = _ := List.cons.inj e7 |>.1
    obtain ⟨x8, e8, o8⟩ := field_int h fl_160_8 ui_3_i64
    obtain rfl : c8 = _ := List.cons.inj e8 |>.1
    exact ⟨ModeT.mk x0 x1 x2 x3 x4 x5 x6 x7 x8, rfl, ⟨o0, o1, o2, o3, o4, o5, o6, o7, o8⟩⟩
theorem op_41 {H : Type} {enc : TypeId × Value → H} {w : World} {base : Nat} {spare : Nat → Bool} {held : Bool} {fuel : Nat} {cs : List Value} {x : DataW H × List MemPlace} (h : DataW.trod enc Try.prog w base spare held fuel 41 cs = some x) (hl : cs.length = 3) : ∃ v : MonitorT, tMonitor.rd w cs v ∧ okMonitor v := by
  match cs, hl with
  | [c0, c1, c2], _ =>
    obtain ⟨x0, e0, o0⟩ := field_str h fl_41_0 us_9
    obtain rfl : c0 = _ := List.cons.inj e0 |>.1
    obtain ⟨a1, n1, k1, x1, e1, r1, o1⟩ := field_rd (A := tMode) (ok := fun y => okMode y) h fl_41_1 sl_39 ce_160 (fun _ _ _ hl h => op_160 h hl)
    obtain rfl : c1 = _ := List.cons.inj e1 |>.1
    obtain rfl := r1.1
    obtain ⟨x2, e2, o2⟩ := field_int h fl_41_2 ui_3_i64
    obtain rfl : c2 = _ := List.cons.inj e2 |>.1
    exact ⟨MonitorT.mk x0 x1 x2, ⟨a1, k1, rfl, r1⟩, ⟨o0, o1, o2⟩⟩

theorem FnExactChooseMode_walk : LawWalk Try.checked 7 Try.f7 := by
  intro H enc W base args ds p hval0 hA0
  have hval : ∀ (j : Nat) t v, Try.f7.params[j]? = some t → args[j]? = some v → Value.okWide Try.prog W .any base t v := hval0
  have hA : DataW.TrodAll enc Try.prog W 0 (fun _ => true) true Try.f7.params.toList args.toList ds p := hA0
  rw [Try.params7] at hA hval
  clear hA0 hval0
  obtain ⟨v0, v1, v2, d0, d1, d2, p0, p1, p2, rfl, rfl, rfl, h0, h1, h2⟩ := trodAll_three hA
  obtain ⟨l0, rfl, q0, fu0, hf0⟩ := arg_struct ag_41 (by kernel_rfl) (hval 0 41 v0 rfl rfl) h0
  obtain ⟨x0, ⟨a0_0, k0_0, rfl, r0_0⟩, o0⟩ := op_41 hf0 q0
  obtain ⟨n1, rfl, o1⟩ := arg_int ui_3_i64 (hval 1 3 v1 rfl rfl) h1
  obtain ⟨n2, rfl, o2⟩ := arg_int ui_3_i64 (hval 2 3 v2 rfl rfl) h2
  exact w_laws_FnExactChooseMode (FnExactChooseMode_true _ _ _ o0 o1 o2) r0_0

theorem FnExactChooseMode_lifted (os : Os) (started : os.Started) (H : Type) (enc : TypeId × Value → H) :
    ReturnsInHanded {} Try.checked os 7 .any (Rows.fnExactChooseModeSpec.pre6 enc Try.prog Try.f7 Rows.fnExactChooseModeRow.domain false) (Rows.fnExactChooseModeSpec.post enc Try.prog Try.f7 false true false false) := by
  refine law_frame (C := Try.checked) (tb := 4) Try.own Try.laidOut started (by kernel_rfl) Try.func7 rfl ?_ rfl ub_4 (by kernel_rfl)
    (ChangeSpec.witness6 (enc := enc) (C := Try.checked) false ⟨#[], #[.agg #[.string ⟨#[]⟩, .slice none 0 0, .int .i64 0], .int .i64 0, .int .i64 0], []⟩ 8 (by kernel_rfl) (by kernel_rfl) (by kernel_rfl) (by kernel_rfl)) FnExactChooseMode_walk
  intro ds hl
  match ds, hl with
  | [d0, d1, d2], _ => rfl

theorem FnExactChooseMode_holds : Rows.FnExactChooseModeSaid :=
  OpenClaim.holds_of_wide 7 Try.f7 rfl rfl rfl rfl rfl rfl rfl ⟨rfl, rfl, rfl, rfl, rfl⟩ rfl rfl rfl rfl rfl (by kernel_rfl) Try.func7 (by kernel_rfl)
    (of_decide_eq_true (by kernel_rfl)) (by unfold Func.isWrapper; rw [if_neg (of_decide_eq_false (by kernel_rfl))]; exact ⟨rfl, rfl⟩)
    (fun os started H enc _ => FnExactChooseMode_lifted os started H enc)

end Go.Proofs.Ytfgkgkkcaclfpaa
