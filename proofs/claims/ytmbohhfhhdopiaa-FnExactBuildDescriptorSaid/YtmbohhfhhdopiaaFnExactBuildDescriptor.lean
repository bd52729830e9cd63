/- FnExactBuildDescriptor returns true at all arguments. No conditions. -/
import Derived.Test.YtmbohhfhhdopiaaRows
import Derived.Test.YtmbohhfhhdopiaaW2
import Derived.Test.YtmbohhfhhdopiaaOpen
import Derived.Test.YtmbohhfhhdopiaaPDescr
import Derived.ProofKit
namespace Go.Proofs.Ytmbohhfhhdopiaa
open Go.RowKit Go.ChangeShapes Go.WideShapes Go.ChangeAt K
set_option maxRecDepth 100000
set_option maxHeartbeats 4000000

theorem Try.own : ownKnob Try.prog.godebug = none := by kernel_rfl
theorem Try.laidOut : laidOutB Try.prog = true := by kernel_rfl
theorem fl_59_0 : fldAt Try.prog 59 0 = some (9, 0, 1) := by kernel_rfl
theorem fl_59_1 : fldAt Try.prog 59 1 = some (57, 1, 1) := by kernel_rfl
theorem ce_97 : Try.prog.cellsOf 97 = 9 := by kernel_rfl
theorem sl_57 : Try.prog.underlying 57 = some (.slice 97) := by kernel_rfl
theorem fl_97_0 : fldAt Try.prog 97 0 = some (3, 0, 1) := by kernel_rfl
theorem fl_97_1 : fldAt Try.prog 97 1 = some (3, 1, 1) := by kernel_rfl
theorem fl_97_2 : fldAt Try.prog 97 2 = some (3, 2, 1) := by kernel_rfl
theorem fl_97_3 : fldAt Try.prog 97 3 = some (3, 3, 1) := by kernel_rfl
theorem fl_97_4 : fldAt Try.prog 97 4 = some (3, 4, 1) := by kernel_rfl
theorem fl_97_5 : fldAt Try.prog 97 5 = some (3, 5, 1) := by kernel_rfl
theorem fl_97_6 : fldAt Try.prog 97 6 = some (3, 6, 1) := by kernel_rfl
theorem fl_97_7 : fldAt Try.prog 97 7 = some (3, 7, 1) := by kernel_rfl
theorem fl_97_8 : fldAt Try.prog 97 8 = some (3, 8, 1) := by kernel_rfl
theorem fl_59_2 : fldAt Try.prog 59 2 = some (3, 2, 1) := by kernel_rfl
theorem op_97 {H : Type} {enc : TypeId × Value → H} {w : World} {base : Nat} {spare : Nat → Bool} {held : Bool} {fuel : Nat} {cs : List Value} {x : DataW H × List MemPlace} (h : DataW.trod enc Try.prog w base spare held fuel 97 cs = some x) (hl : cs.length = 9) : ∃ v : ModeT, tMode.rd w cs v ∧ okMode v := by
  match cs, hl with
  | [c0, c1, c2, c3, c4, c5, c6, c7, c8], _ =>
    obtain ⟨x0, e0, o0⟩ := field_int h fl_97_0 ui_3_i64
    obtain rfl : c0 = _ := List.cons.inj e0 |>.1
    obtain ⟨x1, e1, o1⟩ := field_int h fl_97_1 ui_3_i64
    obtain rfl : c1 = _ := List.cons.inj e1 |>.1
    obtain ⟨x2, e2, o2⟩ := field_int h fl_97_2 ui_3_i64
    obtain rfl : c2 = _ := List.cons.inj e2 |>.1
    obtain ⟨x3, e3, o3⟩ := field_int h fl_97_3 ui_3_i64
    obtain rfl : c3 = _ := List.cons.inj e3 |>.1
    obtain ⟨x4, e4, o4⟩ := field_int h fl_97_4 ui_3_i64
    obtain rfl : c4 = _ := List.cons.inj e4 |>.1
    obtain ⟨x5, e5, o5⟩ := field_int h fl_97_5 ui_3_i64
    obtain rfl : c5 = _ := List.cons.inj e5 |>.1
    obtain ⟨x6, e6, o6⟩ := field_int h fl_97_6 ui_3_i64
    obtain rfl : c6 = _ := List.cons.inj e6 |>.1
    obtain ⟨x7, e7, o7⟩ := field_int h fl_97_7 ui_3_i64
    obtain rfl : c7 = _ := List.cons.inj e7 |>.1
    obtain ⟨x8, e8, o8⟩ := field_int h fl_97_8 ui_3_i64
    obtain rfl : c8 = _ := List.cons.inj e8 |>.1
    exact ⟨ModeT.mk x0 x1 x2 x3 x4 x5 x6 x7 x8, rfl, ⟨o0, o1, o2, o3, o4, o5, o6, o7, o8⟩⟩
theorem op_59 {H : Type} {enc : TypeId × Value → H} {w : World} {base : Nat} {spare : Nat → Bool} {held : Bool} {fuel : Nat} {cs : List Value} {x : DataW H × List MemPlace} (h : DataW.trod enc Try.prog w base spare held fuel 59 cs = some x) (hl : cs.length = 3) : ∃ v : MonitorT, tMonitor.rd w cs v ∧ okMonitor v := by
  match cs, hl with
  | [c0, c1, c2], _ =>
    obtain ⟨x0, e0, o0⟩ := field_str h fl_59_0 us_9
    obtain rfl : c0 = _ := List.cons.inj e0 |>.1
    obtain ⟨a1, n1, k1, x1, e1, r1, o1⟩ := field_rd (A := tMode) (ok := fun y => okMode y) h fl_59_1 sl_57 ce_97 (fun _ _ _ hl h => op_97 h hl)
    obtain rfl : c1 = _ := List.cons.inj e1 |>.1
    obtain rfl := r1.1
    obtain ⟨x2, e2, o2⟩ := field_int h fl_59_2 ui_3_i64
    obtain rfl : c2 = _ := List.cons.inj e2 |>.1
    exact ⟨MonitorT.mk x0 x1 x2, ⟨a1, k1, rfl, r1⟩, ⟨o0, o1, o2⟩⟩

theorem FnExactBuildDescriptor_walk : LawWalk Try.checked 8 Try.f8 := by
  intro H enc W base args ds p hval0 hA0
  have hval : ∀ (j : Nat) t v, Try.f8.params[j]? = some t → args[j]? = some v → Value.okWide Try.prog W .any base t v := hval0
  have hA : DataW.TrodAll enc Try.prog W 0 (fun _ => true) true Try.f8.params.toList args.toList ds p := hA0
  rw [Try.params8] at hA hval
  clear hA0 hval0
  obtain ⟨v0, d0, rfl, rfl, h0⟩ := trodAll_one hA
  obtain ⟨l0, rfl, q0, fu0, hf0⟩ := arg_struct ag_59 (by kernel_rfl) (hval 0 59 v0 rfl rfl) h0
  obtain ⟨x0, ⟨a0_0, k0_0, rfl, r0_0⟩, o0⟩ := op_59 hf0 q0
  exact w_laws_FnExactBuildDescriptor (FnExactBuildDescriptor_true _ o0) r0_0

theorem FnExactBuildDescriptor_lifted (os : Os) (started : os.Started) (H : Type) (enc : TypeId × Value → H) :
    ReturnsInHanded {} Try.checked os 8 .any (Rows.fnExactBuildDescriptorSpec.pre6 enc Try.prog Try.f8 Rows.fnExactBuildDescriptorRow.domain false) (Rows.fnExactBuildDescriptorSpec.post enc Try.prog Try.f8 false true false false) := by
  refine law_frame (C := Try.checked) (tb := 4) Try.own Try.laidOut started (by kernel_rfl) Try.func8 rfl ?_ rfl ub_4 (by kernel_rfl)
    (ChangeSpec.witness6 (enc := enc) (C := Try.checked) false ⟨#[], #[.agg #[.string ⟨#[]⟩, .slice none 0 0, .int .i64 0]], []⟩ 8 (by kernel_rfl) (by kernel_rfl) (by kernel_rfl) (by kernel_rfl)) FnExactBuildDescriptor_walk
  intro ds hl
  match ds, hl with
  | [d0], _ => rfl

theorem FnExactBuildDescriptor_holds : Rows.FnExactBuildDescriptorSaid :=
  OpenClaim.holds_of_wide 8 Try.f8 rfl rfl rfl rfl rfl rfl rfl ⟨rfl, rfl, rfl, rfl, rfl⟩ rfl rfl rfl rfl rfl (by kernel_rfl) Try.func8 (by kernel_rfl)
    (of_decide_eq_true (by kernel_rfl)) (by unfold Func.isWrapper; rw [if_neg (of_decide_eq_false (by kernel_rfl))]; exact ⟨rfl, rfl⟩)
    (fun os started H enc _ => FnExactBuildDescriptor_lifted os started H enc)

end Go.Proofs.Ytmbohhfhhdopiaa
