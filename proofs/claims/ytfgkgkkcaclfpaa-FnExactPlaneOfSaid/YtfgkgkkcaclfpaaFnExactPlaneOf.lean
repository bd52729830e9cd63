/- FnExactPlaneOf returns true at all arguments. No conditions. -/
import Derived.Test.YtfgkgkkcaclfpaaRows
import Derived.Test.YtfgkgkkcaclfpaaW1
import Derived.Test.YtfgkgkkcaclfpaaOpen
import Derived.Test.YtfgkgkkcaclfpaaPPlaneLaws
import Derived.ProofKit
namespace Go.Proofs.Ytfgkgkkcaclfpaa
open Go.RowKit Go.ChangeShapes Go.WideShapes Go.ChangeAt K
set_option maxRecDepth 100000
set_option maxHeartbeats 4000000

theorem Try.own : ownKnob Try.prog.godebug = none := by kernel_rfl
theorem Try.laidOut : laidOutB Try.prog = true := by kernel_rfl
theorem fl_48_0 : fldAt Try.prog 48 0 = some (3, 0, 1) := by kernel_rfl
theorem ui_3_i64 : Try.prog.underlying 3 = some (.int .i64) := by kernel_rfl
theorem fl_48_1 : fldAt Try.prog 48 1 = some (3, 1, 1) := by kernel_rfl
theorem fl_48_2 : fldAt Try.prog 48 2 = some (46, 2, 1) := by kernel_rfl
theorem ce_3 : Try.prog.cellsOf 3 = 1 := by kernel_rfl
theorem sl_46 : Try.prog.underlying 46 = some (.slice 3) := by kernel_rfl
theorem op_48 {H : Type} {enc : TypeId × Value → H} {w : World} {base : Nat} {spare : Nat → Bool} {held : Bool} {fuel : Nat} {cs : List Value} {x : DataW H × List MemPlace} (h : DataW.trod enc Try.prog w base spare held fuel 48 cs = some x) (hl : cs.length = 3) : ∃ v : ImageT, tImage.rd w cs v ∧ okImage v := by
  match cs, hl with
  | [c0, c1, c2], _ =>
    obtain ⟨x0, e0, o0⟩ := field_int h fl_48_0 ui_3_i64
    obtain rfl : c0 = _ := List.cons.inj e0 |>.1
    obtain ⟨x1, e1, o1⟩ := field_int h fl_48_1 ui_3_i64
    obtain rfl : c1 = _ := List.cons.inj e1 |>.1
    obtain ⟨a2, n2, k2, x2, e2, r2, o2⟩ := field_rd (A := tInt) (ok := fun y => I64 y) h fl_48_2 sl_46 ce_3 (fun _ _ _ _ h => el_int (fun _ _ _ h => h) ui_3_i64 h)
    obtain rfl : c2 = _ := List.cons.inj e2 |>.1
    obtain rfl := r2.1
    exact ⟨ImageT.mk x0 x1 x2, ⟨a2, k2, rfl, r2⟩, ⟨o0, o1, o2⟩⟩

theorem FnExactPlaneOf_walk : LawWalk Try.checked 11 Try.f11 := by
  intro H enc W base args ds p hval0 hA0
  have hval : ∀ (j : Nat) t v, Try.f11.params[j]? = some t → args[j]? = some v → Value.okWide Try.prog W .any base t v := hval0
  have hA : DataW.TrodAll enc Try.prog W 0 (fun _ => true) true Try.f11.params.toList args.toList ds p := hA0
  rw [Try.params11] at hA hval
  clear hA0 hval0
  obtain ⟨v0, v1, v2, v3, d0, d1, d2, d3, p0, p1, p2, p3, rfl, rfl, rfl, h0, h1, h2, h3⟩ := trodAll_four hA
  obtain ⟨l0, rfl, q0, fu0, hf0⟩ := arg_struct ag_48 (by kernel_rfl) (hval 0 48 v0 rfl rfl) h0
  obtain ⟨x0, ⟨a0_0, k0_0, rfl, r0_0⟩, o0⟩ := op_48 hf0 q0
  obtain ⟨n1, rfl, o1⟩ := arg_int ui_3_i64 (hval 1 3 v1 rfl rfl) h1
  obtain ⟨n2, rfl, o2⟩ := arg_int ui_3_i64 (hval 2 3 v2 rfl rfl) h2
  obtain ⟨n3, rfl, o3⟩ := arg_int ui_3_i64 (hval 3 3 v3 rfl rfl) h3
  exact w_laws_FnExactPlaneOf (FnExactPlaneOf_true _ _ _ _ o0 o1 o2 o3) r0_0

theorem FnExactPlaneOf_lifted (os : Os) (started : os.Started) (H : Type) (enc : TypeId × Value → H) :
    ReturnsInHanded {} Try.checked os 11 .any (Rows.fnExactPlaneOfSpec.pre6 enc Try.prog Try.f11 Rows.fnExactPlaneOfRow.domain false) (Rows.fnExactPlaneOfSpec.post enc Try.prog Try.f11 false true false false) := by
  refine law_frame (C := Try.checked) (tb := 4) Try.own Try.laidOut started (by kernel_rfl) Try.func11 rfl ?_ rfl ub_4 (by kernel_rfl)
    (ChangeSpec.witness6 (enc := enc) (C := Try.checked) false ⟨#[], #[.agg #[.int .i64 0, .int .i64 0, .slice none 0 0], .int .i64 0, .int .i64 0, .int .i64 0], []⟩ 8 (by kernel_rfl) (by kernel_rfl) (by kernel_rfl) (by kernel_rfl)) FnExactPlaneOf_walk
  intro ds hl
  match ds, hl with
  | [d0, d1, d2, d3], _ => rfl

theorem FnExactPlaneOf_holds : Rows.FnExactPlaneOfSaid :=
  OpenClaim.holds_of_wide 11 Try.f11 rfl rfl rfl rfl rfl rfl rfl ⟨rfl, rfl, rfl, rfl, rfl⟩ rfl rfl rfl rfl rfl (by kernel_rfl) Try.func11 (by kernel_rfl)
    (of_decide_eq_true (by kernel_rfl)) (by unfold Func.isWrapper; rw [if_neg (of_decide_eq_false (by kernel_rfl))]; exact ⟨rfl, rfl⟩)
    (fun os started H enc _ => FnExactPlaneOf_lifted os started H enc)

end Go.Proofs.Ytfgkgkkcaclfpaa
