/- FnExactPacketOk returns true: the program and the reference agree at all arguments. No conditions. -/
import Derived.Test.YtbcaoilghmcaeaaWalksB
import Derived.Test.YtbcaoilghmcaeaaFrame
import Derived.ProofKit
namespace Go.Proofs.Ytbcaoilghmcaeaa
open Go.RowKit Go.ChangeShapes Go.WideShapes Go.ChangeAt K
set_option maxRecDepth 100000

theorem Try.own : ownKnob Try.prog.godebug = none := by kernel_rfl
theorem Try.laidOut : laidOutB Try.prog = true := by kernel_rfl
theorem fl_46_0 : fldAt Try.prog 46 0 = some (3, 0, 1) := by kernel_rfl
theorem ui_3_i64 : Try.prog.underlying 3 = some (.int .i64) := by kernel_rfl
theorem fl_46_1 : fldAt Try.prog 46 1 = some (3, 1, 1) := by kernel_rfl
theorem fl_46_2 : fldAt Try.prog 46 2 = some (3, 2, 1) := by kernel_rfl
theorem fl_46_3 : fldAt Try.prog 46 3 = some (44, 3, 1) := by kernel_rfl
theorem sl_44 : Try.prog.underlying 44 = some (.slice 3) := by kernel_rfl
theorem ce_3 : Try.prog.cellsOf 3 = 1 := by kernel_rfl

theorem FnExactPacketOk_walk : LawWalk Try.checked 6 Try.f6 := by
  intro H enc W base args ds p hval0 hA0
  have hval : ∀ (j : Nat) t v, Try.f6.params[j]? = some t → args[j]? = some v → Value.okWide Try.prog W .any base t v := hval0
  have hA : DataW.TrodAll enc Try.prog W 0 (fun _ => true) true Try.f6.params.toList args.toList ds p := hA0
  rw [Try.params6] at hA hval
  clear hA0 hval0
  obtain ⟨v0, d0, rfl, rfl, h0⟩ := trodAll_one hA
  obtain ⟨l0, rfl, q0, fu0, hf0⟩ := arg_struct ag_46 (by kernel_rfl) (hval 0 46 v0 rfl rfl) h0
  match l0, q0 with
  | [c0_0, c0_1, c0_2, c0_3], _ =>
    obtain ⟨x0_0, e0_0, _⟩ := field_int hf0 fl_46_0 ui_3_i64
    obtain rfl : c0_0 = _ := List.cons.inj e0_0 |>.1
    obtain ⟨x0_1, e0_1, _⟩ := field_int hf0 fl_46_1 ui_3_i64
    obtain rfl : c0_1 = _ := List.cons.inj e0_1 |>.1
    obtain ⟨x0_2, e0_2, _⟩ := field_int hf0 fl_46_2 ui_3_i64
    obtain rfl : c0_2 = _ := List.cons.inj e0_2 |>.1
    obtain ⟨a0_3, m0_3, k0_3, xs0_3, e0_3, hr0_3⟩ := field_ints hf0 fl_46_3 sl_44 ui_3_i64 ce_3
    obtain rfl : c0_3 = _ := List.cons.inj e0_3 |>.1
    exact w_PacketOk _ _ _ _ _ _ _ W hr0_3

theorem FnExactPacketOk_lifted (os : Os) (started : os.Started) (H : Type) (enc : TypeId × Value → H) :
    ReturnsInHanded {} Try.checked os 6 .any (Rows.fnExactPacketOkSpec.pre6 enc Try.prog Try.f6 Rows.fnExactPacketOkRow.domain false) (Rows.fnExactPacketOkSpec.post enc Try.prog Try.f6 false true false false) := by
  refine law_frame (C := Try.checked) (tb := 4) Try.own Try.laidOut started (by kernel_rfl) Try.func6 rfl ?_ rfl ub_4 (by kernel_rfl)
    (ChangeSpec.witness6 (enc := enc) (C := Try.checked) false ⟨#[], #[.agg #[.int .i64 0, .int .i64 0, .int .i64 0, .slice none 0 0]], []⟩ 8 (by kernel_rfl) (by kernel_rfl) (by kernel_rfl) (by kernel_rfl)) FnExactPacketOk_walk
  intro ds hl
  match ds, hl with
  | [d0], _ => rfl

theorem FnExactPacketOk_holds : Rows.FnExactPacketOkSaid :=
  OpenClaim.holds_of_wide 6 Try.f6 rfl rfl rfl rfl rfl rfl rfl ⟨rfl, rfl, rfl, rfl, rfl⟩ rfl rfl rfl rfl rfl (by kernel_rfl) Try.func6 (by kernel_rfl)
    (of_decide_eq_true (by kernel_rfl)) (by unfold Func.isWrapper; rw [if_neg (of_decide_eq_false (by kernel_rfl))]; exact ⟨rfl, rfl⟩)
    (fun os started H enc _ => FnExactPacketOk_lifted os started H enc)

end Go.Proofs.Ytbcaoilghmcaeaa
