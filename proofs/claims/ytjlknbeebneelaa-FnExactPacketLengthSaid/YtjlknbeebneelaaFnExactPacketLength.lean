/- FnExactPacketLength returns true: the program and the reference agree on every kind and number of dots. No conditions. -/
import Derived.Test.YtjlknbeebneelaaWalks
import Derived.Test.YtjlknbeebneelaaFrame
import Derived.ProofKit
namespace Go.Proofs.Ytjlknbeebneelaa
open Go.RowKit Go.ChangeShapes Go.WideShapes Go.ChangeAt K

theorem Try.own : ownKnob Try.prog.godebug = none := by kernel_rfl
theorem Try.laidOut : laidOutB Try.prog = true := by kernel_rfl


theorem FnExactPacketLength_walk : LawWalk Try.checked 5 Try.f5 := by
  intro H enc W base args ds p hval0 hA0
  have hval : ∀ (j : Nat) t v, Try.f5.params[j]? = some t → args[j]? = some v → Value.okWide Try.prog W .any base t v := hval0
  have hA : DataW.TrodAll enc Try.prog W 0 (fun _ => true) true Try.f5.params.toList args.toList ds p := hA0
  rw [Try.params5] at hA hval
  clear hA0 hval0
  obtain ⟨v0, v1, d0, d1, p0, p1, rfl, rfl, rfl, h0, h1⟩ := trodAll_two hA
  obtain ⟨n0, rfl, r0⟩ := arg_int ui_3_i64 (hval 0 3 v0 rfl rfl) h0
  obtain ⟨n1, rfl, r1⟩ := arg_int ui_3_i64 (hval 1 3 v1 rfl rfl) h1
  exact w_PacketLength _ _ W

theorem FnExactPacketLength_lifted (os : Os) (started : os.Started) (H : Type) (enc : TypeId × Value → H) :
    ReturnsInHanded {} Try.checked os 5 .any (Rows.fnExactPacketLengthSpec.pre6 enc Try.prog Try.f5 Rows.fnExactPacketLengthRow.domain false) (Rows.fnExactPacketLengthSpec.post enc Try.prog Try.f5 false true false false) := by
  refine law_frame (C := Try.checked) (tb := 4) Try.own Try.laidOut started (by kernel_rfl) Try.func5 rfl ?_ rfl ub_4 (by kernel_rfl)
    (ChangeSpec.witness6 (enc := enc) (C := Try.checked) false ⟨#[], #[.int .i64 0, .int .i64 0], []⟩ 8 (by kernel_rfl) (by kernel_rfl) (by kernel_rfl) (by kernel_rfl)) FnExactPacketLength_walk
  intro ds hl
  match ds, hl with
  | [d0, d1], _ => rfl

theorem FnExactPacketLength_holds : Rows.FnExactPacketLengthSaid :=
  OpenClaim.holds_of_wide 5 Try.f5 rfl rfl rfl rfl rfl rfl rfl ⟨rfl, rfl, rfl, rfl, rfl⟩ rfl rfl rfl rfl rfl (by kernel_rfl) Try.func5 (by kernel_rfl)
    (of_decide_eq_true (by kernel_rfl)) (by unfold Func.isWrapper; rw [if_neg (of_decide_eq_false (by kernel_rfl))]; exact ⟨rfl, rfl⟩)
    (fun os started H enc _ => FnExactPacketLength_lifted os started H enc)

end Go.Proofs.Ytjlknbeebneelaa
