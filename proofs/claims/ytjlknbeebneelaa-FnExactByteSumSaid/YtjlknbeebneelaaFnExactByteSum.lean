/- FnExactByteSum returns true: the program and the reference agree on every string (the law itself lets strings longer than 2^20 bytes by). No conditions. -/
import Derived.Test.YtjlknbeebneelaaWalks
import Derived.Test.YtjlknbeebneelaaFrame
import Derived.ProofKit
namespace Go.Proofs.Ytjlknbeebneelaa
open Go.RowKit Go.ChangeShapes Go.WideShapes Go.ChangeAt K

theorem Try.own : ownKnob Try.prog.godebug = none := by kernel_rfl
theorem Try.laidOut : laidOutB Try.prog = true := by kernel_rfl


theorem FnExactByteSum_walk : LawWalk Try.checked 3 Try.f3 := by
  intro H enc W base args ds p hval0 hA0
  have hval : ∀ (j : Nat) t v, Try.f3.params[j]? = some t → args[j]? = some v → Value.okWide Try.prog W .any base t v := hval0
  have hA : DataW.TrodAll enc Try.prog W 0 (fun _ => true) true Try.f3.params.toList args.toList ds p := hA0
  rw [Try.params3] at hA hval
  clear hA0 hval0
  obtain ⟨v0, d0, rfl, rfl, h0⟩ := trodAll_one hA
  obtain ⟨n0, rfl, r0⟩ := arg_string us_9 (hval 0 9 v0 rfl rfl) h0
  exact w_ByteSum _ W

theorem FnExactByteSum_lifted (os : Os) (started : os.Started) (H : Type) (enc : TypeId × Value → H) :
    ReturnsInHanded {} Try.checked os 3 .any (Rows.fnExactByteSumSpec.pre6 enc Try.prog Try.f3 Rows.fnExactByteSumRow.domain false) (Rows.fnExactByteSumSpec.post enc Try.prog Try.f3 false true false false) := by
  refine law_frame (C := Try.checked) (tb := 4) Try.own Try.laidOut started (by kernel_rfl) Try.func3 rfl ?_ rfl ub_4 (by kernel_rfl)
    (ChangeSpec.witness6 (enc := enc) (C := Try.checked) false ⟨#[], #[.string ⟨#[]⟩], []⟩ 8 (by kernel_rfl) (by kernel_rfl) (by kernel_rfl) (by kernel_rfl)) FnExactByteSum_walk
  intro ds hl
  match ds, hl with
  | [d0], _ => rfl

theorem FnExactByteSum_holds : Rows.FnExactByteSumSaid :=
  OpenClaim.holds_of_wide 3 Try.f3 rfl rfl rfl rfl rfl rfl rfl ⟨rfl, rfl, rfl, rfl, rfl⟩ rfl rfl rfl rfl rfl (by kernel_rfl) Try.func3 (by kernel_rfl)
    (of_decide_eq_true (by kernel_rfl)) (by unfold Func.isWrapper; rw [if_neg (of_decide_eq_false (by kernel_rfl))]; exact ⟨rfl, rfl⟩)
    (fun os started H enc _ => FnExactByteSum_lifted os started H enc)

end Go.Proofs.Ytjlknbeebneelaa
