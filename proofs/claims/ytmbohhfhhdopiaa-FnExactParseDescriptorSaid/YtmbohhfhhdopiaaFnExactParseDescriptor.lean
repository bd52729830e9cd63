/- FnExactParseDescriptor returns true at all arguments. No conditions. -/
import Derived.Test.YtmbohhfhhdopiaaRows
import Derived.Test.YtmbohhfhhdopiaaW3
import Derived.Test.YtmbohhfhhdopiaaOpen
import Derived.Test.YtmbohhfhhdopiaaPDescr
import Derived.ProofKit
namespace Go.Proofs.Ytmbohhfhhdopiaa
open Go.RowKit Go.ChangeShapes Go.WideShapes Go.ChangeAt K
set_option maxRecDepth 100000
set_option maxHeartbeats 4000000

theorem Try.own : ownKnob Try.prog.godebug = none := by kernel_rfl
theorem Try.laidOut : laidOutB Try.prog = true := by kernel_rfl



theorem FnExactParseDescriptor_walk : LawWalk Try.checked 9 Try.f9 := by
  intro H enc W base args ds p hval0 hA0
  have hval : ∀ (j : Nat) t v, Try.f9.params[j]? = some t → args[j]? = some v → Value.okWide Try.prog W .any base t v := hval0
  have hA : DataW.TrodAll enc Try.prog W 0 (fun _ => true) true Try.f9.params.toList args.toList ds p := hA0
  rw [Try.params9] at hA hval
  clear hA0 hval0
  obtain ⟨v0, d0, rfl, rfl, h0⟩ := trodAll_one hA
  obtain ⟨n0, rfl, o0⟩ := arg_string us_9 (hval 0 9 v0 rfl rfl) h0
  exact w_laws_FnExactParseDescriptor (FnExactParseDescriptor_true _ o0) 

theorem FnExactParseDescriptor_lifted (os : Os) (started : os.Started) (H : Type) (enc : TypeId × Value → H) :
    ReturnsInHanded {} Try.checked os 9 .any (Rows.fnExactParseDescriptorSpec.pre6 enc Try.prog Try.f9 Rows.fnExactParseDescriptorRow.domain false) (Rows.fnExactParseDescriptorSpec.post enc Try.prog Try.f9 false true false false) := by
  refine law_frame (C := Try.checked) (tb := 4) Try.own Try.laidOut started (by kernel_rfl) Try.func9 rfl ?_ rfl ub_4 (by kernel_rfl)
    (ChangeSpec.witness6 (enc := enc) (C := Try.checked) false ⟨#[], #[.string ⟨#[]⟩], []⟩ 8 (by kernel_rfl) (by kernel_rfl) (by kernel_rfl) (by kernel_rfl)) FnExactParseDescriptor_walk
  intro ds hl
  match ds, hl with
  | [d0], _ => rfl

theorem FnExactParseDescriptor_holds : Rows.FnExactParseDescriptorSaid :=
  OpenClaim.holds_of_wide 9 Try.f9 rfl rfl rfl rfl rfl rfl rfl ⟨rfl, rfl, rfl, rfl, rfl⟩ rfl rfl rfl rfl rfl (by kernel_rfl) Try.func9 (by kernel_rfl)
    (of_decide_eq_true (by kernel_rfl)) (by unfold Func.isWrapper; rw [if_neg (of_decide_eq_false (by kernel_rfl))]; exact ⟨rfl, rfl⟩)
    (fun os started H enc _ => FnExactParseDescriptor_lifted os started H enc)

end Go.Proofs.Ytmbohhfhhdopiaa
