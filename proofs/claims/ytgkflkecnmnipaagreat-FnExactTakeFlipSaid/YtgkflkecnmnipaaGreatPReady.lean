/- Whether a flip is ready. -/
import Derived.Test.YtgkflkecnmnipaaGreatPFlipsX
namespace Go.Proofs.YtgkflkecnmnipaaGreat
open Go.RowKit K
theorem has_eq (xs : List Int) (k : Int) (h : xs.length ≤ 1048576) : ∃ b, spec_l23Has xs k = some b ∧ slices_Contains_S_int_int xs k = some b := by
  have e1 := findLoop (L := fun i => slices_Index_S_int_int_L0 xs k i) xs (by omega) (fun y => decide (k = y)) (fun i hi => by
    simp only [slices_Index_S_int_int_L0, idx_lt hi, bnd_s]
    rw [ifO_pos (by simp only [decide_eq_true_eq]; omega), ifO_if]) (by simp [slices_Index_S_int_int_L0])
  have e2 := allList (L := fun i => spec_l23Has_L0 xs k i) xs (by omega) (fun y => !decide (k = y)) true (fun i hi => by
    simp only [spec_l23Has_L0, idx_lt hi, bnd_s]
    have : decide (xs[i] = k) = decide (k = xs[i]) := by rw [decide_eq_decide]; exact eq_comm
    rw [ifO_pos (by simp only [decide_eq_true_eq]; omega), this]
    cases decide (k = xs[i]) <;> rfl) (by simp [spec_l23Has_L0])
  have hf : (xs.all fun y => !decide (k = y)) = (xs.findIdx? fun y => decide (k = y)).isNone := by
    rw [Bool.eq_iff_iff, List.all_eq_true, Option.isNone_iff_eq_none, List.findIdx?_eq_none_iff]
    simp
  simp only [spec_l23Has, slices_Contains_S_int_int, slices_Index_S_int_int, e1, e2, bnd_s, hf]
  cases xs.findIdx? fun y => decide (k = y) with
  | none => exact ⟨false, rfl, rfl⟩
  | some i => exact ⟨true, rfl, by show some (decide (0 ≤ (i : Int))) = _; simp⟩
theorem FlipReady_eq (f : FlipsT) (h : smFlips f) : ∃ b, spec_FlipReady f = some b ∧ impl_FlipReady f = some b := by
  simp only [spec_FlipReady, impl_FlipReady, s_FlipsOk f h, i_FlipsOk f h, bnd_s]
  cases hp : f.Pending with
  | nil =>
    simp only [List.length_nil, Int.natCast_zero, Int.lt_irrefl, decide_false, Bool.and_false]
    exact ⟨false, rfl, rfl⟩
  | cons x r =>
    have i0 : idx (x :: r) 0 = some x := rfl
    obtain ⟨b, e1, e2⟩ := has_eq f.Signalled x.Fence h.2.1
    simp only [i0, bnd_s, e1, e2]
    exact ⟨_, by rw [orO_some, bnd_s, andO_some, bnd_s], by rw [orO_some, bnd_s, andO_some, bnd_s]⟩
end Go.Proofs.YtgkflkecnmnipaaGreat
