/- A byte of the code. -/
import Derived.Test.YtmhalmnbgkpmnaaPCur
namespace Go.Proofs.Ytmhalmnbgkpmnaa
open Go.RowKit K
section At
variable (b : List Int) (hb : b.length ≤ 1048576)
include hb
theorem at_ok (ho : ∀ y ∈ b, 0 ≤ y ∧ y ≤ 255) (k : Int) (hk : 0 ≤ k) (hk' : k ≤ 1000000) : ∃ v, laws_at b k = some v ∧ 0 ≤ v ∧ v ≤ 255 := by
  unfold laws_at
  by_cases h0 : b.length = 0
  · rw [ifO_pos (by simpa using h0)]; exact ⟨0, rfl, by omega, by omega⟩
  · rw [ifO_neg (by simpa using h0)]
    have e : wr (wr (k * 5) + 1) = k * 5 + 1 := by rw [wr_in (n := k * 5) (by omega) (by omega), wr_in (by omega) (by omega)]
    rw [e, remO_of (by omega), bnd_s, Int.tmod_eq_emod_of_nonneg (by omega)]
    have m0 := Int.emod_nonneg (k * 5 + 1) (show (b.length : Int) ≠ 0 by omega)
    have m1 := Int.emod_lt_of_pos (k * 5 + 1) (show 0 < (b.length : Int) by omega)
    rw [idx_of m0 m1, bnd_s]
    have := ho _ (List.getElem_mem (show ((k * 5 + 1) % (b.length : Int)).toNat < b.length by omega))
    rw [wr_in (by omega) (by omega)]
    exact ⟨_, rfl, this.1, this.2⟩
end At
end Go.Proofs.Ytmhalmnbgkpmnaa
