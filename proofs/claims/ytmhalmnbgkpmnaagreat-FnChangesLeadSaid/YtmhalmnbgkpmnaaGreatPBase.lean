/- Ranges; images; what both sides compute of them. -/
import Derived.Test.YtmhalmnbgkpmnaaGreatPSm
namespace Go.Proofs.YtmhalmnbgkpmnaaGreat
open Go.RowKit K

def inR (x lo hi : Int) : Bool := decide (lo ≤ x) && decide (x ≤ hi)
theorem inR_t {x lo hi : Int} : inR x lo hi = true ↔ lo ≤ x ∧ x ≤ hi := by simp [inR]
theorem inR_f {x lo hi : Int} : inR x lo hi = false ↔ ¬ (lo ≤ x ∧ x ≤ hi) := by rw [← inR_t]; simp
theorem l01In_eq (x lo hi : Int) : spec_l01In x lo hi = some (inR x lo hi) := rfl
theorem within_eq (x lo hi : Int) : impl_within x lo hi = some (inR x lo hi) := rfl
theorem isSide_eq (x : Int) : impl_isSide x = some (inR x 1 16) := rfl
end Go.Proofs.YtmhalmnbgkpmnaaGreat
