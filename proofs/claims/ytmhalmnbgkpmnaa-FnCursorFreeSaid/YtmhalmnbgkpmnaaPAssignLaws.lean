/- The law about which surfaces are shown by planes. -/
import Derived.Test.YtmhalmnbgkpmnaaPAssign
namespace Go.Proofs.Ytmhalmnbgkpmnaa
open Go.RowKit K
theorem ng (m : Nat) : ¬ (1 + (m : Int) < 0) := by omega
end Go.Proofs.Ytmhalmnbgkpmnaa
