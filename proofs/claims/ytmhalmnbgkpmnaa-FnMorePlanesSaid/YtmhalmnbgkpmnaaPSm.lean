/- What is small, where no sz function says so. -/
import Derived.Test.YtmhalmnbgkpmnaaPBase
namespace Go.Proofs.Ytmhalmnbgkpmnaa
open Go.RowKit K
def smSurface (x : SurfaceT) : Prop := x.Buffer.Data.length ≤ 1048576
def smSurfaceS (xs : List SurfaceT) : Prop := xs.length ≤ 1048576 ∧ ∀ x ∈ xs, smSurface x
def smScene (s : SceneT) : Prop := smSurfaceS s.Surfaces
end Go.Proofs.Ytmhalmnbgkpmnaa
