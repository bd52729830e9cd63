/- What is small, where no sz function says so. -/
import Derived.Test.YtmhalmnbgkpmnaaConv
namespace Go.Proofs.Ytmhalmnbgkpmnaa
open Go.RowKit K
def smIntS (xs : List Int) : Prop := xs.length ≤ 1048576
def smImage (x : ImageT) : Prop := smIntS x.Data
def smSurface (x : SurfaceT) : Prop := smImage x.Buffer
def smSurfaceS (xs : List SurfaceT) : Prop := xs.length ≤ 1048576 ∧ ∀ x ∈ xs, smSurface x
def smScene (x : SceneT) : Prop := smSurfaceS x.Surfaces
end Go.Proofs.Ytmhalmnbgkpmnaa
