/- What is small, where no sz function says so. -/
import Derived.Test.YtbdpbboonilhhaaConv
namespace Go.Proofs.Ytbdpbboonilhhaa
open Go.RowKit K
def smIntS (xs : List Int) : Prop := xs.length ≤ 1048576
def smImage (x : ImageT) : Prop := smIntS x.Data
def smPlane (x : PlaneT) : Prop := smIntS x.Words
def smPlaneS (xs : List PlaneT) : Prop := xs.length ≤ 1048576 ∧ ∀ x ∈ xs, smPlane x
end Go.Proofs.Ytbdpbboonilhhaa
