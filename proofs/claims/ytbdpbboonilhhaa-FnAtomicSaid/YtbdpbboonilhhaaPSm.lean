/- What is small, where no sz function says so. -/
import Derived.Test.YtbdpbboonilhhaaConv
namespace Go.Proofs.Ytbdpbboonilhhaa
open Go.RowKit K
def smIntS (xs : List Int) : Prop := xs.length ≤ 1048576
def smImage (x : ImageT) : Prop := smIntS x.Data
def smPlane (x : PlaneT) : Prop := smIntS x.Words
def smPlaneS (xs : List PlaneT) : Prop := xs.length ≤ 1048576 ∧ ∀ x ∈ xs, smPlane x
def smColorMap (x : ColorMapT) : Prop := smIntS x.Matrix ∧ smIntS x.Curve
def smCrtc (x : CrtcT) : Prop := smPlaneS x.Planes ∧ smColorMap x.Color
def smChange (x : ChangeT) : Prop := smPlane x.Value ∧ smColorMap x.Color
def smChangeS (xs : List ChangeT) : Prop := xs.length ≤ 1048576 ∧ ∀ x ∈ xs, smChange x
end Go.Proofs.Ytbdpbboonilhhaa
