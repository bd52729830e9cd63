/- Planes, colors, states, held against each other. -/
import Derived.Test.YtbdpbboonilhhaaPInts
namespace Go.Proofs.Ytbdpbboonilhhaa
open Go.RowKit K

def samePl (a b : PlaneT) : Bool := (a.On == b.On) && decide (a.X = b.X) && decide (a.Y = b.Y) && decide (a.W = b.W) && decide (a.H = b.H) && decide (a.Layout = b.Layout) && decide (a.Alpha = b.Alpha) && decide (a.Orient = b.Orient) && decide (a.ToW = b.ToW) && decide (a.ToH = b.ToH) && eqInts a.Words b.Words
theorem i_SamePlane (a b : PlaneT) (h : a.Words.length ≤ 1048576) : impl_samePlane a b = some (samePl a b) := by
  simp only [impl_samePlane, i_Ints _ _ h, bnd_s, andO_some, samePl]
def sameCol (a b : ColorMapT) : Bool := eqInts a.Matrix b.Matrix && eqInts a.Curve b.Curve
theorem i_SameColor (a b : ColorMapT) (h : smColorMap a) : impl_sameColor a b = some (sameCol a b) := by
  simp only [impl_sameColor, i_Ints _ _ h.1, i_Ints _ _ h.2, bnd_s, andO_some, sameCol]
end Go.Proofs.Ytbdpbboonilhhaa
