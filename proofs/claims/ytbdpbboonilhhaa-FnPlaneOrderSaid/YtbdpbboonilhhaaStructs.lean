/- The data of the program, as structures. -/
import Derived.Test.YtbdpbboonilhhaaPure
namespace Go.Proofs.Ytbdpbboonilhhaa
open Go.RowKit K
set_option maxRecDepth 100000
set_option maxHeartbeats 4000000

structure PlaneT where
  On : Bool
  X : Int
  Y : Int
  W : Int
  H : Int
  Layout : Int
  Words : List Int
  Alpha : Int
  Orient : Int
  ToW : Int
  ToH : Int
structure L01CurT where
  b : List Int
  i : Int
  h : Int
structure ImageT where
  W : Int
  H : Int
  Data : List Int
structure RectT where
  X : Int
  Y : Int
  W : Int
  H : Int
instance instPlaneT : Inhabited PlaneT := ⟨PlaneT.mk default default default default default default default default default default default⟩
instance instL01CurT : Inhabited L01CurT := ⟨L01CurT.mk default default default⟩
instance instImageT : Inhabited ImageT := ⟨ImageT.mk default default default⟩
instance instRectT : Inhabited RectT := ⟨RectT.mk default default default default⟩
def okPlane (x : PlaneT) : Prop := True ∧ (I64 x.X) ∧ (I64 x.Y) ∧ (I64 x.W) ∧ (I64 x.H) ∧ (I64 x.Layout) ∧ (x.Words.length ≤ 9223372036854775807 ∧ ∀ y ∈ x.Words, I64 y) ∧ (I64 x.Alpha) ∧ (I64 x.Orient) ∧ (I64 x.ToW) ∧ (I64 x.ToH)
def okL01Cur (x : L01CurT) : Prop := (x.b.length ≤ 9223372036854775807 ∧ ∀ y ∈ x.b, 0 ≤ y ∧ y ≤ 255) ∧ (I64 x.i) ∧ (I64 x.h)
def okImage (x : ImageT) : Prop := (I64 x.W) ∧ (I64 x.H) ∧ (x.Data.length ≤ 9223372036854775807 ∧ ∀ y ∈ x.Data, I64 y)
def okRect (x : RectT) : Prop := (I64 x.X) ∧ (I64 x.Y) ∧ (I64 x.W) ∧ (I64 x.H)
end Go.Proofs.Ytbdpbboonilhhaa
