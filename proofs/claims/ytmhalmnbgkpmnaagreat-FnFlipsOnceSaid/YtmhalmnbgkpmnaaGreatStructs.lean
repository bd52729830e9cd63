/- The data of the program, as structures. -/
import Derived.Test.YtmhalmnbgkpmnaaGreatPure
namespace Go.Proofs.YtmhalmnbgkpmnaaGreat
open Go.RowKit K
set_option maxRecDepth 100000
set_option maxHeartbeats 4000000

structure PlaneT where
  On : Bool
  X : Int
  Y : Int
  W : Int
  H : Int
  Layout : Int
  Words : List Int
  Alpha : Int
  Orient : Int
  ToW : Int
  ToH : Int
structure ColorMapT where
  Matrix : List Int
  Curve : List Int
structure CrtcT where
  W : Int
  H : Int
  Planes : List PlaneT
  Color : ColorMapT
structure ImageT where
  W : Int
  H : Int
  Data : List Int
structure FlipT where
  Seq : Int
  Fence : Int
  State : CrtcT
structure FlipsT where
  Pending : List FlipT
  Signalled : List Int
  Next : Int
  Events : List Int
structure ChangeT where
  Plane : Int
  Value : PlaneT
  Color : ColorMapT
structure L01CurT where
  b : List Int
  i : Int
  h : Int
structure RectT where
  X : Int
  Y : Int
  W : Int
  H : Int
instance instPlaneT : Inhabited PlaneT := ⟨PlaneT.mk default default default default default default default default default default default⟩
instance instColorMapT : Inhabited ColorMapT := ⟨ColorMapT.mk default default⟩
instance instCrtcT : Inhabited CrtcT := ⟨CrtcT.mk default default default default⟩
instance instImageT : Inhabited ImageT := ⟨ImageT.mk default default default⟩
instance instFlipT : Inhabited FlipT := ⟨FlipT.mk default default default⟩
instance instFlipsT : Inhabited FlipsT := ⟨FlipsT.mk default default default default⟩
instance instChangeT : Inhabited ChangeT := ⟨ChangeT.mk default default default⟩
instance instL01CurT : Inhabited L01CurT := ⟨L01CurT.mk default default default⟩
instance instRectT : Inhabited RectT := ⟨RectT.mk default default default default⟩
def okPlane (x : PlaneT) : Prop := True ∧ (I64 x.X) ∧ (I64 x.Y) ∧ (I64 x.W) ∧ (I64 x.H) ∧ (I64 x.Layout) ∧ (x.Words.length ≤ 9223372036854775807 ∧ ∀ y ∈ x.Words, I64 y) ∧ (I64 x.Alpha) ∧ (I64 x.Orient) ∧ (I64 x.ToW) ∧ (I64 x.ToH)
def okColorMap (x : ColorMapT) : Prop := (x.Matrix.length ≤ 9223372036854775807 ∧ ∀ y ∈ x.Matrix, I64 y) ∧ (x.Curve.length ≤ 9223372036854775807 ∧ ∀ y ∈ x.Curve, I64 y)
def okCrtc (x : CrtcT) : Prop := (I64 x.W) ∧ (I64 x.H) ∧ (x.Planes.length ≤ 9223372036854775807 ∧ ∀ y ∈ x.Planes, okPlane y) ∧ (okColorMap x.Color)
def okImage (x : ImageT) : Prop := (I64 x.W) ∧ (I64 x.H) ∧ (x.Data.length ≤ 9223372036854775807 ∧ ∀ y ∈ x.Data, I64 y)
def okFlip (x : FlipT) : Prop := (I64 x.Seq) ∧ (I64 x.Fence) ∧ (okCrtc x.State)
def okFlips (x : FlipsT) : Prop := (x.Pending.length ≤ 9223372036854775807 ∧ ∀ y ∈ x.Pending, okFlip y) ∧ (x.Signalled.length ≤ 9223372036854775807 ∧ ∀ y ∈ x.Signalled, I64 y) ∧ (I64 x.Next) ∧ (x.Events.length ≤ 9223372036854775807 ∧ ∀ y ∈ x.Events, I64 y)
def okChange (x : ChangeT) : Prop := (I64 x.Plane) ∧ (okPlane x.Value) ∧ (okColorMap x.Color)
def okL01Cur (x : L01CurT) : Prop := (x.b.length ≤ 9223372036854775807 ∧ ∀ y ∈ x.b, 0 ≤ y ∧ y ≤ 255) ∧ (I64 x.i) ∧ (I64 x.h)
def okRect (x : RectT) : Prop := (I64 x.X) ∧ (I64 x.Y) ∧ (I64 x.W) ∧ (I64 x.H)
end Go.Proofs.YtmhalmnbgkpmnaaGreat
