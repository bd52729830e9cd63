/- The data of the program, as structures. -/
import Derived.Test.YtbdpbboonilhhaaPure
namespace Go.Proofs.Ytbdpbboonilhhaa
open Go.RowKit K
set_option maxRecDepth 100000
set_option maxHeartbeats 4000000

structure ImageT where
  W : Int
  H : Int
  Data : List Int
structure SurfaceT where
  Id : Int
  X : Int
  Y : Int
  W : Int
  H : Int
  Alpha : Int
  Orient : Int
  Visible : Bool
  Buffer : ImageT
structure SceneT where
  W : Int
  H : Int
  Back : Int
  Surfaces : List SurfaceT
structure OptionsT where
  Overlays : Int
  Cursor : Bool
  Layout : Int
  Partial : Bool
  Sleep : Bool
  Secret : Bool
structure L01CurT where
  b : List Int
  i : Int
  h : Int
structure RectT where
  X : Int
  Y : Int
  W : Int
  H : Int
structure EditT where
  Kind : Int
  Id : Int
  A : Int
  B : Int
  Buffer : ImageT
structure PlaneT where
  On : Bool
  X : Int
  Y : Int
  W : Int
  H : Int
  Layout : Int
  Words : List Int
  Alpha : Int
  Orient : Int
  ToW : Int
  ToH : Int
instance instImageT : Inhabited ImageT := ⟨ImageT.mk default default default⟩
instance instSurfaceT : Inhabited SurfaceT := ⟨SurfaceT.mk default default default default default default default default default⟩
instance instSceneT : Inhabited SceneT := ⟨SceneT.mk default default default default⟩
instance instOptionsT : Inhabited OptionsT := ⟨OptionsT.mk default default default default default default⟩
instance instL01CurT : Inhabited L01CurT := ⟨L01CurT.mk default default default⟩
instance instRectT : Inhabited RectT := ⟨RectT.mk default default default default⟩
instance instEditT : Inhabited EditT := ⟨EditT.mk default default default default default⟩
instance instPlaneT : Inhabited PlaneT := ⟨PlaneT.mk default default default default default default default default default default default⟩
def okImage (x : ImageT) : Prop := (I64 x.W) ∧ (I64 x.H) ∧ (x.Data.length ≤ 9223372036854775807 ∧ ∀ y ∈ x.Data, I64 y)
def okSurface (x : SurfaceT) : Prop := (I64 x.Id) ∧ (I64 x.X) ∧ (I64 x.Y) ∧ (I64 x.W) ∧ (I64 x.H) ∧ (I64 x.Alpha) ∧ (I64 x.Orient) ∧ True ∧ (okImage x.Buffer)
def okScene (x : SceneT) : Prop := (I64 x.W) ∧ (I64 x.H) ∧ (I64 x.Back) ∧ (x.Surfaces.length ≤ 9223372036854775807 ∧ ∀ y ∈ x.Surfaces, okSurface y)
def okOptions (x : OptionsT) : Prop := (I64 x.Overlays) ∧ True ∧ (I64 x.Layout) ∧ True ∧ True ∧ True
def okL01Cur (x : L01CurT) : Prop := (x.b.length ≤ 9223372036854775807 ∧ ∀ y ∈ x.b, 0 ≤ y ∧ y ≤ 255) ∧ (I64 x.i) ∧ (I64 x.h)
def okRect (x : RectT) : Prop := (I64 x.X) ∧ (I64 x.Y) ∧ (I64 x.W) ∧ (I64 x.H)
def okEdit (x : EditT) : Prop := (I64 x.Kind) ∧ (I64 x.Id) ∧ (I64 x.A) ∧ (I64 x.B) ∧ (okImage x.Buffer)
def okPlane (x : PlaneT) : Prop := True ∧ (I64 x.X) ∧ (I64 x.Y) ∧ (I64 x.W) ∧ (I64 x.H) ∧ (I64 x.Layout) ∧ (x.Words.length ≤ 9223372036854775807 ∧ ∀ y ∈ x.Words, I64 y) ∧ (I64 x.Alpha) ∧ (I64 x.Orient) ∧ (I64 x.ToW) ∧ (I64 x.ToH)
end Go.Proofs.Ytbdpbboonilhhaa
