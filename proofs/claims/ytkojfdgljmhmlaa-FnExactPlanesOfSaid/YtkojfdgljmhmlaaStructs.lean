/- The data of the program, as structures. -/
import Derived.Test.YtkojfdgljmhmlaaPure
namespace Go.Proofs.Ytkojfdgljmhmlaa
open Go.RowKit K
set_option maxRecDepth 100000
set_option maxHeartbeats 4000000

structure ImageT where
  W : Int
  H : Int
  Data : List Int
structure SurfaceT where
  Id : Int
  X : Int
  Y : Int
  W : Int
  H : Int
  Alpha : Int
  Orient : Int
  Visible : Bool
  Buffer : ImageT
structure SceneT where
  W : Int
  H : Int
  Back : Int
  Surfaces : List SurfaceT
structure OptionsT where
  Overlays : Int
  Cursor : Bool
  Layout : Int
  Partial : Bool
  Sleep : Bool
  Secret : Bool
structure PlaneT where
  On : Bool
  X : Int
  Y : Int
  W : Int
  H : Int
  Layout : Int
  Words : List Int
  Alpha : Int
  Orient : Int
  ToW : Int
  ToH : Int
instance instImageT : Inhabited ImageT := ⟨ImageT.mk default default default⟩
instance instSurfaceT : Inhabited SurfaceT := ⟨SurfaceT.mk default default default default default default default default default⟩
instance instSceneT : Inhabited SceneT := ⟨SceneT.mk default default default default⟩
instance instOptionsT : Inhabited OptionsT := ⟨OptionsT.mk default default default default default default⟩
instance instPlaneT : Inhabited PlaneT := ⟨PlaneT.mk default default default default default default default default default default default⟩
def okImage (x : ImageT) : Prop := (I64 x.W) ∧ (I64 x.H) ∧ (x.Data.length ≤ 9223372036854775807 ∧ ∀ y ∈ x.Data, I64 y)
def okSurface (x : SurfaceT) : Prop := (I64 x.Id) ∧ (I64 x.X) ∧ (I64 x.Y) ∧ (I64 x.W) ∧ (I64 x.H) ∧ (I64 x.Alpha) ∧ (I64 x.Orient) ∧ True ∧ (okImage x.Buffer)
def okScene (x : SceneT) : Prop := (I64 x.W) ∧ (I64 x.H) ∧ (I64 x.Back) ∧ (x.Surfaces.length ≤ 9223372036854775807 ∧ ∀ y ∈ x.Surfaces, okSurface y)
def okOptions (x : OptionsT) : Prop := (I64 x.Overlays) ∧ True ∧ (I64 x.Layout) ∧ True ∧ True ∧ True
def okPlane (x : PlaneT) : Prop := True ∧ (I64 x.X) ∧ (I64 x.Y) ∧ (I64 x.W) ∧ (I64 x.H) ∧ (I64 x.Layout) ∧ (x.Words.length ≤ 9223372036854775807 ∧ ∀ y ∈ x.Words, I64 y) ∧ (I64 x.Alpha) ∧ (I64 x.Orient) ∧ (I64 x.ToW) ∧ (I64 x.ToH)
end Go.Proofs.Ytkojfdgljmhmlaa
