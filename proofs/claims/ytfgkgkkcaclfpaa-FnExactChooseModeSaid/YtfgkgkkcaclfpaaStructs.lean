/- The data of the program, as structures. -/
import Derived.Test.YtfgkgkkcaclfpaaPure
namespace Go.Proofs.Ytfgkgkkcaclfpaa
open Go.RowKit K
set_option maxRecDepth 100000
set_option maxHeartbeats 4000000

structure ModeT where
  Clock : Int
  W : Int
  HFront : Int
  HSync : Int
  HBack : Int
  H : Int
  VFront : Int
  VSync : Int
  VBack : Int
structure MonitorT where
  Name : ByteArray
  Modes : List ModeT
  Stretch : Int
structure ImageT where
  W : Int
  H : Int
  Data : List Int
structure SurfaceT where
  Id : Int
  X : Int
  Y : Int
  W : Int
  H : Int
  Alpha : Int
  Orient : Int
  Visible : Bool
  Buffer : ImageT
structure PlaneT where
  On : Bool
  X : Int
  Y : Int
  W : Int
  H : Int
  Layout : Int
  Words : List Int
  Alpha : Int
  Orient : Int
  ToW : Int
  ToH : Int
structure ColorMapT where
  Matrix : List Int
  Curve : List Int
structure ChangeT where
  Plane : Int
  Value : PlaneT
  Color : ColorMapT
structure CrtcT where
  W : Int
  H : Int
  Planes : List PlaneT
  Color : ColorMapT
structure SceneT where
  W : Int
  H : Int
  Back : Int
  Surfaces : List SurfaceT
instance instModeT : Inhabited ModeT := ⟨ModeT.mk default default default default default default default default default⟩
instance instMonitorT : Inhabited MonitorT := ⟨MonitorT.mk default default default⟩
instance instImageT : Inhabited ImageT := ⟨ImageT.mk default default default⟩
instance instSurfaceT : Inhabited SurfaceT := ⟨SurfaceT.mk default default default default default default default default default⟩
instance instPlaneT : Inhabited PlaneT := ⟨PlaneT.mk default default default default default default default default default default default⟩
instance instColorMapT : Inhabited ColorMapT := ⟨ColorMapT.mk default default⟩
instance instChangeT : Inhabited ChangeT := ⟨ChangeT.mk default default default⟩
instance instCrtcT : Inhabited CrtcT := ⟨CrtcT.mk default default default default⟩
instance instSceneT : Inhabited SceneT := ⟨SceneT.mk default default default default⟩
def okMode (x : ModeT) : Prop := (I64 x.Clock) ∧ (I64 x.W) ∧ (I64 x.HFront) ∧ (I64 x.HSync) ∧ (I64 x.HBack) ∧ (I64 x.H) ∧ (I64 x.VFront) ∧ (I64 x.VSync) ∧ (I64 x.VBack)
def okMonitor (x : MonitorT) : Prop := (x.Name.size ≤ 9223372036854775807) ∧ (x.Modes.length ≤ 9223372036854775807 ∧ ∀ y ∈ x.Modes, okMode y) ∧ (I64 x.Stretch)
def okImage (x : ImageT) : Prop := (I64 x.W) ∧ (I64 x.H) ∧ (x.Data.length ≤ 9223372036854775807 ∧ ∀ y ∈ x.Data, I64 y)
def okSurface (x : SurfaceT) : Prop := (I64 x.Id) ∧ (I64 x.X) ∧ (I64 x.Y) ∧ (I64 x.W) ∧ (I64 x.H) ∧ (I64 x.Alpha) ∧ (I64 x.Orient) ∧ True ∧ (okImage x.Buffer)
def okPlane (x : PlaneT) : Prop := True ∧ (I64 x.X) ∧ (I64 x.Y) ∧ (I64 x.W) ∧ (I64 x.H) ∧ (I64 x.Layout) ∧ (x.Words.length ≤ 9223372036854775807 ∧ ∀ y ∈ x.Words, I64 y) ∧ (I64 x.Alpha) ∧ (I64 x.Orient) ∧ (I64 x.ToW) ∧ (I64 x.ToH)
def okColorMap (x : ColorMapT) : Prop := (x.Matrix.length ≤ 9223372036854775807 ∧ ∀ y ∈ x.Matrix, I64 y) ∧ (x.Curve.length ≤ 9223372036854775807 ∧ ∀ y ∈ x.Curve, I64 y)
def okChange (x : ChangeT) : Prop := (I64 x.Plane) ∧ (okPlane x.Value) ∧ (okColorMap x.Color)
def okCrtc (x : CrtcT) : Prop := (I64 x.W) ∧ (I64 x.H) ∧ (x.Planes.length ≤ 9223372036854775807 ∧ ∀ y ∈ x.Planes, okPlane y) ∧ (okColorMap x.Color)
def okScene (x : SceneT) : Prop := (I64 x.W) ∧ (I64 x.H) ∧ (I64 x.Back) ∧ (x.Surfaces.length ≤ 9223372036854775807 ∧ ∀ y ∈ x.Surfaces, okSurface y)
end Go.Proofs.Ytfgkgkkcaclfpaa
