/- The data of the program, as structures. -/
import Derived.Test.YtmbohhfhhdopiaaPure
namespace Go.Proofs.Ytmbohhfhhdopiaa
open Go.RowKit K
set_option maxRecDepth 100000
set_option maxHeartbeats 4000000

structure ModeT where
  Clock : Int
  W : Int
  HFront : Int
  HSync : Int
  HBack : Int
  H : Int
  VFront : Int
  VSync : Int
  VBack : Int
structure MonitorT where
  Name : ByteArray
  Modes : List ModeT
  Stretch : Int
structure L01CurT where
  b : List Int
  i : Int
  h : Int
structure DividerT where
  N : Int
  M : Int
  P : Int
structure PaceT where
  Mode : ModeT
  Stretch : Int
  Lines : Int
  Frames : List Int
instance instModeT : Inhabited ModeT := ⟨ModeT.mk default default default default default default default default default⟩
instance instMonitorT : Inhabited MonitorT := ⟨MonitorT.mk default default default⟩
instance instL01CurT : Inhabited L01CurT := ⟨L01CurT.mk default default default⟩
instance instDividerT : Inhabited DividerT := ⟨DividerT.mk default default default⟩
instance instPaceT : Inhabited PaceT := ⟨PaceT.mk default default default default⟩
def okMode (x : ModeT) : Prop := (I64 x.Clock) ∧ (I64 x.W) ∧ (I64 x.HFront) ∧ (I64 x.HSync) ∧ (I64 x.HBack) ∧ (I64 x.H) ∧ (I64 x.VFront) ∧ (I64 x.VSync) ∧ (I64 x.VBack)
def okMonitor (x : MonitorT) : Prop := (x.Name.size ≤ 9223372036854775807) ∧ (x.Modes.length ≤ 9223372036854775807 ∧ ∀ y ∈ x.Modes, okMode y) ∧ (I64 x.Stretch)
def okL01Cur (x : L01CurT) : Prop := (x.b.length ≤ 9223372036854775807 ∧ ∀ y ∈ x.b, 0 ≤ y ∧ y ≤ 255) ∧ (I64 x.i) ∧ (I64 x.h)
def okDivider (x : DividerT) : Prop := (I64 x.N) ∧ (I64 x.M) ∧ (I64 x.P)
def okPace (x : PaceT) : Prop := (okMode x.Mode) ∧ (I64 x.Stretch) ∧ (I64 x.Lines) ∧ (x.Frames.length ≤ 9223372036854775807 ∧ ∀ y ∈ x.Frames, I64 y)
end Go.Proofs.Ytmbohhfhhdopiaa
