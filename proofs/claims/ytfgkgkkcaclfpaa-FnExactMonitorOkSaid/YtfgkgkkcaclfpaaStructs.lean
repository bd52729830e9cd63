/- The data of the program, as structures. -/
import Derived.Test.YtfgkgkkcaclfpaaPure
namespace Go.Proofs.Ytfgkgkkcaclfpaa
open Go.RowKit K
set_option maxRecDepth 100000
set_option maxHeartbeats 4000000
set_option linter.unusedVariables false

structure ModeT where
  Clock : Int
  W : Int
  HFront : Int
  HSync : Int
  HBack : Int
  H : Int
  VFront : Int
  VSync : Int
  VBack : Int
structure MonitorT where
  Name : ByteArray
  Modes : List ModeT
  Stretch : Int
instance instModeT : Inhabited ModeT := ⟨ModeT.mk default default default default default default default default default⟩
instance instMonitorT : Inhabited MonitorT := ⟨MonitorT.mk default default default⟩
def okMode (x : ModeT) : Prop := (I64 x.Clock) ∧ (I64 x.W) ∧ (I64 x.HFront) ∧ (I64 x.HSync) ∧ (I64 x.HBack) ∧ (I64 x.H) ∧ (I64 x.VFront) ∧ (I64 x.VSync) ∧ (I64 x.VBack)
def okMonitor (x : MonitorT) : Prop := (x.Name.size ≤ 9223372036854775807) ∧ (x.Modes.length ≤ 9223372036854775807 ∧ ∀ y ∈ x.Modes, okMode y) ∧ (I64 x.Stretch)
end Go.Proofs.Ytfgkgkkcaclfpaa
