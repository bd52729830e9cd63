/- Color maps, in the program. -/
import Derived.Test.YtbdpbboonilhhaaPBase
namespace Go.Proofs.Ytbdpbboonilhhaa
open Go.RowKit K
def colOk (m : ColorMapT) : Bool := decide (m.Matrix.length = 9) && decide (m.Curve.length = 17) && (m.Matrix.all fun x => inR x (-1024) 1024) && (m.Curve.all fun x => inR x 0 256)
theorem i_ColorOkL (m : ColorMapT) (l1 : m.Matrix.length ≤ 1048576) (l2 : m.Curve.length ≤ 1048576) : impl_ColorOk m = some (colOk m) := by
  have e1 : loopO (fun v => impl_ColorOk_L0 m v) 0 = some (if (m.Matrix.all fun x => inR x (-1024) 1024) then .inl () else .inr false) := by
    refine allList m.Matrix (by omega) _ false (fun k hk => ?_) ?_
    · simp only [impl_ColorOk_L0, idx_lt hk, bnd_s, within_eq]
      rw [ifO_pos (by simpa using hk)]
      cases inR m.Matrix[k] (-1024) 1024 <;> rfl
    · simp [impl_ColorOk_L0]
  have e2 : loopO (fun v => impl_ColorOk_L1 m v) 0 = some (if (m.Curve.all fun x => inR x 0 256) then .inl () else .inr false) := by
    refine allList m.Curve (by omega) _ false (fun k hk => ?_) ?_
    · simp only [impl_ColorOk_L1, idx_lt hk, bnd_s, within_eq]
      rw [ifO_pos (by simpa using hk)]
      cases inR m.Curve[k] 0 256 <;> rfl
    · simp [impl_ColorOk_L1]
  have d1 : decide ((m.Matrix.length : Int) = 9) = decide (m.Matrix.length = 9) := by rw [decide_eq_decide]; omega
  have d2 : decide ((m.Curve.length : Int) = 17) = decide (m.Curve.length = 17) := by rw [decide_eq_decide]; omega
  simp only [impl_ColorOk, e1, e2, d1, d2, bnd_s, colOk]
  cases (m.Matrix.all fun x => inR x (-1024) 1024) <;> cases (m.Curve.all fun x => inR x 0 256) <;> cases decide (m.Matrix.length = 9) <;> cases decide (m.Curve.length = 17) <;> rfl
end Go.Proofs.Ytbdpbboonilhhaa
