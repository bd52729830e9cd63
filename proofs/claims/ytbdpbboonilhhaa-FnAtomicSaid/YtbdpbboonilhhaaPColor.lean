/- Color maps. -/
import Derived.Test.YtbdpbboonilhhaaPColorI
namespace Go.Proofs.Ytbdpbboonilhhaa
open Go.RowKit K
theorem i_ColorOk (m : ColorMapT) (h : smColorMap m) : impl_ColorOk m = some (colOk m) := i_ColorOkL m h.1 h.2
theorem s_ColorOk (m : ColorMapT) : spec_ColorOk m = some (colOk m) := by
  unfold spec_ColorOk
  by_cases h1 : m.Matrix.length = 9
  · by_cases h2 : m.Curve.length = 17
    · have e1 : loopO (fun v => spec_ColorOk_L0 m v) 0 = some (if (m.Matrix.all fun x => inR x (-1024) 1024) then .inl () else .inr false) := by
        refine allList m.Matrix (by omega) _ false (fun k hk => ?_) ?_
        · simp only [spec_ColorOk_L0, idx_lt hk, bnd_s, l01In_eq]
          rw [ifO_pos (by simp only [decide_eq_true_eq]; omega)]
          cases inR m.Matrix[k] (-1024) 1024 <;> rfl
        · rw [h1]; simp [spec_ColorOk_L0]
      have e2 : loopO (fun v => spec_ColorOk_L1 m v) 0 = some (if (m.Curve.all fun x => inR x 0 256) then .inl () else .inr false) := by
        refine allList m.Curve (by omega) _ false (fun k hk => ?_) ?_
        · simp only [spec_ColorOk_L1, idx_lt hk, bnd_s, l01In_eq]
          rw [ifO_pos (by simp only [decide_eq_true_eq]; omega)]
          cases inR m.Curve[k] 0 256 <;> rfl
        · rw [h2]; simp [spec_ColorOk_L1]
      rw [e1, e2, ifO_neg (by simp; omega)]
      simp only [bnd_s, colOk, h1, h2, decide_true, Bool.true_and]
      cases (m.Matrix.all fun x => inR x (-1024) 1024) <;> cases (m.Curve.all fun x => inR x 0 256) <;> rfl
    · rw [ifO_pos (by simp; omega)]
      simp [colOk, h2]
  · rw [ifO_pos (by simp; omega)]
    simp [colOk, h1]
end Go.Proofs.Ytbdpbboonilhhaa
