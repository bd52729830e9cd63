/- States. -/
import Derived.Test.YtbdpbboonilhhaaPPlaneOk
import Derived.Test.YtbdpbboonilhhaaPColor
namespace Go.Proofs.Ytbdpbboonilhhaa
open Go.RowKit K
theorem CrtcOk_eq (c : CrtcT) (h : smCrtc c) : ∃ b, spec_CrtcOk c = some b ∧ impl_CrtcOk c = some b ∧ (b = true → goodPlanes c.Planes c.W c.H ∧ colOk c.Color = true) := by
  obtain ⟨b, e1, e2, e3⟩ := PlanesOk_eq c.Planes c.W c.H h.1
  simp only [spec_CrtcOk, impl_CrtcOk, e1, e2, s_ColorOk, i_ColorOk c.Color h.2, bnd_s, andO_some]
  refine ⟨_, rfl, rfl, fun hb => ?_⟩
  rw [Bool.and_eq_true] at hb
  exact ⟨e3 hb.1, hb.2⟩
noncomputable def crtcB (c : CrtcT) : Bool := open Classical in if h : smCrtc c then Classical.choose (CrtcOk_eq c h) else false
theorem s_CrtcOk (c : CrtcT) (h : smCrtc c) : spec_CrtcOk c = some (crtcB c) := by
  unfold crtcB; rw [dif_pos h]; exact (Classical.choose_spec (CrtcOk_eq c h)).1
theorem i_CrtcOk (c : CrtcT) (h : smCrtc c) : impl_CrtcOk c = some (crtcB c) := by
  unfold crtcB; rw [dif_pos h]; exact (Classical.choose_spec (CrtcOk_eq c h)).2.1
end Go.Proofs.Ytbdpbboonilhhaa
