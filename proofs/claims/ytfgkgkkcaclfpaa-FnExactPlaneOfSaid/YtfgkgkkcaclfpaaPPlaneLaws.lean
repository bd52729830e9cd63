/- The law about one plane. -/
import Derived.Test.YtfgkgkkcaclfpaaPPlane
namespace Go.Proofs.Ytfgkgkkcaclfpaa
open Go.RowKit K
theorem ngp (m : Nat) : ¬ (1 + (m : Int) < 0) := by omega
theorem FnExactPlaneOf_true (i : ImageT) (x y lay : Int) (oi : okImage i) (_ : I64 x) (_ : I64 y) (_ : I64 lay) : laws_FnExactPlaneOf i x y lay = some true := by
  obtain ⟨v, hv, _, hb⟩ := szImage_ok i oi 1048576 (by decide) (by decide)
  simp only [laws_FnExactPlaneOf, hv, bnd_s]
  by_cases hneg : v < 0
  · rw [ifO_pos (by simpa using hneg)]
  · have hs := hb (by omega)
    rw [ifO_neg (by simpa using hneg)]
    obtain ⟨p, h1, h2, hp⟩ := PlaneOf_eq i x y lay hs
    have hps : smPlane p := show p.Words.length ≤ 1048576 by omega
    have b1 := nIntS_le (show smIntS i.Data from hs)
    have b2 := nIntS_le (show smIntS p.Words from hps)
    obtain ⟨y0, a0, d0⟩ := mhIntS i.Data hs 1 (by decide) (by omega)
    obtain ⟨y1, a1, d1⟩ := mhIntS p.Words hps 1 (by decide) (by omega)
    simp [toImage_eq i hs, h1, h2, eqPlane_self p hps, eqImage_self i hs, laws_markImage, laws_markPlane, laws_heldPlane, a0, a1, d1, ngp, orO]
end Go.Proofs.Ytfgkgkkcaclfpaa
