/- The laws about what planes show, and whether they are valid. -/
import Derived.Test.YtkojfdgljmhmlaaPPlaneOk
namespace Go.Proofs.Ytkojfdgljmhmlaa
open Go.RowKit K
theorem ngq (m : Nat) : ¬ (1 + (m : Int) < 0) := by omega
theorem FnExactPlaneImage_true (p : PlaneT) (o : okPlane p) : laws_FnExactPlaneImage p = some true := by
  obtain ⟨v, hv, _, hb⟩ := szPlane_ok p o 1048576 (by decide) (by decide)
  simp only [laws_FnExactPlaneImage, hv, bnd_s]
  by_cases hneg : v < 0
  · rw [ifO_pos (by simpa using hneg)]
  · have hs := hb (by omega)
    rw [ifO_neg (by simpa using hneg)]
    obtain ⟨i, b, h1, h2, h3, _⟩ := PlaneImage_eq p hs
    have hi : smImage i := show i.Data.length ≤ 1048576 by omega
    have b1 := nIntS_le (show smIntS i.Data from hi)
    have b2 := nIntS_le (show smIntS p.Words from hs)
    obtain ⟨y0, a0, d0⟩ := mhIntS p.Words hs 1 (by decide) (by omega)
    obtain ⟨y1, a1, d1⟩ := mhIntS i.Data hi 1 (by decide) (by omega)
    simp [toPlane_eq p hs, h1, h2, eqPlane_self p hs, eqImage_self i hi, laws_markImage, laws_markPlane, laws_heldImage, a0, a1, d1, ngq, orO]
theorem FnExactPlaneOk_true (k : Int) (p : PlaneT) (w h : Int) (_ : I64 k) (o : okPlane p) (_ : I64 w) (_ : I64 h) : laws_FnExactPlaneOk k p w h = some true := by
  obtain ⟨v, hv, _, hb⟩ := szPlane_ok p o 1048576 (by decide) (by decide)
  simp only [laws_FnExactPlaneOk, hv, bnd_s]
  by_cases hneg : v < 0
  · rw [ifO_pos (by simpa using hneg)]
  · have hs := hb (by omega)
    rw [ifO_neg (by simpa using hneg)]
    obtain ⟨b, h1, h2, _⟩ := PlaneOk_eq k p w h hs
    simp [toPlane_eq p hs, h1, h2, eqPlane_self p hs]
theorem FnExactPlanesOk_true (l : List PlaneT) (w h : Int) (o : l.length ≤ 9223372036854775807 ∧ ∀ y ∈ l, okPlane y) (_ : I64 w) (_ : I64 h) : laws_FnExactPlanesOk l w h = some true := by
  obtain ⟨v, hv, _, hb⟩ := szPlaneS_ok l o 1048576 (by decide) (by decide)
  simp only [laws_FnExactPlanesOk, hv, bnd_s]
  by_cases hneg : v < 0
  · rw [ifO_pos (by simpa using hneg)]
  · have hs := hb (by omega)
    rw [ifO_neg (by simpa using hneg)]
    obtain ⟨b, h1, h2, _⟩ := PlanesOk_eq l w h hs
    simp [toPlaneS_eq l hs, h1, h2, eqPlaneS_self l hs]
end Go.Proofs.Ytkojfdgljmhmlaa
