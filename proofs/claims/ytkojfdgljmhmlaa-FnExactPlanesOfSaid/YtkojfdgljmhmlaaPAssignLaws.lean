/- The law about which surfaces are shown by planes. -/
import Derived.Test.YtkojfdgljmhmlaaPAssign
namespace Go.Proofs.Ytkojfdgljmhmlaa
open Go.RowKit K
theorem ng (m : Nat) : ¬ (1 + (m : Int) < 0) := by omega
theorem FnExactAssignedOf_true (s : SceneT) (o : OptionsT) (os : okScene s) (_ : okOptions o) : laws_FnExactAssignedOf s o = some true := by
  obtain ⟨v, hv, _, hb⟩ := szScene_ok s os 1048576 (by decide) (by decide)
  simp only [laws_FnExactAssignedOf, hv, bnd_s]
  by_cases hneg : v < 0
  · rw [ifO_pos (by simpa using hneg)]
  · have hs := hb (by omega)
    rw [ifO_neg (by simpa using hneg)]
    obtain ⟨l, n, h1, h2, h3⟩ := AssignedOf_eq s o hs
    have hl : smIntS l := by unfold smIntS; rcases h3 with ⟨rfl, _⟩ | ⟨h, _⟩ <;> simp [*]
    have b1 : mScene s ≤ 1099522113536 := nSurfaceS_le hs
    have b2 := nIntS_le hl
    obtain ⟨y0, a0, d0⟩ := mhScene s hs 1 (by decide) (by omega)
    obtain ⟨y1, a1, d1⟩ := mhIntS l hl 1 (by decide) (by omega)
    simp [toScene_eq s hs, toOptions_eq, h1, h2, eqIntS_self l hl, eqScene_self s hs, a0, a1, d1, ng, orO]
end Go.Proofs.Ytkojfdgljmhmlaa
