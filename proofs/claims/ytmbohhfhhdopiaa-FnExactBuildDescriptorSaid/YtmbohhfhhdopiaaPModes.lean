/- What is drawn of modes. -/
import Derived.Test.YtmbohhfhhdopiaaPCur
namespace Go.Proofs.Ytmbohhfhhdopiaa
open Go.RowKit K
/-- A drawn mode. -/
def ModeIn (m : ModeT) : Prop := (1 ≤ m.Clock ∧ m.Clock ≤ 1000) ∧ (4 ≤ m.W ∧ m.W ≤ 10) ∧ (0 ≤ m.HFront ∧ m.HFront ≤ 3) ∧ (1 ≤ m.HSync ∧ m.HSync ≤ 3) ∧ (0 ≤ m.HBack ∧ m.HBack ≤ 3) ∧ (3 ≤ m.H ∧ m.H ≤ 8) ∧ (0 ≤ m.VFront ∧ m.VFront ≤ 3) ∧ (1 ≤ m.VSync ∧ m.VSync ≤ 3) ∧ (0 ≤ m.VBack ∧ m.VBack ≤ 3)
def modeOk (m : ModeT) : Bool := inR m.Clock 1 1000000 && inR m.W 1 16 && inR m.H 1 16 && inR m.HSync 1 40 && inR m.VSync 1 40 && inR m.HFront 0 40 && inR m.HBack 0 40 && inR m.VFront 0 40 && inR m.VBack 0 40
theorem i_ModeOk (m : ModeT) : impl_ModeOk m = some (modeOk m) := by
  simp only [impl_ModeOk, within_eq, isSide_eq, bnd_s, andO_some, modeOk]
theorem ModeIn.ok {m : ModeT} (h : ModeIn m) : modeOk m = true := by
  obtain ⟨h1, h2, h3, h4, h5, h6, h7, h8, h9⟩ := h
  unfold modeOk
  rw [inR_t.2 (show 1 ≤ m.Clock ∧ m.Clock ≤ 1000000 by omega), inR_t.2 (show 1 ≤ m.W ∧ m.W ≤ 16 by omega), inR_t.2 (show 1 ≤ m.H ∧ m.H ≤ 16 by omega), inR_t.2 (show 1 ≤ m.HSync ∧ m.HSync ≤ 40 by omega), inR_t.2 (show 1 ≤ m.VSync ∧ m.VSync ≤ 40 by omega), inR_t.2 (show 0 ≤ m.HFront ∧ m.HFront ≤ 40 by omega), inR_t.2 (show 0 ≤ m.HBack ∧ m.HBack ≤ 40 by omega), inR_t.2 (show 0 ≤ m.VFront ∧ m.VFront ≤ 40 by omega), inR_t.2 (show 0 ≤ m.VBack ∧ m.VBack ≤ 40 by omega)]
  rfl
section Draw
variable (b : List Int) (hb : b.length ≤ 1048576)
include hb
theorem mode_ok (i h : Int) (hi : 0 ≤ i) : ∃ m i' h', spec_l16Mode (L01CurT.mk b i h) = some (m, L01CurT.mk b i' h') ∧ ModeIn m ∧ 0 ≤ i' := by
  obtain ⟨v1, i1, g1, e1, m1, hi1⟩ := pick_ok b hb i h [1, 25, 100, 1000] hi (by simp) (by simp)
  obtain ⟨v2, i2, g2, e2, a2, b2, hi2⟩ := below_ok b hb i1 g1 7 hi1 (by omega) (by omega)
  obtain ⟨v3, i3, g3, e3, a3, b3, hi3⟩ := below_ok b hb i2 g2 4 hi2 (by omega) (by omega)
  obtain ⟨v4, i4, g4, e4, a4, b4, hi4⟩ := below_ok b hb i3 g3 3 hi3 (by omega) (by omega)
  obtain ⟨v5, i5, g5, e5, a5, b5, hi5⟩ := below_ok b hb i4 g4 4 hi4 (by omega) (by omega)
  obtain ⟨v6, i6, g6, e6, a6, b6, hi6⟩ := below_ok b hb i5 g5 6 hi5 (by omega) (by omega)
  obtain ⟨v7, i7, g7, e7, a7, b7, hi7⟩ := below_ok b hb i6 g6 4 hi6 (by omega) (by omega)
  obtain ⟨v8, i8, g8, e8, a8, b8, hi8⟩ := below_ok b hb i7 g7 3 hi7 (by omega) (by omega)
  obtain ⟨v9, i9, g9, e9, a9, b9, hi9⟩ := below_ok b hb i8 g8 4 hi8 (by omega) (by omega)
  have c1 : 1 ≤ v1 ∧ v1 ≤ 1000 := by simp only [List.mem_cons, List.not_mem_nil, or_false] at m1; omega
  unfold spec_l16Mode
  rw [e1]; simp only [bnd_s]
  rw [e2]; simp only [bnd_s]
  rw [e3]; simp only [bnd_s]
  rw [e4]; simp only [bnd_s]
  rw [e5]; simp only [bnd_s]
  rw [e6]; simp only [bnd_s]
  rw [e7]; simp only [bnd_s]
  rw [e8]; simp only [bnd_s]
  rw [e9]; simp only [bnd_s]
  rw [wr_in (n := 4 + v2) (by omega) (by omega), wr_in (n := 1 + v4) (by omega) (by omega), wr_in (n := 3 + v6) (by omega) (by omega), wr_in (n := 1 + v8) (by omega) (by omega)]
  refine ⟨_, i9, g9, rfl, ⟨c1, ?_, ?_, ?_, ?_, ?_, ?_, ?_, ?_⟩, hi9⟩ <;> (simp only []; omega)
end Draw
end Go.Proofs.Ytmbohhfhhdopiaa
