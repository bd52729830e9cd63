/- What the laws do with their data: its size, its copy, its equal. -/
import Derived.Test.YtfgkgkkcaclfpaaDefs
import Derived.Test.YtfgkgkkcaclfpaaLib
namespace Go.Proofs.Ytfgkgkkcaclfpaa
open Go.RowKit K
set_option maxRecDepth 100000
set_option maxHeartbeats 4000000

def smIntS (xs : List Int) : Prop := xs.length ≤ 1048576
theorem szIntS_ok (xs : List Int) (o : (xs.length ≤ 9223372036854775807 ∧ ∀ y ∈ xs, I64 y)) : Sz laws_szIntS smIntS xs := fun left h0 h1 => Sz.len h0 h1 o.1
def smImage (x : ImageT) : Prop := smIntS x.Data
theorem szImage_ok (x : ImageT) (o : okImage x) : Sz laws_szImage smImage x := fun left h0 h1 => by
  simp only [laws_szImage]
  obtain ⟨v0, e0, l0, s0⟩ := szIntS_ok x.Data o.2.2 left h0 h1
  simp only [e0, bnd_s]
  by_cases n0 : v0 < 0
  · exact ⟨-1, by rw [ifO_pos (by simpa using n0)], by omega, by omega⟩
  rw [ifO_neg (by simpa using n0)]
  exact ⟨v0, rfl, by omega, fun _ => s0 (by omega)⟩
theorem toIntS_eq (xs : List Int) (h : smIntS xs) : laws_toIntS xs = some xs := by
  have hl : xs.length ≤ 1048576 := h
  have := fillLoop (L := fun (out, i) => laws_toIntS_L0 xs out i) xs id 0 (by omega) (fun k hk out ho => by
    simp only [laws_toIntS_L0, idx_lt hk, bnd_s, upd_lt (ho ▸ hk)]
    rw [ifO_pos (by simpa using hk)]; rfl) (fun out => by simp [laws_toIntS_L0])
  simp only [laws_toIntS, mkO_nat (show xs.length ≤ 1073741824 by omega), bnd_s, this, List.map_id]
theorem toImage_eq (x : ImageT) (h : smImage x) : laws_toImage x = some x := by
  simp only [laws_toImage, toIntS_eq x.Data h, bnd_s]
theorem eqIntS_self (xs : List Int) (h : smIntS xs) : laws_eqIntS xs xs = some true := by
  have hl : xs.length ≤ 1048576 := h
  have := eqLoop (L := fun i => laws_eqIntS_L0 xs xs i) xs (by omega) (fun k hk => by
    simp only [laws_eqIntS_L0, idx_lt hk, bnd_s, decide_true, beq_self_eq_true, Bool.not_true, ifO_false]
    rw [ifO_pos (by simpa using hk)]) (by simp [laws_eqIntS_L0])
  simp [laws_eqIntS, this, fork]
def smPlane (x : PlaneT) : Prop := smIntS x.Words
theorem eqPlane_self (x : PlaneT) (h : smPlane x) : laws_eqPlane x x = some true := by simp [laws_eqPlane, eqIntS_self x.Words h]
theorem eqImage_self (x : ImageT) (h : smImage x) : laws_eqImage x x = some true := by simp [laws_eqImage, eqIntS_self x.Data h]
def nIntS (xs : List Int) : Nat := (xs.map fun _ => 1).sum
theorem nIntS_le {xs : List Int} (h : smIntS xs) : nIntS xs ≤ 1048576 := sum_le' (b := 1) h fun _ _ => Nat.le_refl _
theorem mhIntS (xs : List Int) (h : smIntS xs) (k : Int) (h0 : 0 ≤ k) (h1 : k + (nIntS xs : Nat) ≤ 4611686018427387904) : ∃ ys, laws_markIntS xs k = some (k + (nIntS xs : Nat), ys) ∧ laws_heldIntS ys k = some (k + (nIntS xs : Nat)) := by
  have hl : xs.length ≤ 1048576 := h
  obtain ⟨ys, hy, e1, e2⟩ := mhLoop (M := fun (a, k, i) => laws_markIntS_L0 a k i) (H := fun zs (k, i) => laws_heldIntS_L0 zs k i) (fun _ => 1) xs (by omega) (fun i ys k hi hx he h0 hb => by
    refine ⟨k, ?_, fun zs hz => ?_⟩
    · show laws_markIntS_L0 ys k i = _
      simp only [laws_markIntS_L0, upd_lt hi, bnd_s]
      rw [ifO_pos (by simpa using hi), wr_in (n := k + 1) (by omega) (by omega)]; rfl
    · have hzl := (List.getElem?_eq_some_iff.1 hz).1
      show laws_heldIntS_L0 zs k i = _
      simp only [laws_heldIntS_L0, idx_at hz, bnd_s]
      rw [ifO_pos (by simpa using hzl), ifO_neg (by simp), wr_in (n := k + 1) (by omega) (by omega)]; rfl)
    (fun ys k hy => by simp [laws_markIntS_L0, hy]) (fun zs k hz => by simp [laws_heldIntS_L0, hz]) k h0 h1
  exact ⟨ys, by rw [laws_markIntS, e1]; rfl, by rw [laws_heldIntS, e2]; rfl⟩
def mPlane (x : PlaneT) : Nat := nIntS x.Words
theorem mhPlane (x : PlaneT) (h : smPlane x) (k : Int) (h0 : 0 ≤ k) (h1 : k + (mPlane x : Nat) ≤ 4611686018427387904) : ∃ y0, laws_markPlane x k = some (k + (mPlane x : Nat), y0) ∧ laws_heldPlane (PlaneT.mk x.On x.X x.Y x.W x.H x.Layout y0 x.Alpha x.Orient x.ToW x.ToH) k = some (k + (mPlane x : Nat)) := by
  unfold mPlane at h1
  obtain ⟨y0, a0, d0⟩ := mhIntS x.Words (h) k (by omega) (by omega)
  have ng0 : decide ((k + (nIntS x.Words : Nat)) < 0) = false := by simp; omega
  have ec : (k + (nIntS x.Words : Nat)) = k + (mPlane x : Nat) := by unfold mPlane; omega
  exact ⟨y0, by simp only [laws_markPlane, a0, bnd_s, ← ec], by simp only [laws_heldPlane, d0, bnd_s, ng0, ifO_false, ← ec]⟩
end Go.Proofs.Ytfgkgkkcaclfpaa
