/- What the laws do with their data: its size, its copy, its equal. -/
import Derived.Test.YtkojfdgljmhmlaaDefs
import Derived.Test.YtkojfdgljmhmlaaLib
namespace Go.Proofs.Ytkojfdgljmhmlaa
open Go.RowKit K
set_option maxRecDepth 100000
set_option maxHeartbeats 4000000

def smIntS (xs : List Int) : Prop := xs.length ≤ 1048576
theorem szIntS_ok (xs : List Int) (o : (xs.length ≤ 9223372036854775807 ∧ ∀ y ∈ xs, I64 y)) : Sz laws_szIntS smIntS xs := fun left h0 h1 => Sz.len h0 h1 o.1
def smPlane (x : PlaneT) : Prop := smIntS x.Words
theorem szPlane_ok (x : PlaneT) (o : okPlane x) : Sz laws_szPlane smPlane x := fun left h0 h1 => by
  simp only [laws_szPlane]
  obtain ⟨v0, e0, l0, s0⟩ := szIntS_ok x.Words o.2.2.2.2.2.2.1 left h0 h1
  simp only [e0, bnd_s]
  by_cases n0 : v0 < 0
  · exact ⟨-1, by rw [ifO_pos (by simpa using n0)], by omega, by omega⟩
  rw [ifO_neg (by simpa using n0)]
  exact ⟨v0, rfl, by omega, fun _ => s0 (by omega)⟩
def smPlaneS (xs : List PlaneT) : Prop := xs.length ≤ 1048576 ∧ ∀ x ∈ xs, smPlane x
theorem szPlaneS_ok (xs : List PlaneT) (o : (xs.length ≤ 9223372036854775807 ∧ ∀ y ∈ xs, okPlane y)) : Sz laws_szPlaneS smPlaneS xs := fun left h0 h1 => by
  simp only [laws_szPlaneS]
  rw [wr_left h0 h1 o.1]
  by_cases hn : left - (xs.length : Int) < 0
  · exact ⟨-1, by rw [ifO_pos (by simpa using hn)], by omega, by omega⟩
  rw [ifO_neg (by simpa using hn)]
  have hl := o.1
  obtain ⟨y, hy, hor⟩ := szLoop (L := fun (left, i) => laws_szPlaneS_L0 xs left i) xs laws_szPlane smPlane (by omega) (fun k hk left => by
    simp only [laws_szPlaneS_L0, idx_lt hk, bnd_s]
    rw [ifO_pos (by simpa using hk)]) (fun left => by simp [laws_szPlaneS_L0]) (fun x hx => szPlane_ok x (o.2 x hx)) (left - xs.length) (by omega) (by omega)
  rw [hy, bnd_s]
  rcases hor with ⟨v, rfl, hv0, hv1, hall⟩ | rfl
  · exact ⟨v, rfl, by omega, fun _ => ⟨by omega, hall⟩⟩
  · exact ⟨-1, rfl, by omega, by omega⟩
theorem toIntS_eq (xs : List Int) (h : smIntS xs) : laws_toIntS xs = some xs := by
  have hl : xs.length ≤ 1048576 := h
  have := fillLoop (L := fun (out, i) => laws_toIntS_L0 xs out i) xs id 0 (by omega) (fun k hk out ho => by
    simp only [laws_toIntS_L0, idx_lt hk, bnd_s, upd_lt (ho ▸ hk)]
    rw [ifO_pos (by simpa using hk)]; rfl) (fun out => by simp [laws_toIntS_L0])
  simp only [laws_toIntS, mkO_nat (show xs.length ≤ 1073741824 by omega), bnd_s, this, List.map_id]
theorem toPlane_eq (x : PlaneT) (h : smPlane x) : laws_toPlane x = some x := by
  simp only [laws_toPlane, toIntS_eq x.Words h, bnd_s]
theorem toPlaneS_eq (xs : List PlaneT) (h : smPlaneS xs) : laws_toPlaneS xs = some xs := by
  have hl : xs.length ≤ 1048576 := h.1
  have := fillLoop (L := fun (out, i) => laws_toPlaneS_L0 xs out i) xs id (PlaneT.mk false 0 0 0 0 0 [] 0 0 0 0) (by omega) (fun k hk out ho => by
    simp only [laws_toPlaneS_L0, idx_lt hk, bnd_s, toPlane_eq _ (h.2 _ (List.getElem_mem hk)), upd_lt (ho ▸ hk)]
    rw [ifO_pos (by simpa using hk)]; rfl) (fun out => by simp [laws_toPlaneS_L0])
  simp only [laws_toPlaneS, mkO_nat (show xs.length ≤ 1073741824 by omega), bnd_s, this, List.map_id]
theorem eqIntS_self (xs : List Int) (h : smIntS xs) : laws_eqIntS xs xs = some true := by
  have hl : xs.length ≤ 1048576 := h
  have := eqLoop (L := fun i => laws_eqIntS_L0 xs xs i) xs (by omega) (fun k hk => by
    simp only [laws_eqIntS_L0, idx_lt hk, bnd_s, decide_true, beq_self_eq_true, Bool.not_true, ifO_false]
    rw [ifO_pos (by simpa using hk)]) (by simp [laws_eqIntS_L0])
  simp [laws_eqIntS, this, fork]
def smImage (x : ImageT) : Prop := smIntS x.Data
theorem eqImage_self (x : ImageT) (h : smImage x) : laws_eqImage x x = some true := by simp [laws_eqImage, eqIntS_self x.Data h]
theorem eqPlane_self (x : PlaneT) (h : smPlane x) : laws_eqPlane x x = some true := by simp [laws_eqPlane, eqIntS_self x.Words h]
theorem eqPlaneS_self (xs : List PlaneT) (h : smPlaneS xs) : laws_eqPlaneS xs xs = some true := by
  have hl : xs.length ≤ 1048576 := h.1
  have := eqLoop (L := fun i => laws_eqPlaneS_L0 xs xs i) xs (by omega) (fun k hk => by
    simp only [laws_eqPlaneS_L0, idx_lt hk, bnd_s, eqPlane_self _ (h.2 _ (List.getElem_mem hk)), decide_true, beq_self_eq_true, Bool.not_true, ifO_false]
    rw [ifO_pos (by simpa using hk)]) (by simp [laws_eqPlaneS_L0])
  simp [laws_eqPlaneS, this, fork]
def nIntS (xs : List Int) : Nat := (xs.map fun _ => 1).sum
theorem nIntS_le {xs : List Int} (h : smIntS xs) : nIntS xs ≤ 1048576 := sum_le' (b := 1) h fun _ _ => Nat.le_refl _
theorem mhIntS (xs : List Int) (h : smIntS xs) (k : Int) (h0 : 0 ≤ k) (h1 : k + (nIntS xs : Nat) ≤ 4611686018427387904) : ∃ ys, laws_markIntS xs k = some (k + (nIntS xs : Nat), ys) ∧ laws_heldIntS ys k = some (k + (nIntS xs : Nat)) := by
  have hl : xs.length ≤ 1048576 := h
  obtain ⟨ys, hy, e1, e2⟩ := mhLoop (M := fun (a, k, i) => laws_markIntS_L0 a k i) (H := fun zs (k, i) => laws_heldIntS_L0 zs k i) (fun _ => 1) xs (by omega) (fun i ys k hi hx he h0 hb => by
    refine ⟨k, ?_, fun zs hz => ?_⟩
    · show laws_markIntS_L0 ys k i = _
      simp only [laws_markIntS_L0, upd_lt hi, bnd_s]
      rw [ifO_pos (by simpa using hi), wr_in (n := k + 1) (by omega) (by omega)]; rfl
    · have hzl := (List.getElem?_eq_some_iff.1 hz).1
      show laws_heldIntS_L0 zs k i = _
      simp only [laws_heldIntS_L0, idx_at hz, bnd_s]
      rw [ifO_pos (by simpa using hzl), ifO_neg (by simp), wr_in (n := k + 1) (by omega) (by omega)]; rfl)
    (fun ys k hy => by simp [laws_markIntS_L0, hy]) (fun zs k hz => by simp [laws_heldIntS_L0, hz]) k h0 h1
  exact ⟨ys, by rw [laws_markIntS, e1]; rfl, by rw [laws_heldIntS, e2]; rfl⟩
def cPlane (x : PlaneT) : Nat := 10 + nIntS x.Words
def nPlaneS (xs : List PlaneT) : Nat := (xs.map cPlane).sum
theorem nPlaneS_le {xs : List PlaneT} (h : smPlaneS xs) : nPlaneS xs ≤ 1099522113536 := sum_le' (b := 1048586) h.1 fun x hx => by
  unfold cPlane
  have := nIntS_le ((h.2 x hx))
  omega
theorem mkIntS (xs : List Int) (h : smIntS xs) (k : Int) (h0 : 0 ≤ k) (h1 : k + (nIntS xs : Nat) ≤ 4611686018427387904) : ∃ y0, laws_markIntS xs k = some (k + (nIntS xs : Nat), y0) := let ⟨y0, a, _⟩ := mhIntS xs h k h0 h1; ⟨y0, a⟩
theorem mkPlaneS (xs : List PlaneT) (h : smPlaneS xs) (k : Int) (h0 : 0 ≤ k) (h1 : k + (nPlaneS xs : Nat) ≤ 4611686018427387904) : ∃ ys, laws_markPlaneS xs k = some (k + (nPlaneS xs : Nat), ys) := by
  have hl : xs.length ≤ 1048576 := h.1
  obtain ⟨ys, hy, e1⟩ := mkLoop (M := fun (a, k, i) => laws_markPlaneS_L0 a k i) cPlane xs (by omega) (fun i ys k hi hx he h0 hb => by
    have hsm : smPlane xs[i] := h.2 _ (List.getElem_mem hx)
    generalize hxx : xs[i] = x at *
    unfold cPlane at hb
    obtain ⟨y0, m0⟩ := mkIntS x.Words (hsm) ((((((k + 1) + 1) + 1) + 1) + 1) + 1) (by omega) (by omega)
    have ec : (((((((((((k + 1) + 1) + 1) + 1) + 1) + 1) + (nIntS x.Words : Nat)) + 1) + 1) + 1) + 1) = k + (cPlane x : Nat) := by unfold cPlane; omega
    refine ⟨(PlaneT.mk (decide (Int.tmod k 3 = 0)) (k + 1) ((k + 1) + 1) (((k + 1) + 1) + 1) ((((k + 1) + 1) + 1) + 1) (((((k + 1) + 1) + 1) + 1) + 1) y0 (((((((k + 1) + 1) + 1) + 1) + 1) + 1) + (nIntS x.Words : Nat)) ((((((((k + 1) + 1) + 1) + 1) + 1) + 1) + (nIntS x.Words : Nat)) + 1) (((((((((k + 1) + 1) + 1) + 1) + 1) + 1) + (nIntS x.Words : Nat)) + 1) + 1) ((((((((((k + 1) + 1) + 1) + 1) + 1) + 1) + (nIntS x.Words : Nat)) + 1) + 1) + 1)), ?_⟩
    show laws_markPlaneS_L0 ys k i = _
    simp (disch := omega) only [laws_markPlaneS_L0, idx_lt hi, idx_set hi, upd_lt hi, upd_set hi, bnd_s, he, wr_in, m0]
    rw [ifO_pos (by simpa using hi), ← ec])
    (fun ys k hy => by simp [laws_markPlaneS_L0, hy]) k h0 h1
  exact ⟨ys, by rw [laws_markPlaneS, e1]; rfl⟩
def mImage (x : ImageT) : Nat := nIntS x.Data
theorem mhImage (x : ImageT) (h : smImage x) (k : Int) (h0 : 0 ≤ k) (h1 : k + (mImage x : Nat) ≤ 4611686018427387904) : ∃ y0, laws_markImage x k = some (k + (mImage x : Nat), y0) ∧ laws_heldImage (ImageT.mk x.W x.H y0) k = some (k + (mImage x : Nat)) := by
  unfold mImage at h1
  obtain ⟨y0, a0, d0⟩ := mhIntS x.Data (h) k (by omega) (by omega)
  have ng0 : decide ((k + (nIntS x.Data : Nat)) < 0) = false := by simp; omega
  have ec : (k + (nIntS x.Data : Nat)) = k + (mImage x : Nat) := by unfold mImage; omega
  exact ⟨y0, by simp only [laws_markImage, a0, bnd_s, ← ec], by simp only [laws_heldImage, d0, bnd_s, ng0, ifO_false, ← ec]⟩
theorem mkImage (x : ImageT) (h : smImage x) (k : Int) (h0 : 0 ≤ k) (h1 : k + (mImage x : Nat) ≤ 4611686018427387904) : ∃ y0, laws_markImage x k = some (k + (mImage x : Nat), y0) := let ⟨y0, a, _⟩ := mhImage x h k h0 h1; ⟨y0, a⟩
end Go.Proofs.Ytkojfdgljmhmlaa
