/- What the laws do with their data: its size, its copy, its equal. -/
import Derived.Test.YtkojfdgljmhmlaaDefs
import Derived.Test.YtkojfdgljmhmlaaLib
namespace Go.Proofs.Ytkojfdgljmhmlaa
open Go.RowKit K
set_option maxRecDepth 100000
set_option maxHeartbeats 4000000

def smIntS (xs : List Int) : Prop := xs.length ≤ 1048576
theorem szIntS_ok (xs : List Int) (o : (xs.length ≤ 9223372036854775807 ∧ ∀ y ∈ xs, I64 y)) : Sz laws_szIntS smIntS xs := fun left h0 h1 => Sz.len h0 h1 o.1
def smImage (x : ImageT) : Prop := smIntS x.Data
theorem szImage_ok (x : ImageT) (o : okImage x) : Sz laws_szImage smImage x := fun left h0 h1 => by
  simp only [laws_szImage]
  obtain ⟨v0, e0, l0, s0⟩ := szIntS_ok x.Data o.2.2 left h0 h1
  simp only [e0, bnd_s]
  by_cases n0 : v0 < 0
  · exact ⟨-1, by rw [ifO_pos (by simpa using n0)], by omega, by omega⟩
  rw [ifO_neg (by simpa using n0)]
  exact ⟨v0, rfl, by omega, fun _ => s0 (by omega)⟩
def smSurface (x : SurfaceT) : Prop := smImage x.Buffer
theorem szSurface_ok (x : SurfaceT) (o : okSurface x) : Sz laws_szSurface smSurface x := fun left h0 h1 => by
  simp only [laws_szSurface]
  obtain ⟨v0, e0, l0, s0⟩ := szImage_ok x.Buffer o.2.2.2.2.2.2.2.2 left h0 h1
  simp only [e0, bnd_s]
  by_cases n0 : v0 < 0
  · exact ⟨-1, by rw [ifO_pos (by simpa using n0)], by omega, by omega⟩
  rw [ifO_neg (by simpa using n0)]
  exact ⟨v0, rfl, by omega, fun _ => s0 (by omega)⟩
def smSurfaceS (xs : List SurfaceT) : Prop := xs.length ≤ 1048576 ∧ ∀ x ∈ xs, smSurface x
theorem szSurfaceS_ok (xs : List SurfaceT) (o : (xs.length ≤ 9223372036854775807 ∧ ∀ y ∈ xs, okSurface y)) : Sz laws_szSurfaceS smSurfaceS xs := fun left h0 h1 => by
  simp only [laws_szSurfaceS]
  rw [wr_left h0 h1 o.1]
  by_cases hn : left - (xs.length : Int) < 0
  · exact ⟨-1, by rw [ifO_pos (by simpa using hn)], by omega, by omega⟩
  rw [ifO_neg (by simpa using hn)]
  have hl := o.1
  obtain ⟨y, hy, hor⟩ := szLoop (L := fun (left, i) => laws_szSurfaceS_L0 xs left i) xs laws_szSurface smSurface (by omega) (fun k hk left => by
    simp only [laws_szSurfaceS_L0, idx_lt hk, bnd_s]
    rw [ifO_pos (by simpa using hk)]) (fun left => by simp [laws_szSurfaceS_L0]) (fun x hx => szSurface_ok x (o.2 x hx)) (left - xs.length) (by omega) (by omega)
  rw [hy, bnd_s]
  rcases hor with ⟨v, rfl, hv0, hv1, hall⟩ | rfl
  · exact ⟨v, rfl, by omega, fun _ => ⟨by omega, hall⟩⟩
  · exact ⟨-1, rfl, by omega, by omega⟩
def smScene (x : SceneT) : Prop := smSurfaceS x.Surfaces
theorem szScene_ok (x : SceneT) (o : okScene x) : Sz laws_szScene smScene x := fun left h0 h1 => by
  simp only [laws_szScene]
  obtain ⟨v0, e0, l0, s0⟩ := szSurfaceS_ok x.Surfaces o.2.2.2 left h0 h1
  simp only [e0, bnd_s]
  by_cases n0 : v0 < 0
  · exact ⟨-1, by rw [ifO_pos (by simpa using n0)], by omega, by omega⟩
  rw [ifO_neg (by simpa using n0)]
  exact ⟨v0, rfl, by omega, fun _ => s0 (by omega)⟩
theorem toIntS_eq (xs : List Int) (h : smIntS xs) : laws_toIntS xs = some xs := by
  have hl : xs.length ≤ 1048576 := h
  have := fillLoop (L := fun (out, i) => laws_toIntS_L0 xs out i) xs id 0 (by omega) (fun k hk out ho => by
    simp only [laws_toIntS_L0, idx_lt hk, bnd_s, upd_lt (ho ▸ hk)]
    rw [ifO_pos (by simpa using hk)]; rfl) (fun out => by simp [laws_toIntS_L0])
  simp only [laws_toIntS, mkO_nat (show xs.length ≤ 1073741824 by omega), bnd_s, this, List.map_id]
theorem toImage_eq (x : ImageT) (h : smImage x) : laws_toImage x = some x := by
  simp only [laws_toImage, toIntS_eq x.Data h, bnd_s]
theorem toSurface_eq (x : SurfaceT) (h : smSurface x) : laws_toSurface x = some x := by
  simp only [laws_toSurface, toImage_eq x.Buffer h, bnd_s]
theorem toSurfaceS_eq (xs : List SurfaceT) (h : smSurfaceS xs) : laws_toSurfaceS xs = some xs := by
  have hl : xs.length ≤ 1048576 := h.1
  have := fillLoop (L := fun (out, i) => laws_toSurfaceS_L0 xs out i) xs id (SurfaceT.mk 0 0 0 0 0 0 0 false (ImageT.mk 0 0 [])) (by omega) (fun k hk out ho => by
    simp only [laws_toSurfaceS_L0, idx_lt hk, bnd_s, toSurface_eq _ (h.2 _ (List.getElem_mem hk)), upd_lt (ho ▸ hk)]
    rw [ifO_pos (by simpa using hk)]; rfl) (fun out => by simp [laws_toSurfaceS_L0])
  simp only [laws_toSurfaceS, mkO_nat (show xs.length ≤ 1073741824 by omega), bnd_s, this, List.map_id]
theorem toScene_eq (x : SceneT) (h : smScene x) : laws_toScene x = some x := by
  simp only [laws_toScene, toSurfaceS_eq x.Surfaces h, bnd_s]
theorem toOptions_eq (x : OptionsT) : laws_toOptions x = some x := rfl
theorem eqIntS_self (xs : List Int) (h : smIntS xs) : laws_eqIntS xs xs = some true := by
  have hl : xs.length ≤ 1048576 := h
  have := eqLoop (L := fun i => laws_eqIntS_L0 xs xs i) xs (by omega) (fun k hk => by
    simp only [laws_eqIntS_L0, idx_lt hk, bnd_s, decide_true, beq_self_eq_true, Bool.not_true, ifO_false]
    rw [ifO_pos (by simpa using hk)]) (by simp [laws_eqIntS_L0])
  simp [laws_eqIntS, this, fork]
theorem eqImage_self (x : ImageT) (h : smImage x) : laws_eqImage x x = some true := by simp [laws_eqImage, eqIntS_self x.Data h]
theorem eqSurface_self (x : SurfaceT) (h : smSurface x) : laws_eqSurface x x = some true := by simp [laws_eqSurface, eqImage_self x.Buffer h]
theorem eqSurfaceS_self (xs : List SurfaceT) (h : smSurfaceS xs) : laws_eqSurfaceS xs xs = some true := by
  have hl : xs.length ≤ 1048576 := h.1
  have := eqLoop (L := fun i => laws_eqSurfaceS_L0 xs xs i) xs (by omega) (fun k hk => by
    simp only [laws_eqSurfaceS_L0, idx_lt hk, bnd_s, eqSurface_self _ (h.2 _ (List.getElem_mem hk)), decide_true, beq_self_eq_true, Bool.not_true, ifO_false]
    rw [ifO_pos (by simpa using hk)]) (by simp [laws_eqSurfaceS_L0])
  simp [laws_eqSurfaceS, this, fork]
theorem eqScene_self (x : SceneT) (h : smScene x) : laws_eqScene x x = some true := by simp [laws_eqScene, eqSurfaceS_self x.Surfaces h]
def smPlane (x : PlaneT) : Prop := smIntS x.Words
theorem eqPlane_self (x : PlaneT) (h : smPlane x) : laws_eqPlane x x = some true := by simp [laws_eqPlane, eqIntS_self x.Words h]
def smPlaneS (xs : List PlaneT) : Prop := xs.length ≤ 1048576 ∧ ∀ x ∈ xs, smPlane x
theorem eqPlaneS_self (xs : List PlaneT) (h : smPlaneS xs) : laws_eqPlaneS xs xs = some true := by
  have hl : xs.length ≤ 1048576 := h.1
  have := eqLoop (L := fun i => laws_eqPlaneS_L0 xs xs i) xs (by omega) (fun k hk => by
    simp only [laws_eqPlaneS_L0, idx_lt hk, bnd_s, eqPlane_self _ (h.2 _ (List.getElem_mem hk)), decide_true, beq_self_eq_true, Bool.not_true, ifO_false]
    rw [ifO_pos (by simpa using hk)]) (by simp [laws_eqPlaneS_L0])
  simp [laws_eqPlaneS, this, fork]
def nIntS (xs : List Int) : Nat := (xs.map fun _ => 1).sum
theorem nIntS_le {xs : List Int} (h : smIntS xs) : nIntS xs ≤ 1048576 := sum_le' (b := 1) h fun _ _ => Nat.le_refl _
theorem mhIntS (xs : List Int) (h : smIntS xs) (k : Int) (h0 : 0 ≤ k) (h1 : k + (nIntS xs : Nat) ≤ 4611686018427387904) : ∃ ys, laws_markIntS xs k = some (k + (nIntS xs : Nat), ys) ∧ laws_heldIntS ys k = some (k + (nIntS xs : Nat)) := by
  have hl : xs.length ≤ 1048576 := h
  obtain ⟨ys, hy, e1, e2⟩ := mhLoop (M := fun (a, k, i) => laws_markIntS_L0 a k i) (H := fun zs (k, i) => laws_heldIntS_L0 zs k i) (fun _ => 1) xs (by omega) (fun i ys k hi hx he h0 hb => by
    refine ⟨k, ?_, fun zs hz => ?_⟩
    · show laws_markIntS_L0 ys k i = _
      simp only [laws_markIntS_L0, upd_lt hi, bnd_s]
      rw [ifO_pos (by simpa using hi), wr_in (n := k + 1) (by omega) (by omega)]; rfl
    · have hzl := (List.getElem?_eq_some_iff.1 hz).1
      show laws_heldIntS_L0 zs k i = _
      simp only [laws_heldIntS_L0, idx_at hz, bnd_s]
      rw [ifO_pos (by simpa using hzl), ifO_neg (by simp), wr_in (n := k + 1) (by omega) (by omega)]; rfl)
    (fun ys k hy => by simp [laws_markIntS_L0, hy]) (fun zs k hz => by simp [laws_heldIntS_L0, hz]) k h0 h1
  exact ⟨ys, by rw [laws_markIntS, e1]; rfl, by rw [laws_heldIntS, e2]; rfl⟩
def cSurface (x : SurfaceT) : Nat := 10 + nIntS x.Buffer.Data
def nSurfaceS (xs : List SurfaceT) : Nat := (xs.map cSurface).sum
theorem nSurfaceS_le {xs : List SurfaceT} (h : smSurfaceS xs) : nSurfaceS xs ≤ 1099522113536 := sum_le' (b := 1048586) h.1 fun x hx => by
  unfold cSurface
  have := nIntS_le (h.2 x hx)
  omega
theorem mhSurfaceS (xs : List SurfaceT) (h : smSurfaceS xs) (k : Int) (h0 : 0 ≤ k) (h1 : k + (nSurfaceS xs : Nat) ≤ 4611686018427387904) : ∃ ys, laws_markSurfaceS xs k = some (k + (nSurfaceS xs : Nat), ys) ∧ laws_heldSurfaceS ys k = some (k + (nSurfaceS xs : Nat)) := by
  have hl : xs.length ≤ 1048576 := h.1
  obtain ⟨ys, hy, e1, e2⟩ := mhLoop (M := fun (a, k, i) => laws_markSurfaceS_L0 a k i) (H := fun zs (k, i) => laws_heldSurfaceS_L0 zs k i) cSurface xs (by omega) (fun i ys k hi hx he h0 hb => by
    have hsm : smSurface xs[i] := h.2 _ (List.getElem_mem hx)
    generalize hxx : xs[i] = x at *
    unfold cSurface at hb
    obtain ⟨y0, m0, d0⟩ := mhIntS x.Buffer.Data (hsm) ((((((((((k + 1) + 1) + 1) + 1) + 1) + 1) + 1) + 1) + 1) + 1) (by omega) (by omega)
    have ng0 : decide ((((((((((((k + 1) + 1) + 1) + 1) + 1) + 1) + 1) + 1) + 1) + 1) + (nIntS x.Buffer.Data : Nat)) < 0) = false := by simp; omega
    have ec : (((((((((((k + 1) + 1) + 1) + 1) + 1) + 1) + 1) + 1) + 1) + 1) + (nIntS x.Buffer.Data : Nat)) = k + (cSurface x : Nat) := by unfold cSurface; omega
    refine ⟨(SurfaceT.mk k (k + 1) ((k + 1) + 1) (((k + 1) + 1) + 1) ((((k + 1) + 1) + 1) + 1) (((((k + 1) + 1) + 1) + 1) + 1) ((((((k + 1) + 1) + 1) + 1) + 1) + 1) (decide (Int.tmod (((((((k + 1) + 1) + 1) + 1) + 1) + 1) + 1) 3 = 0)) (ImageT.mk ((((((((k + 1) + 1) + 1) + 1) + 1) + 1) + 1) + 1) (((((((((k + 1) + 1) + 1) + 1) + 1) + 1) + 1) + 1) + 1) y0)), ?_, fun zs hz => ?_⟩
    · show laws_markSurfaceS_L0 ys k i = _
      simp (disch := omega) only [laws_markSurfaceS_L0, idx_lt hi, idx_set hi, upd_lt hi, upd_set hi, bnd_s, he, wr_in, m0]
      rw [ifO_pos (by simpa using hi), ← ec]
    · have hzl := (List.getElem?_eq_some_iff.1 hz).1
      show laws_heldSurfaceS_L0 zs k i = _
      simp (disch := omega) only [laws_heldSurfaceS_L0, idx_at hz, bnd_s, wr_in, d0, ng0, decide_true, beq_self_eq_true, Bool.not_true, ifO_false]
      rw [ifO_pos (by simpa using hzl), ← ec])
    (fun ys k hy => by simp [laws_markSurfaceS_L0, hy]) (fun zs k hz => by simp [laws_heldSurfaceS_L0, hz]) k h0 h1
  exact ⟨ys, by rw [laws_markSurfaceS, e1]; rfl, by rw [laws_heldSurfaceS, e2]; rfl⟩
def mScene (x : SceneT) : Nat := nSurfaceS x.Surfaces
theorem mhScene (x : SceneT) (h : smScene x) (k : Int) (h0 : 0 ≤ k) (h1 : k + (mScene x : Nat) ≤ 4611686018427387904) : ∃ y0, laws_markScene x k = some (k + (mScene x : Nat), y0) ∧ laws_heldScene (SceneT.mk x.W x.H x.Back y0) k = some (k + (mScene x : Nat)) := by
  unfold mScene at h1
  obtain ⟨y0, a0, d0⟩ := mhSurfaceS x.Surfaces (h) k (by omega) (by omega)
  have ng0 : decide ((k + (nSurfaceS x.Surfaces : Nat)) < 0) = false := by simp; omega
  have ec : (k + (nSurfaceS x.Surfaces : Nat)) = k + (mScene x : Nat) := by unfold mScene; omega
  exact ⟨y0, by simp only [laws_markScene, a0, bnd_s, ← ec], by simp only [laws_heldScene, d0, bnd_s, ng0, ifO_false, ← ec]⟩
def cPlane (x : PlaneT) : Nat := 10 + nIntS x.Words
def nPlaneS (xs : List PlaneT) : Nat := (xs.map cPlane).sum
theorem nPlaneS_le {xs : List PlaneT} (h : smPlaneS xs) : nPlaneS xs ≤ 1099522113536 := sum_le' (b := 1048586) h.1 fun x hx => by
  unfold cPlane
  have := nIntS_le (h.2 x hx)
  omega
theorem mhPlaneS (xs : List PlaneT) (h : smPlaneS xs) (k : Int) (h0 : 0 ≤ k) (h1 : k + (nPlaneS xs : Nat) ≤ 4611686018427387904) : ∃ ys, laws_markPlaneS xs k = some (k + (nPlaneS xs : Nat), ys) ∧ laws_heldPlaneS ys k = some (k + (nPlaneS xs : Nat)) := by
  have hl : xs.length ≤ 1048576 := h.1
  obtain ⟨ys, hy, e1, e2⟩ := mhLoop (M := fun (a, k, i) => laws_markPlaneS_L0 a k i) (H := fun zs (k, i) => laws_heldPlaneS_L0 zs k i) cPlane xs (by omega) (fun i ys k hi hx he h0 hb => by
    have hsm : smPlane xs[i] := h.2 _ (List.getElem_mem hx)
    generalize hxx : xs[i] = x at *
    unfold cPlane at hb
    obtain ⟨y0, m0, d0⟩ := mhIntS x.Words (hsm) ((((((k + 1) + 1) + 1) + 1) + 1) + 1) (by omega) (by omega)
    have ng0 : decide ((((((((k + 1) + 1) + 1) + 1) + 1) + 1) + (nIntS x.Words : Nat)) < 0) = false := by simp; omega
    have ec : (((((((((((k + 1) + 1) + 1) + 1) + 1) + 1) + (nIntS x.Words : Nat)) + 1) + 1) + 1) + 1) = k + (cPlane x : Nat) := by unfold cPlane; omega
    refine ⟨(PlaneT.mk (decide (Int.tmod k 3 = 0)) (k + 1) ((k + 1) + 1) (((k + 1) + 1) + 1) ((((k + 1) + 1) + 1) + 1) (((((k + 1) + 1) + 1) + 1) + 1) y0 (((((((k + 1) + 1) + 1) + 1) + 1) + 1) + (nIntS x.Words : Nat)) ((((((((k + 1) + 1) + 1) + 1) + 1) + 1) + (nIntS x.Words : Nat)) + 1) (((((((((k + 1) + 1) + 1) + 1) + 1) + 1) + (nIntS x.Words : Nat)) + 1) + 1) ((((((((((k + 1) + 1) + 1) + 1) + 1) + 1) + (nIntS x.Words : Nat)) + 1) + 1) + 1)), ?_, fun zs hz => ?_⟩
    · show laws_markPlaneS_L0 ys k i = _
      simp (disch := omega) only [laws_markPlaneS_L0, idx_lt hi, idx_set hi, upd_lt hi, upd_set hi, bnd_s, he, wr_in, m0]
      rw [ifO_pos (by simpa using hi), ← ec]
    · have hzl := (List.getElem?_eq_some_iff.1 hz).1
      show laws_heldPlaneS_L0 zs k i = _
      simp (disch := omega) only [laws_heldPlaneS_L0, idx_at hz, bnd_s, wr_in, d0, ng0, decide_true, beq_self_eq_true, Bool.not_true, ifO_false]
      rw [ifO_pos (by simpa using hzl), ← ec])
    (fun ys k hy => by simp [laws_markPlaneS_L0, hy]) (fun zs k hz => by simp [laws_heldPlaneS_L0, hz]) k h0 h1
  exact ⟨ys, by rw [laws_markPlaneS, e1]; rfl, by rw [laws_heldPlaneS, e2]; rfl⟩
end Go.Proofs.Ytkojfdgljmhmlaa
