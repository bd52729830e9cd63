/- What the laws do with their data: its size, its copy, its equal. -/
import Derived.Test.YtmhalmnbgkpmnaaDefs
import Derived.Test.YtmhalmnbgkpmnaaLib
namespace Go.Proofs.Ytmhalmnbgkpmnaa
open Go.RowKit K
set_option maxRecDepth 100000
set_option maxHeartbeats 4000000

def smIntS (xs : List Int) : Prop := xs.length ≤ 1048576
theorem szIntS_ok (xs : List Int) (o : (xs.length ≤ 9223372036854775807 ∧ ∀ y ∈ xs, I64 y)) : Sz laws_szIntS smIntS xs := fun left h0 h1 => Sz.len h0 h1 o.1
def smPlane (x : PlaneT) : Prop := smIntS x.Words
theorem szPlane_ok (x : PlaneT) (o : okPlane x) : Sz laws_szPlane smPlane x := fun left h0 h1 => by
  simp only [laws_szPlane]
  obtain ⟨v0, e0, l0, s0⟩ := szIntS_ok x.Words o.2.2.2.2.2.2.1 left h0 h1
  simp only [e0, bnd_s]
  by_cases n0 : v0 < 0
  · exact ⟨-1, by rw [ifO_pos (by simpa using n0)], by omega, by omega⟩
  rw [ifO_neg (by simpa using n0)]
  exact ⟨v0, rfl, by omega, fun _ => s0 (by omega)⟩
def smPlaneS (xs : List PlaneT) : Prop := xs.length ≤ 1048576 ∧ ∀ x ∈ xs, smPlane x
theorem szPlaneS_ok (xs : List PlaneT) (o : (xs.length ≤ 9223372036854775807 ∧ ∀ y ∈ xs, okPlane y)) : Sz laws_szPlaneS smPlaneS xs := fun left h0 h1 => by
  simp only [laws_szPlaneS]
  rw [wr_left h0 h1 o.1]
  by_cases hn : left - (xs.length : Int) < 0
  · exact ⟨-1, by rw [ifO_pos (by simpa using hn)], by omega, by omega⟩
  rw [ifO_neg (by simpa using hn)]
  have hl := o.1
  obtain ⟨y, hy, hor⟩ := szLoop (L := fun (left, i) => laws_szPlaneS_L0 xs left i) xs laws_szPlane smPlane (by omega) (fun k hk left => by
    simp only [laws_szPlaneS_L0, idx_lt hk, bnd_s]
    rw [ifO_pos (by simpa using hk)]) (fun left => by simp [laws_szPlaneS_L0]) (fun x hx => szPlane_ok x (o.2 x hx)) (left - xs.length) (by omega) (by omega)
  rw [hy, bnd_s]
  rcases hor with ⟨v, rfl, hv0, hv1, hall⟩ | rfl
  · exact ⟨v, rfl, by omega, fun _ => ⟨by omega, hall⟩⟩
  · exact ⟨-1, rfl, by omega, by omega⟩
def smColorMap (x : ColorMapT) : Prop := smIntS x.Matrix ∧ smIntS x.Curve
theorem szColorMap_ok (x : ColorMapT) (o : okColorMap x) : Sz laws_szColorMap smColorMap x := fun left h0 h1 => by
  simp only [laws_szColorMap]
  obtain ⟨v0, e0, l0, s0⟩ := szIntS_ok x.Matrix o.1 left h0 h1
  simp only [e0, bnd_s]
  by_cases n0 : v0 < 0
  · exact ⟨-1, by rw [ifO_pos (by simpa using n0)], by omega, by omega⟩
  rw [ifO_neg (by simpa using n0)]
  obtain ⟨v1, e1, l1, s1⟩ := szIntS_ok x.Curve o.2 v0 (by omega) (by omega)
  simp only [e1, bnd_s]
  by_cases n1 : v1 < 0
  · exact ⟨-1, by rw [ifO_pos (by simpa using n1)], by omega, by omega⟩
  rw [ifO_neg (by simpa using n1)]
  exact ⟨v1, rfl, by omega, fun _ => ⟨s0 (by omega), s1 (by omega)⟩⟩
def smCrtc (x : CrtcT) : Prop := smPlaneS x.Planes ∧ smColorMap x.Color
theorem szCrtc_ok (x : CrtcT) (o : okCrtc x) : Sz laws_szCrtc smCrtc x := fun left h0 h1 => by
  simp only [laws_szCrtc]
  obtain ⟨v0, e0, l0, s0⟩ := szPlaneS_ok x.Planes o.2.2.1 left h0 h1
  simp only [e0, bnd_s]
  by_cases n0 : v0 < 0
  · exact ⟨-1, by rw [ifO_pos (by simpa using n0)], by omega, by omega⟩
  rw [ifO_neg (by simpa using n0)]
  obtain ⟨v1, e1, l1, s1⟩ := szColorMap_ok x.Color o.2.2.2 v0 (by omega) (by omega)
  simp only [e1, bnd_s]
  by_cases n1 : v1 < 0
  · exact ⟨-1, by rw [ifO_pos (by simpa using n1)], by omega, by omega⟩
  rw [ifO_neg (by simpa using n1)]
  exact ⟨v1, rfl, by omega, fun _ => ⟨s0 (by omega), s1 (by omega)⟩⟩
theorem toIntS_eq (xs : List Int) (h : smIntS xs) : laws_toIntS xs = some xs := by
  have hl : xs.length ≤ 1048576 := h
  have := fillLoop (L := fun (out, i) => laws_toIntS_L0 xs out i) xs id 0 (by omega) (fun k hk out ho => by
    simp only [laws_toIntS_L0, idx_lt hk, bnd_s, upd_lt (ho ▸ hk)]
    rw [ifO_pos (by simpa using hk)]; rfl) (fun out => by simp [laws_toIntS_L0])
  simp only [laws_toIntS, mkO_nat (show xs.length ≤ 1073741824 by omega), bnd_s, this, List.map_id]
theorem toPlane_eq (x : PlaneT) (h : smPlane x) : laws_toPlane x = some x := by
  simp only [laws_toPlane, toIntS_eq x.Words h, bnd_s]
theorem toPlaneS_eq (xs : List PlaneT) (h : smPlaneS xs) : laws_toPlaneS xs = some xs := by
  have hl : xs.length ≤ 1048576 := h.1
  have := fillLoop (L := fun (out, i) => laws_toPlaneS_L0 xs out i) xs id (PlaneT.mk false 0 0 0 0 0 [] 0 0 0 0) (by omega) (fun k hk out ho => by
    simp only [laws_toPlaneS_L0, idx_lt hk, bnd_s, toPlane_eq _ (h.2 _ (List.getElem_mem hk)), upd_lt (ho ▸ hk)]
    rw [ifO_pos (by simpa using hk)]; rfl) (fun out => by simp [laws_toPlaneS_L0])
  simp only [laws_toPlaneS, mkO_nat (show xs.length ≤ 1073741824 by omega), bnd_s, this, List.map_id]
theorem toColorMap_eq (x : ColorMapT) (h : smColorMap x) : laws_toColorMap x = some x := by
  simp only [laws_toColorMap, toIntS_eq x.Matrix h.1, toIntS_eq x.Curve h.2, bnd_s]
theorem toCrtc_eq (x : CrtcT) (h : smCrtc x) : laws_toCrtc x = some x := by
  simp only [laws_toCrtc, toPlaneS_eq x.Planes h.1, toColorMap_eq x.Color h.2, bnd_s]
theorem eqIntS_self (xs : List Int) (h : smIntS xs) : laws_eqIntS xs xs = some true := by
  have hl : xs.length ≤ 1048576 := h
  have := eqLoop (L := fun i => laws_eqIntS_L0 xs xs i) xs (by omega) (fun k hk => by
    simp only [laws_eqIntS_L0, idx_lt hk, bnd_s, decide_true, beq_self_eq_true, Bool.not_true, ifO_false]
    rw [ifO_pos (by simpa using hk)]) (by simp [laws_eqIntS_L0])
  simp [laws_eqIntS, this, fork]
theorem eqPlane_self (x : PlaneT) (h : smPlane x) : laws_eqPlane x x = some true := by simp [laws_eqPlane, eqIntS_self x.Words h]
theorem eqColorMap_self (x : ColorMapT) (h : smColorMap x) : laws_eqColorMap x x = some true := by simp [laws_eqColorMap, eqIntS_self x.Matrix h.1, eqIntS_self x.Curve h.2]
def smChange (x : ChangeT) : Prop := smPlane x.Value ∧ smColorMap x.Color
theorem eqChange_self (x : ChangeT) (h : smChange x) : laws_eqChange x x = some true := by simp [laws_eqChange, eqPlane_self x.Value h.1, eqColorMap_self x.Color h.2]
def smChangeS (xs : List ChangeT) : Prop := xs.length ≤ 1048576 ∧ ∀ x ∈ xs, smChange x
theorem eqChangeS_self (xs : List ChangeT) (h : smChangeS xs) : laws_eqChangeS xs xs = some true := by
  have hl : xs.length ≤ 1048576 := h.1
  have := eqLoop (L := fun i => laws_eqChangeS_L0 xs xs i) xs (by omega) (fun k hk => by
    simp only [laws_eqChangeS_L0, idx_lt hk, bnd_s, eqChange_self _ (h.2 _ (List.getElem_mem hk)), decide_true, beq_self_eq_true, Bool.not_true, ifO_false]
    rw [ifO_pos (by simpa using hk)]) (by simp [laws_eqChangeS_L0])
  simp [laws_eqChangeS, this, fork]
theorem eqPlaneS_self (xs : List PlaneT) (h : smPlaneS xs) : laws_eqPlaneS xs xs = some true := by
  have hl : xs.length ≤ 1048576 := h.1
  have := eqLoop (L := fun i => laws_eqPlaneS_L0 xs xs i) xs (by omega) (fun k hk => by
    simp only [laws_eqPlaneS_L0, idx_lt hk, bnd_s, eqPlane_self _ (h.2 _ (List.getElem_mem hk)), decide_true, beq_self_eq_true, Bool.not_true, ifO_false]
    rw [ifO_pos (by simpa using hk)]) (by simp [laws_eqPlaneS_L0])
  simp [laws_eqPlaneS, this, fork]
theorem eqCrtc_self (x : CrtcT) (h : smCrtc x) : laws_eqCrtc x x = some true := by simp [laws_eqCrtc, eqPlaneS_self x.Planes h.1, eqColorMap_self x.Color h.2]
def nIntS (xs : List Int) : Nat := (xs.map fun _ => 1).sum
theorem nIntS_le {xs : List Int} (h : smIntS xs) : nIntS xs ≤ 1048576 := sum_le' (b := 1) h fun _ _ => Nat.le_refl _
theorem mhIntS (xs : List Int) (h : smIntS xs) (k : Int) (h0 : 0 ≤ k) (h1 : k + (nIntS xs : Nat) ≤ 4611686018427387904) : ∃ ys, laws_markIntS xs k = some (k + (nIntS xs : Nat), ys) ∧ laws_heldIntS ys k = some (k + (nIntS xs : Nat)) := by
  have hl : xs.length ≤ 1048576 := h
  obtain ⟨ys, hy, e1, e2⟩ := mhLoop (M := fun (a, k, i) => laws_markIntS_L0 a k i) (H := fun zs (k, i) => laws_heldIntS_L0 zs k i) (fun _ => 1) xs (by omega) (fun i ys k hi hx he h0 hb => by
    refine ⟨k, ?_, fun zs hz => ?_⟩
    · show laws_markIntS_L0 ys k i = _
      simp only [laws_markIntS_L0, upd_lt hi, bnd_s]
      rw [ifO_pos (by simpa using hi), wr_in (n := k + 1) (by omega) (by omega)]; rfl
    · have hzl := (List.getElem?_eq_some_iff.1 hz).1
      show laws_heldIntS_L0 zs k i = _
      simp only [laws_heldIntS_L0, idx_at hz, bnd_s]
      rw [ifO_pos (by simpa using hzl), ifO_neg (by simp), wr_in (n := k + 1) (by omega) (by omega)]; rfl)
    (fun ys k hy => by simp [laws_markIntS_L0, hy]) (fun zs k hz => by simp [laws_heldIntS_L0, hz]) k h0 h1
  exact ⟨ys, by rw [laws_markIntS, e1]; rfl, by rw [laws_heldIntS, e2]; rfl⟩
def cPlane (x : PlaneT) : Nat := 10 + nIntS x.Words
def nPlaneS (xs : List PlaneT) : Nat := (xs.map cPlane).sum
theorem nPlaneS_le {xs : List PlaneT} (h : smPlaneS xs) : nPlaneS xs ≤ 1099522113536 := sum_le' (b := 1048586) h.1 fun x hx => by
  unfold cPlane
  have := nIntS_le ((h.2 x hx))
  omega
theorem mkIntS (xs : List Int) (h : smIntS xs) (k : Int) (h0 : 0 ≤ k) (h1 : k + (nIntS xs : Nat) ≤ 4611686018427387904) : ∃ y0, laws_markIntS xs k = some (k + (nIntS xs : Nat), y0) := let ⟨y0, a, _⟩ := mhIntS xs h k h0 h1; ⟨y0, a⟩
theorem mkPlaneS (xs : List PlaneT) (h : smPlaneS xs) (k : Int) (h0 : 0 ≤ k) (h1 : k + (nPlaneS xs : Nat) ≤ 4611686018427387904) : ∃ ys, laws_markPlaneS xs k = some (k + (nPlaneS xs : Nat), ys) := by
  have hl : xs.length ≤ 1048576 := h.1
  obtain ⟨ys, hy, e1⟩ := mkLoop (M := fun (a, k, i) => laws_markPlaneS_L0 a k i) cPlane xs (by omega) (fun i ys k hi hx he h0 hb => by
    have hsm : smPlane xs[i] := h.2 _ (List.getElem_mem hx)
    generalize hxx : xs[i] = x at *
    unfold cPlane at hb
    obtain ⟨y0, m0⟩ := mkIntS x.Words (hsm) ((((((k + 1) + 1) + 1) + 1) + 1) + 1) (by omega) (by omega)
    have ec : (((((((((((k + 1) + 1) + 1) + 1) + 1) + 1) + (nIntS x.Words : Nat)) + 1) + 1) + 1) + 1) = k + (cPlane x : Nat) := by unfold cPlane; omega
    refine ⟨(PlaneT.mk (decide (Int.tmod k 3 = 0)) (k + 1) ((k + 1) + 1) (((k + 1) + 1) + 1) ((((k + 1) + 1) + 1) + 1) (((((k + 1) + 1) + 1) + 1) + 1) y0 (((((((k + 1) + 1) + 1) + 1) + 1) + 1) + (nIntS x.Words : Nat)) ((((((((k + 1) + 1) + 1) + 1) + 1) + 1) + (nIntS x.Words : Nat)) + 1) (((((((((k + 1) + 1) + 1) + 1) + 1) + 1) + (nIntS x.Words : Nat)) + 1) + 1) ((((((((((k + 1) + 1) + 1) + 1) + 1) + 1) + (nIntS x.Words : Nat)) + 1) + 1) + 1)), ?_⟩
    show laws_markPlaneS_L0 ys k i = _
    simp (disch := omega) only [laws_markPlaneS_L0, idx_lt hi, idx_set hi, upd_lt hi, upd_set hi, bnd_s, he, wr_in, m0]
    rw [ifO_pos (by simpa using hi), ← ec])
    (fun ys k hy => by simp [laws_markPlaneS_L0, hy]) k h0 h1
  exact ⟨ys, by rw [laws_markPlaneS, e1]; rfl⟩
def mColorMap (x : ColorMapT) : Nat := nIntS x.Matrix + nIntS x.Curve
theorem mkColorMap (x : ColorMapT) (h : smColorMap x) (k : Int) (h0 : 0 ≤ k) (h1 : k + (mColorMap x : Nat) ≤ 4611686018427387904) : ∃ y0 y1, laws_markColorMap x k = some (k + (mColorMap x : Nat), y0, y1) := by
  unfold mColorMap at h1
  obtain ⟨y0, a0⟩ := mkIntS x.Matrix (h.1) k (by omega) (by omega)
  obtain ⟨y1, a1⟩ := mkIntS x.Curve (h.2) (k + (nIntS x.Matrix : Nat)) (by omega) (by omega)
  have ec : ((k + (nIntS x.Matrix : Nat)) + (nIntS x.Curve : Nat)) = k + (mColorMap x : Nat) := by unfold mColorMap; omega
  exact ⟨y0, y1, by simp only [laws_markColorMap, a0, a1, bnd_s, ← ec]⟩
def mCrtc (x : CrtcT) : Nat := nPlaneS x.Planes + nIntS x.Color.Matrix + nIntS x.Color.Curve
theorem mkCrtc (x : CrtcT) (h : smCrtc x) (k : Int) (h0 : 0 ≤ k) (h1 : k + (mCrtc x : Nat) ≤ 4611686018427387904) : ∃ y0 y1 y2, laws_markCrtc x k = some (k + (mCrtc x : Nat), y0, y1, y2) := by
  unfold mCrtc at h1
  obtain ⟨y0, a0⟩ := mkPlaneS x.Planes (h.1) k (by omega) (by omega)
  obtain ⟨y1, y2, a1⟩ := mkColorMap x.Color (h.2) (k + (nPlaneS x.Planes : Nat)) (by omega) (by unfold mColorMap; omega)
  have ec : ((k + (nPlaneS x.Planes : Nat)) + (mColorMap x.Color : Nat)) = k + (mCrtc x : Nat) := by unfold mCrtc mColorMap; omega
  exact ⟨y0, y1, y2, by simp only [laws_markCrtc, a0, a1, bnd_s, ← ec]⟩
def cChange (x : ChangeT) : Nat := 11 + nIntS x.Value.Words + nIntS x.Color.Matrix + nIntS x.Color.Curve
def nChangeS (xs : List ChangeT) : Nat := (xs.map cChange).sum
theorem nChangeS_le {xs : List ChangeT} (h : smChangeS xs) : nChangeS xs ≤ 3298546417664 := sum_le' (b := 3145739) h.1 fun x hx => by
  unfold cChange
  have := nIntS_le ((h.2 x hx).1)
  have := nIntS_le ((h.2 x hx).2.1)
  have := nIntS_le ((h.2 x hx).2.2)
  omega
theorem mhChangeS (xs : List ChangeT) (h : smChangeS xs) (k : Int) (h0 : 0 ≤ k) (h1 : k + (nChangeS xs : Nat) ≤ 4611686018427387904) : ∃ ys, laws_markChangeS xs k = some (k + (nChangeS xs : Nat), ys) ∧ laws_heldChangeS ys k = some (k + (nChangeS xs : Nat)) := by
  have hl : xs.length ≤ 1048576 := h.1
  obtain ⟨ys, hy, e1, e2⟩ := mhLoop (M := fun (a, k, i) => laws_markChangeS_L0 a k i) (H := fun zs (k, i) => laws_heldChangeS_L0 zs k i) cChange xs (by omega) (fun i ys k hi hx he h0 hb => by
    have hsm : smChange xs[i] := h.2 _ (List.getElem_mem hx)
    generalize hxx : xs[i] = x at *
    unfold cChange at hb
    obtain ⟨y0, m0, d0⟩ := mhIntS x.Value.Words (hsm.1) (((((((k + 1) + 1) + 1) + 1) + 1) + 1) + 1) (by omega) (by omega)
    obtain ⟨y1, m1, d1⟩ := mhIntS x.Color.Matrix (hsm.2.1) ((((((((((((k + 1) + 1) + 1) + 1) + 1) + 1) + 1) + (nIntS x.Value.Words : Nat)) + 1) + 1) + 1) + 1) (by omega) (by omega)
    obtain ⟨y2, m2, d2⟩ := mhIntS x.Color.Curve (hsm.2.2) (((((((((((((k + 1) + 1) + 1) + 1) + 1) + 1) + 1) + (nIntS x.Value.Words : Nat)) + 1) + 1) + 1) + 1) + (nIntS x.Color.Matrix : Nat)) (by omega) (by omega)
    have ng0 : decide (((((((((k + 1) + 1) + 1) + 1) + 1) + 1) + 1) + (nIntS x.Value.Words : Nat)) < 0) = false := by simp; omega
    have ng1 : decide ((((((((((((((k + 1) + 1) + 1) + 1) + 1) + 1) + 1) + (nIntS x.Value.Words : Nat)) + 1) + 1) + 1) + 1) + (nIntS x.Color.Matrix : Nat)) < 0) = false := by simp; omega
    have ng2 : decide (((((((((((((((k + 1) + 1) + 1) + 1) + 1) + 1) + 1) + (nIntS x.Value.Words : Nat)) + 1) + 1) + 1) + 1) + (nIntS x.Color.Matrix : Nat)) + (nIntS x.Color.Curve : Nat)) < 0) = false := by simp; omega
    have ec : ((((((((((((((k + 1) + 1) + 1) + 1) + 1) + 1) + 1) + (nIntS x.Value.Words : Nat)) + 1) + 1) + 1) + 1) + (nIntS x.Color.Matrix : Nat)) + (nIntS x.Color.Curve : Nat)) = k + (cChange x : Nat) := by unfold cChange; omega
    refine ⟨(ChangeT.mk k (PlaneT.mk (decide (Int.tmod (k + 1) 3 = 0)) ((k + 1) + 1) (((k + 1) + 1) + 1) ((((k + 1) + 1) + 1) + 1) (((((k + 1) + 1) + 1) + 1) + 1) ((((((k + 1) + 1) + 1) + 1) + 1) + 1) y0 ((((((((k + 1) + 1) + 1) + 1) + 1) + 1) + 1) + (nIntS x.Value.Words : Nat)) (((((((((k + 1) + 1) + 1) + 1) + 1) + 1) + 1) + (nIntS x.Value.Words : Nat)) + 1) ((((((((((k + 1) + 1) + 1) + 1) + 1) + 1) + 1) + (nIntS x.Value.Words : Nat)) + 1) + 1) (((((((((((k + 1) + 1) + 1) + 1) + 1) + 1) + 1) + (nIntS x.Value.Words : Nat)) + 1) + 1) + 1)) (ColorMapT.mk y1 y2)), ?_, fun zs hz => ?_⟩
    · show laws_markChangeS_L0 ys k i = _
      simp (disch := omega) only [laws_markChangeS_L0, idx_lt hi, idx_set hi, upd_lt hi, upd_set hi, bnd_s, he, wr_in, m0, m1, m2]
      rw [ifO_pos (by simpa using hi), ← ec]
    · have hzl := (List.getElem?_eq_some_iff.1 hz).1
      show laws_heldChangeS_L0 zs k i = _
      simp (disch := omega) only [laws_heldChangeS_L0, idx_at hz, bnd_s, wr_in, d0, d1, d2, ng0, ng1, ng2, decide_true, beq_self_eq_true, Bool.not_true, ifO_false]
      rw [ifO_pos (by simpa using hzl), ← ec])
    (fun ys k hy => by simp [laws_markChangeS_L0, hy]) (fun zs k hz => by simp [laws_heldChangeS_L0, hz]) k h0 h1
  exact ⟨ys, by rw [laws_markChangeS, e1]; rfl, by rw [laws_heldChangeS, e2]; rfl⟩
theorem mkChangeS (xs : List ChangeT) (h : smChangeS xs) (k : Int) (h0 : 0 ≤ k) (h1 : k + (nChangeS xs : Nat) ≤ 4611686018427387904) : ∃ y0, laws_markChangeS xs k = some (k + (nChangeS xs : Nat), y0) := let ⟨y0, a, _⟩ := mhChangeS xs h k h0 h1; ⟨y0, a⟩
end Go.Proofs.Ytmhalmnbgkpmnaa
