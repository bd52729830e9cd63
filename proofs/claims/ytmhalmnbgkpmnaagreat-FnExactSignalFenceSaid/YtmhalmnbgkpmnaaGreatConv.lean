/- What the laws do with their data: its size, its copy, its equal. -/
import Derived.Test.YtmhalmnbgkpmnaaGreatDefs
import Derived.Test.YtmhalmnbgkpmnaaGreatLib
namespace Go.Proofs.YtmhalmnbgkpmnaaGreat
open Go.RowKit K
set_option maxRecDepth 100000
set_option maxHeartbeats 4000000

def smIntS (xs : List Int) : Prop := xs.length ≤ 1048576
theorem szIntS_ok (xs : List Int) (o : (xs.length ≤ 9223372036854775807 ∧ ∀ y ∈ xs, I64 y)) : Sz laws_szIntS smIntS xs := fun left h0 h1 => Sz.len h0 h1 o.1
def smPlane (x : PlaneT) : Prop := smIntS x.Words
theorem szPlane_ok (x : PlaneT) (o : okPlane x) : Sz laws_szPlane smPlane x := fun left h0 h1 => by
  simp only [laws_szPlane]
  obtain ⟨v0, e0, l0, s0⟩ := szIntS_ok x.Words o.2.2.2.2.2.2.1 left h0 h1
  simp only [e0, bnd_s]
  by_cases n0 : v0 < 0
  · exact ⟨-1, by rw [ifO_pos (by simpa using n0)], by omega, by omega⟩
  rw [ifO_neg (by simpa using n0)]
  exact ⟨v0, rfl, by omega, fun _ => s0 (by omega)⟩
def smPlaneS (xs : List PlaneT) : Prop := xs.length ≤ 1048576 ∧ ∀ x ∈ xs, smPlane x
theorem szPlaneS_ok (xs : List PlaneT) (o : (xs.length ≤ 9223372036854775807 ∧ ∀ y ∈ xs, okPlane y)) : Sz laws_szPlaneS smPlaneS xs := fun left h0 h1 => by
  simp only [laws_szPlaneS]
  rw [wr_left h0 h1 o.1]
  by_cases hn : left - (xs.length : Int) < 0
  · exact ⟨-1, by rw [ifO_pos (by simpa using hn)], by omega, by omega⟩
  rw [ifO_neg (by simpa using hn)]
  have hl := o.1
  obtain ⟨y, hy, hor⟩ := szLoop (L := fun (left, i) => laws_szPlaneS_L0 xs left i) xs laws_szPlane smPlane (by omega) (fun k hk left => by
    simp only [laws_szPlaneS_L0, idx_lt hk, bnd_s]
    rw [ifO_pos (by simpa using hk)]) (fun left => by simp [laws_szPlaneS_L0]) (fun x hx => szPlane_ok x (o.2 x hx)) (left - xs.length) (by omega) (by omega)
  rw [hy, bnd_s]
  rcases hor with ⟨v, rfl, hv0, hv1, hall⟩ | rfl
  · exact ⟨v, rfl, by omega, fun _ => ⟨by omega, hall⟩⟩
  · exact ⟨-1, rfl, by omega, by omega⟩
def smColorMap (x : ColorMapT) : Prop := smIntS x.Matrix ∧ smIntS x.Curve
theorem szColorMap_ok (x : ColorMapT) (o : okColorMap x) : Sz laws_szColorMap smColorMap x := fun left h0 h1 => by
  simp only [laws_szColorMap]
  obtain ⟨v0, e0, l0, s0⟩ := szIntS_ok x.Matrix o.1 left h0 h1
  simp only [e0, bnd_s]
  by_cases n0 : v0 < 0
  · exact ⟨-1, by rw [ifO_pos (by simpa using n0)], by omega, by omega⟩
  rw [ifO_neg (by simpa using n0)]
  obtain ⟨v1, e1, l1, s1⟩ := szIntS_ok x.Curve o.2 v0 (by omega) (by omega)
  simp only [e1, bnd_s]
  by_cases n1 : v1 < 0
  · exact ⟨-1, by rw [ifO_pos (by simpa using n1)], by omega, by omega⟩
  rw [ifO_neg (by simpa using n1)]
  exact ⟨v1, rfl, by omega, fun _ => ⟨s0 (by omega), s1 (by omega)⟩⟩
def smCrtc (x : CrtcT) : Prop := smPlaneS x.Planes ∧ smColorMap x.Color
theorem szCrtc_ok (x : CrtcT) (o : okCrtc x) : Sz laws_szCrtc smCrtc x := fun left h0 h1 => by
  simp only [laws_szCrtc]
  obtain ⟨v0, e0, l0, s0⟩ := szPlaneS_ok x.Planes o.2.2.1 left h0 h1
  simp only [e0, bnd_s]
  by_cases n0 : v0 < 0
  · exact ⟨-1, by rw [ifO_pos (by simpa using n0)], by omega, by omega⟩
  rw [ifO_neg (by simpa using n0)]
  obtain ⟨v1, e1, l1, s1⟩ := szColorMap_ok x.Color o.2.2.2 v0 (by omega) (by omega)
  simp only [e1, bnd_s]
  by_cases n1 : v1 < 0
  · exact ⟨-1, by rw [ifO_pos (by simpa using n1)], by omega, by omega⟩
  rw [ifO_neg (by simpa using n1)]
  exact ⟨v1, rfl, by omega, fun _ => ⟨s0 (by omega), s1 (by omega)⟩⟩
def smFlip (x : FlipT) : Prop := smCrtc x.State
theorem szFlip_ok (x : FlipT) (o : okFlip x) : Sz laws_szFlip smFlip x := fun left h0 h1 => by
  simp only [laws_szFlip]
  obtain ⟨v0, e0, l0, s0⟩ := szCrtc_ok x.State o.2.2 left h0 h1
  simp only [e0, bnd_s]
  by_cases n0 : v0 < 0
  · exact ⟨-1, by rw [ifO_pos (by simpa using n0)], by omega, by omega⟩
  rw [ifO_neg (by simpa using n0)]
  exact ⟨v0, rfl, by omega, fun _ => s0 (by omega)⟩
def smFlipS (xs : List FlipT) : Prop := xs.length ≤ 1048576 ∧ ∀ x ∈ xs, smFlip x
theorem szFlipS_ok (xs : List FlipT) (o : (xs.length ≤ 9223372036854775807 ∧ ∀ y ∈ xs, okFlip y)) : Sz laws_szFlipS smFlipS xs := fun left h0 h1 => by
  simp only [laws_szFlipS]
  rw [wr_left h0 h1 o.1]
  by_cases hn : left - (xs.length : Int) < 0
  · exact ⟨-1, by rw [ifO_pos (by simpa using hn)], by omega, by omega⟩
  rw [ifO_neg (by simpa using hn)]
  have hl := o.1
  obtain ⟨y, hy, hor⟩ := szLoop (L := fun (left, i) => laws_szFlipS_L0 xs left i) xs laws_szFlip smFlip (by omega) (fun k hk left => by
    simp only [laws_szFlipS_L0, idx_lt hk, bnd_s]
    rw [ifO_pos (by simpa using hk)]) (fun left => by simp [laws_szFlipS_L0]) (fun x hx => szFlip_ok x (o.2 x hx)) (left - xs.length) (by omega) (by omega)
  rw [hy, bnd_s]
  rcases hor with ⟨v, rfl, hv0, hv1, hall⟩ | rfl
  · exact ⟨v, rfl, by omega, fun _ => ⟨by omega, hall⟩⟩
  · exact ⟨-1, rfl, by omega, by omega⟩
def smFlips (x : FlipsT) : Prop := smFlipS x.Pending ∧ smIntS x.Signalled ∧ smIntS x.Events
theorem szFlips_ok (x : FlipsT) (o : okFlips x) : Sz laws_szFlips smFlips x := fun left h0 h1 => by
  simp only [laws_szFlips]
  obtain ⟨v0, e0, l0, s0⟩ := szFlipS_ok x.Pending o.1 left h0 h1
  simp only [e0, bnd_s]
  by_cases n0 : v0 < 0
  · exact ⟨-1, by rw [ifO_pos (by simpa using n0)], by omega, by omega⟩
  rw [ifO_neg (by simpa using n0)]
  obtain ⟨v1, e1, l1, s1⟩ := szIntS_ok x.Signalled o.2.1 v0 (by omega) (by omega)
  simp only [e1, bnd_s]
  by_cases n1 : v1 < 0
  · exact ⟨-1, by rw [ifO_pos (by simpa using n1)], by omega, by omega⟩
  rw [ifO_neg (by simpa using n1)]
  obtain ⟨v2, e2, l2, s2⟩ := szIntS_ok x.Events o.2.2.2 v1 (by omega) (by omega)
  simp only [e2, bnd_s]
  by_cases n2 : v2 < 0
  · exact ⟨-1, by rw [ifO_pos (by simpa using n2)], by omega, by omega⟩
  rw [ifO_neg (by simpa using n2)]
  exact ⟨v2, rfl, by omega, fun _ => ⟨s0 (by omega), s1 (by omega), s2 (by omega)⟩⟩
theorem toIntS_eq (xs : List Int) (h : smIntS xs) : laws_toIntS xs = some xs := by
  have hl : xs.length ≤ 1048576 := h
  have := fillLoop (L := fun (out, i) => laws_toIntS_L0 xs out i) xs id 0 (by omega) (fun k hk out ho => by
    simp only [laws_toIntS_L0, idx_lt hk, bnd_s, upd_lt (ho ▸ hk)]
    rw [ifO_pos (by simpa using hk)]; rfl) (fun out => by simp [laws_toIntS_L0])
  simp only [laws_toIntS, mkO_nat (show xs.length ≤ 1073741824 by omega), bnd_s, this, List.map_id]
theorem toPlane_eq (x : PlaneT) (h : smPlane x) : laws_toPlane x = some x := by
  simp only [laws_toPlane, toIntS_eq x.Words h, bnd_s]
theorem toPlaneS_eq (xs : List PlaneT) (h : smPlaneS xs) : laws_toPlaneS xs = some xs := by
  have hl : xs.length ≤ 1048576 := h.1
  have := fillLoop (L := fun (out, i) => laws_toPlaneS_L0 xs out i) xs id (PlaneT.mk false 0 0 0 0 0 [] 0 0 0 0) (by omega) (fun k hk out ho => by
    simp only [laws_toPlaneS_L0, idx_lt hk, bnd_s, toPlane_eq _ (h.2 _ (List.getElem_mem hk)), upd_lt (ho ▸ hk)]
    rw [ifO_pos (by simpa using hk)]; rfl) (fun out => by simp [laws_toPlaneS_L0])
  simp only [laws_toPlaneS, mkO_nat (show xs.length ≤ 1073741824 by omega), bnd_s, this, List.map_id]
theorem toColorMap_eq (x : ColorMapT) (h : smColorMap x) : laws_toColorMap x = some x := by
  simp only [laws_toColorMap, toIntS_eq x.Matrix h.1, toIntS_eq x.Curve h.2, bnd_s]
theorem toCrtc_eq (x : CrtcT) (h : smCrtc x) : laws_toCrtc x = some x := by
  simp only [laws_toCrtc, toPlaneS_eq x.Planes h.1, toColorMap_eq x.Color h.2, bnd_s]
theorem toFlip_eq (x : FlipT) (h : smFlip x) : laws_toFlip x = some x := by
  simp only [laws_toFlip, toCrtc_eq x.State h, bnd_s]
theorem toFlipS_eq (xs : List FlipT) (h : smFlipS xs) : laws_toFlipS xs = some xs := by
  have hl : xs.length ≤ 1048576 := h.1
  have := fillLoop (L := fun (out, i) => laws_toFlipS_L0 xs out i) xs id (FlipT.mk 0 0 (CrtcT.mk 0 0 [] (ColorMapT.mk [] []))) (by omega) (fun k hk out ho => by
    simp only [laws_toFlipS_L0, idx_lt hk, bnd_s, toFlip_eq _ (h.2 _ (List.getElem_mem hk)), upd_lt (ho ▸ hk)]
    rw [ifO_pos (by simpa using hk)]; rfl) (fun out => by simp [laws_toFlipS_L0])
  simp only [laws_toFlipS, mkO_nat (show xs.length ≤ 1073741824 by omega), bnd_s, this, List.map_id]
theorem toFlips_eq (x : FlipsT) (h : smFlips x) : laws_toFlips x = some x := by
  simp only [laws_toFlips, toFlipS_eq x.Pending h.1, toIntS_eq x.Signalled h.2.1, toIntS_eq x.Events h.2.2, bnd_s]
theorem eqIntS_self (xs : List Int) (h : smIntS xs) : laws_eqIntS xs xs = some true := by
  have hl : xs.length ≤ 1048576 := h
  have := eqLoop (L := fun i => laws_eqIntS_L0 xs xs i) xs (by omega) (fun k hk => by
    simp only [laws_eqIntS_L0, idx_lt hk, bnd_s, decide_true, beq_self_eq_true, Bool.not_true, ifO_false]
    rw [ifO_pos (by simpa using hk)]) (by simp [laws_eqIntS_L0])
  simp [laws_eqIntS, this, fork]
theorem eqPlane_self (x : PlaneT) (h : smPlane x) : laws_eqPlane x x = some true := by simp [laws_eqPlane, eqIntS_self x.Words h]
theorem eqPlaneS_self (xs : List PlaneT) (h : smPlaneS xs) : laws_eqPlaneS xs xs = some true := by
  have hl : xs.length ≤ 1048576 := h.1
  have := eqLoop (L := fun i => laws_eqPlaneS_L0 xs xs i) xs (by omega) (fun k hk => by
    simp only [laws_eqPlaneS_L0, idx_lt hk, bnd_s, eqPlane_self _ (h.2 _ (List.getElem_mem hk)), decide_true, beq_self_eq_true, Bool.not_true, ifO_false]
    rw [ifO_pos (by simpa using hk)]) (by simp [laws_eqPlaneS_L0])
  simp [laws_eqPlaneS, this, fork]
theorem eqColorMap_self (x : ColorMapT) (h : smColorMap x) : laws_eqColorMap x x = some true := by simp [laws_eqColorMap, eqIntS_self x.Matrix h.1, eqIntS_self x.Curve h.2]
theorem eqCrtc_self (x : CrtcT) (h : smCrtc x) : laws_eqCrtc x x = some true := by simp [laws_eqCrtc, eqPlaneS_self x.Planes h.1, eqColorMap_self x.Color h.2]
theorem eqFlip_self (x : FlipT) (h : smFlip x) : laws_eqFlip x x = some true := by simp [laws_eqFlip, eqCrtc_self x.State h]
theorem eqFlipS_self (xs : List FlipT) (h : smFlipS xs) : laws_eqFlipS xs xs = some true := by
  have hl : xs.length ≤ 1048576 := h.1
  have := eqLoop (L := fun i => laws_eqFlipS_L0 xs xs i) xs (by omega) (fun k hk => by
    simp only [laws_eqFlipS_L0, idx_lt hk, bnd_s, eqFlip_self _ (h.2 _ (List.getElem_mem hk)), decide_true, beq_self_eq_true, Bool.not_true, ifO_false]
    rw [ifO_pos (by simpa using hk)]) (by simp [laws_eqFlipS_L0])
  simp [laws_eqFlipS, this, fork]
theorem eqFlips_self (x : FlipsT) (h : smFlips x) : laws_eqFlips x x = some true := by simp [laws_eqFlips, eqFlipS_self x.Pending h.1, eqIntS_self x.Signalled h.2.1, eqIntS_self x.Events h.2.2]
def nIntS (xs : List Int) : Nat := (xs.map fun _ => 1).sum
theorem nIntS_le {xs : List Int} (h : smIntS xs) : nIntS xs ≤ 1048576 := sum_le' (b := 1) h fun _ _ => Nat.le_refl _
theorem mhIntS (xs : List Int) (h : smIntS xs) (k : Int) (h0 : 0 ≤ k) (h1 : k + (nIntS xs : Nat) ≤ 4611686018427387904) : ∃ ys, laws_markIntS xs k = some (k + (nIntS xs : Nat), ys) ∧ laws_heldIntS ys k = some (k + (nIntS xs : Nat)) := by
  have hl : xs.length ≤ 1048576 := h
  obtain ⟨ys, hy, e1, e2⟩ := mhLoop (M := fun (a, k, i) => laws_markIntS_L0 a k i) (H := fun zs (k, i) => laws_heldIntS_L0 zs k i) (fun _ => 1) xs (by omega) (fun i ys k hi hx he h0 hb => by
    refine ⟨k, ?_, fun zs hz => ?_⟩
    · show laws_markIntS_L0 ys k i = _
      simp only [laws_markIntS_L0, upd_lt hi, bnd_s]
      rw [ifO_pos (by simpa using hi), wr_in (n := k + 1) (by omega) (by omega)]; rfl
    · have hzl := (List.getElem?_eq_some_iff.1 hz).1
      show laws_heldIntS_L0 zs k i = _
      simp only [laws_heldIntS_L0, idx_at hz, bnd_s]
      rw [ifO_pos (by simpa using hzl), ifO_neg (by simp), wr_in (n := k + 1) (by omega) (by omega)]; rfl)
    (fun ys k hy => by simp [laws_markIntS_L0, hy]) (fun zs k hz => by simp [laws_heldIntS_L0, hz]) k h0 h1
  exact ⟨ys, by rw [laws_markIntS, e1]; rfl, by rw [laws_heldIntS, e2]; rfl⟩
def cPlane (x : PlaneT) : Nat := 10 + nIntS x.Words
def nPlaneS (xs : List PlaneT) : Nat := (xs.map cPlane).sum
theorem nPlaneS_le {xs : List PlaneT} (h : smPlaneS xs) : nPlaneS xs ≤ 1099522113536 := sum_le' (b := 1048586) h.1 fun x hx => by
  unfold cPlane
  have := nIntS_le ((h.2 x hx))
  omega
theorem mkIntS (xs : List Int) (h : smIntS xs) (k : Int) (h0 : 0 ≤ k) (h1 : k + (nIntS xs : Nat) ≤ 4611686018427387904) : ∃ y0, laws_markIntS xs k = some (k + (nIntS xs : Nat), y0) := let ⟨y0, a, _⟩ := mhIntS xs h k h0 h1; ⟨y0, a⟩
theorem mhPlaneS (xs : List PlaneT) (h : smPlaneS xs) (k : Int) (h0 : 0 ≤ k) (h1 : k + (nPlaneS xs : Nat) ≤ 4611686018427387904) : ∃ ys, laws_markPlaneS xs k = some (k + (nPlaneS xs : Nat), ys) ∧ laws_heldPlaneS ys k = some (k + (nPlaneS xs : Nat)) := by
  have hl : xs.length ≤ 1048576 := h.1
  obtain ⟨ys, hy, e1, e2⟩ := mhLoop (M := fun (a, k, i) => laws_markPlaneS_L0 a k i) (H := fun zs (k, i) => laws_heldPlaneS_L0 zs k i) cPlane xs (by omega) (fun i ys k hi hx he h0 hb => by
    have hsm : smPlane xs[i] := h.2 _ (List.getElem_mem hx)
    generalize hxx : xs[i] = x at *
    unfold cPlane at hb
    obtain ⟨y0, m0, d0⟩ := mhIntS x.Words (hsm) ((((((k + 1) + 1) + 1) + 1) + 1) + 1) (by omega) (by omega)
    have ng0 : decide ((((((((k + 1) + 1) + 1) + 1) + 1) + 1) + (nIntS x.Words : Nat)) < 0) = false := by simp; omega
    have ec : (((((((((((k + 1) + 1) + 1) + 1) + 1) + 1) + (nIntS x.Words : Nat)) + 1) + 1) + 1) + 1) = k + (cPlane x : Nat) := by unfold cPlane; omega
    refine ⟨(PlaneT.mk (decide (Int.tmod k 3 = 0)) (k + 1) ((k + 1) + 1) (((k + 1) + 1) + 1) ((((k + 1) + 1) + 1) + 1) (((((k + 1) + 1) + 1) + 1) + 1) y0 (((((((k + 1) + 1) + 1) + 1) + 1) + 1) + (nIntS x.Words : Nat)) ((((((((k + 1) + 1) + 1) + 1) + 1) + 1) + (nIntS x.Words : Nat)) + 1) (((((((((k + 1) + 1) + 1) + 1) + 1) + 1) + (nIntS x.Words : Nat)) + 1) + 1) ((((((((((k + 1) + 1) + 1) + 1) + 1) + 1) + (nIntS x.Words : Nat)) + 1) + 1) + 1)), ?_, fun zs hz => ?_⟩
    · show laws_markPlaneS_L0 ys k i = _
      simp (disch := omega) only [laws_markPlaneS_L0, idx_lt hi, idx_set hi, upd_lt hi, upd_set hi, bnd_s, he, wr_in, m0]
      rw [ifO_pos (by simpa using hi), ← ec]
    · have hzl := (List.getElem?_eq_some_iff.1 hz).1
      show laws_heldPlaneS_L0 zs k i = _
      simp (disch := omega) only [laws_heldPlaneS_L0, idx_at hz, bnd_s, wr_in, d0, ng0, decide_true, beq_self_eq_true, Bool.not_true, ifO_false]
      rw [ifO_pos (by simpa using hzl), ← ec])
    (fun ys k hy => by simp [laws_markPlaneS_L0, hy]) (fun zs k hz => by simp [laws_heldPlaneS_L0, hz]) k h0 h1
  exact ⟨ys, by rw [laws_markPlaneS, e1]; rfl, by rw [laws_heldPlaneS, e2]; rfl⟩
def cFlip (x : FlipT) : Nat := 4 + nPlaneS x.State.Planes + nIntS x.State.Color.Matrix + nIntS x.State.Color.Curve
def nFlipS (xs : List FlipT) : Nat := (xs.map cFlip).sum
theorem nFlipS_le {xs : List FlipT} (h : smFlipS xs) : nFlipS xs ≤ 1152934698750574592 := sum_le' (b := 1099524210692) h.1 fun x hx => by
  unfold cFlip
  have := nPlaneS_le ((h.2 x hx).1)
  have := nIntS_le ((h.2 x hx).2.1)
  have := nIntS_le ((h.2 x hx).2.2)
  omega
theorem mkPlaneS (xs : List PlaneT) (h : smPlaneS xs) (k : Int) (h0 : 0 ≤ k) (h1 : k + (nPlaneS xs : Nat) ≤ 4611686018427387904) : ∃ y0, laws_markPlaneS xs k = some (k + (nPlaneS xs : Nat), y0) := let ⟨y0, a, _⟩ := mhPlaneS xs h k h0 h1; ⟨y0, a⟩
theorem mhFlipS (xs : List FlipT) (h : smFlipS xs) (k : Int) (h0 : 0 ≤ k) (h1 : k + (nFlipS xs : Nat) ≤ 4611686018427387904) : ∃ ys, laws_markFlipS xs k = some (k + (nFlipS xs : Nat), ys) ∧ laws_heldFlipS ys k = some (k + (nFlipS xs : Nat)) := by
  have hl : xs.length ≤ 1048576 := h.1
  obtain ⟨ys, hy, e1, e2⟩ := mhLoop (M := fun (a, k, i) => laws_markFlipS_L0 a k i) (H := fun zs (k, i) => laws_heldFlipS_L0 zs k i) cFlip xs (by omega) (fun i ys k hi hx he h0 hb => by
    have hsm : smFlip xs[i] := h.2 _ (List.getElem_mem hx)
    generalize hxx : xs[i] = x at *
    unfold cFlip at hb
    obtain ⟨y0, m0, d0⟩ := mhPlaneS x.State.Planes (hsm.1) ((((k + 1) + 1) + 1) + 1) (by omega) (by omega)
    obtain ⟨y1, m1, d1⟩ := mhIntS x.State.Color.Matrix (hsm.2.1) (((((k + 1) + 1) + 1) + 1) + (nPlaneS x.State.Planes : Nat)) (by omega) (by omega)
    obtain ⟨y2, m2, d2⟩ := mhIntS x.State.Color.Curve (hsm.2.2) ((((((k + 1) + 1) + 1) + 1) + (nPlaneS x.State.Planes : Nat)) + (nIntS x.State.Color.Matrix : Nat)) (by omega) (by omega)
    have ng0 : decide ((((((k + 1) + 1) + 1) + 1) + (nPlaneS x.State.Planes : Nat)) < 0) = false := by simp; omega
    have ng1 : decide (((((((k + 1) + 1) + 1) + 1) + (nPlaneS x.State.Planes : Nat)) + (nIntS x.State.Color.Matrix : Nat)) < 0) = false := by simp; omega
    have ng2 : decide ((((((((k + 1) + 1) + 1) + 1) + (nPlaneS x.State.Planes : Nat)) + (nIntS x.State.Color.Matrix : Nat)) + (nIntS x.State.Color.Curve : Nat)) < 0) = false := by simp; omega
    have ec : (((((((k + 1) + 1) + 1) + 1) + (nPlaneS x.State.Planes : Nat)) + (nIntS x.State.Color.Matrix : Nat)) + (nIntS x.State.Color.Curve : Nat)) = k + (cFlip x : Nat) := by unfold cFlip; omega
    refine ⟨(FlipT.mk k (k + 1) (CrtcT.mk ((k + 1) + 1) (((k + 1) + 1) + 1) y0 (ColorMapT.mk y1 y2))), ?_, fun zs hz => ?_⟩
    · show laws_markFlipS_L0 ys k i = _
      simp (disch := omega) only [laws_markFlipS_L0, idx_lt hi, idx_set hi, upd_lt hi, upd_set hi, bnd_s, he, wr_in, m0, m1, m2]
      rw [ifO_pos (by simpa using hi), ← ec]
    · have hzl := (List.getElem?_eq_some_iff.1 hz).1
      show laws_heldFlipS_L0 zs k i = _
      simp (disch := omega) only [laws_heldFlipS_L0, idx_at hz, bnd_s, wr_in, d0, d1, d2, ng0, ng1, ng2, decide_true, beq_self_eq_true, Bool.not_true, ifO_false]
      rw [ifO_pos (by simpa using hzl), ← ec])
    (fun ys k hy => by simp [laws_markFlipS_L0, hy]) (fun zs k hz => by simp [laws_heldFlipS_L0, hz]) k h0 h1
  exact ⟨ys, by rw [laws_markFlipS, e1]; rfl, by rw [laws_heldFlipS, e2]; rfl⟩
theorem mkFlipS (xs : List FlipT) (h : smFlipS xs) (k : Int) (h0 : 0 ≤ k) (h1 : k + (nFlipS xs : Nat) ≤ 4611686018427387904) : ∃ y0, laws_markFlipS xs k = some (k + (nFlipS xs : Nat), y0) := let ⟨y0, a, _⟩ := mhFlipS xs h k h0 h1; ⟨y0, a⟩
def mFlips (x : FlipsT) : Nat := nFlipS x.Pending + nIntS x.Signalled + nIntS x.Events
theorem mhFlips (x : FlipsT) (h : smFlips x) (k : Int) (h0 : 0 ≤ k) (h1 : k + (mFlips x : Nat) ≤ 4611686018427387904) : ∃ y0 y1 y2, laws_markFlips x k = some (k + (mFlips x : Nat), y0, y1, y2) ∧ laws_heldFlips (FlipsT.mk y0 y1 x.Next y2) k = some (k + (mFlips x : Nat)) := by
  unfold mFlips at h1
  obtain ⟨y0, a0, d0⟩ := mhFlipS x.Pending (h.1) k (by omega) (by omega)
  obtain ⟨y1, a1, d1⟩ := mhIntS x.Signalled (h.2.1) (k + (nFlipS x.Pending : Nat)) (by omega) (by omega)
  obtain ⟨y2, a2, d2⟩ := mhIntS x.Events (h.2.2) ((k + (nFlipS x.Pending : Nat)) + (nIntS x.Signalled : Nat)) (by omega) (by omega)
  have ng0 : decide ((k + (nFlipS x.Pending : Nat)) < 0) = false := by simp; omega
  have ng1 : decide (((k + (nFlipS x.Pending : Nat)) + (nIntS x.Signalled : Nat)) < 0) = false := by simp; omega
  have ng2 : decide ((((k + (nFlipS x.Pending : Nat)) + (nIntS x.Signalled : Nat)) + (nIntS x.Events : Nat)) < 0) = false := by simp; omega
  have ec : (((k + (nFlipS x.Pending : Nat)) + (nIntS x.Signalled : Nat)) + (nIntS x.Events : Nat)) = k + (mFlips x : Nat) := by unfold mFlips; omega
  exact ⟨y0, y1, y2, by simp only [laws_markFlips, a0, a1, a2, bnd_s, ← ec], by simp only [laws_heldFlips, d0, d1, d2, bnd_s, ng0, ng1, ng2, ifO_false, ← ec]⟩
theorem mkFlips (x : FlipsT) (h : smFlips x) (k : Int) (h0 : 0 ≤ k) (h1 : k + (mFlips x : Nat) ≤ 4611686018427387904) : ∃ y0 y1 y2, laws_markFlips x k = some (k + (mFlips x : Nat), y0, y1, y2) := let ⟨y0, y1, y2, a, _⟩ := mhFlips x h k h0 h1; ⟨y0, y1, y2, a⟩
end Go.Proofs.YtmhalmnbgkpmnaaGreat
