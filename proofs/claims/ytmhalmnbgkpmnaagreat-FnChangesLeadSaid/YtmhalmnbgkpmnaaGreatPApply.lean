/- Changes made to a state: what comes out. -/
import Derived.Test.YtmhalmnbgkpmnaaGreatPCrtc
import Derived.Test.YtmhalmnbgkpmnaaGreatPCopies
import Derived.Test.YtmhalmnbgkpmnaaGreatPSame
namespace Go.Proofs.YtmhalmnbgkpmnaaGreat
open Go.RowKit K
def zeroPl : PlaneT := PlaneT.mk false 0 0 0 0 0 [] 0 0 0 0
def chB (x : ChangeT) : Bool := if x.Plane = -1 then samePl x.Value zeroPl else (inR x.Plane 0 3 && decide ((x.Color.Matrix.length : Int) = 0)) && decide ((x.Color.Curve.length : Int) = 0)
theorem i_ChangeOk (x : ChangeT) (h : smChange x) : impl_ChangeOk x = some (chB x) := by
  have hw : x.Value.Words.length ≤ 1048576 := h.1
  unfold impl_ChangeOk chB
  by_cases h1 : x.Plane = -1
  · rw [ifO_pos (by simpa using h1), if_pos h1, i_SamePlane _ _ hw, bnd_s]; rfl
  · rw [ifO_neg (by simpa using h1), if_neg h1, within_eq, bnd_s]
theorem chB_at {x : ChangeT} (h : chB x = true) : x.Plane = -1 ∨ (0 ≤ x.Plane ∧ x.Plane ≤ 3) := by
  unfold chB at h
  by_cases h1 : x.Plane = -1
  · exact .inl h1
  · rw [if_neg h1] at h
    simp only [Bool.and_eq_true] at h
    exact .inr (inR_t.1 h.1.1)
def ap1 (p : List PlaneT × ColorMapT) (x : ChangeT) : List PlaneT × ColorMapT := if x.Plane < 0 then (p.1, x.Color) else (p.1.set x.Plane.toNat x.Value, p.2)
def apAll (p : List PlaneT × ColorMapT) (l : List ChangeT) : List PlaneT × ColorMapT := l.foldl ap1 p
def okSt (p : List PlaneT × ColorMapT) : Prop := smPlaneS p.1 ∧ smColorMap p.2
theorem ap1_ok {p : List PlaneT × ColorMapT} (hp : okSt p) {x : ChangeT} (hx : smChange x) : okSt (ap1 p x) := by
  unfold ap1
  split
  · exact ⟨hp.1, hx.2⟩
  · exact ⟨⟨by show (p.1.set _ _).length ≤ 1048576; rw [List.length_set]; exact hp.1.1, fun y hy => (List.mem_or_eq_of_mem_set hy).elim (hp.1.2 y) (fun e => e ▸ hx.1)⟩, hp.2⟩
theorem ap1_len (p : List PlaneT × ColorMapT) (x : ChangeT) : (ap1 p x).1.length = p.1.length := by
  unfold ap1
  split
  · rfl
  · exact List.length_set
theorem apAll_ok : ∀ (l : List ChangeT) (p : List PlaneT × ColorMapT), okSt p → (∀ x ∈ l, smChange x) → okSt (apAll p l)
  | [], _, h, _ => h
  | x :: l, p, h, hl => apAll_ok l (ap1 p x) (ap1_ok h (hl x (by simp))) (fun y hy => hl y (by simp [hy]))
theorem applyLoop (c : CrtcT) (list : List ChangeT) (hc : smCrtc c) (hl : smChangeS list) : ∀ (j k : Nat) (p : List PlaneT × ColorMapT), k + j = list.length → p.1.length = 4 → okSt p →
    loopO (fun x => impl_TestChanges_L0 c list x.1 x.2.1 x.2.2.1 x.2.2.2) (p.1, p.2.Matrix, p.2.Curve, (k : Int)) = some (if (list.drop k).all chB then .inl ((apAll p (list.drop k)).1, (apAll p (list.drop k)).2.Matrix, (apAll p (list.drop k)).2.Curve) else .inr (c, false)) := by
  have hll : list.length ≤ 1048576 := hl.1
  intro j
  induction j with
  | zero =>
    intro k p hk h4 hp
    obtain rfl : k = list.length := by omega
    rw [List.drop_length]
    refine loopO_inr ?_
    show impl_TestChanges_L0 c list _ _ _ _ = _
    unfold impl_TestChanges_L0
    rw [ifO_neg (by simp)]; rfl
  | succ j ih =>
    intro k p hk h4 hp
    have hlt : k < list.length := by omega
    have hx : smChange list[k] := hl.2 _ (List.getElem_mem hlt)
    have e1 := i_ChangeOk list[k] hx
    have hcd : decide ((k : Int) < (list.length : Int)) = true := by simpa using hlt
    rw [List.drop_eq_getElem_cons hlt, List.all_cons]
    cases hb : chB list[k] with
    | false =>
      rw [hb] at e1
      refine loopO_inr ?_
      show impl_TestChanges_L0 c list _ _ _ k = _
      simp only [impl_TestChanges_L0, hcd, ifO_true, idx_lt hlt, bnd_s, e1, Bool.not_false, i_copyCrtc c hc, Bool.false_and, Bool.false_eq_true, if_false]
    | true =>
      rw [hb] at e1
      have hpl := chB_at hb
      have hstep : impl_TestChanges_L0 c list p.1 p.2.Matrix p.2.Curve k = some (.inl ((ap1 p list[k]).1, (ap1 p list[k]).2.Matrix, (ap1 p list[k]).2.Curve, ((k + 1 : Nat) : Int))) := by
        generalize hxx : list[k] = x at *
        by_cases hneg : x.Plane < 0
        · simp only [impl_TestChanges_L0, hcd, ifO_true, idx_lt hlt, hxx, bnd_s, e1, Bool.not_true, ifO_false, decide_eq_true hneg, i_copyColor _ hx.2, ap1, if_pos hneg]
          rw [wr_succ (by omega)]
        · have hu : upd p.1 x.Plane x.Value = some (p.1.set x.Plane.toNat x.Value) := if_pos ⟨by omega, by omega⟩
          have hcp : impl_copyPlanes [x.Value] = some [x.Value] := i_copyPlanes _ ⟨by simp, fun y hy => by rw [List.mem_singleton.1 hy]; exact hx.1⟩
          have i0 : idx [x.Value] 0 = some x.Value := rfl
          simp only [impl_TestChanges_L0, hcd, ifO_true, idx_lt hlt, hxx, bnd_s, e1, Bool.not_true, ifO_false, decide_eq_false hneg, hcp, i0, hu, ap1, if_neg hneg]
          rw [wr_succ (by omega)]
      rw [loopO_inl (f := fun x => impl_TestChanges_L0 c list x.1 x.2.1 x.2.2.1 x.2.2.2) hstep, ih (k + 1) (ap1 p list[k]) (by omega) (by rw [ap1_len]; exact h4) (ap1_ok hp hx), Bool.true_and]
      rfl
theorem crtcB_four {c : CrtcT} (h : smCrtc c) (hb : crtcB c = true) : c.Planes.length = 4 := by
  unfold crtcB at hb; rw [dif_pos h] at hb
  obtain ⟨p, q, r, s, e, _⟩ := ((Classical.choose_spec (CrtcOk_eq c h)).2.2 hb).1
  rw [e]; rfl
def stOf (c : CrtcT) (p : List PlaneT × ColorMapT) : CrtcT := CrtcT.mk c.W c.H p.1 p.2
noncomputable def tcs (c : CrtcT) (l : List ChangeT) : CrtcT × Bool := if crtcB c = true ∧ l.all chB = true ∧ crtcB (stOf c (apAll (c.Planes, c.Color) l)) = true then (stOf c (apAll (c.Planes, c.Color) l), true) else (c, false)
theorem i_TestChanges (c : CrtcT) (l : List ChangeT) (hc : smCrtc c) (hl : smChangeS l) : impl_TestChanges c l = some (tcs c l) := by
  unfold impl_TestChanges tcs
  rw [i_copyCrtc c hc, bnd_s, i_CrtcOk c hc, bnd_s]
  cases hb : crtcB c with
  | false => rw [if_neg (by simp)]; rfl
  | true =>
    have h4 := crtcB_four hc hb
    have hlp := applyLoop c l hc hl l.length 0 (c.Planes, c.Color) (by omega) h4 ⟨hc.1, hc.2⟩
    rw [List.drop_zero] at hlp
    have hlp' : loopO (fun x => impl_TestChanges_L0 c l x.1 x.2.1 x.2.2.1 x.2.2.2) (c.Planes, c.Color.Matrix, c.Color.Curve, 0) = _ := hlp
    rw [Bool.not_true, ifO_false, hlp', bnd_s]
    cases ha : l.all chB with
    | false => rw [if_neg (by simp)]; rfl
    | true =>
      have hs := apAll_ok l (c.Planes, c.Color) ⟨hc.1, hc.2⟩ hl.2
      have hsm : smCrtc (stOf c (apAll (c.Planes, c.Color) l)) := ⟨hs.1, hs.2⟩
      rw [if_pos rfl, fork_inl]
      simp only []
      rw [show CrtcT.mk c.W c.H (apAll (c.Planes, c.Color) l).1 (ColorMapT.mk (apAll (c.Planes, c.Color) l).2.Matrix (apAll (c.Planes, c.Color) l).2.Curve) = stOf c (apAll (c.Planes, c.Color) l) from rfl, i_CrtcOk _ hsm, bnd_s]
      cases crtcB (stOf c (apAll (c.Planes, c.Color) l)) with
      | false => rw [if_neg (by simp), Bool.not_false, ifO_true]; rfl
      | true => rw [if_pos (by simp)]; rfl
theorem tcs_sm {c : CrtcT} {l : List ChangeT} (hc : smCrtc c) (hl : ∀ x ∈ l, smChange x) : smCrtc (tcs c l).1 := by
  unfold tcs
  split
  · have hs := apAll_ok l (c.Planes, c.Color) ⟨hc.1, hc.2⟩ hl
    exact ⟨hs.1, hs.2⟩
  · exact hc
theorem samePl_self (p : PlaneT) : samePl p p = true := by simp [samePl, eqInts]
theorem same_self (c : CrtcT) (h : smCrtc c) : impl_SameCrtc c c = some true := by
  have hl : c.Planes.length ≤ 1048576 := h.1.1
  have h2 := allLoop (L := fun k => slices_EqualFunc_S_impl_Plane_S_impl_Plane_impl_Plane_impl_Plane_L0 c.Planes c.Planes impl_samePlane k) c.Planes.length (by omega) (fun _ => true) false (fun k hk _ => by
    show slices_EqualFunc_S_impl_Plane_S_impl_Plane_impl_Plane_impl_Plane_L0 c.Planes c.Planes impl_samePlane k = _
    simp only [slices_EqualFunc_S_impl_Plane_S_impl_Plane_impl_Plane_impl_Plane_L0, idx_lt hk, bnd_s, i_SamePlane _ _ (h.1.2 _ (List.getElem_mem hk)), samePl_self]
    rw [ifO_pos (by simpa using hk)]; rfl) (fun k hk h => by cases h) (by simp [slices_EqualFunc_S_impl_Plane_S_impl_Plane_impl_Plane_impl_Plane_L0])
  have hcol : sameCol c.Color c.Color = true := by simp [sameCol, eqInts]
  have he : slices_EqualFunc_S_impl_Plane_S_impl_Plane_impl_Plane_impl_Plane c.Planes c.Planes impl_samePlane = some true := by
    unfold slices_EqualFunc_S_impl_Plane_S_impl_Plane_impl_Plane_impl_Plane
    rw [ifO_neg (by simp), h2, if_pos (by simp), bnd_s, fork_inl]
  simp only [impl_SameCrtc, he, i_SameColor _ _ h.2, hcol, bnd_s, andO_some]
  simp
theorem ap1_comm {x y : ChangeT} (h : x.Plane ≠ y.Plane) (hx : chB x = true) (hy : chB y = true) (p : List PlaneT × ColorMapT) : ap1 (ap1 p x) y = ap1 (ap1 p y) x := by
  have h1 := chB_at hx
  have h2 := chB_at hy
  unfold ap1
  by_cases a : x.Plane < 0
  · have b : ¬ y.Plane < 0 := by omega
    simp only [if_pos a, if_neg b]
  · by_cases b : y.Plane < 0
    · simp only [if_neg a, if_pos b]
    · simp only [if_neg a, if_neg b]
      rw [List.set_comm _ _ (by omega)]
end Go.Proofs.YtmhalmnbgkpmnaaGreat
