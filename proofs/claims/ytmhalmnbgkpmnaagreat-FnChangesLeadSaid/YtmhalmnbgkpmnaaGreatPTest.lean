/- Changes made to a state. -/
import Derived.Test.YtmhalmnbgkpmnaaGreatPCrtc
import Derived.Test.YtmhalmnbgkpmnaaGreatPCopies
namespace Go.Proofs.YtmhalmnbgkpmnaaGreat
open Go.RowKit K
theorem s_ZeroV (p : PlaneT) : ∃ b, spec_l19Zero p = some b := ⟨_, rfl⟩
theorem ChangeOk_eq2 (x : ChangeT) : ∃ b, spec_ChangeOk x = some b ∧ impl_ChangeOk x = some b ∧ (b = true → x.Plane = -1 ∨ (0 ≤ x.Plane ∧ x.Plane ≤ 3)) := by
  simp only [spec_ChangeOk, impl_ChangeOk, l01In_eq, within_eq, bnd_s]
  by_cases h1 : x.Plane = -1
  · have h2 : inR x.Plane (-1) 3 = true := inR_t.2 (by omega)
    rw [h2, ifO_neg (by rfl), ifO_pos (c := decide (x.Plane < 0)) (by simp; omega), ifO_pos (by simpa using h1)]
    cases hon : x.Value.On with
    | false =>
      obtain ⟨b, e1, e2⟩ := s_Zero x.Value hon
      rw [e1, e2]
      exact ⟨b, by simp, rfl, fun _ => .inl h1⟩
    | true =>
      obtain ⟨b, e1⟩ := s_ZeroV x.Value
      rw [e1]
      refine ⟨false, by simp, ?_, by simp⟩
      unfold impl_samePlane
      rw [hon]
      rfl
  · rw [ifO_neg (c := decide (x.Plane = -1)) (by simpa using h1)]
    by_cases h2 : inR x.Plane (-1) 3 = true
    · have h3 := inR_t.1 h2
      have h4 : inR x.Plane 0 3 = true := inR_t.2 (by omega)
      rw [h2, h4, ifO_neg (by rfl), ifO_neg (c := decide (x.Plane < 0)) (by simp; omega)]
      exact ⟨_, rfl, by simp, fun _ => .inr (by omega)⟩
    · have h3 : inR x.Plane (-1) 3 = false := by simpa using h2
      have h4 : inR x.Plane 0 3 = false := inR_f.2 (fun hh => inR_f.1 h3 (by omega))
      rw [h3, h4, ifO_pos (by rfl)]
      exact ⟨false, rfl, rfl, by simp⟩
theorem testLoop (c : CrtcT) (list : List ChangeT) (hc : smCrtc c) (hl : smChangeS list) : ∀ (j k : Nat) (out : List PlaneT) (o1 o2 : List Int), k + j = list.length → out.length = 4 → smPlaneS out → smIntS o1 → smIntS o2 →
    ∃ y, loopO (fun (out, o1, o2, k) => spec_TestChanges_L0 c list out o1 o2 k) (out, o1, o2, (k : Int)) = some y ∧ loopO (fun (out, o1, o2, k) => impl_TestChanges_L0 c list out o1 o2 k) (out, o1, o2, (k : Int)) = some y
      ∧ ((∃ p q r, y = .inl (p, q, r) ∧ smPlaneS p ∧ smIntS q ∧ smIntS r) ∨ y = .inr (c, false)) := by
  have hll : list.length ≤ 1048576 := hl.1
  intro j
  induction j with
  | zero =>
    intro k out o1 o2 hk h4 hp h1 h2
    obtain rfl : k = list.length := by omega
    refine ⟨.inl (out, o1, o2), loopO_inr ?_, loopO_inr ?_, .inl ⟨out, o1, o2, rfl, hp, h1, h2⟩⟩
    · show spec_TestChanges_L0 c list out o1 o2 _ = _
      unfold spec_TestChanges_L0
      rw [ifO_neg (by simp)]
    · show impl_TestChanges_L0 c list out o1 o2 _ = _
      unfold impl_TestChanges_L0
      rw [ifO_neg (by simp)]
  | succ j ih =>
    intro k out o1 o2 hk h4 hp h1 h2
    have hlt : k < list.length := by omega
    have hx : smChange list[k] := hl.2 _ (List.getElem_mem hlt)
    obtain ⟨b, e1, e2, e3⟩ := ChangeOk_eq2 list[k]
    have hcd : decide ((k : Int) < (list.length : Int)) = true := by simpa using hlt
    cases b with
    | false =>
      refine ⟨.inr (c, false), loopO_inr ?_, loopO_inr ?_, .inr rfl⟩
      · show spec_TestChanges_L0 c list out o1 o2 k = _
        simp only [spec_TestChanges_L0, hcd, ifO_true, idx_lt hlt, bnd_s, e1, Bool.not_false, s_copyCrtc c hc]
      · show impl_TestChanges_L0 c list out o1 o2 k = _
        simp only [impl_TestChanges_L0, hcd, ifO_true, idx_lt hlt, bnd_s, e2, Bool.not_false, i_copyCrtc c hc]
    | true =>
      generalize hxx : list[k] = x at *
      have hxv : smPlane x.Value := hx.1
      have hxc : smColorMap x.Color := hx.2
      by_cases hneg : x.Plane < 0
      · have hs : spec_TestChanges_L0 c list out o1 o2 k = some (.inl (out, x.Color.Matrix, x.Color.Curve, ((k + 1 : Nat) : Int))) := by
          simp only [spec_TestChanges_L0, hcd, ifO_true, idx_lt hlt, hxx, bnd_s, e1, Bool.not_true, ifO_false, decide_eq_true hneg, s_copyColor _ hxc]
          rw [wr_succ (by omega)]
        have hi : impl_TestChanges_L0 c list out o1 o2 k = some (.inl (out, x.Color.Matrix, x.Color.Curve, ((k + 1 : Nat) : Int))) := by
          simp only [impl_TestChanges_L0, hcd, ifO_true, idx_lt hlt, hxx, bnd_s, e2, Bool.not_true, ifO_false, decide_eq_true hneg, i_copyColor _ hxc]
          rw [wr_succ (by omega)]
        rw [@loopO_inl _ _ (fun (out, o1, o2, k) => spec_TestChanges_L0 c list out o1 o2 k) (out, o1, o2, (k : Int)) _ hs, @loopO_inl _ _ (fun (out, o1, o2, k) => impl_TestChanges_L0 c list out o1 o2 k) (out, o1, o2, (k : Int)) _ hi]
        exact ih (k + 1) _ _ _ (by omega) h4 hp hxc.1 hxc.2
      · have hpl : 0 ≤ x.Plane ∧ x.Plane ≤ 3 := by rcases e3 rfl with h | h <;> omega
        have hu : upd out x.Plane x.Value = some (out.set x.Plane.toNat x.Value) := if_pos ⟨hpl.1, by omega⟩
        have hcp : impl_copyPlanes [x.Value] = some [x.Value] := i_copyPlanes _ ⟨by simp, fun y hy => by rw [List.mem_singleton.1 hy]; exact hxv⟩
        have i0 : idx [x.Value] 0 = some x.Value := rfl
        have hs : spec_TestChanges_L0 c list out o1 o2 k = some (.inl (out.set x.Plane.toNat x.Value, o1, o2, ((k + 1 : Nat) : Int))) := by
          simp only [spec_TestChanges_L0, hcd, ifO_true, idx_lt hlt, hxx, bnd_s, e1, Bool.not_true, ifO_false, decide_eq_false hneg, s_copyPlane _ hxv, hu]
          rw [wr_succ (by omega)]
        have hi : impl_TestChanges_L0 c list out o1 o2 k = some (.inl (out.set x.Plane.toNat x.Value, o1, o2, ((k + 1 : Nat) : Int))) := by
          simp only [impl_TestChanges_L0, hcd, ifO_true, idx_lt hlt, hxx, bnd_s, e2, Bool.not_true, ifO_false, decide_eq_false hneg, hcp, i0, hu]
          rw [wr_succ (by omega)]
        rw [@loopO_inl _ _ (fun (out, o1, o2, k) => spec_TestChanges_L0 c list out o1 o2 k) (out, o1, o2, (k : Int)) _ hs, @loopO_inl _ _ (fun (out, o1, o2, k) => impl_TestChanges_L0 c list out o1 o2 k) (out, o1, o2, (k : Int)) _ hi]
        refine ih (k + 1) _ _ _ (by omega) (by simpa using h4) ⟨by simpa using hp.1, fun y hy => ?_⟩ h1 h2
        rcases List.mem_or_eq_of_mem_set hy with h | rfl
        · exact hp.2 y h
        · exact hxv
theorem crtcB_good {c : CrtcT} (h : smCrtc c) (hb : crtcB c = true) : goodPlanes c.Planes c.W c.H := by
  unfold crtcB at hb; rw [dif_pos h] at hb; exact ((Classical.choose_spec (CrtcOk_eq c h)).2.2 hb).1
theorem TestChanges_eq (c : CrtcT) (list : List ChangeT) (hc : smCrtc c) (hl : smChangeS list) : ∃ r b, spec_TestChanges c list = some (r, b) ∧ impl_TestChanges c list = some (r, b) ∧ smCrtc r := by
  simp only [spec_TestChanges, impl_TestChanges, s_CrtcOk c hc, i_CrtcOk c hc, s_copyCrtc c hc, i_copyCrtc c hc, bnd_s]
  cases hb : crtcB c with
  | false => exact ⟨c, false, rfl, rfl, hc⟩
  | true =>
    have h4 : c.Planes.length = 4 := by
      obtain ⟨p, q, r, s, e, _⟩ := crtcB_good hc hb
      rw [e]; rfl
    obtain ⟨y, r1, r2, r3⟩ := testLoop c list hc hl list.length 0 c.Planes c.Color.Matrix c.Color.Curve (by omega) h4 hc.1 hc.2.1 hc.2.2
    rw [show ((0 : Nat) : Int) = 0 from rfl] at r1 r2
    simp only [] at r1 r2
    simp only [Bool.not_true, ifO_false]
    rw [r1, r2]
    rcases r3 with ⟨p, q, r, rfl, hp, hq, hr⟩ | rfl
    · have hs : smCrtc (CrtcT.mk c.W c.H p (ColorMapT.mk q r)) := ⟨hp, hq, hr⟩
      simp only [bnd_s, fork_inl, s_CrtcOk _ hs, i_CrtcOk _ hs]
      cases crtcB (CrtcT.mk c.W c.H p (ColorMapT.mk q r)) with
      | false => exact ⟨c, false, rfl, rfl, hc⟩
      | true => exact ⟨_, true, rfl, rfl, hs⟩
    · exact ⟨c, false, rfl, rfl, hc⟩
end Go.Proofs.YtmhalmnbgkpmnaaGreat
