/- The law about the changes that lead from a state to another. -/
import Derived.Test.YtmhalmnbgkpmnaaPChg
namespace Go.Proofs.Ytmhalmnbgkpmnaa
open Go.RowKit K
theorem szPlaneS_less {xs : List PlaneT} (o : (xs.length ≤ 9223372036854775807 ∧ ∀ y ∈ xs, okPlane y)) {left v : Int} (h0 : 0 ≤ left) (h1 : left ≤ 1048576) (h : laws_szPlaneS xs left = some v) (hv : 0 ≤ v) : v + xs.length ≤ left := by
  simp only [laws_szPlaneS] at h
  rw [wr_left h0 h1 o.1] at h
  by_cases hn : left - (xs.length : Int) < 0
  · rw [ifO_pos (by simpa using hn)] at h
    have := Option.some.inj h
    omega
  rw [ifO_neg (by simpa using hn)] at h
  have hl := o.1
  obtain ⟨y, hy, hor⟩ := szLoop (L := fun (left, i) => laws_szPlaneS_L0 xs left i) xs laws_szPlane smPlane (by omega) (fun k hk left => by
    simp only [laws_szPlaneS_L0, idx_lt hk, bnd_s]
    rw [ifO_pos (by simpa using hk)]) (fun left => by simp [laws_szPlaneS_L0]) (fun x hx => szPlane_ok x (o.2 x hx)) (left - xs.length) (by omega) (by omega)
  rw [hy, bnd_s] at h
  rcases hor with ⟨u, rfl, hv0, hv1, hall⟩ | rfl
  · have := Option.some.inj h
    omega
  · have := Option.some.inj h
    omega
theorem FnExactChangesFor_true (c : CrtcT) (p : List PlaneT) (m : ColorMapT) (oc : okCrtc c) (op : p.length ≤ 9223372036854775807 ∧ ∀ y ∈ p, okPlane y) (om : okColorMap m) : laws_FnExactChangesFor c p m = some true := by
  obtain ⟨v, hv, hv1, hb⟩ := szCrtc_ok c oc 1048576 (by decide) (by decide)
  simp only [laws_FnExactChangesFor, hv, bnd_s]
  by_cases hneg : v < 0
  · rw [ifO_pos (by simpa using hneg)]
  have hc := hb (by omega)
  rw [ifO_neg (by simpa using hneg)]
  obtain ⟨v2, hv2, hv3, hb2⟩ := szPlaneS_ok p op v (by omega) hv1
  rw [hv2, bnd_s]
  by_cases hneg2 : v2 < 0
  · rw [ifO_pos (by simpa using hneg2)]
  have hp := hb2 (by omega)
  rw [ifO_neg (by simpa using hneg2)]
  obtain ⟨v4, hv4, _, hb4⟩ := szColorMap_ok m om v2 (by omega) (by omega)
  rw [hv4, bnd_s]
  by_cases hneg4 : v4 < 0
  · rw [ifO_pos (by simpa using hneg4)]
  have hm := hb4 (by omega)
  rw [ifO_neg (by simpa using hneg4)]
  have h1 := s_ChangesFor c p m hc hp hm
  have h2 := i_ChangesFor c p m hc hp hm
  have hpl : c.Planes.length + p.length ≤ 1048576 := by
    obtain ⟨u, hu, hu1, _⟩ := szPlaneS_ok c.Planes oc.2.2.1 1048576 (by decide) (by decide)
    have hcv := hv
    unfold laws_szCrtc at hcv
    rw [hu, bnd_s] at hcv
    by_cases hun : u < 0
    · rw [ifO_pos (by simpa using hun)] at hcv
      have := Option.some.inj hcv
      omega
    rw [ifO_neg (by simpa using hun)] at hcv
    obtain ⟨t, ht, ht1, _⟩ := szColorMap_ok c.Color oc.2.2.2 u (by omega) hu1
    rw [ht, bnd_s] at hcv
    have k1 := szPlaneS_less oc.2.2.1 (by decide) (by decide) hu (by omega)
    have k2 := szPlaneS_less op (by omega) hv1 hv2 (by omega)
    by_cases htn : t < 0
    · rw [ifO_pos (by simpa using htn)] at hcv
      have := Option.some.inj hcv
      omega
    rw [ifO_neg (by simpa using htn)] at hcv
    have := Option.some.inj hcv
    omega
  obtain ⟨q0, q1, q2⟩ := chgFor_sm c p m hp hm
  generalize chgFor c p m = r at *
  have hr : smChangeS r := ⟨by omega, q2⟩
  have b1 := nPlaneS_le hc.1
  have b2 := nIntS_le hc.2.1
  have b3 := nIntS_le hc.2.2
  have b4 := nPlaneS_le hp
  have b5 := nIntS_le hm.1
  have b6 := nIntS_le hm.2
  have b7 := nChangeS_le hr
  have m1 : mCrtc c ≤ 2000000000000000 := by unfold mCrtc; omega
  have m2 : mColorMap m ≤ 2000000000000000 := by unfold mColorMap; omega
  obtain ⟨y0, y1, y2, a0⟩ := mkCrtc c hc 1 (by decide) (by omega)
  obtain ⟨z0, a1⟩ := mkPlaneS p hp (1 + (mCrtc c : Nat)) (by omega) (by omega)
  obtain ⟨u0, u1, a2⟩ := mkColorMap m hm (1 + (mCrtc c : Nat) + (nPlaneS p : Nat)) (by omega) (by omega)
  obtain ⟨x0, a3, d3⟩ := mhChangeS r hr 1 (by decide) (by omega)
  have n1 : ¬ (1 + (mCrtc c : Int) + (nPlaneS p : Int) + (mColorMap m : Int) < 0) := by omega
  have n2 : ¬ (1 + (nChangeS r : Int) < 0) := by omega
  simp [toCrtc_eq c hc, toPlaneS_eq p hp, toColorMap_eq m hm, h1, h2, eqCrtc_self c hc, eqPlaneS_self p hp, eqColorMap_self m hm, eqChangeS_self r hr, a0, a1, a2, a3, d3, n1, n2, orO]
end Go.Proofs.Ytmhalmnbgkpmnaa
