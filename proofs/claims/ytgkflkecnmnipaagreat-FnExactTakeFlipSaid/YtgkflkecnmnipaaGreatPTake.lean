/- The first flip taken. -/
import Derived.Test.YtgkflkecnmnipaaGreatPReady
import Derived.Test.YtgkflkecnmnipaaGreatPCopyFlips
namespace Go.Proofs.YtgkflkecnmnipaaGreat
open Go.RowKit K
theorem ready_t {f : FlipsT} (h : smFlips f) (hr : spec_FlipReady f = some true) : 0 < f.Pending.length ∧ flipsB f = true := by
  simp only [spec_FlipReady, s_FlipsOk f h, bnd_s] at hr
  cases hb : flipsB f with
  | false => rw [hb] at hr; simp [andO] at hr
  | true =>
    refine ⟨?_, rfl⟩
    rcases Nat.eq_zero_or_pos f.Pending.length with h0 | h0
    · rw [hb, h0] at hr; simp [andO] at hr
    · exact h0
theorem TakeFlip_eq (f : FlipsT) (c : CrtcT) (h : smFlips f) (hc : smCrtc c) : ∃ g d b, spec_TakeFlip f c = some (g, d, b) ∧ impl_TakeFlip f c = some (g, d, b) ∧ smFlips g ∧ smCrtc d := by
  obtain ⟨b, r1, r2⟩ := FlipReady_eq f h
  simp only [spec_TakeFlip, impl_TakeFlip, r1, r2, s_copyFlips f h, i_copyFlips f h, s_copyCrtc c hc, i_copyCrtc c hc, bnd_s]
  cases b with
  | false => exact ⟨f, c, false, rfl, rfl, h, hc⟩
  | true =>
    obtain ⟨h0, hb⟩ := ready_t h r1
    obtain ⟨p1, p2, p3, p4, p5, p6⟩ := flipsB_in hb
    have hev := asc_len p6
    have hl : f.Pending.length ≤ 1048576 := h.1.1
    have i0 : idx f.Pending 0 = some f.Pending[0] := idx_lt (k := 0) h0
    have s0 : subO f.Pending 1 f.Pending.length = some (f.Pending.drop 1) := by
      rw [subO, if_pos ⟨by omega, by omega, by omega⟩]
      simp
    have a0 : app f.Events [f.Pending[0].Seq] = some (f.Events ++ [f.Pending[0].Seq]) := app_le (by simp only [List.length_singleton]; omega)
    have a1 : app ([] : List FlipT) (f.Pending.drop 1) = some (f.Pending.drop 1) := by
      rw [app_le (by simp only [List.length_nil, List.length_drop]; omega)]; rfl
    simp only [i0, s0, a0, a1, bnd_s, Bool.not_true, ifO_false]
    refine ⟨_, _, true, rfl, rfl, ⟨⟨by rw [List.length_drop]; omega, fun x hx => h.1.2 x (List.mem_of_mem_drop hx)⟩, h.2.1, ?_⟩, h.1.2 _ (List.getElem_mem h0)⟩
    show (f.Events ++ [f.Pending[0].Seq]).length ≤ 1048576
    simp only [List.length_append, List.length_singleton]
    omega
theorem FnExactTakeFlip_true (f : FlipsT) (c : CrtcT) (of : okFlips f) (oc : okCrtc c) : laws_FnExactTakeFlip f c = some true := by
  obtain ⟨v, hv, hv1, hb⟩ := szFlips_ok f of 1048576 (by decide) (by decide)
  simp only [laws_FnExactTakeFlip, hv, bnd_s]
  by_cases hneg : v < 0
  · rw [ifO_pos (by simpa using hneg)]
  · have hs := hb (by omega)
    rw [ifO_neg (by simpa using hneg)]
    obtain ⟨v2, hv2, _, hb2⟩ := szCrtc_ok c oc v (by omega) hv1
    rw [hv2, bnd_s]
    by_cases hneg2 : v2 < 0
    · rw [ifO_pos (by simpa using hneg2)]
    · have hc := hb2 (by omega)
      rw [ifO_neg (by simpa using hneg2)]
      obtain ⟨r, d, b, h1, h2, hr, hd⟩ := TakeFlip_eq f c hs hc
      have b1 := nFlipS_le hs.1
      have b2 := nIntS_le hs.2.1
      have b3 := nIntS_le hs.2.2
      have b4 := nPlaneS_le hc.1
      have b5 := nIntS_le hc.2.1
      have b6 := nIntS_le hc.2.2
      have b7 := nFlipS_le hr.1
      have b8 := nIntS_le hr.2.1
      have b9 := nIntS_le hr.2.2
      have b10 := nPlaneS_le hd.1
      have b11 := nIntS_le hd.2.1
      have b12 := nIntS_le hd.2.2
      have m1 : mFlips f ≤ 2000000000000000000 := by unfold mFlips; omega
      have m2 : mCrtc c ≤ 1000000000000000000 := by unfold mCrtc; omega
      have m3 : mFlips r ≤ 2000000000000000000 := by unfold mFlips; omega
      have m4 : mCrtc d ≤ 1000000000000000000 := by unfold mCrtc; omega
      obtain ⟨y0, y1, y2, a0⟩ := mkFlips f hs 1 (by decide) (by omega)
      obtain ⟨z0, z1, z2, a1⟩ := mkCrtc c hc (1 + (mFlips f : Nat)) (by omega) (by omega)
      obtain ⟨x0, x1, x2, a2, d2⟩ := mhFlips r hr 1 (by decide) (by omega)
      obtain ⟨w0, w1, w2, a3, d3⟩ := mhCrtc d hd (1 + (mFlips r : Nat)) (by omega) (by omega)
      have n1 : ¬ (1 + (mFlips f : Int) + (mCrtc c : Int) < 0) := by omega
      have n2 : ¬ (1 + (mFlips r : Int) < 0) := by omega
      have n3 : ¬ (1 + (mFlips r : Int) + (mCrtc d : Int) < 0) := by omega
      simp [toFlips_eq f hs, toCrtc_eq c hc, h1, h2, eqFlips_self f hs, eqCrtc_self c hc, eqFlips_self r hr, eqCrtc_self d hd, a0, a1, a2, a3, d2, d3, n1, n2, n3, orO]
end Go.Proofs.YtgkflkecnmnipaaGreat
