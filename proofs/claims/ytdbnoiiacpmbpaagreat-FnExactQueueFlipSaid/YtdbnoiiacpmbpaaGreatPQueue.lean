/- A flip put in. -/
import Derived.Test.YtdbnoiiacpmbpaaGreatPFlips
import Derived.Test.YtdbnoiiacpmbpaaGreatPCopies
namespace Go.Proofs.YtdbnoiiacpmbpaaGreat
open Go.RowKit K
theorem s_copyFlips (f : FlipsT) (h : smFlips f) : spec_l23Copy f = some f := by
  have hl : f.Pending.length ≤ 1048576 := h.1.1
  have h1 : f.Signalled.length ≤ 1048576 := h.2.1
  have h2 : f.Events.length ≤ 1048576 := h.2.2
  have := copyLoop (L := fun x => spec_l23Copy_L0 f x.1 x.2) f.Pending hl (fun k hk out ho => by
    show spec_l23Copy_L0 f out k = _
    unfold spec_l23Copy_L0 spec_l23CopyFlip
    rw [ifO_pos (by simpa using hk), idx_lt hk, bnd_s, s_copyCrtc _ (smPend h hk), bnd_s, bnd_s, app_le (by simp only [List.length_singleton]; omega), bnd_s, wr_succ (by omega)]) (fun out => by
    show spec_l23Copy_L0 f out _ = _
    unfold spec_l23Copy_L0
    rw [ifO_neg (by simp)])
  simp only [spec_l23Copy, appI h1, appI h2, bnd_s]
  rw [this]; rfl
theorem i_copyFlips (f : FlipsT) (h : smFlips f) : impl_copyFlips f = some f := by
  have hl : f.Pending.length ≤ 1048576 := h.1.1
  have h1 : f.Signalled.length ≤ 1048576 := h.2.1
  have h2 : f.Events.length ≤ 1048576 := h.2.2
  have := copyLoop (L := fun x => impl_copyFlips_L0 f x.1 x.2) f.Pending hl (fun k hk out ho => by
    show impl_copyFlips_L0 f out k = _
    unfold impl_copyFlips_L0
    rw [ifO_pos (by simpa using hk), idx_lt hk, bnd_s, i_copyCrtc _ (smPend h hk), bnd_s, app_le (by simp only [List.length_singleton]; omega), bnd_s, wr_succ (by omega)]) (fun out => by
    show impl_copyFlips_L0 f out _ = _
    unfold impl_copyFlips_L0
    rw [ifO_neg (by simp)])
  simp only [impl_copyFlips, cloneI h1, cloneI h2, bnd_s]
  rw [this]; rfl
theorem QueueFlip_eq (f : FlipsT) (c : CrtcT) (n : Int) (h : smFlips f) (hc : smCrtc c) : ∃ g b, spec_QueueFlip f c n = some (g, b) ∧ impl_QueueFlip f c n = some (g, b) ∧ smFlips g := by
  simp only [spec_QueueFlip, impl_QueueFlip, s_FlipsOk f h, i_FlipsOk f h, s_copyFlips f h, i_copyFlips f h, s_copyCrtc c hc, i_copyCrtc c hc, bnd_s]
  cases hb : flipsB f with
  | false => exact ⟨f, false, rfl, rfl, h⟩
  | true =>
    have ht := flipsB_t h hb
    have ha : app f.Pending [FlipT.mk f.Next n c] = some (f.Pending ++ [FlipT.mk f.Next n c]) := app_le (by simp only [List.length_singleton]; omega)
    have hs : smFlips (FlipsT.mk (f.Pending ++ [FlipT.mk f.Next n c]) f.Signalled (wr (f.Next + 1)) f.Events) := by
      refine ⟨⟨by simp only [List.length_append, List.length_singleton]; omega, fun x hx => ?_⟩, h.2⟩
      rcases List.mem_append.1 hx with hx | hx
      · exact h.1.2 x hx
      · rw [List.mem_singleton.1 hx]; exact hc
    simp only [ha, bnd_s, s_FlipsOk _ hs, i_FlipsOk _ hs, Bool.not_true, ifO_false]
    cases flipsB (FlipsT.mk (f.Pending ++ [FlipT.mk f.Next n c]) f.Signalled (wr (f.Next + 1)) f.Events) with
    | false => exact ⟨f, false, rfl, rfl, h⟩
    | true => exact ⟨_, true, rfl, rfl, hs⟩
theorem FnExactQueueFlip_true (f : FlipsT) (c : CrtcT) (n : Int) (of : okFlips f) (oc : okCrtc c) (_ : I64 n) : laws_FnExactQueueFlip f c n = some true := by
  obtain ⟨v, hv, hv1, hb⟩ := szFlips_ok f of 1048576 (by decide) (by decide)
  simp only [laws_FnExactQueueFlip, hv, bnd_s]
  by_cases hneg : v < 0
  · rw [ifO_pos (by simpa using hneg)]
  · have hs := hb (by omega)
    rw [ifO_neg (by simpa using hneg)]
    obtain ⟨v2, hv2, _, hb2⟩ := szCrtc_ok c oc v (by omega) hv1
    rw [hv2, bnd_s]
    by_cases hneg2 : v2 < 0
    · rw [ifO_pos (by simpa using hneg2)]
    · have hc := hb2 (by omega)
      rw [ifO_neg (by simpa using hneg2)]
      obtain ⟨r, b, h1, h2, hr⟩ := QueueFlip_eq f c n hs hc
      have b1 := nFlipS_le hs.1
      have b2 := nIntS_le hs.2.1
      have b3 := nIntS_le hs.2.2
      have b4 := nPlaneS_le hc.1
      have b5 := nIntS_le hc.2.1
      have b6 := nIntS_le hc.2.2
      have b7 := nFlipS_le hr.1
      have b8 := nIntS_le hr.2.1
      have b9 := nIntS_le hr.2.2
      have m1 : mFlips f ≤ 2000000000000000000 := by unfold mFlips; omega
      have m2 : mCrtc c ≤ 2000000000000000000 := by unfold mCrtc; omega
      have m3 : mFlips r ≤ 2000000000000000000 := by unfold mFlips; omega
      obtain ⟨y0, y1, y2, a0⟩ := mkFlips f hs 1 (by decide) (by omega)
      obtain ⟨z0, z1, z2, a1⟩ := mkCrtc c hc (1 + (mFlips f : Nat)) (by omega) (by omega)
      obtain ⟨x0, x1, x2, a2, d2⟩ := mhFlips r hr 1 (by decide) (by omega)
      have n1 : ¬ (1 + (mFlips f : Int) + (mCrtc c : Int) < 0) := by omega
      have n2 : ¬ (1 + (mFlips r : Int) < 0) := by omega
      simp [toFlips_eq f hs, toCrtc_eq c hc, h1, h2, eqFlips_self f hs, eqCrtc_self c hc, eqFlips_self r hr, a0, a1, a2, d2, n1, n2, orO]
end Go.Proofs.YtdbnoiiacpmbpaaGreat
