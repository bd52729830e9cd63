/- Blank images and states. -/
import Derived.Test.YtdbnoiiacpmbpaaPCrtc
import Derived.Test.YtdbnoiiacpmbpaaPPlaneOf
namespace Go.Proofs.Ytdbnoiiacpmbpaa
open Go.RowKit K
theorem Identity_same : spec_IdentityColor = impl_IdentityColor := rfl
def identC : ColorMapT := ColorMapT.mk [256, 0, 0, 0, 256, 0, 0, 0, 256] ((List.range 17).map fun k : Nat => 16 * (k : Int))
theorem s_Identity : spec_IdentityColor = some identC := by
  have h := loopO_up (f := fun x => spec_IdentityColor_L0 x.1 x.2) (fun k => ((List.range k).map fun k : Nat => 16 * (k : Int), (k : Int))) 17 ((List.range 17).map fun k : Nat => 16 * (k : Int)) (by simp [spec_IdentityColor_L0]) (fun k hk => by
    show spec_IdentityColor_L0 ((List.range k).map fun k : Nat => 16 * (k : Int)) (k : Int) = _
    unfold spec_IdentityColor_L0
    rw [ifO_pos (by simp only [decide_eq_true_eq]; omega), wr_in (n := 16 * (k : Int)) (by omega) (by omega), app_le (by simp only [List.length_map, List.length_range, List.length_singleton]; omega), bnd_s, wr_succ (by omega), List.range_succ, List.map_append]; rfl) 0 (by omega)
  unfold spec_IdentityColor
  have h' : loopO (fun x => spec_IdentityColor_L0 x.1 x.2) (([] : List Int), 0) = some ((List.range 17).map fun k : Nat => 16 * (k : Int)) := h
  rw [h']; rfl
theorem NewImage_eq (w h p : Int) : ∃ i, spec_NewImage w h p = some i ∧ impl_NewImage w h p = some i ∧ i.Data.length ≤ 256 ∧ (inR w 1 16 = true → inR h 1 16 = true → pixOk p = true → imgOk i = true ∧ i.W = w ∧ i.H = h) := by
  simp only [spec_NewImage, impl_NewImage, l01In_eq, isSide_eq, l04Pixel_eq, isPixel_eq, bnd_s, orO_some]
  cases hc : (!inR w 1 16 || !inR h 1 16 || !inR p 0 4294967295) with
  | true =>
    refine ⟨zeroImg, rfl, rfl, by simp [zeroImg], fun a b c => ?_⟩
    unfold pixOk at c
    rw [a, b, c] at hc; cases hc
  | false =>
    have hc' : inR w 1 16 = true ∧ inR h 1 16 = true ∧ pixOk p = true := by
      unfold pixOk
      revert hc; cases inR w 1 16 <;> cases inR h 1 16 <;> cases inR p 0 4294967295 <;> simp
    obtain ⟨c1, c2, c3⟩ := hc'
    have d1 := c1
    have d2 := c2
    rw [inR_t] at d1 d2
    obtain ⟨W, rfl⟩ : ∃ n : Nat, w = n := ⟨w.toNat, by omega⟩
    obtain ⟨H, rfl⟩ : ∃ n : Nat, h = n := ⟨h.toNat, by omega⟩
    have hHW : H * W ≤ 16 * 16 := Nat.mul_le_mul (by omega) (by omega)
    have e := wrWH (W := W) (H := H) (by omega) (by omega)
    have hl := loopO_up (f := fun x => spec_NewImage_L0 W H p x.1 x.2) (fun k => (List.replicate k p, (k : Int))) (H * W) (List.replicate (H * W) p)
      (by
        show spec_NewImage_L0 W H p (List.replicate (H * W) p) ((H * W : Nat) : Int) = _
        unfold spec_NewImage_L0
        rw [e, ifO_neg (by simp)])
      (fun k hk => by
        show spec_NewImage_L0 W H p (List.replicate k p) (k : Int) = _
        unfold spec_NewImage_L0
        rw [e, ifO_pos (by simp only [decide_eq_true_eq]; omega), app_le (by simp only [List.length_replicate, List.length_singleton]; omega), bnd_s, wr_succ (by omega), ← List.replicate_succ']) 0 (by omega)
    have hl' : loopO (fun x => spec_NewImage_L0 W H p x.1 x.2) (([] : List Int), 0) = some (List.replicate (H * W) p) := hl
    refine ⟨ImageT.mk W H (List.replicate (H * W) p), ?_, ?_, by simp; omega, fun _ _ _ => ⟨?_, rfl, rfl⟩⟩
    · simp only [ifO_false]; rw [hl']; rfl
    · simp only [ifO_false, slices_Repeat_S_int_int, e]
      rw [mkO_nat (by omega)]; rfl
    · unfold imgOk
      simp only [c1, c2, Bool.and_true, Bool.true_and, List.length_replicate, e, decide_true, List.all_replicate, c3]
      split <;> rfl
theorem BlankCrtc_eq (w h p : Int) : ∃ c b, spec_BlankCrtc w h p = some (c, b) ∧ impl_BlankCrtc w h p = some (c, b) ∧ smCrtc c := by
  obtain ⟨i, e1, e2, e3, _⟩ := NewImage_eq w h p
  obtain ⟨q, p1, p2, p3⟩ := PlaneOf_eq i 0 0 0 (by omega)
  have e4 : ∀ z : PlaneT, mkO 4 z = some [z, z, z, z] := fun z => rfl
  have e5 : ∀ q z : PlaneT, upd [z, z, z, z] 0 q = some [q, z, z, z] := fun q z => rfl
  have sm : smCrtc (CrtcT.mk w h [q, PlaneT.mk false 0 0 0 0 0 [] 0 0 0 0, PlaneT.mk false 0 0 0 0 0 [] 0 0 0 0, PlaneT.mk false 0 0 0 0 0 [] 0 0 0 0] identC) := by
    refine ⟨⟨by simp, fun x hx => ?_⟩, ?_, ?_⟩
    · show x.Words.length ≤ 1048576
      simp only [List.mem_cons, List.not_mem_nil, or_false] at hx
      rcases hx with rfl | rfl | rfl | rfl
      · omega
      all_goals simp
    · show ([256, 0, 0, 0, 256, 0, 0, 0, 256] : List Int).length ≤ 1048576
      simp
    · show ((List.range 17).map fun k : Nat => 16 * (k : Int)).length ≤ 1048576
      simp
  have sz : smCrtc (CrtcT.mk 0 0 [] (ColorMapT.mk [] [])) := ⟨⟨by simp, by simp⟩, by show ([] : List Int).length ≤ 1048576; simp, by show ([] : List Int).length ≤ 1048576; simp⟩
  simp only [spec_BlankCrtc, impl_BlankCrtc, e1, e2, p1, p2, e4, e5, ← Identity_same, s_Identity, bnd_s, s_CrtcOk _ sm, i_CrtcOk _ sm]
  cases crtcB (CrtcT.mk w h [q, PlaneT.mk false 0 0 0 0 0 [] 0 0 0 0, PlaneT.mk false 0 0 0 0 0 [] 0 0 0 0, PlaneT.mk false 0 0 0 0 0 [] 0 0 0 0] identC) with
  | true => exact ⟨_, true, rfl, rfl, sm⟩
  | false => exact ⟨_, false, rfl, rfl, sz⟩
theorem ngb (m : Nat) : ¬ (1 + (m : Int) < 0) := by omega
theorem FnExactBlankCrtc_true (w h p : Int) (_ : I64 w) (_ : I64 h) (_ : I64 p) : laws_FnExactBlankCrtc w h p = some true := by
  obtain ⟨c, b, h1, h2, hc⟩ := BlankCrtc_eq w h p
  have b1 := nPlaneS_le hc.1
  have b2 := nIntS_le hc.2.1
  have b3 := nIntS_le hc.2.2
  have hm : mCrtc c ≤ 4611686018427387903 := by unfold mCrtc; omega
  obtain ⟨y0, y1, y2, a0, d0⟩ := mhCrtc c hc 1 (by decide) (by omega)
  simp [laws_FnExactBlankCrtc, h1, h2, eqCrtc_self c hc, a0, d0, ngb]
end Go.Proofs.Ytdbnoiiacpmbpaa
