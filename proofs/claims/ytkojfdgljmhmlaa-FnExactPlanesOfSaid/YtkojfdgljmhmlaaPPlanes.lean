/- The planes of a scene. -/
import Derived.Test.YtkojfdgljmhmlaaPAssignLaws
import Derived.Test.YtkojfdgljmhmlaaPPlane
namespace Go.Proofs.Ytkojfdgljmhmlaa
open Go.RowKit K
def offP : PlaneT := PlaneT.mk false 0 0 0 0 0 [] 0 0 0 0
/-- Whether all the places that are in use lie in the scene. -/
theorem planesRound (s : SceneT) (o : OptionsT) (h : smScene s) (t : Int) (ht : At s t) : ∃ p, p.Words.length ≤ 512 ∧
    (∀ (l : List Int) (k : Nat) (v : List PlaneT), l[k]? = some t → v.length ≤ 4 → k < 3 → spec_PlanesOf_L0 s o l v k = some (.inl (v ++ [p], ((k + 1 : Nat) : Int))))
    ∧ (∀ (l : List Int) (k : Nat) (v : List PlaneT), l[k]? = some t → v.length = 4 → k < 3 → v[k + 1]? = some offP → impl_PlanesOf_L0 s o l v k = some (.inl (v.set (k + 1) p, ((k + 1 : Nat) : Int)))) := by
  have hl : s.Surfaces.length ≤ 1048576 := h.1
  rcases ht with rfl | ⟨t0, t1⟩
  · refine ⟨offP, by simp [offP], fun l k v hk hv h3 => ?_, fun l k v hk hv h3 hz => ?_⟩
    · have hkl := (List.getElem?_eq_some_iff.1 hk).1
      have ha : app v [PlaneT.mk false 0 0 0 0 0 [] 0 0 0 0] = some (v ++ [offP]) := app_le (by simp only [List.length_singleton]; omega)
      simp only [spec_PlanesOf_L0, idx_at hk, bnd_s, ha]
      rw [ifO_pos (by simpa using hkl), wr_succ (by omega)]; rfl
    · have hkl := (List.getElem?_eq_some_iff.1 hk).1
      have hv0 : v.set (k + 1) offP = v := by
        obtain ⟨q1, q2⟩ := List.getElem?_eq_some_iff.1 hz
        rw [← q2]; exact List.set_getElem_self q1
      simp only [impl_PlanesOf_L0, idx_at hk, bnd_s]
      rw [ifO_pos (by simpa using hkl), wr_succ (by omega), hv0]; rfl
  · obtain ⟨k', rfl⟩ : ∃ k' : Nat, t = k' := ⟨t.toNat, by omega⟩
    have hk' : k' < s.Surfaces.length := by omega
    have hsm : smSurface s.Surfaces[k'] := h.2 _ (List.getElem_mem hk')
    obtain ⟨p, p1, p2, p3⟩ := PlaneOf_eq s.Surfaces[k'].Buffer s.Surfaces[k'].X s.Surfaces[k'].Y o.Layout hsm
    refine ⟨PlaneT.mk p.On p.X p.Y p.W p.H p.Layout p.Words s.Surfaces[k'].Alpha s.Surfaces[k'].Orient s.Surfaces[k'].W s.Surfaces[k'].H, p3, fun l k v hk hv h3 => ?_, fun l k v hk hv h3 hz => ?_⟩
    · have hkl := (List.getElem?_eq_some_iff.1 hk).1
      simp only [spec_PlanesOf_L0, idx_at hk, idx_lt hk', bnd_s, p1]
      rw [ifO_pos (by simpa using hkl), wr_succ (by omega), app_le (by simp only [List.length_singleton]; omega), ifO_pos (by simp)]; rfl
    · have hkl := (List.getElem?_eq_some_iff.1 hk).1
      simp only [impl_PlanesOf_L0, idx_at hk, idx_lt hk', bnd_s, p2]
      rw [ifO_pos (by simpa using hkl), wr_succ (by omega), upd_lt (by omega), ifO_neg (by simp)]; rfl
theorem PlanesOf_eq (s : SceneT) (o : OptionsT) (b : ImageT) (h : smScene s) (hb : smImage b) : ∃ r, spec_PlanesOf s o b = some r ∧ impl_PlanesOf s o b = some r ∧ smPlaneS r := by
  obtain ⟨l, n, e1, e2, e3, hal⟩ := AssignedOf_at s o h
  have eo : impl_OptionsOk o = some (inR o.Overlays 0 2 && inR o.Layout 0 2) := by rw [OptionsOk_eq, s_OptionsOk]
  have eq : (!sceneOk s || !(inR o.Overlays 0 2 && inR o.Layout 0 2)) = !(sceneOk s && (inR o.Overlays 0 2 && inR o.Layout 0 2)) := by cases sceneOk s <;> rfl
  have e4 : ∀ z : PlaneT, mkO 4 z = some [z, z, z, z] := fun z => rfl
  have e5 : ∀ q z : PlaneT, upd [z, z, z, z] 0 q = some [q, z, z, z] := fun q z => rfl
  obtain ⟨q, q1, q2, q3⟩ := PlaneOf_eq b 0 0 o.Layout hb
  simp only [spec_PlanesOf, impl_PlanesOf, e1, e2, i_SceneOk s h, eo, bnd_s, orO_some, eq, s_ImageOk b hb, i_ImageOk b hb, e4, e5, q1, q2]
  rcases e3 with ⟨rfl, hc⟩ | ⟨hc, ht⟩
  · rw [hc]; exact ⟨[], rfl, rfl, by constructor <;> simp⟩
  · obtain ⟨t0, t1, t2, rfl⟩ : ∃ a b c, l = [a, b, c] := by
      match l, hc with
      | [a, b, c], _ => exact ⟨a, b, c, rfl⟩
    rw [ht]
    cases hi : imgOk b with
    | false => exact ⟨[], rfl, rfl, by constructor <;> simp⟩
    | true =>
      obtain ⟨a0, w0, s0, i0⟩ := planesRound s o h t0 (hal _ (by simp))
      obtain ⟨a1, w1, s1, i1⟩ := planesRound s o h t1 (hal _ (by simp))
      obtain ⟨a2, w2, s2, i2⟩ := planesRound s o h t2 (hal _ (by simp))
      have r1 : loopO (fun x => spec_PlanesOf_L0 s o [t0, t1, t2] x.1 x.2) ([q], 0) = some [q, a0, a1, a2] := by
        rw [loopO_inl (f := fun x => spec_PlanesOf_L0 s o [t0, t1, t2] x.1 x.2) (s := ([q], 0)) (s0 [t0, t1, t2] 0 [q] rfl (by simp) (by omega)),
          loopO_inl (f := fun x => spec_PlanesOf_L0 s o [t0, t1, t2] x.1 x.2) (s1 [t0, t1, t2] 1 [q, a0] rfl (by simp) (by omega)),
          loopO_inl (f := fun x => spec_PlanesOf_L0 s o [t0, t1, t2] x.1 x.2) (s2 [t0, t1, t2] 2 [q, a0, a1] rfl (by simp) (by omega))]
        exact loopO_inr rfl
      have r2 : loopO (fun x => impl_PlanesOf_L0 s o [t0, t1, t2] x.1 x.2) ([q, offP, offP, offP], 0) = some [q, a0, a1, a2] := by
        rw [loopO_inl (f := fun x => impl_PlanesOf_L0 s o [t0, t1, t2] x.1 x.2) (s := ([q, offP, offP, offP], 0)) (i0 [t0, t1, t2] 0 [q, offP, offP, offP] rfl (by simp) (by omega) rfl),
          loopO_inl (f := fun x => impl_PlanesOf_L0 s o [t0, t1, t2] x.1 x.2) (i1 [t0, t1, t2] 1 [q, a0, offP, offP] rfl (by simp) (by omega) rfl),
          loopO_inl (f := fun x => impl_PlanesOf_L0 s o [t0, t1, t2] x.1 x.2) (i2 [t0, t1, t2] 2 [q, a0, a1, offP] rfl (by simp) (by omega) rfl)]
        exact loopO_inr rfl
      refine ⟨[q, a0, a1, a2], ?_, ?_, ?_⟩
      · rw [ifO_neg (by simp), r1]; rfl
      · unfold offP at r2
        rw [ifO_neg (by simp), r2]; rfl
      · refine ⟨by simp, fun x hx => ?_⟩
        show x.Words.length ≤ 1048576
        simp only [List.mem_cons, List.not_mem_nil, or_false] at hx
        rcases hx with rfl | rfl | rfl | rfl <;> omega
theorem FnExactPlanesOf_true (s : SceneT) (o : OptionsT) (b : ImageT) (os : okScene s) (_ : okOptions o) (ob : okImage b) : laws_FnExactPlanesOf s o b = some true := by
  obtain ⟨v, hv, hv1, hb⟩ := szScene_ok s os 1048576 (by decide) (by decide)
  simp only [laws_FnExactPlanesOf, hv, bnd_s]
  by_cases hneg : v < 0
  · rw [ifO_pos (by simpa using hneg)]
  · have hs := hb (by omega)
    rw [ifO_neg (by simpa using hneg)]
    obtain ⟨v2, hv2, _, hb2⟩ := szImage_ok b ob v (by omega) hv1
    rw [hv2, bnd_s]
    by_cases hneg2 : v2 < 0
    · rw [ifO_pos (by simpa using hneg2)]
    · have hi := hb2 (by omega)
      rw [ifO_neg (by simpa using hneg2)]
      obtain ⟨r, h1, h2, hr⟩ := PlanesOf_eq s o b hs hi
      have b1 : mScene s ≤ 1099522113536 := nSurfaceS_le hs
      have b2 := nPlaneS_le hr
      have b3 := nIntS_le (show smIntS b.Data from hi)
      obtain ⟨y0, a0, d0⟩ := mhScene s hs 1 (by decide) (by omega)
      obtain ⟨y1, a1, d1⟩ := mhPlaneS r hr 1 (by decide) (by omega)
      obtain ⟨y2, a2, d2⟩ := mhIntS b.Data hi (1 + (mScene s : Nat)) (by omega) (by omega)
      have n2 : ¬ (1 + (mScene s : Int) + (nIntS b.Data : Int) < 0) := by omega
      simp [toScene_eq s hs, toImage_eq b hi, toOptions_eq, h1, h2, eqPlaneS_self r hr, eqScene_self s hs, eqImage_self b hi, laws_markImage, a0, a1, a2, d1, ng, n2, orO]
end Go.Proofs.Ytkojfdgljmhmlaa
