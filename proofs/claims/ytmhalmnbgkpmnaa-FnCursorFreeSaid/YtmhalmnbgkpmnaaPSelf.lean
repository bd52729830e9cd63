/- A scene held against itself: it is the same, and nothing is to be painted anew. -/
import Derived.Test.YtmhalmnbgkpmnaaPSurface
import Derived.Test.YtmhalmnbgkpmnaaPInts
namespace Go.Proofs.Ytmhalmnbgkpmnaa
open Go.RowKit K
theorem same_surface (x : SurfaceT) (h : x.Buffer.Data.length ≤ 1048576) : spec_SameSurface x x = some true := by
  have hi : spec_l05Ints x.Buffer.Data x.Buffer.Data = some true := by rw [s_Ints _ _ h]; simp [eqInts]
  have hm : spec_SameImage x.Buffer x.Buffer = some true := by
    simp only [spec_SameImage, hi, bnd_s, andO_some]
    simp
  simp only [spec_SameSurface, hm, bnd_s, andO_some]
  simp
theorem same_scene (s : SceneT) (h : smScene s) : laws_sameScene s s = some true := by
  have hl : s.Surfaces.length ≤ 1048576 := h.1
  have hlp := allLoop (L := fun k => laws_sameScene_L0 s s k) s.Surfaces.length (by omega) (fun _ => true) false (fun k hk _ => by
    show laws_sameScene_L0 s s k = _
    unfold laws_sameScene_L0
    rw [ifO_pos (by simpa using hk), idx_lt hk, bnd_s, bnd_s, same_surface _ (smSurf h hk), bnd_s]; rfl) (fun k hk h => by cases h) (by
    show laws_sameScene_L0 s s _ = _
    unfold laws_sameScene_L0
    rw [ifO_neg (by simp)])
  unfold laws_sameScene
  rw [hlp, if_pos (by simp), ifO_neg (by simp)]; rfl
theorem index_self {s : SceneT} (h : smScene s) (hok : sceneOk s = true) {k : Nat} (hk : k < s.Surfaces.length) : spec_SurfaceIndex s s.Surfaces[k].Id = some (k : Int) := by
  rw [SurfaceIndex_eq s _ h.1]
  have hf := findIdx_self s.Surfaces k hk
  unfold sceneOk at hok
  simp only [Bool.and_eq_true] at hok
  have h1 := List.all_eq_true.1 hok.2 k (List.mem_range.2 hk)
  rw [surfN_at hk, Bool.and_eq_true] at h1
  rw [h1.2, decide_eq_true_eq] at hf
  rw [hf]
def noG : List Bool := List.replicate 256 false
theorem noG_at {i : Int} (h0 : 0 ≤ i) (h1 : i < 256) : idx noG i = some false := by
  rw [idx_of h0 (by unfold noG; rw [List.length_replicate]; omega)]
  unfold noG
  rw [List.getElem_replicate]
theorem noRow {y z : Int} (y0 : 0 ≤ y) (y1 : y < 16) (z0 : 0 ≤ z) (z1 : z < 16) : spec_l03Row noG y z = some true := by
  have hl := allLoop (L := fun x => spec_l03Row_L0 noG y z x) 16 (by omega) (fun _ => true) false (fun k hk _ => by
    show spec_l03Row_L0 noG y z k = _
    unfold spec_l03Row_L0
    rw [ifO_pos (by simp; omega), wr_in (n := y * 16) (by omega) (by omega), wr_in (n := z * 16) (by omega) (by omega), wr_in (n := y * 16 + (k : Int)) (by omega) (by omega), wr_in (n := z * 16 + (k : Int)) (by omega) (by omega), noG_at (by omega) (by omega), noG_at (by omega) (by omega)]; rfl) (fun k hk h => by cases h) rfl
  unfold spec_l03Row
  rw [hl]; rfl
theorem noCanon : spec_l03Canon noG = some (RegionT.mk []) := by
  have hh : loopO (fun h => spec_l03Canon_L1 noG 0 h) 1 = some 16 := by
    refine loopO_up (f := fun h => spec_l03Canon_L1 noG 0 h) (fun k => ((k + 1 : Nat) : Int)) 15 16 ?_ (fun k hk => ?_) 0 (by omega)
    · rfl
    · show spec_l03Canon_L1 noG 0 _ = _
      unfold spec_l03Canon_L1
      have e : wr (0 + ((k + 1 : Nat) : Int)) = ((k + 1 : Nat) : Int) := by rw [wr_in (by omega) (by omega)]; omega
      rw [e, noRow (by omega) (by omega) (by omega) (by omega), bnd_s, andO_some, bnd_s, ifO_pos (by simp; omega), wr_succ (by omega)]
  have hx : loopO (fun x => spec_l03Canon_L2 noG 0 16 x.1 x.2) (([] : List RectT), 0) = some [] := by
    refine loopO_up (f := fun x => spec_l03Canon_L2 noG 0 16 x.1 x.2) (fun k => (([] : List RectT), (k : Int))) 16 [] rfl (fun k hk => ?_) 0 (by omega)
    show spec_l03Canon_L2 noG 0 16 [] k = _
    have h3 : loopO (fun w => spec_l03Canon_L3 noG 0 k w) 0 = some 0 := by
      refine loopO_inr ?_
      unfold spec_l03Canon_L3
      have e : wr (wr (wr (0 * 16) + (k : Int)) + 0) = (k : Int) := by
        rw [wr_in (n := 0 * 16) (by omega) (by omega), wr_in (n := 0 * 16 + (k : Int)) (by omega) (by omega), wr_in (by omega) (by omega)]; omega
      rw [e, noG_at (by omega) (by omega), bnd_s, andO_some, bnd_s, Bool.and_false]; rfl
    unfold spec_l03Canon_L2
    rw [ifO_pos (by simp; omega), h3, bnd_s, ifO_neg (by rfl)]
    have e : wr (wr ((k : Int) + 0) + 1) = ((k + 1 : Nat) : Int) := by rw [wr_in (n := (k : Int) + 0) (by omega) (by omega), wr_in (by omega) (by omega)]; omega
    rw [e]
  have h1 : spec_l03Canon_L0 noG [] 0 = some (.inl ([], 16)) := by
    unfold spec_l03Canon_L0
    rw [ifO_pos (by rfl), hh, bnd_s, hx, bnd_s]; rfl
  unfold spec_l03Canon
  rw [loopO_inl (f := fun x => spec_l03Canon_L0 noG x.1 x.2) (s := ([], 0)) h1, loopO_inr (f := fun x => spec_l03Canon_L0 noG x.1 x.2) (s := ([], 16)) rfl, bnd_s]
theorem noRegion : spec_RegionOf [] = some (RegionT.mk []) := by
  have hg : spec_l03Grid [] = some noG := by
    unfold spec_l03Grid
    rw [mkO_of (by omega) (by omega), bnd_s, loopO_inr (f := fun x => spec_l03Grid_L0 [] x.1 x.2) rfl, bnd_s]; rfl
  unfold spec_RegionOf
  rw [hg, bnd_s, noCanon, bnd_s]
theorem no_damage (s : SceneT) (h : smScene s) : spec_DamageOf s s = some (RegionT.mk []) := by
  have hl : s.Surfaces.length ≤ 1048576 := h.1
  unfold spec_DamageOf
  rw [s_SceneOk s h, bnd_s, bnd_s, orO_some, bnd_s]
  cases hok : sceneOk s with
  | false => rfl
  | true =>
    have l0 : loopO (fun x => spec_DamageOf_L0 s s x.1 x.2) (([] : List RectT), 0) = some [] := by
      refine loopO_up (f := fun x => spec_DamageOf_L0 s s x.1 x.2) (fun k => (([] : List RectT), (k : Int))) s.Surfaces.length [] ?_ (fun k hk => ?_) 0 (by omega)
      · show spec_DamageOf_L0 s s [] _ = _
        unfold spec_DamageOf_L0
        rw [ifO_neg (by simp)]
      · show spec_DamageOf_L0 s s [] k = _
        unfold spec_DamageOf_L0
        have e : decide ((k : Int) < 0) = false := by simp
        rw [ifO_pos (by simpa using hk), idx_lt hk, bnd_s, index_self h hok hk, bnd_s, e]
        simp only [idx_lt hk, bnd_s, same_surface _ (smSurf h hk), orO_some, Bool.not_true, Bool.or_false, ifO_false, wr_succ (show k < 4611686018427387904 by omega)]
    have l1 : loopO (fun x => spec_DamageOf_L1 s s x.1 x.2) (([] : List RectT), 0) = some [] := by
      refine loopO_up (f := fun x => spec_DamageOf_L1 s s x.1 x.2) (fun k => (([] : List RectT), (k : Int))) s.Surfaces.length [] ?_ (fun k hk => ?_) 0 (by omega)
      · show spec_DamageOf_L1 s s [] _ = _
        unfold spec_DamageOf_L1
        rw [ifO_neg (by simp)]
      · show spec_DamageOf_L1 s s [] k = _
        have l6 : loopO (fun x => spec_DamageOf_L6 s s k k x.1 x.2) (([] : List RectT), 0) = some [] := by
          refine loopO_up (f := fun x => spec_DamageOf_L6 s s k k x.1 x.2) (fun m => (([] : List RectT), (m : Int))) k [] ?_ (fun m hm => ?_) 0 (by omega)
          · show spec_DamageOf_L6 s s k k [] _ = _
            unfold spec_DamageOf_L6
            rw [ifO_neg (by simp)]
          · show spec_DamageOf_L6 s s k k [] m = _
            have hml : m < s.Surfaces.length := by omega
            unfold spec_DamageOf_L6
            rw [ifO_pos (by simpa using hm), idx_lt hml, bnd_s, index_self h hok hml, bnd_s, ifO_neg (by simp; omega), bnd_s, wr_succ (by omega)]
        unfold spec_DamageOf_L1
        have e : decide ((k : Int) < 0) = false := by simp
        rw [ifO_pos (by simpa using hk), idx_lt hk, bnd_s, index_self h hok hk, bnd_s, e]
        simp only [idx_lt hk, bnd_s, same_surface _ (smSurf h hk), orO_some, Bool.not_true, Bool.or_false, ifO_false, l6, wr_succ (show k < 4611686018427387904 by omega)]
    have l2 : loopO (fun x => spec_DamageOf_L2 s x.1 x.2) (([] : List RectT), 0) = some [] := loopO_inr rfl
    simp only [Bool.not_true, Bool.or_self, ifO_false]
    rw [ifO_neg (by simp), l0, bnd_s, l1, bnd_s, l2, bnd_s, noRegion, bnd_s]
end Go.Proofs.Ytmhalmnbgkpmnaa
