/- What no plane shows. -/
import Derived.Test.YtmhalmnbgkpmnaaPAssignLaws
namespace Go.Proofs.Ytmhalmnbgkpmnaa
open Go.RowKit K
theorem s_copy (x : SurfaceT) (h : smSurface x) : spec_l10CopySurface x = some x := by
  have hl : x.Buffer.Data.length ≤ 1048576 := h
  simp only [spec_l10CopySurface, spec_l05Copy, bnd_s]
  rw [app_le (by simp only [List.length_nil]; omega)]; rfl
theorem i_copy (x : SurfaceT) (h : smSurface x) : impl_copySurface x = some x := by
  have hl : x.Buffer.Data.length ≤ 1048576 := h
  simp only [impl_copySurface, impl_copyImage, slices_Clone_S_int_int]
  rw [need_t (by omega)]; rfl
theorem contains_eq (a b c k : Int) : slices_Contains_S_int_int [a, b, c] k = some (decide (k = a) || (decide (k = b) || decide (k = c))) := by
  have e := findLoop (L := fun i => slices_Index_S_int_int_L0 [a, b, c] k i) [a, b, c] (by simp) (fun y => decide (k = y)) (fun i hi => by
    simp only [slices_Index_S_int_int_L0, idx_lt hi, bnd_s]
    rw [ifO_pos (by simp only [decide_eq_true_eq]; omega), ifO_if]) (by simp [slices_Index_S_int_int_L0])
  simp only [slices_Contains_S_int_int, slices_Index_S_int_int, e, bnd_s, List.findIdx?_cons, List.findIdx?_nil]
  cases decide (k = a) <;> cases decide (k = b) <;> cases decide (k = c) <;> rfl
theorem restLoop (s : SceneT) (h : smScene s) (a b c : Int) : ∀ (j k : Nat) (out : List SurfaceT), k + j = s.Surfaces.length → out.length ≤ k → (∀ x ∈ out, smSurface x) →
    ∃ r, loopO (fun (out, k) => spec_RestOf_L0 s [a, b, c] out k) (out, (k : Int)) = some r ∧ loopO (fun (out, k) => impl_RestOf_L0 s [a, b, c] out k) (out, (k : Int)) = some r ∧ smSurfaceS r := by
  have hl : s.Surfaces.length ≤ 1048576 := h.1
  intro j
  induction j with
  | zero =>
    intro k out hk ho hs
    refine ⟨out, loopO_inr ?_, loopO_inr ?_, by omega, hs⟩
    · show spec_RestOf_L0 s [a, b, c] out k = _
      unfold spec_RestOf_L0; rw [ifO_neg (by simp; omega)]
    · show impl_RestOf_L0 s [a, b, c] out k = _
      unfold impl_RestOf_L0; rw [ifO_neg (by simp; omega)]
  | succ j ih =>
    intro k out hk ho hs
    have hlt : k < s.Surfaces.length := by omega
    have hsm : smSurface s.Surfaces[k] := h.2 _ (List.getElem_mem hlt)
    have i0 : idx [a, b, c] 0 = some a := rfl
    have i1 : idx [a, b, c] 1 = some b := rfl
    have i2 : idx [a, b, c] 2 = some c := rfl
    have ha : app out [s.Surfaces[k]] = some (out ++ [s.Surfaces[k]]) := app_le (by simp only [List.length_singleton]; omega)
    have hq : (((!decide ((k : Int) = a)) && (!decide ((k : Int) = b))) && (!decide ((k : Int) = c))) = !(decide ((k : Int) = a) || (decide ((k : Int) = b) || decide ((k : Int) = c))) := by
      simp only [Bool.not_or, Bool.and_assoc]
    have h1 : spec_RestOf_L0 s [a, b, c] out k = some (.inl ((if (!(decide ((k : Int) = a) || (decide ((k : Int) = b) || decide ((k : Int) = c)))) = true then out ++ [s.Surfaces[k]] else out), ((k + 1 : Nat) : Int))) := by
      simp only [spec_RestOf_L0, i0, i1, i2, bnd_s, andO_some, hq, idx_lt hlt, s_copy _ hsm, ha, wr_succ (show k < 4611686018427387904 by omega)]
      rw [ifO_pos (by simpa using hlt), ifO_if]
      split <;> rfl
    have h2 : impl_RestOf_L0 s [a, b, c] out k = some (.inl ((if (!(decide ((k : Int) = a) || (decide ((k : Int) = b) || decide ((k : Int) = c)))) = true then out ++ [s.Surfaces[k]] else out), ((k + 1 : Nat) : Int))) := by
      simp only [impl_RestOf_L0, contains_eq, bnd_s, idx_lt hlt, i_copy _ hsm, ha, wr_succ (show k < 4611686018427387904 by omega)]
      rw [ifO_pos (by simpa using hlt), ifO_if]
      split <;> rfl
    rw [@loopO_inl _ _ (fun (out, k) => spec_RestOf_L0 s [a, b, c] out k) (out, (k : Int)) _ h1, @loopO_inl _ _ (fun (out, k) => impl_RestOf_L0 s [a, b, c] out k) (out, (k : Int)) _ h2]
    split
    · exact ih (k + 1) _ (by omega) (by simp only [List.length_append, List.length_singleton]; omega) (fun x hx => by
        rcases List.mem_append.1 hx with hx | hx
        · exact hs x hx
        · rw [List.mem_singleton.1 hx]; exact hsm)
    · exact ih (k + 1) _ (by omega) (by omega) hs
theorem RestOf_eq (s : SceneT) (o : OptionsT) (h : smScene s) : ∃ r, spec_RestOf s o = some r ∧ impl_RestOf s o = some r ∧ smScene r := by
  obtain ⟨l, n, e1, e2, e3⟩ := AssignedOf_eq s o h
  have e0 : smScene (SceneT.mk 0 0 0 []) := by constructor <;> simp
  have eo : impl_OptionsOk o = some (inR o.Overlays 0 2 && inR o.Layout 0 2) := by rw [OptionsOk_eq, s_OptionsOk]
  have eq : (!sceneOk s || !(inR o.Overlays 0 2 && inR o.Layout 0 2)) = !(sceneOk s && (inR o.Overlays 0 2 && inR o.Layout 0 2)) := by cases sceneOk s <;> rfl
  simp only [spec_RestOf, impl_RestOf, e1, e2, i_SceneOk s h, eo, bnd_s, orO_some, eq]
  rcases e3 with ⟨rfl, hc⟩ | ⟨hc, ht⟩
  · rw [hc]; exact ⟨_, rfl, rfl, e0⟩
  · obtain ⟨a, b, c, rfl⟩ : ∃ a b c, l = [a, b, c] := by
      match l, hc with
      | [a, b, c], _ => exact ⟨a, b, c, rfl⟩
    obtain ⟨r, r1, r2, r3⟩ := restLoop s h a b c s.Surfaces.length 0 [] (by omega) (by simp) (by simp)
    rw [ht]
    replace r1 : loopO (fun x => spec_RestOf_L0 s [a, b, c] x.1 x.2) ([], 0) = some r := r1
    replace r2 : loopO (fun x => impl_RestOf_L0 s [a, b, c] x.1 x.2) ([], 0) = some r := r2
    refine ⟨SceneT.mk s.W s.H s.Back r, ?_, ?_, r3⟩
    · rw [ifO_neg (by simp), r1]; rfl
    · rw [ifO_neg (by simp), r2]; rfl
end Go.Proofs.Ytmhalmnbgkpmnaa
