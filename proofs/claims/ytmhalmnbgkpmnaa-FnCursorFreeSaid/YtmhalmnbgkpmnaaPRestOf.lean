/- What no plane shows: which surfaces these are. -/
import Derived.Test.YtmhalmnbgkpmnaaPTops
import Derived.Test.YtmhalmnbgkpmnaaPRest
namespace Go.Proofs.Ytmhalmnbgkpmnaa
open Go.RowKit K
def inL (a b c k : Int) : Bool := decide (k = a) || (decide (k = b) || decide (k = c))
def rest1 (s : SceneT) (a b c : Int) (k : Nat) : List SurfaceT := match s.Surfaces[k]? with
  | some x => if inL a b c k then [] else [x]
  | .none => []
def restN (s : SceneT) (a b c : Int) : Nat → List SurfaceT
  | 0 => []
  | k + 1 => restN s a b c k ++ rest1 s a b c k
theorem rest1_at {s : SceneT} {k : Nat} (h : k < s.Surfaces.length) (a b c : Int) : rest1 s a b c k = if inL a b c k then [] else [s.Surfaces[k]] := by
  unfold rest1; rw [List.getElem?_eq_getElem h]
theorem rest1_len (s : SceneT) (a b c : Int) (k : Nat) : (rest1 s a b c k).length ≤ 1 := by
  unfold rest1
  split
  · split <;> simp
  · simp
theorem restN_len (s : SceneT) (a b c : Int) : ∀ k, (restN s a b c k).length ≤ k
  | 0 => Nat.le_refl _
  | k + 1 => by
    have := restN_len s a b c k
    have := rest1_len s a b c k
    unfold restN
    rw [List.length_append]; omega
theorem restN_sm {s : SceneT} (h : smScene s) (a b c : Int) : ∀ k, ∀ x ∈ restN s a b c k, smSurface x
  | 0, x, hx => by simp [restN] at hx
  | k + 1, x, hx => by
    unfold restN at hx
    rcases List.mem_append.1 hx with hx | hx
    · exact restN_sm h a b c k x hx
    · unfold rest1 at hx
      split at hx
      · rename_i y hy
        split at hx
        · simp at hx
        · rw [List.mem_singleton.1 hx]; exact h.2 _ (List.mem_of_getElem? hy)
      · simp at hx
theorem s_restN (s : SceneT) (h : smScene s) (a b c : Int) : loopO (fun x => spec_RestOf_L0 s [a, b, c] x.1 x.2) (([] : List SurfaceT), 0) = some (restN s a b c s.Surfaces.length) := by
  have hl : s.Surfaces.length ≤ 1048576 := h.1
  have i0 : idx [a, b, c] 0 = some a := rfl
  have i1 : idx [a, b, c] 1 = some b := rfl
  have i2 : idx [a, b, c] 2 = some c := rfl
  exact loopO_up (f := fun x => spec_RestOf_L0 s [a, b, c] x.1 x.2) (fun k => (restN s a b c k, (k : Int))) s.Surfaces.length _ (by
    show spec_RestOf_L0 s [a, b, c] _ _ = _
    unfold spec_RestOf_L0; rw [ifO_neg (by simp)]) (fun k hk => by
    have hsm : smSurface s.Surfaces[k] := h.2 _ (List.getElem_mem hk)
    have hle := restN_len s a b c k
    have ha : app (restN s a b c k) [s.Surfaces[k]] = some (restN s a b c k ++ [s.Surfaces[k]]) := app_le (by simp only [List.length_singleton]; omega)
    have hq : (((!decide ((k : Int) = a)) && (!decide ((k : Int) = b))) && (!decide ((k : Int) = c))) = !(inL a b c k) := by
      unfold inL; simp only [Bool.not_or, Bool.and_assoc]
    show spec_RestOf_L0 s [a, b, c] (restN s a b c k) k = some (.inl (restN s a b c k ++ rest1 s a b c k, _))
    simp only [spec_RestOf_L0, i0, i1, i2, bnd_s, andO_some, hq, idx_lt hk, s_copy _ hsm, ha, wr_succ (show k < 4611686018427387904 by omega), rest1_at hk]
    rw [ifO_pos (by simpa using hk), ifO_if]
    cases inL a b c k <;> simp) 0 (by omega)
theorem i_restN (s : SceneT) (h : smScene s) (a b c : Int) : loopO (fun x => impl_RestOf_L0 s [a, b, c] x.1 x.2) (([] : List SurfaceT), 0) = some (restN s a b c s.Surfaces.length) := by
  have hl : s.Surfaces.length ≤ 1048576 := h.1
  exact loopO_up (f := fun x => impl_RestOf_L0 s [a, b, c] x.1 x.2) (fun k => (restN s a b c k, (k : Int))) s.Surfaces.length _ (by
    show impl_RestOf_L0 s [a, b, c] _ _ = _
    unfold impl_RestOf_L0; rw [ifO_neg (by simp)]) (fun k hk => by
    have hsm : smSurface s.Surfaces[k] := h.2 _ (List.getElem_mem hk)
    have hle := restN_len s a b c k
    have ha : app (restN s a b c k) [s.Surfaces[k]] = some (restN s a b c k ++ [s.Surfaces[k]]) := app_le (by simp only [List.length_singleton]; omega)
    show impl_RestOf_L0 s [a, b, c] (restN s a b c k) k = some (.inl (restN s a b c k ++ rest1 s a b c k, _))
    simp only [impl_RestOf_L0, contains_eq, bnd_s, idx_lt hk, i_copy _ hsm, ha, wr_succ (show k < 4611686018427387904 by omega), rest1_at hk]
    rw [ifO_pos (by simpa using hk), ifO_if]
    unfold inL
    cases (decide ((k : Int) = a) || (decide ((k : Int) = b) || decide ((k : Int) = c))) <;> simp) 0 (by omega)
def restOf (s : SceneT) (l : List Int) : SceneT := match l with
  | [a, b, c] => SceneT.mk s.W s.H s.Back (restN s a b c s.Surfaces.length)
  | _ => SceneT.mk 0 0 0 []
theorem asgOf_three (s : SceneT) (o : OptionsT) (ho : inR o.Overlays 0 2 = true) : ∃ a b c, (asgOf s o).1 = [a, b, c] := by
  have h := (asgOf_ok s o ho).1.1
  match hl : (asgOf s o).1, h with
  | [a, b, c], _ => exact ⟨a, b, c, rfl⟩
theorem s_RestOf (s : SceneT) (o : OptionsT) (h : smScene s) (hok : sceneOk s = true) (ho : inR o.Overlays 0 2 = true) (hl : inR o.Layout 0 2 = true) : spec_RestOf s o = some (restOf s (asgOf s o).1) := by
  obtain ⟨a, b, c, e⟩ := asgOf_three s o ho
  simp only [spec_RestOf, s_AssignedOf s o h hok ho hl, bnd_s, e]
  rw [ifO_neg (by simp), s_restN s h a b c]; rfl
theorem i_RestOf (s : SceneT) (o : OptionsT) (h : smScene s) (hok : sceneOk s = true) (ho : inR o.Overlays 0 2 = true) (hl : inR o.Layout 0 2 = true) : impl_RestOf s o = some (restOf s (asgOf s o).1) := by
  obtain ⟨a, b, c, e⟩ := asgOf_three s o ho
  have i1 : impl_AssignedOf s o = some ((asgOf s o).1, ((asgOf s o).2 : Int)) := by
    obtain ⟨l, n, e1, e2, _⟩ := AssignedOf_eq s o h
    rw [e2, ← e1, s_AssignedOf s o h hok ho hl]
  have eo : impl_OptionsOk o = some true := by rw [OptionsOk_eq, s_OptionsOk, ho, hl]; rfl
  simp only [impl_RestOf, i_SceneOk s h, eo, hok, i1, bnd_s, e, orO_some]
  rw [ifO_neg (by simp), i_restN s h a b c]; rfl
theorem restOf_sm {s : SceneT} (h : smScene s) (l : List Int) : smScene (restOf s l) := by
  have hl : s.Surfaces.length ≤ 1048576 := h.1
  unfold restOf
  split
  · rename_i a b c
    have := restN_len s a b c s.Surfaces.length
    exact ⟨by show (restN s a b c s.Surfaces.length).length ≤ 1048576; omega, restN_sm h a b c _⟩
  · exact ⟨by simp, by simp⟩
end Go.Proofs.Ytmhalmnbgkpmnaa
