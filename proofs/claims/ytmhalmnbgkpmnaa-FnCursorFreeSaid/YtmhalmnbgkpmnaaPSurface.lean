/- Images, surfaces, scenes: what both sides compute of them. -/
import Derived.Test.YtmhalmnbgkpmnaaPPixel
import Derived.Test.YtmhalmnbgkpmnaaPSm
namespace Go.Proofs.Ytmhalmnbgkpmnaa
open Go.RowKit K

theorem isOrient_eq (x : Int) : impl_isOrient x = some (inR x 0 7) := rfl
def surfOk (s : SurfaceT) : Bool := inR s.Id 1 99 && inR s.X (-32) 32 && inR s.Y (-32) 32 && ((inR s.W 1 16 && inR s.H 1 16) || (decide (s.W = 0) && decide (s.H = 0))) && inR s.Alpha 0 255 && inR s.Orient 0 7 && imgOk s.Buffer
theorem s_SurfaceOk (s : SurfaceT) (h : s.Buffer.Data.length ≤ 1048576) : spec_SurfaceOk s = some (surfOk s) := by
  simp only [spec_SurfaceOk, l01In_eq, bnd_s, orO_some, andO_some, s_ImageOk s.Buffer h, surfOk]
  generalize (inR s.W 1 16 && inR s.H 1 16) = a
  generalize (decide (s.W = 0) && decide (s.H = 0)) = b
  cases inR s.Id 1 99 <;> cases inR s.X (-32) 32 <;> cases inR s.Y (-32) 32 <;> cases inR s.Alpha 0 255 <;> cases inR s.Orient 0 7 <;> cases imgOk s.Buffer <;> cases a <;> cases b <;> rfl
theorem i_SurfaceOk (s : SurfaceT) (h : s.Buffer.Data.length ≤ 1048576) : impl_SurfaceOk s = some (surfOk s) := by
  simp only [impl_SurfaceOk, within_eq, isSide_eq, isOrient_eq, bnd_s, andO_some, i_ImageOk s.Buffer h, surfOk]
theorem FitsCursor_eq (s : SurfaceT) (h : s.Buffer.Data.length ≤ 1048576) : ∃ b, spec_FitsCursor s = some b ∧ impl_FitsCursor s = some b := by
  simp only [spec_FitsCursor, impl_FitsCursor, s_SurfaceOk s h, i_SurfaceOk s h, bnd_s]
  exact ⟨_, rfl, rfl⟩
def surfN (xs : List SurfaceT) (k : Nat) : Bool := match xs[k]? with
  | some x => surfOk x && !((xs.take k).any fun y => decide (y.Id = x.Id))
  | .none => false
def sceneOk (s : SceneT) : Bool := inR s.W 1 16 && inR s.H 1 16 && opq s.Back && decide ((s.Surfaces.length : Int) ≤ 6) && (List.range s.Surfaces.length).all (surfN s.Surfaces)
theorem SurfaceIndex_eq (s : SceneT) (id : Int) (h : s.Surfaces.length ≤ 1048576) : spec_SurfaceIndex s id = some (match s.Surfaces.findIdx? (fun y => decide (y.Id = id)) with | some k => (k : Int) | .none => -1) := by
  have := findLoop (L := fun k => spec_SurfaceIndex_L0 s id k) s.Surfaces (by omega) (fun y => decide (y.Id = id)) (fun k hk => by
    simp only [spec_SurfaceIndex_L0, idx_lt hk, bnd_s]
    rw [ifO_pos (by simpa using hk)]; rfl) (by simp [spec_SurfaceIndex_L0])
  rw [spec_SurfaceIndex, this]
  cases s.Surfaces.findIdx? (fun y => decide (y.Id = id)) <;> rfl
theorem findIdx_self (xs : List SurfaceT) (k : Nat) (hk : k < xs.length) :
    decide ((match xs.findIdx? (fun y => decide (y.Id = xs[k].Id)) with | some j => (j : Int) | .none => -1) = (k : Int)) = !((xs.take k).any fun y => decide (y.Id = xs[k].Id)) := by
  cases hf : xs.findIdx? (fun y => decide (y.Id = xs[k].Id)) with
  | none =>
    have := List.findIdx?_eq_none_iff.1 hf xs[k] (List.getElem_mem hk)
    simp at this
  | some j =>
    obtain ⟨hj, h1, h2⟩ := List.findIdx?_eq_some_iff_getElem.1 hf
    have hjk : j ≤ k := by
      rcases Nat.lt_or_ge k j with h | h
      · have := h2 k h; simp at this
      · exact h
    by_cases e : j = k
    · subst e
      have hn : ((xs.take j).any fun y => decide (y.Id = xs[j].Id)) = false := by
        rw [List.any_eq_false]
        intro y hy
        obtain ⟨i, hi, rfl⟩ := List.getElem_of_mem hy
        rw [List.getElem_take]
        exact h2 i (by rw [List.length_take] at hi; omega)
      rw [hn]; simp
    · have hy : ((xs.take k).any fun y => decide (y.Id = xs[k].Id)) = true := by
        rw [List.any_eq_true]
        exact ⟨xs[j], List.mem_take_iff_getElem.2 ⟨j, by omega, rfl⟩, h1⟩
      rw [hy]; simp; omega
theorem surfN_at {xs : List SurfaceT} {k : Nat} (hk : k < xs.length) : surfN xs k = (surfOk xs[k] && !((xs.take k).any fun y => decide (y.Id = xs[k].Id))) := by
  unfold surfN; rw [List.getElem?_eq_getElem hk]
theorem smSurf {xs : List SurfaceT} (h : smSurfaceS xs) {k : Nat} (hk : k < xs.length) : xs[k].Buffer.Data.length ≤ 1048576 := h.2 _ (List.getElem_mem hk)
theorem s_SceneOk (s : SceneT) (h : smScene s) : spec_SceneOk s = some (sceneOk s) := by
  have hl : s.Surfaces.length ≤ 1048576 := h.1
  have h1 : loopO (fun k => spec_SceneOk_L0 s k) 0 = some (if (List.range s.Surfaces.length).all (surfN s.Surfaces) then .inl () else .inr false) := by
    have hst : ∀ k (hk : k < s.Surfaces.length), spec_SceneOk_L0 s k = if surfN s.Surfaces k = true then some (.inl (wr ((k : Int) + 1))) else some (.inr (.inr false)) := fun k hk => by
      simp only [spec_SceneOk_L0, idx_lt hk, bnd_s, s_SurfaceOk _ (smSurf h hk), SurfaceIndex_eq s _ hl, findIdx_self _ k hk, orO_some, surfN_at hk]
      rw [ifO_pos (by simpa using hk)]
      cases surfOk s.Surfaces[k] <;> cases (s.Surfaces.take k).any fun y => decide (y.Id = s.Surfaces[k].Id) <;> rfl
    refine allLoop s.Surfaces.length (by omega) _ false (fun k hk ho => ?_) (fun k hk ho => ?_) ?_
    · rw [hst k hk, if_pos ho]
    · rw [hst k hk, if_neg (by rw [ho]; simp)]
    · simp [spec_SceneOk_L0]
  have h6 : decide (6 < (s.Surfaces.length : Int)) = !decide ((s.Surfaces.length : Int) ≤ 6) := by rw [← decide_not]; exact decide_eq_decide.2 (by omega)
  simp only [spec_SceneOk, l01In_eq, s_Opaque, bnd_s, orO_some, h1, sceneOk, h6]
  cases inR s.W 1 16 <;> cases inR s.H 1 16 <;> cases opq s.Back <;> cases decide ((s.Surfaces.length : Int) ≤ 6) <;> cases (List.range s.Surfaces.length).all (surfN s.Surfaces) <;> rfl
theorem i_SceneOk (s : SceneT) (h : smScene s) : impl_SceneOk s = some (sceneOk s) := by
  have hl : s.Surfaces.length ≤ 1048576 := h.1
  have h1 : loopO (fun (seen, k) => impl_SceneOk_L0 s seen k) (([] : List (Int × Bool)), 0) = some (if (List.range s.Surfaces.length).all (surfN s.Surfaces) then .inl () else .inr false) := by
    have hst : ∀ k (hk : k < s.Surfaces.length) seen, (∀ id, mget seen id = (s.Surfaces.take k).any fun y => decide (y.Id = id)) → impl_SceneOk_L0 s seen k = if surfN s.Surfaces k = true then some (.inl (mset seen s.Surfaces[k].Id true, wr ((k : Int) + 1))) else some (.inr (.inr false)) := fun k hk seen hi => by
      simp only [impl_SceneOk_L0, idx_lt hk, bnd_s, i_SurfaceOk _ (smSurf h hk), hi, orO_some, surfN_at hk]
      rw [ifO_pos (by simpa using hk)]
      cases surfOk s.Surfaces[k] <;> cases (s.Surfaces.take k).any fun y => decide (y.Id = s.Surfaces[k].Id) <;> rfl
    refine allState (L := fun (seen, k) => impl_SceneOk_L0 s seen k) s.Surfaces.length (by omega) (fun k seen => ∀ id, mget seen id = (s.Surfaces.take k).any fun y => decide (y.Id = id)) _ false (fun k seen hk hi ho => ⟨mset seen s.Surfaces[k].Id true, ?_, fun id => ?_⟩) (fun k seen hk hi ho => ?_) (fun seen _ => ?_) _ (fun id => ?_)
    · show impl_SceneOk_L0 s seen k = _
      rw [hst k hk seen hi, if_pos ho]
    · rw [mget_mset, hi id, List.take_add_one, List.getElem?_eq_getElem hk, List.any_append]
      by_cases he : id = s.Surfaces[k].Id
      · subst he; simp
      · have : ¬ s.Surfaces[k].Id = id := fun e => he e.symm
        simp [he, this]
    · show impl_SceneOk_L0 s seen k = _
      rw [hst k hk seen hi, if_neg (by rw [ho]; simp)]
    · simp [impl_SceneOk_L0]
    · simp [mget]
  have h6 : decide (6 < (s.Surfaces.length : Int)) = !decide ((s.Surfaces.length : Int) ≤ 6) := by rw [← decide_not]; exact decide_eq_decide.2 (by omega)
  simp only [impl_SceneOk, isSide_eq, i_Opaque, bnd_s, orO_some, h1, sceneOk, h6]
  cases inR s.W 1 16 <;> cases inR s.H 1 16 <;> cases opq s.Back <;> cases decide ((s.Surfaces.length : Int) ≤ 6) <;> cases (List.range s.Surfaces.length).all (surfN s.Surfaces) <;> rfl
theorem TopVisible_eq (s : SceneT) (n : Int) (h : smScene s) : impl_TopVisible s n = spec_TopVisible s n := by
  have e : impl_TopVisible_L0 = spec_TopVisible_L0 := by
    funext s n k
    simp only [impl_TopVisible_L0, spec_TopVisible_L0]
    congr 1
    cases idx s.Surfaces k with
    | none => rfl
    | some x => simp only [bnd_s]; cases x.Visible <;> rfl
  simp only [impl_TopVisible, spec_TopVisible, s_SceneOk s h, i_SceneOk s h, e]
theorem TopVisible_some (s : SceneT) (n : Int) (h : smScene s) : ∃ r, spec_TopVisible s n = some r := by
  have hl : s.Surfaces.length ≤ 1048576 := h.1
  simp only [spec_TopVisible, s_SceneOk s h, bnd_s]
  cases (!sceneOk s || decide (n < 0)) with
  | true => exact ⟨_, rfl⟩
  | false =>
    obtain ⟨y, hy⟩ := downLoop (L := fun (n, k) => spec_TopVisible_L0 s n k) (fun _ => True) s.Surfaces.length (by omega) (fun k m hk _ => by
      have hs : spec_TopVisible_L0 s m k = ifO s.Surfaces[k].Visible (ifO (decide (m = 0)) (some (.inr (.inr (k : Int)))) (some (.inl (wr (m - 1), wr ((k : Int) - 1))))) (some (.inl (m, wr ((k : Int) - 1)))) := by
        simp only [spec_TopVisible_L0, idx_lt hk, bnd_s]
        rw [ifO_pos (by simp)]
      show (∃ s', spec_TopVisible_L0 s m k = _ ∧ True) ∨ ∃ r, spec_TopVisible_L0 s m k = _
      rw [hs]
      cases s.Surfaces[k].Visible with
      | false => exact .inl ⟨m, rfl, trivial⟩
      | true =>
        cases decide (m = 0) with
        | true => exact .inr ⟨_, rfl⟩
        | false => exact .inl ⟨_, rfl, trivial⟩) (fun m _ => ⟨_, rfl⟩) s.Surfaces.length n (Nat.le_refl _) trivial
    rw [ifO_false, wr_in (n := (s.Surfaces.length : Int) - 1) (by omega) (by omega), hy, bnd_s]
    cases y <;> exact ⟨_, rfl⟩
end Go.Proofs.Ytmhalmnbgkpmnaa
