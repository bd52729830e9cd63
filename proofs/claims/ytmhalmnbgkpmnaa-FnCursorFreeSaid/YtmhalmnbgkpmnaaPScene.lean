/- The scene that is drawn, and what an edit makes of one. -/
import Derived.Test.YtmhalmnbgkpmnaaPDraw
import Derived.Test.YtmhalmnbgkpmnaaPOr
import Derived.Test.YtmhalmnbgkpmnaaPSurface
namespace Go.Proofs.Ytmhalmnbgkpmnaa
open Go.RowKit K
theorem sceneOk_sm {s : SceneT} (h : sceneOk s = true) (hl : s.Surfaces.length ≤ 1048576) : s.Surfaces.length ≤ 6 := by
  unfold sceneOk at h
  simp only [Bool.and_eq_true, decide_eq_true_eq] at h
  omega
theorem c_copyImage (i : ImageT) (h : i.Data.length ≤ 1048576) : spec_l05Copy i = some i := by
  simp only [spec_l05Copy]
  rw [app_le (by simp only [List.length_nil]; omega)]; rfl
theorem c_copySurface (x : SurfaceT) (h : smSurface x) : spec_l10CopySurface x = some x := by
  have hl : x.Buffer.Data.length ≤ 1048576 := h
  simp only [spec_l10CopySurface, c_copyImage _ hl, bnd_s]
theorem c_copyScene (s : SceneT) (h : smScene s) : spec_l10Copy s = some s := by
  have hn : s.Surfaces.length ≤ 1048576 := h.1
  have hl := loopO_up (f := fun x => spec_l10Copy_L0 s x.1 x.2) (fun k => (s.Surfaces.take k, (k : Int))) s.Surfaces.length s.Surfaces (by
    simp only [List.take_length]
    show spec_l10Copy_L0 s s.Surfaces _ = _
    unfold spec_l10Copy_L0
    rw [ifO_neg (by simp)]) (fun k hk => by
    show spec_l10Copy_L0 s (s.Surfaces.take k) k = _
    unfold spec_l10Copy_L0
    rw [ifO_pos (by simpa using hk), idx_lt hk, bnd_s, c_copySurface _ (h.2 _ (List.getElem_mem hk)), bnd_s, app_le (by simp only [List.length_singleton, List.length_take]; omega), bnd_s, wr_succ (by omega), List.take_add_one, List.getElem?_eq_getElem hk]; rfl) 0 (by omega)
  have hl' : loopO (fun x => spec_l10Copy_L0 s x.1 x.2) (([] : List SurfaceT), 0) = some s.Surfaces := hl
  unfold spec_l10Copy
  rw [hl']; rfl
def fineS (x : SurfaceT) : Prop := smSurface x ∧ x.Id ≠ 77
theorem restLoop' (s : SceneT) (h : smScene s) {Q : SurfaceT → Prop} (hf : ∀ x ∈ s.Surfaces, Q x) (q : Int) : ∃ r, loopO (fun x => spec_DoEdit_L0 s q x.1 x.2) (([] : List SurfaceT), 0) = some r ∧ r.length ≤ s.Surfaces.length ∧ ∀ x ∈ r, Q x := by
  have hn : s.Surfaces.length ≤ 1048576 := h.1
  have key : ∀ (j k : Nat) (out : List SurfaceT), k + j = s.Surfaces.length → out.length ≤ k → (∀ x ∈ out, Q x) → ∃ r, loopO (fun x => spec_DoEdit_L0 s q x.1 x.2) (out, (k : Int)) = some r ∧ r.length ≤ s.Surfaces.length ∧ ∀ x ∈ r, Q x := by
    intro j
    induction j with
    | zero =>
      intro k out hk ho hs
      refine ⟨out, loopO_inr ?_, by omega, hs⟩
      show spec_DoEdit_L0 s q out k = _
      unfold spec_DoEdit_L0
      rw [ifO_neg (by simp; omega)]
    | succ j ih =>
      intro k out hk ho hs
      have hlt : k < s.Surfaces.length := by omega
      by_cases hq : 0 ≤ q
      · by_cases he : (k : Int) = q
        · have hst : spec_DoEdit_L0 s q out k = some (.inl (out, ((k + 1 : Nat) : Int))) := by
            unfold spec_DoEdit_L0
            rw [ifO_pos (by simp; omega), ifO_neg (by simpa using he), bnd_s, wr_succ (by omega)]
          rw [loopO_inl (f := fun (x : List SurfaceT × Int) => spec_DoEdit_L0 s q x.1 x.2) (s := (out, (k : Int))) hst]
          exact ih (k + 1) out (by omega) (by omega) hs
        · have hst : spec_DoEdit_L0 s q out k = some (.inl (out ++ [s.Surfaces[k]], ((k + 1 : Nat) : Int))) := by
            unfold spec_DoEdit_L0
            rw [ifO_pos (by simp; omega), ifO_pos (by simpa using he), idx_lt hlt, bnd_s, app_le (by simp only [List.length_singleton]; omega), bnd_s, bnd_s, wr_succ (by omega)]
          rw [loopO_inl (f := fun (x : List SurfaceT × Int) => spec_DoEdit_L0 s q x.1 x.2) (s := (out, (k : Int))) hst]
          refine ih (k + 1) _ (by omega) (by simp; omega) (fun x hx => ?_)
          rcases List.mem_append.1 hx with hx | hx
          · exact hs x hx
          · rw [List.mem_singleton.1 hx]; exact hf _ (List.getElem_mem hlt)
      · refine ⟨out, loopO_inr ?_, by omega, hs⟩
        show spec_DoEdit_L0 s q out k = _
        unfold spec_DoEdit_L0
        rw [ifO_neg (by simp; omega)]
  exact key s.Surfaces.length 0 [] (by omega) (by simp) (by simp)
def Fine (s : SceneT) : Prop := smScene s ∧ sceneOk s = true ∧ ∀ x ∈ s.Surfaces, fineS x
theorem setOne {xs : List SurfaceT} (h : ∀ x ∈ xs, fineS x) (k : Nat) (v : SurfaceT) (hv : fineS v) : ∀ x ∈ xs.set k v, fineS x :=
  fun x hx => (List.mem_or_eq_of_mem_set hx).elim (h x) (fun e => e ▸ hv)
theorem bind_fin {α β : Type} {o : Option α} {f : α → Option β} {P : α → Prop} {Q : β → Prop} (h : ∃ a, o = some a ∧ P a) (k : ∀ a, P a → ∃ r, f a = some r ∧ Q r) : ∃ r, Option.bind o f = some r ∧ Q r := by
  obtain ⟨a, rfl, ha⟩ := h
  exact k a ha
theorem ifO_or {α : Type} {c : Bool} {x y : Option α} {P : α → Prop} (hx : c = true → ∃ a, x = some a ∧ P a) (hy : c = false → ∃ a, y = some a ∧ P a) : ∃ a, ifO c x y = some a ∧ P a := by
  cases c with
  | true => exact hx rfl
  | false => exact hy rfl
theorem updAt {xs : List SurfaceT} (h : ∀ x ∈ xs, fineS x) (hl : xs.length ≤ 7) {k : Nat} (hk : k < xs.length) (b : Int) (f : SurfaceT → SurfaceT) (hf : fineS xs[k] → fineS (f xs[k])) :
    ∃ a : Int × List SurfaceT, (Option.bind (idx xs (k : Int)) fun x => Option.bind (upd xs (k : Int) (f x)) fun y => some (b, y)) = some a ∧ a.2.length ≤ 7 ∧ ∀ x ∈ a.2, fineS x := by
  rw [idx_lt hk, bnd_s, upd_lt hk, bnd_s]
  exact ⟨_, rfl, by rw [List.length_set]; exact hl, setOne h k _ (hf (h _ (List.getElem_mem hk)))⟩
theorem updAt2 {xs : List SurfaceT} (h : ∀ x ∈ xs, fineS x) (hl : xs.length ≤ 7) {k : Nat} (hk : k < xs.length) (b : Int) (f g : SurfaceT → SurfaceT) (hf : ∀ x, fineS x → fineS (f x)) (hg : ∀ x, fineS x → fineS (g x)) :
    ∃ a : Int × List SurfaceT, (Option.bind (idx xs (k : Int)) fun x => Option.bind (upd xs (k : Int) (f x)) fun y => Option.bind (idx y (k : Int)) fun x2 => Option.bind (upd y (k : Int) (g x2)) fun y2 => some (b, y2)) = some a ∧ a.2.length ≤ 7 ∧ ∀ x ∈ a.2, fineS x := by
  rw [idx_lt hk, bnd_s, upd_lt hk, bnd_s, idx_set hk, bnd_s, upd_set hk, bnd_s]
  exact ⟨_, rfl, by rw [List.length_set]; exact hl, setOne h k _ (hg _ (hf _ (h _ (List.getElem_mem hk))))⟩
theorem DoEdit_ok {s : SceneT} (hs : Fine s) (e : EditT) (he : e.Buffer.Data.length ≤ 1048576) (h77 : e.Id ≠ 77) : ∃ r, spec_DoEdit s e = some r ∧ Fine r.1 := by
  have hs0 := hs
  obtain ⟨hsm, hok, hfi⟩ := hs
  have hn : s.Surfaces.length ≤ 6 := sceneOk_sm hok hsm.1
  have hix := SurfaceIndex_eq s e.Id hsm.1
  have hq : ∀ k, s.Surfaces.findIdx? (fun y => decide (y.Id = e.Id)) = some k → k < s.Surfaces.length := fun k hk => (List.findIdx?_eq_some_iff_getElem.1 hk).1
  obtain ⟨q, hqe, hqq⟩ : ∃ q : Int, spec_SurfaceIndex s e.Id = some q ∧ (q < 0 ∨ ∃ k : Nat, q = k ∧ k < s.Surfaces.length) := by
    refine ⟨_, hix, ?_⟩
    cases hf : s.Surfaces.findIdx? (fun y => decide (y.Id = e.Id)) with
    | none => exact .inl (by simp)
    | some k => exact .inr ⟨k, rfl, hq k hf⟩
  obtain ⟨r, r1, r2, r3⟩ := restLoop' s hsm hfi q
  unfold spec_DoEdit
  rw [c_copyScene s hsm, bnd_s, hqe, bnd_s, s_SceneOk s hsm, bnd_s, hok]
  simp only [l01In_eq, bnd_s, orO_some, Bool.not_true, Bool.false_or]
  refine ifO_or (fun _ => ⟨_, rfl, hs0⟩) (fun hbad => ?_)
  have hk : ∀ j, e.Kind = j → j ≠ 0 → j ≠ 10 → ∃ k : Nat, q = k ∧ k < s.Surfaces.length := by
    intro j hj h0 h10
    rcases hqq with h | h
    · subst hj
      exfalso
      simp [h, h0, h10] at hbad
    · exact h
  rw [r1, bnd_s]
  refine bind_fin (P := fun a => a.2.length ≤ 7 ∧ ∀ x ∈ a.2, fineS x) ?_ (fun a ha => ?_)
  · refine ifO_or (fun _ => ?_) (fun h0 => ?_)
    · rw [c_copyImage _ he, bnd_s, app_le (by simp only [List.length_singleton]; omega), bnd_s]
      refine ⟨_, rfl, by simp; omega, fun x hx => ?_⟩
      rcases List.mem_append.1 hx with hx | hx
      · exact hfi x hx
      · rw [List.mem_singleton.1 hx]; exact ⟨he, h77⟩
    refine ifO_or (fun _ => ⟨_, rfl, by show r.length ≤ 7; omega, r3⟩) (fun h1 => ?_)
    refine ifO_or (fun h2 => ?_) (fun h2 => ?_)
    · obtain ⟨k, rfl, hkl⟩ := hk 2 (by simpa using h2) (by omega) (by omega)
      exact updAt2 hfi (by omega) hkl _ (fun x => SurfaceT.mk x.Id e.A x.Y x.W x.H x.Alpha x.Orient x.Visible x.Buffer) (fun x => SurfaceT.mk x.Id x.X e.B x.W x.H x.Alpha x.Orient x.Visible x.Buffer) (fun _ h => h) (fun _ h => h)
    refine ifO_or (fun h3 => ?_) (fun h3 => ?_)
    · obtain ⟨k, rfl, hkl⟩ := hk 3 (by simpa using h3) (by omega) (by omega)
      rw [idx_lt hkl, bnd_s, app_le (by simp only [List.length_singleton]; omega), bnd_s]
      refine ⟨_, rfl, by simp; omega, fun x hx => ?_⟩
      rcases List.mem_append.1 hx with hx | hx
      · exact r3 x hx
      · rw [List.mem_singleton.1 hx]; exact hfi _ (List.getElem_mem hkl)
    refine ifO_or (fun h4 => ?_) (fun h4 => ?_)
    · obtain ⟨k, rfl, hkl⟩ := hk 4 (by simpa using h4) (by omega) (by omega)
      rw [idx_lt hkl, bnd_s, app_le (by simp only [List.length_singleton]; omega), bnd_s]
      refine ⟨_, rfl, by simp; omega, fun x hx => ?_⟩
      rcases List.mem_append.1 hx with hx | hx
      · rw [List.mem_singleton.1 hx]; exact hfi _ (List.getElem_mem hkl)
      · exact r3 x hx
    refine ifO_or (fun h5 => ?_) (fun h5 => ?_)
    · obtain ⟨k, rfl, hkl⟩ := hk 5 (by simpa using h5) (by omega) (by omega)
      rw [c_copyImage _ he, bnd_s]
      exact updAt hfi (by omega) hkl _ (fun x => SurfaceT.mk x.Id x.X x.Y x.W x.H x.Alpha x.Orient x.Visible e.Buffer) (fun h => ⟨he, h.2⟩)
    refine ifO_or (fun h6 => ?_) (fun h6 => ?_)
    · obtain ⟨k, rfl, hkl⟩ := hk 6 (by simpa using h6) (by omega) (by omega)
      exact updAt hfi (by omega) hkl _ (fun x => SurfaceT.mk x.Id x.X x.Y x.W x.H e.A x.Orient x.Visible x.Buffer) (fun h => h)
    refine ifO_or (fun h7 => ?_) (fun h7 => ?_)
    · obtain ⟨k, rfl, hkl⟩ := hk 7 (by simpa using h7) (by omega) (by omega)
      exact updAt hfi (by omega) hkl _ (fun x => SurfaceT.mk x.Id x.X x.Y x.W x.H x.Alpha e.A x.Visible x.Buffer) (fun h => h)
    refine ifO_or (fun h8 => ?_) (fun h8 => ?_)
    · obtain ⟨k, rfl, hkl⟩ := hk 8 (by simpa using h8) (by omega) (by omega)
      exact updAt2 hfi (by omega) hkl _ (fun x => SurfaceT.mk x.Id x.X x.Y e.A x.H x.Alpha x.Orient x.Visible x.Buffer) (fun x => SurfaceT.mk x.Id x.X x.Y x.W e.B x.Alpha x.Orient x.Visible x.Buffer) (fun _ h => h) (fun _ h => h)
    refine ifO_or (fun h9 => ?_) (fun h9 => ?_)
    · obtain ⟨k, rfl, hkl⟩ := hk 9 (by simpa using h9) (by omega) (by omega)
      exact updAt hfi (by omega) hkl _ (fun x => SurfaceT.mk x.Id x.X x.Y x.W x.H x.Alpha x.Orient (decide (e.A = 1)) x.Buffer) (fun h => h)
    · exact ⟨_, rfl, by show s.Surfaces.length ≤ 7; omega, hfi⟩
  · obtain ⟨b, l⟩ := a
    obtain ⟨hl, hx⟩ := ha
    have hm : smScene (SceneT.mk s.W s.H b l) := ⟨by show l.length ≤ 1048576; have : l.length ≤ 7 := hl; omega, fun x h => (hx x h).1⟩
    show ∃ r, (Option.bind (spec_SceneOk (SceneT.mk s.W s.H b l)) fun x35_1 => ifO (!x35_1) (some (s, false)) (Option.bind (spec_l10Copy (SceneT.mk s.W s.H b l)) fun x37_1 => some (x37_1, true))) = some r ∧ Fine r.1
    rw [s_SceneOk _ hm, bnd_s]
    cases hb : sceneOk (SceneT.mk s.W s.H b l) with
    | false => exact ⟨(s, false), by simp only [Bool.not_false, ifO_true], hs0⟩
    | true => exact ⟨(SceneT.mk s.W s.H b l, true), by simp only [Bool.not_true, ifO_false, c_copyScene _ hm, bnd_s], hm, hb, hx⟩
end Go.Proofs.Ytmhalmnbgkpmnaa
