/- Which surfaces are shown by planes. -/
import Derived.Test.YtmhalmnbgkpmnaaPSurface
namespace Go.Proofs.Ytmhalmnbgkpmnaa
open Go.RowKit K

theorem OptionsOk_eq (o : OptionsT) : impl_OptionsOk o = spec_OptionsOk o := rfl
theorem s_OptionsOk (o : OptionsT) : spec_OptionsOk o = some (inR o.Overlays 0 2 && inR o.Layout 0 2) := by
  simp only [spec_OptionsOk, l01In_eq, bnd_s, andO_some]
def At (s : SceneT) (t : Int) : Prop := t = -1 ∨ (0 ≤ t ∧ t < s.Surfaces.length)
theorem topLoop (s : SceneT) : ∀ (k : Nat) (n : Int), k ≤ s.Surfaces.length → s.Surfaces.length ≤ 1048576 → ∃ y, loopO (fun (n, k) => spec_TopVisible_L0 s n k) (n, (k : Int) - 1) = some y ∧ (∀ r, y = .inr r → 0 ≤ r ∧ r < s.Surfaces.length)
  | 0, n, _, _ => ⟨.inl (), loopO_inr rfl, fun r h => by cases h⟩
  | k + 1, n, hk, hl => by
    have hlt : k < s.Surfaces.length := by omega
    have e0 : ((k + 1 : Nat) : Int) - 1 = (k : Int) := by omega
    have hs : spec_TopVisible_L0 s n k = ifO s.Surfaces[k].Visible (ifO (decide (n = 0)) (some (.inr (.inr (k : Int)))) (some (.inl (wr (n - 1), (k : Int) - 1)))) (some (.inl (n, (k : Int) - 1))) := by
      simp only [spec_TopVisible_L0, idx_lt hlt, bnd_s]
      rw [ifO_pos (by simp), wr_in (n := (k : Int) - 1) (by omega) (by omega)]
    rw [e0]
    cases hv : s.Surfaces[k].Visible with
    | false =>
      rw [hv, ifO_false] at hs
      have e := @loopO_inl _ _ (fun (n, k) => spec_TopVisible_L0 s n k) (n, (k : Int)) _ hs
      rw [e]; exact topLoop s k n (by omega) hl
    | true =>
      rw [hv, ifO_true] at hs
      cases hz : decide (n = 0) with
      | true =>
        rw [hz, ifO_true] at hs
        exact ⟨.inr (k : Int), loopO_inr hs, fun r h => by cases h; omega⟩
      | false =>
        rw [hz, ifO_false] at hs
        have e := @loopO_inl _ _ (fun (n, k) => spec_TopVisible_L0 s n k) (n, (k : Int)) _ hs
        rw [e]; exact topLoop s k _ (by omega) hl
theorem TopVisible_at (s : SceneT) (n : Int) (h : smScene s) : ∃ t, spec_TopVisible s n = some t ∧ At s t := by
  have hl : s.Surfaces.length ≤ 1048576 := h.1
  simp only [spec_TopVisible, s_SceneOk s h, bnd_s]
  cases (!sceneOk s || decide (n < 0)) with
  | true => exact ⟨-1, rfl, .inl rfl⟩
  | false =>
    obtain ⟨y, hy, hr⟩ := topLoop s s.Surfaces.length n (Nat.le_refl _) hl
    rw [ifO_false, wr_in (n := (s.Surfaces.length : Int) - 1) (by omega) (by omega), hy, bnd_s]
    cases y with
    | inl u => exact ⟨-1, rfl, .inl rfl⟩
    | inr r => exact ⟨r, rfl, .inr (hr r rfl)⟩
theorem W_of {s : SceneT} (hok : sceneOk s = true) {k : Nat} (hk : k < s.Surfaces.length) : decide (0 < s.Surfaces[k].W) = !decide (s.Surfaces[k].W = 0) := by
  unfold sceneOk at hok
  simp only [Bool.and_eq_true] at hok
  have h1 := List.all_eq_true.1 hok.2 k (List.mem_range.2 hk)
  rw [surfN_at hk] at h1
  simp only [Bool.and_eq_true] at h1
  have h2 := h1.1
  unfold surfOk at h2
  simp only [Bool.and_eq_true, Bool.or_eq_true, inR_t, decide_eq_true_eq] at h2
  rw [← decide_not]
  exact decide_eq_decide.2 (by omega)
theorem asgLoop (s : SceneT) (h : smScene s) (hok : sceneOk s = true) : ∀ (j : Nat) (out : List Int) (n t : Int) (sc : Bool), j ≤ 2 → out.length = 3 → At s t → (∀ u ∈ out, At s u) →
    ∃ y, loopO (fun (a, b, c, d, e) => spec_AssignedOf_L0 s a b c d e) (out, n, t, sc, (j : Int) - 1) = some y ∧ loopO (fun (a, b, c, d, e) => impl_AssignedOf_L0 s a b c d e) (out, n, t, sc, (j : Int)) = some y ∧ y.1.length = 3 ∧ ∀ u ∈ y.1, At s u
  | 0, out, n, t, sc, _, ho, _, hA => ⟨(out, n), loopO_inr rfl, loopO_inr rfl, ho, hA⟩
  | j + 1, out, n, t, sc, hj, ho, hat, hA => by
    have hs0 : ∀ q, spec_AssignedOf_L0 s out n t sc (((j + 1 : Nat) : Int) - 1) = q → loopO (fun (a, b, c, d, e) => spec_AssignedOf_L0 s a b c d e) (out, n, t, sc, ((j + 1 : Nat) : Int) - 1) = (match q with | some (.inl s') => loopO (fun (a, b, c, d, e) => spec_AssignedOf_L0 s a b c d e) s' | some (.inr r) => some r | .none => loopO (fun (a, b, c, d, e) => spec_AssignedOf_L0 s a b c d e) (out, n, t, sc, ((j + 1 : Nat) : Int) - 1)) := fun q hq => by
      cases q with
      | none => rfl
      | some o => cases o with
        | inl s' => exact @loopO_inl _ _ (fun (a, b, c, d, e) => spec_AssignedOf_L0 s a b c d e) (out, n, t, sc, ((j + 1 : Nat) : Int) - 1) _ hq
        | inr r => exact @loopO_inr _ _ (fun (a, b, c, d, e) => spec_AssignedOf_L0 s a b c d e) (out, n, t, sc, ((j + 1 : Nat) : Int) - 1) _ hq
    have hi0 : ∀ q, impl_AssignedOf_L0 s out n t sc ((j + 1 : Nat) : Int) = q → loopO (fun (a, b, c, d, e) => impl_AssignedOf_L0 s a b c d e) (out, n, t, sc, ((j + 1 : Nat) : Int)) = (match q with | some (.inl s') => loopO (fun (a, b, c, d, e) => impl_AssignedOf_L0 s a b c d e) s' | some (.inr r) => some r | .none => loopO (fun (a, b, c, d, e) => impl_AssignedOf_L0 s a b c d e) (out, n, t, sc, ((j + 1 : Nat) : Int))) := fun q hq => by
      cases q with
      | none => rfl
      | some o => cases o with
        | inl s' => exact @loopO_inl _ _ (fun (a, b, c, d, e) => impl_AssignedOf_L0 s a b c d e) (out, n, t, sc, ((j + 1 : Nat) : Int)) _ hq
        | inr r => exact @loopO_inr _ _ (fun (a, b, c, d, e) => impl_AssignedOf_L0 s a b c d e) (out, n, t, sc, ((j + 1 : Nat) : Int)) _ hq
    have ek : ((j + 1 : Nat) : Int) - 1 = (j : Int) := by omega
    rcases hat with rfl | ⟨h0, h1⟩
    · refine ⟨(out, n), ?_, ?_, ho, hA⟩
      · rw [hs0 (some (.inr (out, n))) (by rw [ek]; simp [spec_AssignedOf_L0, orO])]
      · rw [hi0 (some (.inr (out, n))) (by
          simp only [impl_AssignedOf_L0]
          rw [ifO_pos (by simp; omega)]; simp [orO])]
    · obtain ⟨k, rfl⟩ : ∃ k : Nat, t = k := ⟨t.toNat, by omega⟩
      have hk : k < s.Surfaces.length := by omega
      have hn : decide ((k : Int) < 0) = false := by simp
      obtain ⟨t2, e2, a2⟩ := TopVisible_at s (wr (n + 1)) h
      have e3 : impl_TopVisible s (wr (n + 1)) = some t2 := by rw [TopVisible_eq s _ h, e2]
      have hw := W_of hok hk
      cases hb : (decide (0 < s.Surfaces[k].W) && sc) with
      | true =>
        refine ⟨(out, n), ?_, ?_, ho, hA⟩
        · rw [hs0 (some (.inr (out, n))) (by
            rw [ek]
            simp only [spec_AssignedOf_L0, hn, idx_lt hk, bnd_s, hb, orO_some, Bool.false_or]
            rw [ifO_pos (by simp)]; rfl)]
        · rw [hi0 (some (.inr (out, n))) (by
            simp only [impl_AssignedOf_L0, hn, idx_lt hk, bnd_s, ← hw, hb, orO_some, Bool.false_or]
            rw [ifO_pos (by simp; omega)]; rfl)]
      | false =>
        have hu : upd out (j : Int) (k : Int) = some (out.set j k) := upd_lt (by omega) _
        obtain ⟨y, y1, y2, y3⟩ := asgLoop s h hok j (out.set j k) (wr (n + 1)) t2 (sc || decide (0 < s.Surfaces[k].W)) (by omega) (by simpa using ho) a2 (fun u hu => (List.mem_or_eq_of_mem_set hu).elim (hA u) (fun e => e ▸ .inr ⟨h0, h1⟩))
        refine ⟨y, ?_, ?_, y3⟩
        · rw [hs0 (some (.inl (out.set j k, wr (n + 1), t2, sc || decide (0 < s.Surfaces[k].W), (j : Int) - 1))) (by
            rw [ek]
            simp only [spec_AssignedOf_L0, hn, idx_lt hk, bnd_s, hb, orO_some, Bool.false_or, hu, e2]
            rw [ifO_pos (by simp), wr_in (n := (j : Int) - 1) (by omega) (by omega)]; rfl)]
          exact y1
        · rw [hi0 (some (.inl (out.set j k, wr (n + 1), t2, sc || decide (0 < s.Surfaces[k].W), (j : Int)))) (by
            have ew : wr (((j + 1 : Nat) : Int) - 1) = (j : Int) := by rw [ek, wr_in (by omega) (by omega)]
            simp only [impl_AssignedOf_L0, hn, idx_lt hk, bnd_s, ← hw, hb, orO_some, Bool.false_or, e3, ew, hu]
            rw [ifO_pos (by simp; omega)]; rfl)]
          exact y2
theorem AssignedOf_at (s : SceneT) (o : OptionsT) (h : smScene s) : ∃ l n, spec_AssignedOf s o = some (l, n) ∧ impl_AssignedOf s o = some (l, n) ∧ ((l = [] ∧ (sceneOk s && (inR o.Overlays 0 2 && inR o.Layout 0 2)) = false) ∨ (l.length = 3 ∧ (sceneOk s && (inR o.Overlays 0 2 && inR o.Layout 0 2)) = true)) ∧ ∀ u ∈ l, At s u := by
  have eL : spec_AssignedOf_L1 = spec_AssignedOf_L0 := rfl
  have eI : impl_AssignedOf_L1 = impl_AssignedOf_L0 := rfl
  simp only [spec_AssignedOf, impl_AssignedOf, s_SceneOk s h, i_SceneOk s h, OptionsOk_eq, s_OptionsOk, bnd_s, orO_some, TopVisible_eq s _ h, eL, eI]
  cases hok : sceneOk s with
  | false => exact ⟨[], 0, rfl, rfl, .inl ⟨rfl, rfl⟩, by simp⟩
  | true =>
    cases hoo : (inR o.Overlays 0 2 && inR o.Layout 0 2) with
    | false => exact ⟨[], 0, rfl, rfl, .inl ⟨rfl, rfl⟩, by simp⟩
    | true =>
      simp only [Bool.and_eq_true, inR_t] at hoo
      obtain ⟨j, hj⟩ : ∃ j : Nat, o.Overlays = j := ⟨o.Overlays.toNat, by omega⟩
      have hwr : wr ((j : Int) - 1) = (j : Int) - 1 := by rw [wr_in (by omega) (by omega)]
      obtain ⟨t0, e0, a0⟩ := TopVisible_at s 0 h
      obtain ⟨t1, e1, a1⟩ := TopVisible_at s (wr (0 + 1)) h
      have hfit : ∃ b, andO (o.Cursor && decide (0 ≤ t0)) (Option.bind (idx s.Surfaces t0) fun x => Option.bind (spec_FitsCursor x) fun y => some y) = some b ∧ andO (o.Cursor && decide (0 ≤ t0)) (Option.bind (idx s.Surfaces t0) fun x => Option.bind (impl_FitsCursor x) fun y => some y) = some b := by
        cases hc : (o.Cursor && decide (0 ≤ t0)) with
        | false => exact ⟨false, rfl, rfl⟩
        | true =>
          simp only [Bool.and_eq_true, decide_eq_true_eq] at hc
          rcases a0 with rfl | ⟨h0, h1⟩
          · omega
          · obtain ⟨k, rfl⟩ : ∃ k : Nat, t0 = k := ⟨t0.toNat, by omega⟩
            have hk : k < s.Surfaces.length := by omega
            obtain ⟨b, b1, b2⟩ := FitsCursor_eq s.Surfaces[k] (smSurf h hk)
            exact ⟨b, by simp [andO, idx_lt hk, b1], by simp [andO, idx_lt hk, b2]⟩
      obtain ⟨b, b1, b2⟩ := hfit
      simp only [Bool.not_true, Bool.or_false, ifO_false, e0, bnd_s, b1, b2, hj, hwr]
      cases b with
      | true =>
        have hm1 : ∀ u ∈ [(-1 : Int), -1, -1], At s u := fun u hu => .inl (by simpa using hu)
        obtain ⟨y, y1, y2, y3, y4⟩ := asgLoop s h hok j ([-1, -1, -1].set 2 t0) (wr (0 + 1)) t1 false (by omega) rfl a1 (fun u hu => (List.mem_or_eq_of_mem_set hu).elim (hm1 u) (fun e => e ▸ a0))
        have hu : upd [-1, -1, -1] 2 t0 = some ([-1, -1, -1].set 2 t0) := rfl
        simp only [ifO_true, hu, bnd_s, e1]
        replace y1 : loopO (fun x => spec_AssignedOf_L0 s x.1 x.2.1 x.2.2.1 x.2.2.2.1 x.2.2.2.2) ([-1, -1, -1].set 2 t0, wr (0 + 1), t1, false, (j:Int) - 1) = some y := y1
        replace y2 : loopO (fun x => impl_AssignedOf_L0 s x.1 x.2.1 x.2.2.1 x.2.2.2.1 x.2.2.2.2) ([-1, -1, -1].set 2 t0, wr (0 + 1), t1, false, (j:Int)) = some y := y2
        simp only [y1, y2, bnd_s]
        exact ⟨y.1, y.2, rfl, rfl, .inr ⟨y3, rfl⟩, y4⟩
      | false =>
        obtain ⟨y, y1, y2, y3, y4⟩ := asgLoop s h hok j [-1, -1, -1] 0 t0 false (by omega) rfl a0 (fun u hu => .inl (by simpa using hu))
        replace y1 : loopO (fun x => spec_AssignedOf_L0 s x.1 x.2.1 x.2.2.1 x.2.2.2.1 x.2.2.2.2) ([-1, -1, -1], 0, t0, false, (j:Int) - 1) = some y := y1
        replace y2 : loopO (fun x => impl_AssignedOf_L0 s x.1 x.2.1 x.2.2.1 x.2.2.2.1 x.2.2.2.2) ([-1, -1, -1], 0, t0, false, (j:Int)) = some y := y2
        simp only [ifO_false, y1, y2, bnd_s]
        exact ⟨y.1, y.2, rfl, rfl, .inr ⟨y3, rfl⟩, y4⟩
theorem AssignedOf_eq (s : SceneT) (o : OptionsT) (h : smScene s) : ∃ l n, spec_AssignedOf s o = some (l, n) ∧ impl_AssignedOf s o = some (l, n) ∧ ((l = [] ∧ (sceneOk s && (inR o.Overlays 0 2 && inR o.Layout 0 2)) = false) ∨ (l.length = 3 ∧ (sceneOk s && (inR o.Overlays 0 2 && inR o.Layout 0 2)) = true)) := by
  obtain ⟨l, n, e1, e2, e3, _⟩ := AssignedOf_at s o h
  exact ⟨l, n, e1, e2, e3⟩
end Go.Proofs.Ytmhalmnbgkpmnaa
