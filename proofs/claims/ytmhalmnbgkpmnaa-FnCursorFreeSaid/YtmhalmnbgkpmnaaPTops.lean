/- The visible surfaces, from the top, and which of them are shown by planes. -/
import Derived.Test.YtmhalmnbgkpmnaaPAssign
namespace Go.Proofs.Ytmhalmnbgkpmnaa
open Go.RowKit K

def vis (s : SceneT) (k : Nat) : Bool := match s.Surfaces[k]? with
  | some x => x.Visible
  | .none => false
def wide (s : SceneT) (k : Nat) : Bool := match s.Surfaces[k]? with
  | some x => decide (0 < x.W)
  | .none => false
theorem vis_at {s : SceneT} {k : Nat} (h : k < s.Surfaces.length) : vis s k = s.Surfaces[k].Visible := by unfold vis; rw [List.getElem?_eq_getElem h]
theorem wide_at {s : SceneT} {k : Nat} (h : k < s.Surfaces.length) : wide s k = decide (0 < s.Surfaces[k].W) := by unfold wide; rw [List.getElem?_eq_getElem h]
def topsTo (s : SceneT) : Nat → List Nat
  | 0 => []
  | k + 1 => if vis s k then k :: topsTo s k else topsTo s k
def tops (s : SceneT) : List Nat := topsTo s s.Surfaces.length
theorem topsTo_mem (s : SceneT) (i : Nat) : ∀ k, i ∈ topsTo s k ↔ i < k ∧ vis s i = true
  | 0 => by simp [topsTo]
  | k + 1 => by
    unfold topsTo
    cases hv : vis s k with
    | true =>
      simp only [if_true, List.mem_cons, topsTo_mem s i k]
      constructor
      · rintro (rfl | h)
        · exact ⟨by omega, hv⟩
        · exact ⟨by omega, h.2⟩
      · rintro ⟨h1, h2⟩
        by_cases e : i = k
        · exact .inl e
        · exact .inr ⟨by omega, h2⟩
    | false =>
      simp only [Bool.false_eq_true, if_false, topsTo_mem s i k]
      constructor
      · rintro h; exact ⟨by omega, h.2⟩
      · rintro ⟨h1, h2⟩
        have e : i ≠ k := fun e => by rw [e, hv] at h2; cases h2
        exact ⟨by omega, h2⟩
theorem topsTo_down (s : SceneT) : ∀ k, (topsTo s k).Pairwise (fun a b => b < a)
  | 0 => .nil
  | k + 1 => by
    unfold topsTo
    split
    · exact .cons (fun a ha => ((topsTo_mem s a k).1 ha).1) (topsTo_down s k)
    · exact topsTo_down s k
theorem topsTo_len (s : SceneT) : ∀ k, (topsTo s k).length ≤ k
  | 0 => Nat.le_refl _
  | k + 1 => by
    have := topsTo_len s k
    unfold topsTo
    split
    · simp only [List.length_cons]; omega
    · omega
theorem tops_mem {s : SceneT} {i : Nat} : i ∈ tops s ↔ i < s.Surfaces.length ∧ vis s i = true := topsTo_mem s i _
theorem tops_lt {s : SceneT} {n k : Nat} (h : (tops s)[n]? = some k) : k < s.Surfaces.length := (tops_mem.1 (List.mem_of_getElem? h)).1
theorem tops_down {s : SceneT} {i j a b : Nat} (hi : (tops s)[i]? = some a) (hj : (tops s)[j]? = some b) (h : i < j) : b < a := by
  obtain ⟨h1, rfl⟩ := List.getElem?_eq_some_iff.1 hi
  obtain ⟨h2, rfl⟩ := List.getElem?_eq_some_iff.1 hj
  exact List.pairwise_iff_getElem.1 (topsTo_down s _) i j h1 h2 h
def topV (s : SceneT) (n : Nat) : Int := match (tops s)[n]? with
  | some k => (k : Int)
  | .none => -1
theorem topLoop2 (s : SceneT) : ∀ (k n : Nat), k ≤ s.Surfaces.length → s.Surfaces.length ≤ 1048576 → n ≤ 1048576 →
    loopO (fun (n, k) => spec_TopVisible_L0 s n k) ((n : Int), (k : Int) - 1) = some (match (topsTo s k)[n]? with | some j => .inr (j : Int) | .none => .inl ())
  | 0, n, _, _, _ => loopO_inr rfl
  | k + 1, n, hk, hl, hn => by
    have hlt : k < s.Surfaces.length := by omega
    have e0 : ((k + 1 : Nat) : Int) - 1 = (k : Int) := by omega
    have hs : spec_TopVisible_L0 s n k = ifO s.Surfaces[k].Visible (ifO (decide ((n : Int) = 0)) (some (.inr (.inr (k : Int)))) (some (.inl (wr ((n : Int) - 1), (k : Int) - 1)))) (some (.inl ((n : Int), (k : Int) - 1))) := by
      simp only [spec_TopVisible_L0, idx_lt hlt, bnd_s]
      rw [ifO_pos (by simp), wr_in (n := (k : Int) - 1) (by omega) (by omega)]
    rw [e0]
    unfold topsTo
    rw [vis_at hlt]
    cases hv : s.Surfaces[k].Visible with
    | false =>
      rw [hv, ifO_false] at hs
      have e := @loopO_inl _ _ (fun (n, k) => spec_TopVisible_L0 s n k) ((n : Int), (k : Int)) _ hs
      rw [e]; exact topLoop2 s k n (by omega) hl hn
    | true =>
      rw [hv, ifO_true] at hs
      cases n with
      | zero =>
        rw [ifO_pos (by rfl)] at hs
        exact loopO_inr hs
      | succ n =>
        rw [ifO_neg (by simp; omega), wr_pred (by omega)] at hs
        have e := @loopO_inl _ _ (fun (n, k) => spec_TopVisible_L0 s n k) (((n + 1 : Nat) : Int), (k : Int)) _ hs
        rw [e]; exact topLoop2 s k n (by omega) hl (by omega)
theorem TopVisible_topV (s : SceneT) (h : smScene s) (hok : sceneOk s = true) (n : Nat) (hn : n ≤ 1048576) : spec_TopVisible s n = some (topV s n) := by
  have hl : s.Surfaces.length ≤ 1048576 := h.1
  simp only [spec_TopVisible, s_SceneOk s h, bnd_s, hok]
  have hd : decide ((n : Int) < 0) = false := by simp
  have := topLoop2 s s.Surfaces.length n (Nat.le_refl _) hl hn
  rw [hd, wr_in (n := (s.Surfaces.length : Int) - 1) (by omega) (by omega)]
  simp only [] at this
  simp only [Bool.not_true, Bool.or_false, ifO_false, orO_some]
  rw [this, bnd_s]
  unfold topV tops
  cases (topsTo s s.Surfaces.length)[n]? <;> rfl
def fits (x : SurfaceT) : Bool := surfOk x && (decide (x.Alpha = 255) && (decide (x.Orient = 0) && (decide (x.W = 0) && (decide (x.H = 0) && (decide (x.Buffer.W ≤ 4) && decide (x.Buffer.H ≤ 4))))))
theorem s_FitsCursor (x : SurfaceT) (h : x.Buffer.Data.length ≤ 1048576) : spec_FitsCursor x = some (fits x) := by
  simp only [spec_FitsCursor, s_SurfaceOk x h, bnd_s, andO_some, fits]
  cases surfOk x <;> cases decide (x.Alpha = 255) <;> cases decide (x.Orient = 0) <;> cases decide (x.W = 0) <;> cases decide (x.H = 0) <;> cases decide (x.Buffer.W ≤ 4) <;> cases decide (x.Buffer.H ≤ 4) <;> rfl
def asg (s : SceneT) : Nat → List Int → Nat → Bool → List Int × Nat
  | 0, out, n, _ => (out, n)
  | j + 1, out, n, sc => match (tops s)[n]? with
    | .none => (out, n)
    | some k => if (wide s k && sc) = true then (out, n) else asg s j (out.set j (k : Int)) (n + 1) (sc || wide s k)
theorem asg_none {s : SceneT} {j n : Nat} (ht : (tops s)[n]? = .none) (out : List Int) (sc : Bool) : asg s (j + 1) out n sc = (out, n) := by unfold asg; rw [ht]
theorem asg_stop {s : SceneT} {j n k : Nat} {sc : Bool} (ht : (tops s)[n]? = some k) (hb : (wide s k && sc) = true) (out : List Int) : asg s (j + 1) out n sc = (out, n) := by
  unfold asg; rw [ht]; simp only []; rw [if_pos hb]
theorem asg_go {s : SceneT} {j n k : Nat} {sc : Bool} (ht : (tops s)[n]? = some k) (hb : (wide s k && sc) = false) (out : List Int) : asg s (j + 1) out n sc = asg s j (out.set j (k : Int)) (n + 1) (sc || wide s k) := by
  rw [asg.eq_def]; simp only []; rw [ht]; simp only []; rw [if_neg (by rw [hb]; simp)]
theorem asgLoop2 (s : SceneT) (h : smScene s) (hok : sceneOk s = true) : ∀ (j : Nat) (out : List Int) (n : Nat) (sc : Bool), j ≤ 2 → n + j ≤ 100 → out.length = 3 →
    loopO (fun (a, b, c, d, e) => spec_AssignedOf_L0 s a b c d e) (out, (n : Int), topV s n, sc, (j : Int) - 1) = some ((asg s j out n sc).1, ((asg s j out n sc).2 : Int))
  | 0, out, n, sc, _, _, _ => loopO_inr rfl
  | j + 1, out, n, sc, hj, hn, ho => by
    have ek : ((j + 1 : Nat) : Int) - 1 = (j : Int) := by omega
    have hge : decide (0 ≤ (j : Int)) = true := by simp
    rw [ek]
    cases ht : (tops s)[n]? with
    | none =>
      have hv : topV s n = -1 := by unfold topV; rw [ht]
      rw [asg_none ht]
      refine loopO_inr ?_
      show spec_AssignedOf_L0 s out n (topV s n) sc j = _
      rw [hv]
      simp [spec_AssignedOf_L0, orO]
    | some k =>
      have hv : topV s n = (k : Int) := by unfold topV; rw [ht]
      have hk := tops_lt ht
      have hd : decide ((k : Int) < 0) = false := by simp
      have hw := wide_at hk
      have e2 := TopVisible_topV s h hok (n + 1) (by omega)
      rw [← wr_succ (by omega)] at e2
      have hu : upd out (j : Int) (k : Int) = some (out.set j k) := upd_lt (by omega) _
      cases hb : (wide s k && sc) with
      | true =>
        rw [asg_stop ht hb]
        refine loopO_inr ?_
        show spec_AssignedOf_L0 s out n (topV s n) sc j = _
        rw [hw] at hb
        rw [hv]
        simp only [spec_AssignedOf_L0, hd, idx_lt hk, bnd_s, hb, orO_some, Bool.false_or]
        rw [ifO_pos (by simp)]; rfl
      | false =>
        rw [asg_go ht hb]
        have hs : spec_AssignedOf_L0 s out n (topV s n) sc j = some (.inl (out.set j k, ((n + 1 : Nat) : Int), topV s (n + 1), sc || wide s k, (j : Int) - 1)) := by
          rw [hw] at hb
          rw [hv, hw]
          simp only [spec_AssignedOf_L0, hd, idx_lt hk, bnd_s, hb, orO_some, Bool.false_or, hu, e2]
          rw [ifO_pos (by simp), wr_in (n := (j : Int) - 1) (by omega) (by omega), wr_succ (by omega)]; rfl
        rw [@loopO_inl _ _ (fun (a, b, c, d, e) => spec_AssignedOf_L0 s a b c d e) (out, (n : Int), topV s n, sc, (j : Int)) _ hs]
        exact asgLoop2 s h hok j (out.set j k) (n + 1) (sc || wide s k) (by omega) (by omega) (by simpa using ho)
def curs (s : SceneT) (o : OptionsT) : Option Nat := match (tops s)[0]? with
  | some k => match s.Surfaces[k]? with
    | some x => if (o.Cursor && fits x) = true then some k else .none
    | .none => .none
  | .none => .none
def asgOf (s : SceneT) (o : OptionsT) : List Int × Nat := match curs s o with
  | some k => asg s o.Overlays.toNat [-1, -1, (k : Int)] 1 false
  | .none => asg s o.Overlays.toNat [-1, -1, -1] 0 false
theorem s_AssignedOf (s : SceneT) (o : OptionsT) (h : smScene s) (hok : sceneOk s = true) (ho : inR o.Overlays 0 2 = true) (hl : inR o.Layout 0 2 = true) : spec_AssignedOf s o = some ((asgOf s o).1, ((asgOf s o).2 : Int)) := by
  have eL : spec_AssignedOf_L1 = spec_AssignedOf_L0 := rfl
  have ho' := inR_t.1 ho
  obtain ⟨j, hj⟩ : ∃ j : Nat, o.Overlays = j := ⟨o.Overlays.toNat, by omega⟩
  have hwr : wr ((j : Int) - 1) = (j : Int) - 1 := by rw [wr_in (by omega) (by omega)]
  have e0 := TopVisible_topV s h hok 0 (by omega)
  have e1 := TopVisible_topV s h hok 1 (by omega)
  have ew : wr (0 + 1) = ((1 : Nat) : Int) := by rw [wr_in (by omega) (by omega)]; rfl
  rw [show ((0 : Nat) : Int) = 0 from rfl] at e0
  have hoj : inR (j : Int) 0 2 = true := by rw [← hj]; exact ho
  have key : ∀ b, (andO (o.Cursor && decide (0 ≤ topV s 0)) (Option.bind (idx s.Surfaces (topV s 0)) fun x => Option.bind (spec_FitsCursor x) fun y => some y) = some b) → (b = true → ∃ k : Nat, curs s o = some k ∧ topV s 0 = k) → (b = false → curs s o = .none) → spec_AssignedOf s o = some ((asgOf s o).1, ((asgOf s o).2 : Int)) := fun b hb ht hf => by
    simp only [spec_AssignedOf, s_SceneOk s h, s_OptionsOk, bnd_s, orO_some, eL, hok, hoj, hl, e0, hb, hj, hwr, ew, e1, Bool.and_self, Bool.not_true, Bool.or_self, ifO_false]
    cases b with
    | true =>
      obtain ⟨k, hc, hk⟩ := ht rfl
      have hu : upd [-1, -1, -1] 2 (topV s 0) = some [-1, -1, (k : Int)] := by rw [hk]; rfl
      have := asgLoop2 s h hok j [-1, -1, (k : Int)] 1 false (by omega) (by omega) rfl
      simp only [] at this
      simp only [ifO_true, hu, bnd_s, this]
      unfold asgOf
      rw [hc, hj]; rfl
    | false =>
      have := asgLoop2 s h hok j [-1, -1, -1] 0 false (by omega) (by omega) rfl
      rw [show ((0 : Nat) : Int) = 0 from rfl] at this
      simp only [] at this
      simp only [ifO_false, this, bnd_s]
      unfold asgOf
      rw [hf rfl, hj]; rfl
  cases ht : (tops s)[0]? with
  | none =>
    have hv : topV s 0 = -1 := by unfold topV; rw [ht]
    refine key false ?_ (by simp) (fun _ => ?_)
    · rw [hv]; cases o.Cursor <;> rfl
    · unfold curs; rw [ht]
  | some k =>
    have hv : topV s 0 = (k : Int) := by unfold topV; rw [ht]
    have hk := tops_lt ht
    have hsm := smSurf h hk
    refine key (o.Cursor && fits s.Surfaces[k]) ?_ (fun hb => ⟨k, ?_, hv⟩) (fun hb => ?_)
    · rw [hv, decide_eq_true (show (0 : Int) ≤ (k : Int) by omega), idx_lt hk, bnd_s, s_FitsCursor _ hsm, bnd_s, Bool.and_true, andO_some]
    · unfold curs; simp only [ht, List.getElem?_eq_getElem hk, hb, if_true]
    · unfold curs; simp only [ht, List.getElem?_eq_getElem hk, hb]; rfl
def Asgd (s : SceneT) (out : List Int) (n : Nat) : Prop := out.length = 3 ∧ (∀ u ∈ out, u = -1 ∨ ∃ i k : Nat, i < n ∧ (tops s)[i]? = some k ∧ u = k) ∧ ∀ i, i < n → ∃ k : Nat, (tops s)[i]? = some k ∧ (k : Int) ∈ out
theorem asg_ok (s : SceneT) : ∀ (j : Nat) (out : List Int) (n : Nat) (sc : Bool), j ≤ 2 → Asgd s out n → (∀ i, i < j → out[i]? = some (-1)) → Asgd s (asg s j out n sc).1 (asg s j out n sc).2 ∧ n ≤ (asg s j out n sc).2 ∧ (asg s j out n sc).2 ≤ n + j
  | 0, out, n, _, _, h, _ => ⟨h, Nat.le_refl _, Nat.le_refl _⟩
  | j + 1, out, n, sc, hj, h, hf => by
    cases ht : (tops s)[n]? with
    | none => rw [asg_none ht]; exact ⟨h, Nat.le_refl _, by show n ≤ n + (j + 1); omega⟩
    | some k =>
      cases hb : (wide s k && sc) with
      | true => rw [asg_stop ht hb]; exact ⟨h, Nat.le_refl _, by show n ≤ n + (j + 1); omega⟩
      | false =>
        rw [asg_go ht hb]
        obtain ⟨h1, h2, h3⟩ := h
        have hjl : j < out.length := by omega
        have hA : Asgd s (out.set j (k : Int)) (n + 1) := by
          refine ⟨by simpa using h1, fun u hu => ?_, fun i hi => ?_⟩
          · rcases List.mem_or_eq_of_mem_set hu with hu | rfl
            · rcases h2 u hu with rfl | ⟨i, k', hi, e1, e2⟩
              · exact .inl rfl
              · exact .inr ⟨i, k', by omega, e1, e2⟩
            · exact .inr ⟨n, k, by omega, ht, rfl⟩
          · by_cases e : i = n
            · subst e
              exact ⟨k, ht, List.mem_set hjl (k : Int)⟩
            · obtain ⟨k', e1, e2⟩ := h3 i (by omega)
              refine ⟨k', e1, ?_⟩
              obtain ⟨a, ha⟩ := List.getElem?_of_mem e2
              have hne : j ≠ a := fun e => by
                have := hf j (by omega)
                rw [e, ha] at this
                have := Option.some.inj this
                omega
              exact List.mem_of_getElem? (i := a) (by rw [List.getElem?_set_ne hne]; exact ha)
        obtain ⟨q1, q2, q3⟩ := asg_ok s j (out.set j (k : Int)) (n + 1) (sc || wide s k) (by omega) hA (fun i hi => by rw [List.getElem?_set_ne (by omega)]; exact hf i (by omega))
        exact ⟨q1, by omega, by omega⟩
theorem asg_ge (s : SceneT) : ∀ (j : Nat) (out : List Int) (n : Nat) (sc : Bool), n ≤ (asg s j out n sc).2
  | 0, _, _, _ => Nat.le_refl _
  | j + 1, out, n, sc => by
    cases ht : (tops s)[n]? with
    | none => rw [asg_none ht]; exact Nat.le_refl _
    | some k =>
      cases hb : (wide s k && sc) with
      | true => rw [asg_stop ht hb]; exact Nat.le_refl _
      | false => rw [asg_go ht hb]; exact Nat.le_trans (Nat.le_succ n) (asg_ge s j _ _ _)
theorem curs_at {s : SceneT} {o : OptionsT} {k : Nat} (h : curs s o = some k) : (tops s)[0]? = some k := by
  unfold curs at h
  cases ht : (tops s)[0]? with
  | none => rw [ht] at h; cases h
  | some k' =>
    rw [ht] at h
    simp only [] at h
    split at h
    · split at h
      · rw [Option.some.inj h]
      · cases h
    · cases h
theorem asgOf_ok (s : SceneT) (o : OptionsT) (ho : inR o.Overlays 0 2 = true) : Asgd s (asgOf s o).1 (asgOf s o).2 ∧ (asgOf s o).2 ≤ 3 := by
  have ho' := inR_t.1 ho
  unfold asgOf
  cases hc : curs s o with
  | none =>
    obtain ⟨q1, _, q3⟩ := asg_ok s o.Overlays.toNat [-1, -1, -1] 0 false (by omega) ⟨rfl, fun u hu => .inl (by simpa using hu), fun i hi => by omega⟩ (fun i hi => by
      match i, hi with
      | 0, _ => rfl
      | 1, _ => rfl
      | i + 2, h => omega)
    exact ⟨q1, Nat.le_trans q3 (by omega)⟩
  | some k =>
    have ht := curs_at hc
    obtain ⟨q1, _, q3⟩ := asg_ok s o.Overlays.toNat [-1, -1, (k : Int)] 1 false (by omega) ⟨rfl, fun u hu => by
        simp only [List.mem_cons, List.not_mem_nil, or_false] at hu
        rcases hu with rfl | rfl | rfl
        · exact .inl rfl
        · exact .inl rfl
        · exact .inr ⟨0, k, by omega, ht, rfl⟩, fun i hi => by
        obtain rfl : i = 0 := by omega
        exact ⟨k, ht, by simp⟩⟩ (fun i hi => by
      match i, hi with
      | 0, _ => rfl
      | 1, _ => rfl
      | i + 2, h => omega)
    exact ⟨q1, Nat.le_trans q3 (by omega)⟩
end Go.Proofs.Ytmhalmnbgkpmnaa
