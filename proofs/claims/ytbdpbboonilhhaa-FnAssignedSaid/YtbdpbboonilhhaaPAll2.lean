/- Plain laws about the pure functions, joined. -/
import Derived.Test.YtbdpbboonilhhaaPAll1
namespace Go.Proofs.Ytbdpbboonilhhaa
open Go.RowKit K
theorem s_copy (x : SurfaceT) (h : smSurface x) : spec_l10CopySurface x = some x := by
  have hl : x.Buffer.Data.length ≤ 1048576 := h
  simp only [spec_l10CopySurface, spec_l05Copy, bnd_s]
  rw [app_le (by simp only [List.length_nil]; omega)]; rfl
theorem i_copy (x : SurfaceT) (h : smSurface x) : impl_copySurface x = some x := by
  have hl : x.Buffer.Data.length ≤ 1048576 := h
  simp only [impl_copySurface, impl_copyImage, slices_Clone_S_int_int]
  rw [need_t (by omega)]; rfl
theorem contains_eq (a b c k : Int) : slices_Contains_S_int_int [a, b, c] k = some (decide (k = a) || (decide (k = b) || decide (k = c))) := by
  have e := findLoop (L := fun i => slices_Index_S_int_int_L0 [a, b, c] k i) [a, b, c] (by simp) (fun y => decide (k = y)) (fun i hi => by
    simp only [slices_Index_S_int_int_L0, idx_lt hi, bnd_s]
    rw [ifO_pos (by simp only [decide_eq_true_eq]; omega), ifO_if]) (by simp [slices_Index_S_int_int_L0])
  simp only [slices_Contains_S_int_int, slices_Index_S_int_int, e, bnd_s, List.findIdx?_cons, List.findIdx?_nil]
  cases decide (k = a) <;> cases decide (k = b) <;> cases decide (k = c) <;> rfl
end Go.Proofs.Ytbdpbboonilhhaa
namespace Go.Proofs.Ytbdpbboonilhhaa
open Go.RowKit K
def inL (a b c k : Int) : Bool := decide (k = a) || (decide (k = b) || decide (k = c))
def rest1 (s : SceneT) (a b c : Int) (k : Nat) : List SurfaceT := match s.Surfaces[k]? with
  | some x => if inL a b c k then [] else [x]
  | .none => []
def restN (s : SceneT) (a b c : Int) : Nat → List SurfaceT
  | 0 => []
  | k + 1 => restN s a b c k ++ rest1 s a b c k
theorem rest1_at {s : SceneT} {k : Nat} (h : k < s.Surfaces.length) (a b c : Int) : rest1 s a b c k = if inL a b c k then [] else [s.Surfaces[k]] := by
  unfold rest1; rw [List.getElem?_eq_getElem h]
theorem rest1_len (s : SceneT) (a b c : Int) (k : Nat) : (rest1 s a b c k).length ≤ 1 := by
  unfold rest1
  split
  · split <;> simp
  · simp
theorem restN_len (s : SceneT) (a b c : Int) : ∀ k, (restN s a b c k).length ≤ k
  | 0 => Nat.le_refl _
  | k + 1 => by
    have := restN_len s a b c k
    have := rest1_len s a b c k
    unfold restN
    rw [List.length_append]; omega
theorem restN_sm {s : SceneT} (h : smScene s) (a b c : Int) : ∀ k, ∀ x ∈ restN s a b c k, smSurface x
  | 0, x, hx => by simp [restN] at hx
  | k + 1, x, hx => by
    unfold restN at hx
    rcases List.mem_append.1 hx with hx | hx
    · exact restN_sm h a b c k x hx
    · unfold rest1 at hx
      split at hx
      · rename_i y hy
        split at hx
        · simp at hx
        · rw [List.mem_singleton.1 hx]; exact h.2 _ (List.mem_of_getElem? hy)
      · simp at hx
theorem i_restN (s : SceneT) (h : smScene s) (a b c : Int) : loopO (fun x => impl_RestOf_L0 s [a, b, c] x.1 x.2) (([] : List SurfaceT), 0) = some (restN s a b c s.Surfaces.length) := by
  have hl : s.Surfaces.length ≤ 1048576 := h.1
  exact loopO_up (f := fun x => impl_RestOf_L0 s [a, b, c] x.1 x.2) (fun k => (restN s a b c k, (k : Int))) s.Surfaces.length _ (by
    show impl_RestOf_L0 s [a, b, c] _ _ = _
    unfold impl_RestOf_L0; rw [ifO_neg (by simp)]) (fun k hk => by
    have hsm : smSurface s.Surfaces[k] := h.2 _ (List.getElem_mem hk)
    have hle := restN_len s a b c k
    have ha : app (restN s a b c k) [s.Surfaces[k]] = some (restN s a b c k ++ [s.Surfaces[k]]) := app_le (by simp only [List.length_singleton]; omega)
    show impl_RestOf_L0 s [a, b, c] (restN s a b c k) k = some (.inl (restN s a b c k ++ rest1 s a b c k, _))
    simp only [impl_RestOf_L0, contains_eq, bnd_s, idx_lt hk, i_copy _ hsm, ha, wr_succ (show k < 4611686018427387904 by omega), rest1_at hk]
    rw [ifO_pos (by simpa using hk), ifO_if]
    unfold inL
    cases (decide ((k : Int) = a) || (decide ((k : Int) = b) || decide ((k : Int) = c))) <;> simp) 0 (by omega)
def restOf (s : SceneT) (l : List Int) : SceneT := match l with
  | [a, b, c] => SceneT.mk s.W s.H s.Back (restN s a b c s.Surfaces.length)
  | _ => SceneT.mk 0 0 0 []
theorem asgOf_three (s : SceneT) (o : OptionsT) (ho : inR o.Overlays 0 2 = true) : ∃ a b c, (asgOf s o).1 = [a, b, c] := by
  have h := (asgOf_ok s o ho).1.1
  match hl : (asgOf s o).1, h with
  | [a, b, c], _ => exact ⟨a, b, c, rfl⟩
theorem i_RestOf (s : SceneT) (o : OptionsT) (h : smScene s) (hok : sceneOk s = true) (ho : inR o.Overlays 0 2 = true) (hl : inR o.Layout 0 2 = true) : impl_RestOf s o = some (restOf s (asgOf s o).1) := by
  obtain ⟨a, b, c, e⟩ := asgOf_three s o ho
  have i1 : impl_AssignedOf s o = some ((asgOf s o).1, ((asgOf s o).2 : Int)) := by
    obtain ⟨l, n, e1, e2, _⟩ := AssignedOf_eq s o h
    rw [e2, ← e1, s_AssignedOf s o h hok ho hl]
  have eo : impl_OptionsOk o = some true := by rw [OptionsOk_eq, s_OptionsOk, ho, hl]; rfl
  simp only [impl_RestOf, i_SceneOk s h, eo, hok, i1, bnd_s, e, orO_some]
  rw [ifO_neg (by simp), i_restN s h a b c]; rfl
theorem restOf_sm {s : SceneT} (h : smScene s) (l : List Int) : smScene (restOf s l) := by
  have hl : s.Surfaces.length ≤ 1048576 := h.1
  unfold restOf
  split
  · rename_i a b c
    have := restN_len s a b c s.Surfaces.length
    exact ⟨by show (restN s a b c s.Surfaces.length).length ≤ 1048576; omega, restN_sm h a b c _⟩
  · exact ⟨by simp, by simp⟩
end Go.Proofs.Ytbdpbboonilhhaa
namespace Go.Proofs.Ytbdpbboonilhhaa
open Go.RowKit K
def zeroP : PlaneT := PlaneT.mk false 0 0 0 0 0 [] 0 0 0 0
theorem ok_zero {k w h : Int} (hk : 1 ≤ k ∧ k ≤ 3) (hw : inR w 1 16 = true) (hh : inR h 1 16 = true) : spec_PlaneOk k zeroP w h = some true := by
  have c : inR k 0 3 = true := inR_t.2 (by omega)
  have hz : spec_l19Zero zeroP = some true := rfl
  have hk0 : decide (k = 0) = false := by simp; omega
  simp only [spec_PlaneOk, l01In_eq, c, hw, hh, bnd_s, orO_some]
  rw [ifO_neg (by rfl), ifO_pos (by rfl), hz, hk0]
  rfl
theorem ok_over {k w h : Int} {p : PlaneT} {j : ImageT} (hk : k = 1 ∨ k = 2) (hw : inR w 1 16 = true) (hh : inR h 1 16 = true) (hon : p.On = true) (hj : spec_PlaneImage p = some (j, true)) (hx : inR p.X (-32) 32 = true) (hy : inR p.Y (-32) 32 = true) : spec_PlaneOk k p w h = some true := by
  have c : inR k 0 3 = true := inR_t.2 (by omega)
  have k3 : decide (k = 3) = false := by simp; omega
  have k0 : (!decide (k = 0)) = true := by simp; omega
  simp only [spec_PlaneOk, l01In_eq, c, hw, hh, bnd_s, orO_some, hon, hj, hx, hy, k3, k0]
  rfl
theorem ok_cursor {w h : Int} {p : PlaneT} {j : ImageT} (hw : inR w 1 16 = true) (hh : inR h 1 16 = true) (hon : p.On = true) (hj : spec_PlaneImage p = some (j, true)) (hx : inR p.X (-32) 32 = true) (hy : inR p.Y (-32) 32 = true)
    (z0 : p.Orient = 0) (z1 : p.ToW = 0) (z2 : p.ToH = 0) (z3 : p.Alpha = 255) (z4 : p.W ≤ 4) (z5 : p.H ≤ 4) : spec_PlaneOk 3 p w h = some true := by
  have c : inR 3 0 3 = true := rfl
  simp only [spec_PlaneOk, l01In_eq, c, hw, hh, bnd_s, orO_some, hon, hj, hx, hy]
  simp [z0, z1, z2, z3, z4, z5]
theorem ok_primary {w h : Int} {p : PlaneT} {j : ImageT} (hw : inR w 1 16 = true) (hh : inR h 1 16 = true) (hon : p.On = true) (hj : spec_PlaneImage p = some (j, true)) (hl : j.Data.length ≤ 1048576) (hq : ∀ v ∈ j.Data, opq v = true)
    (hx : p.X = 0) (hy : p.Y = 0) (z0 : p.Orient = 0) (z1 : p.ToW = 0) (z2 : p.ToH = 0) (z3 : p.Alpha = 255) (z4 : p.W = w) (z5 : p.H = h) : spec_PlaneOk 0 p w h = some true := by
  have c : inR 0 0 3 = true := rfl
  have cx : inR 0 (-32) 32 = true := rfl
  have ha : j.Data.all opq = true := List.all_eq_true.2 hq
  simp only [spec_PlaneOk, l01In_eq, c, hw, hh, bnd_s, orO_some, hon, hj, hx, hy, cx, allOpaque j hl, ha]
  simp [z0, z1, z2, z3, z4, z5, fork_inl]
section Rects
variable (b : List Int) (hb : b.length ≤ 1048576)
include hb
end Rects
section Draw3
variable (b : List Int) (hb : b.length ≤ 1048576) (w h : Int) (hw : inR w 1 16 = true) (hh : inR h 1 16 = true)
include hb hw hh
end Draw3
end Go.Proofs.Ytbdpbboonilhhaa
namespace Go.Proofs.Ytbdpbboonilhhaa
open Go.RowKit K
theorem PlaneOk_some {k w h : Int} {p : PlaneT} (hp : p.Words.length ≤ 1048576) : ∃ b, spec_PlaneOk k p w h = some b ∧ impl_PlaneOk k p w h = some b := by
  obtain ⟨b, e1, e2, _⟩ := PlaneOk_eq k p w h hp
  exact ⟨b, e1, e2⟩
theorem planesOk_mk {P0 P1 P2 P3 : PlaneT} {w h : Int} (c0 : spec_PlaneOk 0 P0 w h = some true) (c1 : spec_PlaneOk 1 P1 w h = some true) (c2 : spec_PlaneOk 2 P2 w h = some true) (c3 : spec_PlaneOk 3 P3 w h = some true) (hz : P1.ToW = 0 ∨ P2.ToW = 0) : spec_PlanesOk [P0, P1, P2, P3] w h = some true := by
  have step : ∀ (k : Nat) (P : PlaneT), k < 4 → [P0, P1, P2, P3][k]? = some P → spec_PlaneOk k P w h = some true → spec_PlanesOk_L0 [P0, P1, P2, P3] w h k = some (.inl ((k + 1 : Nat) : Int)) := by
    intro k P hk hP hok
    unfold spec_PlanesOk_L0
    rw [ifO_pos (by simp; omega), idx_at hP, bnd_s, hok, bnd_s, wr_succ (by omega)]; rfl
  have hll : loopO (fun k => spec_PlanesOk_L0 [P0, P1, P2, P3] w h k) 0 = some (.inl ()) := by
    rw [loopO_inl (f := fun k => spec_PlanesOk_L0 [P0, P1, P2, P3] w h k) (s := 0) (step 0 P0 (by omega) rfl c0)]
    rw [loopO_inl (f := fun k => spec_PlanesOk_L0 [P0, P1, P2, P3] w h k) (step 1 P1 (by omega) rfl c1)]
    rw [loopO_inl (f := fun k => spec_PlanesOk_L0 [P0, P1, P2, P3] w h k) (step 2 P2 (by omega) rfl c2)]
    rw [loopO_inl (f := fun k => spec_PlanesOk_L0 [P0, P1, P2, P3] w h k) (step 3 P3 (by omega) rfl c3)]
    exact loopO_inr rfl
  have x1 : idx [P0, P1, P2, P3] 1 = some P1 := rfl
  have x2 : idx [P0, P1, P2, P3] 2 = some P2 := rfl
  unfold spec_PlanesOk
  rw [hll, ifO_neg (by simp)]
  simp only [bnd_s, fork_inl, x1, x2, orO_some]
  rcases hz with hz | hz <;> simp [hz]
theorem planesOk_parts {l : List PlaneT} {w h : Int} (hs : smPlaneS l) (hok : spec_PlanesOk l w h = some true) : ∃ P0 P1 P2 P3, l = [P0, P1, P2, P3] ∧ spec_PlaneOk 0 P0 w h = some true ∧ spec_PlaneOk 1 P1 w h = some true ∧ spec_PlaneOk 2 P2 w h = some true ∧ spec_PlaneOk 3 P3 w h = some true ∧ (P1.ToW = 0 ∨ P2.ToW = 0) := by
  obtain ⟨b, e1, _, e3⟩ := PlanesOk_eq l w h hs
  rw [hok] at e1
  obtain rfl := Option.some.inj e1
  obtain ⟨P0, P1, P2, P3, rfl, _⟩ := e3 rfl
  refine ⟨P0, P1, P2, P3, rfl, ?_⟩
  have sm : ∀ x ∈ [P0, P1, P2, P3], x.Words.length ≤ 1048576 := hs.2
  obtain ⟨b0, c0, _⟩ := PlaneOk_some (k := 0) (w := w) (h := h) (sm P0 (by simp))
  obtain ⟨b1, c1, _⟩ := PlaneOk_some (k := 1) (w := w) (h := h) (sm P1 (by simp))
  obtain ⟨b2, c2, _⟩ := PlaneOk_some (k := 2) (w := w) (h := h) (sm P2 (by simp))
  obtain ⟨b3, c3, _⟩ := PlaneOk_some (k := 3) (w := w) (h := h) (sm P3 (by simp))
  let f : Nat → Bool := fun k => match k with | 0 => b0 | 1 => b1 | 2 => b2 | _ => b3
  have hf : ∀ (k : Nat) (hk : k < 4), spec_PlaneOk k [P0, P1, P2, P3][k] w h = some (f k) := fun k hk => match k, hk with
    | 0, _ => c0
    | 1, _ => c1
    | 2, _ => c2
    | 3, _ => c3
  have hl := allLoop (L := fun k => spec_PlanesOk_L0 [P0, P1, P2, P3] w h k) 4 (by omega) f false (fun k hk ho => by
      show spec_PlanesOk_L0 [P0, P1, P2, P3] w h k = _
      unfold spec_PlanesOk_L0
      have hk' : k < [P0, P1, P2, P3].length := hk
      rw [ifO_pos (by simp; omega), idx_lt hk', bnd_s, hf k hk, bnd_s, ho]; rfl) (fun k hk ho => by
      show spec_PlanesOk_L0 [P0, P1, P2, P3] w h k = _
      unfold spec_PlanesOk_L0
      have hk' : k < [P0, P1, P2, P3].length := hk
      rw [ifO_pos (by simp; omega), idx_lt hk', bnd_s, hf k hk, bnd_s, ho]; rfl) rfl
  have e4 : (List.range 4).all f = (b0 && (b1 && (b2 && b3))) := by
    show (f 0 && (f 1 && (f 2 && (f 3 && true)))) = _
    rw [Bool.and_true]; rfl
  rw [e4] at hl
  have x1 : idx [P0, P1, P2, P3] 1 = some P1 := rfl
  have x2 : idx [P0, P1, P2, P3] 2 = some P2 := rfl
  unfold spec_PlanesOk at hok
  rw [hl, ifO_neg (by simp)] at hok
  cases hb : (b0 && (b1 && (b2 && b3))) with
  | false =>
    rw [hb] at hok
    have := Option.some.inj (show some false = some true from hok)
    cases this
  | true =>
    rw [hb] at hok
    simp only [Bool.and_eq_true] at hb
    obtain ⟨rfl, rfl, rfl, rfl⟩ := hb
    refine ⟨c0, c1, c2, c3, ?_⟩
    simp only [if_true, bnd_s, fork_inl, x1, x2, orO_some] at hok
    have := Option.some.inj hok
    simpa using this
theorem goodOf {l : List PlaneT} {w h : Int} (hs : smPlaneS l) (hok : spec_PlanesOk l w h = some true) : goodPlanes l w h ∧ impl_PlanesOk l w h = some true := by
  obtain ⟨b, e1, e2, e3⟩ := PlanesOk_eq l w h hs
  rw [hok] at e1
  obtain rfl := Option.some.inj e1
  exact ⟨e3 rfl, e2⟩
theorem lay_off {W : Nat} {p : PlaneT} (h : p.On = false) (out : List Int) : lay W p out = out := by
  have e : spec_PlaneImage p = some (ImageT.mk 0 0 [], false) := by
    simp only [spec_PlaneImage, spec_l19Loaded, h, Bool.not_false, ifO_true, bnd_s, orO_some]
    rfl
  unfold lay; rw [e]
end Go.Proofs.Ytbdpbboonilhhaa
namespace Go.Proofs.Ytbdpbboonilhhaa
open Go.RowKit K

theorem PlaneOf_eq (i : ImageT) (x y lay : Int) (h : i.Data.length ≤ 1048576) : ∃ p, spec_PlaneOf i x y lay = some p ∧ impl_PlaneOf i x y lay = some p ∧ p.Words.length ≤ 512 := by
  obtain ⟨w, b, e1, e2, e3⟩ := StoreImage_eq i lay h
  simp only [spec_PlaneOf, impl_PlaneOf, e1, e2, bnd_s]
  cases b with
  | true => exact ⟨_, rfl, rfl, e3⟩
  | false => exact ⟨_, rfl, rfl, by simp⟩
end Go.Proofs.Ytbdpbboonilhhaa
namespace Go.Proofs.Ytbdpbboonilhhaa
open Go.RowKit K
theorem sceneOk_sm {s : SceneT} (h : sceneOk s = true) (hl : s.Surfaces.length ≤ 1048576) : s.Surfaces.length ≤ 6 := by
  unfold sceneOk at h
  simp only [Bool.and_eq_true, decide_eq_true_eq] at h
  omega
theorem c_copyImage (i : ImageT) (h : i.Data.length ≤ 1048576) : spec_l05Copy i = some i := by
  simp only [spec_l05Copy]
  rw [app_le (by simp only [List.length_nil]; omega)]; rfl
theorem c_copySurface (x : SurfaceT) (h : smSurface x) : spec_l10CopySurface x = some x := by
  have hl : x.Buffer.Data.length ≤ 1048576 := h
  simp only [spec_l10CopySurface, c_copyImage _ hl, bnd_s]
theorem c_copyScene (s : SceneT) (h : smScene s) : spec_l10Copy s = some s := by
  have hn : s.Surfaces.length ≤ 1048576 := h.1
  have hl := loopO_up (f := fun x => spec_l10Copy_L0 s x.1 x.2) (fun k => (s.Surfaces.take k, (k : Int))) s.Surfaces.length s.Surfaces (by
    simp only [List.take_length]
    show spec_l10Copy_L0 s s.Surfaces _ = _
    unfold spec_l10Copy_L0
    rw [ifO_neg (by simp)]) (fun k hk => by
    show spec_l10Copy_L0 s (s.Surfaces.take k) k = _
    unfold spec_l10Copy_L0
    rw [ifO_pos (by simpa using hk), idx_lt hk, bnd_s, c_copySurface _ (h.2 _ (List.getElem_mem hk)), bnd_s, app_le (by simp only [List.length_singleton, List.length_take]; omega), bnd_s, wr_succ (by omega), List.take_add_one, List.getElem?_eq_getElem hk]; rfl) 0 (by omega)
  have hl' : loopO (fun x => spec_l10Copy_L0 s x.1 x.2) (([] : List SurfaceT), 0) = some s.Surfaces := hl
  unfold spec_l10Copy
  rw [hl']; rfl
def fineS (x : SurfaceT) : Prop := smSurface x ∧ x.Id ≠ 77
theorem restLoop' (s : SceneT) (h : smScene s) {Q : SurfaceT → Prop} (hf : ∀ x ∈ s.Surfaces, Q x) (q : Int) : ∃ r, loopO (fun x => spec_DoEdit_L0 s q x.1 x.2) (([] : List SurfaceT), 0) = some r ∧ r.length ≤ s.Surfaces.length ∧ ∀ x ∈ r, Q x := by
  have hn : s.Surfaces.length ≤ 1048576 := h.1
  have key : ∀ (j k : Nat) (out : List SurfaceT), k + j = s.Surfaces.length → out.length ≤ k → (∀ x ∈ out, Q x) → ∃ r, loopO (fun x => spec_DoEdit_L0 s q x.1 x.2) (out, (k : Int)) = some r ∧ r.length ≤ s.Surfaces.length ∧ ∀ x ∈ r, Q x := by
    intro j
    induction j with
    | zero =>
      intro k out hk ho hs
      refine ⟨out, loopO_inr ?_, by omega, hs⟩
      show spec_DoEdit_L0 s q out k = _
      unfold spec_DoEdit_L0
      rw [ifO_neg (by simp; omega)]
    | succ j ih =>
      intro k out hk ho hs
      have hlt : k < s.Surfaces.length := by omega
      by_cases hq : 0 ≤ q
      · by_cases he : (k : Int) = q
        · have hst : spec_DoEdit_L0 s q out k = some (.inl (out, ((k + 1 : Nat) : Int))) := by
            unfold spec_DoEdit_L0
            rw [ifO_pos (by simp; omega), ifO_neg (by simpa using he), bnd_s, wr_succ (by omega)]
          rw [loopO_inl (f := fun (x : List SurfaceT × Int) => spec_DoEdit_L0 s q x.1 x.2) (s := (out, (k : Int))) hst]
          exact ih (k + 1) out (by omega) (by omega) hs
        · have hst : spec_DoEdit_L0 s q out k = some (.inl (out ++ [s.Surfaces[k]], ((k + 1 : Nat) : Int))) := by
            unfold spec_DoEdit_L0
            rw [ifO_pos (by simp; omega), ifO_pos (by simpa using he), idx_lt hlt, bnd_s, app_le (by simp only [List.length_singleton]; omega), bnd_s, bnd_s, wr_succ (by omega)]
          rw [loopO_inl (f := fun (x : List SurfaceT × Int) => spec_DoEdit_L0 s q x.1 x.2) (s := (out, (k : Int))) hst]
          refine ih (k + 1) _ (by omega) (by simp; omega) (fun x hx => ?_)
          rcases List.mem_append.1 hx with hx | hx
          · exact hs x hx
          · rw [List.mem_singleton.1 hx]; exact hf _ (List.getElem_mem hlt)
      · refine ⟨out, loopO_inr ?_, by omega, hs⟩
        show spec_DoEdit_L0 s q out k = _
        unfold spec_DoEdit_L0
        rw [ifO_neg (by simp; omega)]
  exact key s.Surfaces.length 0 [] (by omega) (by simp) (by simp)
def Fine (s : SceneT) : Prop := smScene s ∧ sceneOk s = true ∧ ∀ x ∈ s.Surfaces, fineS x
theorem setOne {xs : List SurfaceT} (h : ∀ x ∈ xs, fineS x) (k : Nat) (v : SurfaceT) (hv : fineS v) : ∀ x ∈ xs.set k v, fineS x :=
  fun x hx => (List.mem_or_eq_of_mem_set hx).elim (h x) (fun e => e ▸ hv)
theorem bind_fin {α β : Type} {o : Option α} {f : α → Option β} {P : α → Prop} {Q : β → Prop} (h : ∃ a, o = some a ∧ P a) (k : ∀ a, P a → ∃ r, f a = some r ∧ Q r) : ∃ r, Option.bind o f = some r ∧ Q r := by
  obtain ⟨a, rfl, ha⟩ := h
  exact k a ha
theorem ifO_or {α : Type} {c : Bool} {x y : Option α} {P : α → Prop} (hx : c = true → ∃ a, x = some a ∧ P a) (hy : c = false → ∃ a, y = some a ∧ P a) : ∃ a, ifO c x y = some a ∧ P a := by
  cases c with
  | true => exact hx rfl
  | false => exact hy rfl
theorem updAt {xs : List SurfaceT} (h : ∀ x ∈ xs, fineS x) (hl : xs.length ≤ 7) {k : Nat} (hk : k < xs.length) (b : Int) (f : SurfaceT → SurfaceT) (hf : fineS xs[k] → fineS (f xs[k])) :
    ∃ a : Int × List SurfaceT, (Option.bind (idx xs (k : Int)) fun x => Option.bind (upd xs (k : Int) (f x)) fun y => some (b, y)) = some a ∧ a.2.length ≤ 7 ∧ ∀ x ∈ a.2, fineS x := by
  rw [idx_lt hk, bnd_s, upd_lt hk, bnd_s]
  exact ⟨_, rfl, by rw [List.length_set]; exact hl, setOne h k _ (hf (h _ (List.getElem_mem hk)))⟩
theorem updAt2 {xs : List SurfaceT} (h : ∀ x ∈ xs, fineS x) (hl : xs.length ≤ 7) {k : Nat} (hk : k < xs.length) (b : Int) (f g : SurfaceT → SurfaceT) (hf : ∀ x, fineS x → fineS (f x)) (hg : ∀ x, fineS x → fineS (g x)) :
    ∃ a : Int × List SurfaceT, (Option.bind (idx xs (k : Int)) fun x => Option.bind (upd xs (k : Int) (f x)) fun y => Option.bind (idx y (k : Int)) fun x2 => Option.bind (upd y (k : Int) (g x2)) fun y2 => some (b, y2)) = some a ∧ a.2.length ≤ 7 ∧ ∀ x ∈ a.2, fineS x := by
  rw [idx_lt hk, bnd_s, upd_lt hk, bnd_s, idx_set hk, bnd_s, upd_set hk, bnd_s]
  exact ⟨_, rfl, by rw [List.length_set]; exact hl, setOne h k _ (hg _ (hf _ (h _ (List.getElem_mem hk))))⟩
theorem DoEdit_ok {s : SceneT} (hs : Fine s) (e : EditT) (he : e.Buffer.Data.length ≤ 1048576) (h77 : e.Id ≠ 77) : ∃ r, spec_DoEdit s e = some r ∧ Fine r.1 := by
  have hs0 := hs
  obtain ⟨hsm, hok, hfi⟩ := hs
  have hn : s.Surfaces.length ≤ 6 := sceneOk_sm hok hsm.1
  have hix := SurfaceIndex_eq s e.Id hsm.1
  have hq : ∀ k, s.Surfaces.findIdx? (fun y => decide (y.Id = e.Id)) = some k → k < s.Surfaces.length := fun k hk => (List.findIdx?_eq_some_iff_getElem.1 hk).1
  obtain ⟨q, hqe, hqq⟩ : ∃ q : Int, spec_SurfaceIndex s e.Id = some q ∧ (q < 0 ∨ ∃ k : Nat, q = k ∧ k < s.Surfaces.length) := by
    refine ⟨_, hix, ?_⟩
    cases hf : s.Surfaces.findIdx? (fun y => decide (y.Id = e.Id)) with
    | none => exact .inl (by simp)
    | some k => exact .inr ⟨k, rfl, hq k hf⟩
  obtain ⟨r, r1, r2, r3⟩ := restLoop' s hsm hfi q
  unfold spec_DoEdit
  rw [c_copyScene s hsm, bnd_s, hqe, bnd_s, s_SceneOk s hsm, bnd_s, hok]
  simp only [l01In_eq, bnd_s, orO_some, Bool.not_true, Bool.false_or]
  refine ifO_or (fun _ => ⟨_, rfl, hs0⟩) (fun hbad => ?_)
  have hk : ∀ j, e.Kind = j → j ≠ 0 → j ≠ 10 → ∃ k : Nat, q = k ∧ k < s.Surfaces.length := by
    intro j hj h0 h10
    rcases hqq with h | h
    · subst hj
      exfalso
      simp [h, h0, h10] at hbad
    · exact h
  rw [r1, bnd_s]
  refine bind_fin (P := fun a => a.2.length ≤ 7 ∧ ∀ x ∈ a.2, fineS x) ?_ (fun a ha => ?_)
  · refine ifO_or (fun _ => ?_) (fun h0 => ?_)
    · rw [c_copyImage _ he, bnd_s, app_le (by simp only [List.length_singleton]; omega), bnd_s]
      refine ⟨_, rfl, by simp; omega, fun x hx => ?_⟩
      rcases List.mem_append.1 hx with hx | hx
      · exact hfi x hx
      · rw [List.mem_singleton.1 hx]; exact ⟨he, h77⟩
    refine ifO_or (fun _ => ⟨_, rfl, by show r.length ≤ 7; omega, r3⟩) (fun h1 => ?_)
    refine ifO_or (fun h2 => ?_) (fun h2 => ?_)
    · obtain ⟨k, rfl, hkl⟩ := hk 2 (by simpa using h2) (by omega) (by omega)
      exact updAt2 hfi (by omega) hkl _ (fun x => SurfaceT.mk x.Id e.A x.Y x.W x.H x.Alpha x.Orient x.Visible x.Buffer) (fun x => SurfaceT.mk x.Id x.X e.B x.W x.H x.Alpha x.Orient x.Visible x.Buffer) (fun _ h => h) (fun _ h => h)
    refine ifO_or (fun h3 => ?_) (fun h3 => ?_)
    · obtain ⟨k, rfl, hkl⟩ := hk 3 (by simpa using h3) (by omega) (by omega)
      rw [idx_lt hkl, bnd_s, app_le (by simp only [List.length_singleton]; omega), bnd_s]
      refine ⟨_, rfl, by simp; omega, fun x hx => ?_⟩
      rcases List.mem_append.1 hx with hx | hx
      · exact r3 x hx
      · rw [List.mem_singleton.1 hx]; exact hfi _ (List.getElem_mem hkl)
    refine ifO_or (fun h4 => ?_) (fun h4 => ?_)
    · obtain ⟨k, rfl, hkl⟩ := hk 4 (by simpa using h4) (by omega) (by omega)
      rw [idx_lt hkl, bnd_s, app_le (by simp only [List.length_singleton]; omega), bnd_s]
      refine ⟨_, rfl, by simp; omega, fun x hx => ?_⟩
      rcases List.mem_append.1 hx with hx | hx
      · rw [List.mem_singleton.1 hx]; exact hfi _ (List.getElem_mem hkl)
      · exact r3 x hx
    refine ifO_or (fun h5 => ?_) (fun h5 => ?_)
    · obtain ⟨k, rfl, hkl⟩ := hk 5 (by simpa using h5) (by omega) (by omega)
      rw [c_copyImage _ he, bnd_s]
      exact updAt hfi (by omega) hkl _ (fun x => SurfaceT.mk x.Id x.X x.Y x.W x.H x.Alpha x.Orient x.Visible e.Buffer) (fun h => ⟨he, h.2⟩)
    refine ifO_or (fun h6 => ?_) (fun h6 => ?_)
    · obtain ⟨k, rfl, hkl⟩ := hk 6 (by simpa using h6) (by omega) (by omega)
      exact updAt hfi (by omega) hkl _ (fun x => SurfaceT.mk x.Id x.X x.Y x.W x.H e.A x.Orient x.Visible x.Buffer) (fun h => h)
    refine ifO_or (fun h7 => ?_) (fun h7 => ?_)
    · obtain ⟨k, rfl, hkl⟩ := hk 7 (by simpa using h7) (by omega) (by omega)
      exact updAt hfi (by omega) hkl _ (fun x => SurfaceT.mk x.Id x.X x.Y x.W x.H x.Alpha e.A x.Visible x.Buffer) (fun h => h)
    refine ifO_or (fun h8 => ?_) (fun h8 => ?_)
    · obtain ⟨k, rfl, hkl⟩ := hk 8 (by simpa using h8) (by omega) (by omega)
      exact updAt2 hfi (by omega) hkl _ (fun x => SurfaceT.mk x.Id x.X x.Y e.A x.H x.Alpha x.Orient x.Visible x.Buffer) (fun x => SurfaceT.mk x.Id x.X x.Y x.W e.B x.Alpha x.Orient x.Visible x.Buffer) (fun _ h => h) (fun _ h => h)
    refine ifO_or (fun h9 => ?_) (fun h9 => ?_)
    · obtain ⟨k, rfl, hkl⟩ := hk 9 (by simpa using h9) (by omega) (by omega)
      exact updAt hfi (by omega) hkl _ (fun x => SurfaceT.mk x.Id x.X x.Y x.W x.H x.Alpha x.Orient (decide (e.A = 1)) x.Buffer) (fun h => h)
    · exact ⟨_, rfl, by show s.Surfaces.length ≤ 7; omega, hfi⟩
  · obtain ⟨b, l⟩ := a
    obtain ⟨hl, hx⟩ := ha
    have hm : smScene (SceneT.mk s.W s.H b l) := ⟨by show l.length ≤ 1048576; have : l.length ≤ 7 := hl; omega, fun x h => (hx x h).1⟩
    show ∃ r, (Option.bind (spec_SceneOk (SceneT.mk s.W s.H b l)) fun x35_1 => ifO (!x35_1) (some (s, false)) (Option.bind (spec_l10Copy (SceneT.mk s.W s.H b l)) fun x37_1 => some (x37_1, true))) = some r ∧ Fine r.1
    rw [s_SceneOk _ hm, bnd_s]
    cases hb : sceneOk (SceneT.mk s.W s.H b l) with
    | false => exact ⟨(s, false), by simp only [Bool.not_false, ifO_true], hs0⟩
    | true => exact ⟨(SceneT.mk s.W s.H b l, true), by simp only [Bool.not_true, ifO_false, c_copyScene _ hm, bnd_s], hm, hb, hx⟩
end Go.Proofs.Ytbdpbboonilhhaa
namespace Go.Proofs.Ytbdpbboonilhhaa
open Go.RowKit K
def EdFine (e : EditT) : Prop := e.Buffer.Data.length ≤ 1048576 ∧ e.Id ≠ 77
section DS
variable (b : List Int) (hb : b.length ≤ 1048576)
include hb
def Drw {α : Type} (b : List Int) (P : α → Prop) (r : α × L01CurT) : Prop := P r.1 ∧ ∃ i h, r.2 = L01CurT.mk b i h ∧ 0 ≤ i
omit hb in
theorem Drw.mk {α : Type} {P : α → Prop} {v : α} {i h : Int} (hp : P v) (hi : 0 ≤ i) : Drw b P (v, L01CurT.mk b i h) := ⟨hp, i, h, rfl, hi⟩
theorem edit_ok (i h : Int) (hi : 0 ≤ i) : ∃ r, spec_l10Edit (L01CurT.mk b i h) = some r ∧ Drw b EdFine r := by
  obtain ⟨k, i1, g1, e1, k0, k1, hi1⟩ := below_ok b hb i h 11 hi (by omega) (by omega)
  obtain ⟨d, i2, g2, e2, d0, d1, hi2⟩ := below_ok b hb i1 g1 4 hi1 (by omega) (by omega)
  have z : (ImageT.mk 0 0 []).Data.length ≤ 1048576 := by simp
  have h77 : wr (1 + d) ≠ 77 := by rw [wr_in (by omega) (by omega)]; omega
  unfold spec_l10Edit
  rw [e1, bnd_s]
  simp only []
  rw [e2, bnd_s]
  simp only []
  have img : ∃ r, (Option.bind (spec_l01Below (L01CurT.mk b i2 g2) 12) fun x => Option.bind (spec_l01Below (L01CurT.mk b x.2.i x.2.h) 8) fun y => Option.bind (spec_l05Image (L01CurT.mk b y.2.i y.2.h) 6) fun u => some ((EditT.mk k (wr (1 + d)) (wr (x.1 - 2)) (wr (y.1 - 2)) u.1), (L01CurT.mk b u.2.i u.2.h))) = some r ∧ Drw b EdFine r := by
    obtain ⟨x, i3, g3, e3, _, _, hi3⟩ := below_ok b hb i2 g2 12 hi2 (by omega) (by omega)
    obtain ⟨y, i4, g4, e4, _, _, hi4⟩ := below_ok b hb i3 g3 8 hi3 (by omega) (by omega)
    obtain ⟨q, i5, g5, e5, hq, _, _, hi5⟩ := image_ok b hb i4 g4 6 hi4 (by omega) (by omega)
    rw [e3, bnd_s, e4, bnd_s, e5, bnd_s]
    exact ⟨_, rfl, .mk b ⟨by have := imgOk_le hq; show q.Data.length ≤ 1048576; omega, h77⟩ hi5⟩
  have mid : ∀ o : Option (EditT × L01CurT), (∃ r, o = some r ∧ Drw b EdFine r) → ∃ r, o = some r ∧ Drw b EdFine r := fun _ h => h
  refine ifO_or (fun _ => ifO_or (fun _ => img) (fun _ => ?_)) (fun _ => ifO_or (fun _ => img) (fun _ => ?_))
  all_goals
    refine ifO_or (fun _ => ?_) (fun _ => ifO_or (fun _ => ?_) (fun _ => ifO_or (fun _ => ?_) (fun _ => ifO_or (fun _ => ?_) (fun _ => ifO_or (fun _ => ?_) (fun _ => ifO_or (fun _ => ?_) (fun _ => ?_))))))
    · obtain ⟨x, i3, g3, e3, _, _, hi3⟩ := below_ok b hb i2 g2 14 hi2 (by omega) (by omega)
      obtain ⟨y, i4, g4, e4, _, _, hi4⟩ := below_ok b hb i3 g3 10 hi3 (by omega) (by omega)
      rw [e3, bnd_s]; simp only []; rw [e4, bnd_s]
      exact ⟨_, rfl, .mk b ⟨z, h77⟩ hi4⟩
    · obtain ⟨x, i3, g3, e3, _, hi3⟩ := pick_ok b hb i2 g2 [255, 128, 0] hi2 (by simp) (by simp)
      rw [e3, bnd_s]
      exact ⟨_, rfl, .mk b ⟨z, h77⟩ hi3⟩
    · obtain ⟨x, i3, g3, e3, _, _, hi3⟩ := below_ok b hb i2 g2 8 hi2 (by omega) (by omega)
      rw [e3, bnd_s]
      exact ⟨_, rfl, .mk b ⟨z, h77⟩ hi3⟩
    · obtain ⟨x, i3, g3, e3, hi3⟩ := once_ok b hb i2 g2 2 hi2 (by omega) (by omega)
      rw [e3, bnd_s]
      refine ifO_or (fun _ => ?_) (fun _ => ⟨_, rfl, .mk b ⟨z, h77⟩ hi3⟩)
      obtain ⟨y, i4, g4, e4, _, _, hi4⟩ := below_ok b hb i3 g3 9 hi3 (by omega) (by omega)
      obtain ⟨u, i5, g5, e5, _, _, hi5⟩ := below_ok b hb i4 g4 9 hi4 (by omega) (by omega)
      rw [e4, bnd_s]; simp only []; rw [e5, bnd_s]
      exact ⟨_, rfl, .mk b ⟨z, h77⟩ hi5⟩
    · obtain ⟨x, i3, g3, e3, _, _, hi3⟩ := below_ok b hb i2 g2 2 hi2 (by omega) (by omega)
      rw [e3, bnd_s]
      exact ⟨_, rfl, .mk b ⟨z, h77⟩ hi3⟩
    · obtain ⟨p, i3, g3, e3, _, hi3⟩ := draw4_ok b hb i2 g2 hi2
      rw [e3, bnd_s]
      exact ⟨_, rfl, .mk b ⟨z, h77⟩ hi3⟩
    · exact ⟨_, rfl, .mk b ⟨z, h77⟩ hi2⟩
theorem options_ok (i h : Int) (hi : 0 ≤ i) : ∃ r, spec_l21Options (L01CurT.mk b i h) = some r ∧ inR r.1.Overlays 0 2 = true ∧ inR r.1.Layout 0 2 = true := by
  obtain ⟨x, i1, g1, e1, x0, x1, hi1⟩ := below_ok b hb i h 3 hi (by omega) (by omega)
  obtain ⟨c, i2, g2, e2, hi2⟩ := once_ok b hb i1 g1 2 hi1 (by omega) (by omega)
  obtain ⟨y, i3, g3, e3, y0, y1, hi3⟩ := below_ok b hb i2 g2 3 hi2 (by omega) (by omega)
  obtain ⟨p, i4, g4, e4, hi4⟩ := once_ok b hb i3 g3 2 hi3 (by omega) (by omega)
  obtain ⟨q, i5, g5, e5, hi5⟩ := once_ok b hb i4 g4 2 hi4 (by omega) (by omega)
  obtain ⟨r, i6, g6, e6, hi6⟩ := once_ok b hb i5 g5 2 hi5 (by omega) (by omega)
  unfold spec_l21Options
  simp only [e1, bnd_s, e2, e3, e4, e5, e6]
  exact ⟨_, rfl, inR_t.2 ⟨x0, by show x ≤ 2; omega⟩, inR_t.2 ⟨y0, by show y ≤ 2; omega⟩⟩
theorem scene_ok (i h : Int) (hi : 0 ≤ i) : ∃ r, spec_l10Scene (L01CurT.mk b i h) = some r ∧ Drw b Fine r := by
  obtain ⟨w, i1, g1, e1, w0, w1, hi1⟩ := below_ok b hb i h 7 hi (by omega) (by omega)
  obtain ⟨z, i2, g2, e2, z0, z1, hi2⟩ := below_ok b hb i1 g1 6 hi1 (by omega) (by omega)
  obtain ⟨p, i3, g3, e3, hp, hi3⟩ := draw4_ok b hb i2 g2 hi2
  obtain ⟨k, i4, g4, e4, k0, k1, hi4⟩ := below_ok b hb i3 g3 4 hi3 (by omega) (by omega)
  have f0 : Fine (SceneT.mk (wr (4 + w)) (wr (3 + z)) (or64 p 4278190080) []) := by
    refine ⟨⟨by simp, by simp⟩, ?_, by simp⟩
    unfold sceneOk
    rw [wr_in (by omega) (by omega), wr_in (by omega) (by omega)]
    have a1 : inR (4 + w) 1 16 = true := inR_t.2 (by omega)
    have a2 : inR (3 + z) 1 16 = true := inR_t.2 (by omega)
    simp only [a1, a2, (opq_or hp).2]; rfl
  have loop0 : ∀ (k : Nat) (i' g : Int) (s : SceneT), k ≤ 4 → 0 ≤ i' → Fine s → ∃ i2 g2 s', loopO (fun (x : Int × Int × Int × Int × Int × List SurfaceT × Int) => spec_l10Scene_L0 (L01CurT.mk b i h) x.1 x.2.1 x.2.2.1 x.2.2.2.1 x.2.2.2.2.1 x.2.2.2.2.2.1 x.2.2.2.2.2.2) (i', g, s.W, s.H, s.Back, s.Surfaces, (k : Int)) = some (i2, g2, SceneT.W s', SceneT.H s', SceneT.Back s', SceneT.Surfaces s') ∧ 0 ≤ i2 ∧ Fine s' := by
    intro k
    induction k with
    | zero =>
      intro i' g s _ hi' hs
      refine ⟨i', g, s, loopO_inr ?_, hi', hs⟩
      simp only [spec_l10Scene_L0]
      rw [ifO_neg (by simp)]
    | succ k ih =>
      intro i' g s hk hi' hs
      obtain ⟨x, j1, t1, f1, x0, x1, hj1⟩ := below_ok b hb i' g 9 hi' (by omega) (by omega)
      obtain ⟨y, j2, t2, f2, y0, y1, hj2⟩ := below_ok b hb j1 t1 7 hj1 (by omega) (by omega)
      obtain ⟨q, j3, t3, f3, hq, _, _, hj3⟩ := image_ok b hb j2 t2 6 hj2 (by omega) (by omega)
      obtain ⟨⟨s', ok⟩, d1, d2⟩ := DoEdit_ok hs (EditT.mk 0 ((k + 1 : Nat) : Int) (wr (x - 2)) (wr (y - 2)) q) (by have := imgOk_le hq; show q.Data.length ≤ 1048576; omega) (by show ((k + 1 : Nat) : Int) ≠ 77; omega)
      obtain ⟨i2, g2, s2, r1, r2, r3⟩ := ih j3 t3 s' (by omega) hj3 d2
      refine ⟨i2, g2, s2, ?_, r2, r3⟩
      rw [← r1]
      refine loopO_inl ?_
      have hd : decide (0 < ((k + 1 : Nat) : Int)) = true := by simp only [decide_eq_true_eq]; omega
      simp only [spec_l10Scene_L0, hd, ifO_true, f1, bnd_s, f2, f3]
      rw [show SceneT.mk s.W s.H s.Back s.Surfaces = s from rfl, d1]
      simp only [bnd_s, wr_pred (show k < 4611686018427387904 by omega)]
  have loop1 : ∀ (k : Nat) (i' g : Int) (s : SceneT), k ≤ 4 → 0 ≤ i' → Fine s → ∃ i2 g2 s', loopO (fun (x : Int × Int × Int × Int × Int × List SurfaceT × Int) => spec_l10Scene_L1 (L01CurT.mk b i h) x.1 x.2.1 x.2.2.1 x.2.2.2.1 x.2.2.2.2.1 x.2.2.2.2.2.1 x.2.2.2.2.2.2) (i', g, s.W, s.H, s.Back, s.Surfaces, (k : Int)) = some (SceneT.W s', SceneT.H s', SceneT.Back s', SceneT.Surfaces s', i2, g2) ∧ 0 ≤ i2 ∧ Fine s' := by
    intro k
    induction k with
    | zero =>
      intro i' g s _ hi' hs
      refine ⟨i', g, s, loopO_inr ?_, hi', hs⟩
      simp only [spec_l10Scene_L1]
      rw [ifO_neg (by simp)]
    | succ k ih =>
      intro i' g s hk hi' hs
      obtain ⟨⟨e, c⟩, f1, he, j1, t1, hc, hj1⟩ := edit_ok b hb i' g hi'
      obtain ⟨⟨s', ok⟩, d1, d2⟩ := DoEdit_ok hs e he.1 he.2
      obtain ⟨i2, g2, s2, r1, r2, r3⟩ := ih j1 t1 s' (by omega) hj1 d2
      refine ⟨i2, g2, s2, ?_, r2, r3⟩
      rw [← r1]
      refine loopO_inl ?_
      have hd : decide (0 < ((k + 1 : Nat) : Int)) = true := by simp only [decide_eq_true_eq]; omega
      have hc' : c = L01CurT.mk b j1 t1 := hc
      simp only [spec_l10Scene_L1, hd, ifO_true, f1, bnd_s]
      rw [show SceneT.mk s.W s.H s.Back s.Surfaces = s from rfl, d1]
      simp only [bnd_s, hc', wr_pred (show k < 4611686018427387904 by omega)]
  obtain ⟨k, rfl⟩ : ∃ n : Nat, k = n := ⟨k.toNat, by omega⟩
  obtain ⟨i5, g5, s5, r1, hi5, fine5⟩ := loop0 k i4 g4 _ (by omega) hi4 f0
  obtain ⟨m, i6, g6, e6, m0, m1, hi6⟩ := below_ok b hb i5 g5 4 hi5 (by omega) (by omega)
  obtain ⟨m, rfl⟩ : ∃ n : Nat, m = n := ⟨m.toNat, by omega⟩
  obtain ⟨i7, g7, s7, q1, hi7, fine7⟩ := loop1 m i6 g6 s5 (by omega) hi6 fine5
  refine ⟨(s7, L01CurT.mk b i7 g7), ?_, fine7, i7, g7, rfl, hi7⟩
  unfold spec_l10Scene
  simp only [e1, bnd_s, e2, e3, e4]
  simp only [] at r1 q1
  rw [r1]
  simp only [bnd_s, e6]
  rw [q1]; rfl
theorem DrawAssignment_ok : ∃ s o, spec_DrawAssignment b = some (s, o) ∧ Fine s ∧ inR o.Overlays 0 2 = true ∧ inR o.Layout 0 2 = true := by
  obtain ⟨g, hg⟩ := new_ok b
  obtain ⟨⟨s, c⟩, e1, fs, i1, g1, hc, hi1⟩ := scene_ok b hb 0 g (by omega)
  obtain ⟨⟨o, d⟩, e2, o1, o2⟩ := options_ok b hb i1 g1 hi1
  have hc' : c = L01CurT.mk b i1 g1 := hc
  refine ⟨s, o, ?_, fs, o1, o2⟩
  unfold spec_DrawAssignment
  rw [hg]
  simp only [bnd_s, e1, hc', e2]
end DS
end Go.Proofs.Ytbdpbboonilhhaa
namespace Go.Proofs.Ytbdpbboonilhhaa
open Go.RowKit K
theorem surfs_iff (xs : List SurfaceT) : (List.range xs.length).all (surfN xs) = true ↔ (∀ x ∈ xs, surfOk x = true) ∧ xs.Pairwise (fun x y => x.Id ≠ y.Id) := by
  constructor
  · intro h
    have hk : ∀ k (hk : k < xs.length), surfOk xs[k] = true ∧ ∀ y ∈ xs.take k, y.Id ≠ xs[k].Id := fun k hk => by
      have h1 := List.all_eq_true.1 h k (List.mem_range.2 hk)
      rw [surfN_at hk, Bool.and_eq_true] at h1
      refine ⟨h1.1, fun y hy e => ?_⟩
      have h2 := h1.2
      have : ((xs.take k).any fun y => decide (y.Id = xs[k].Id)) = true := List.any_eq_true.2 ⟨y, hy, by simpa using e⟩
      rw [this] at h2
      cases h2
    refine ⟨fun x hx => ?_, List.pairwise_iff_getElem.2 fun i j hi hj hij => ?_⟩
    · obtain ⟨k, hk', rfl⟩ := List.mem_iff_getElem.1 hx
      exact (hk k hk').1
    · exact (hk j hj).2 _ (List.mem_take_iff_getElem.2 ⟨i, by omega, rfl⟩)
  · rintro ⟨h1, h2⟩
    refine List.all_eq_true.2 fun k hk => ?_
    have hkl := List.mem_range.1 hk
    rw [surfN_at hkl, h1 _ (List.getElem_mem hkl), Bool.true_and]
    have : ((xs.take k).any fun y => decide (y.Id = xs[k].Id)) = false := by
      rw [List.any_eq_false]
      intro y hy
      obtain ⟨i, hi, rfl⟩ := List.mem_take_iff_getElem.1 hy
      have := List.pairwise_iff_getElem.1 h2 i k (by omega) hkl (by omega)
      simpa using this
    rw [this]; rfl
theorem restN_sub (s : SceneT) (a b c : Int) : ∀ k, (restN s a b c k).Sublist (s.Surfaces.take k)
  | 0 => by simp [restN]
  | k + 1 => by
    unfold restN
    rcases Nat.lt_or_ge k s.Surfaces.length with h | h
    · rw [rest1_at h, List.take_add_one, List.getElem?_eq_getElem h]
      refine List.Sublist.append (restN_sub s a b c k) ?_
      split
      · exact List.nil_sublist _
      · exact List.Sublist.refl _
    · have e : rest1 s a b c k = [] := by unfold rest1; rw [List.getElem?_eq_none h]
      rw [e, List.append_nil, List.take_of_length_le (by omega)]
      have := restN_sub s a b c k
      rwa [List.take_of_length_le h] at this
theorem rest_ok {s : SceneT} (hok : sceneOk s = true) (a b c : Int) : sceneOk (restOf s [a, b, c]) = true := by
  have hok' := hok
  unfold sceneOk at hok' ⊢
  simp only [Bool.and_eq_true] at hok' ⊢
  obtain ⟨h1, h2⟩ := hok'
  obtain ⟨h3, h4⟩ := (surfs_iff s.Surfaces).1 h2
  have hs : (restN s a b c s.Surfaces.length).Sublist s.Surfaces := by
    have := restN_sub s a b c s.Surfaces.length
    rwa [List.take_length] at this
  have hlen := hs.length_le
  refine ⟨⟨h1.1, ?_⟩, (surfs_iff _).2 ⟨fun x hx => h3 x (hs.subset hx), h4.sublist hs⟩⟩
  have h6 := h1.2
  rw [decide_eq_true_eq] at h6 ⊢
  show (((restN s a b c s.Surfaces.length).length : Nat) : Int) ≤ 6
  omega
noncomputable def pntAt (s : SceneT) (W : Nat) (k : Nat) (o : List Int) : List Int := match s.Surfaces[k]? with
  | some x => pnt W x o
  | .none => o
theorem pntAt_at {s : SceneT} {k : Nat} (h : k < s.Surfaces.length) (W : Nat) (o : List Int) : pntAt s W k o = pnt W s.Surfaces[k] o := by unfold pntAt; rw [List.getElem?_eq_getElem h]
theorem pnt_hid {x : SurfaceT} (h : x.Visible = false) (W : Nat) (o : List Int) : pnt W x o = o := by unfold pnt; rw [h]; rfl
theorem topsTo_succ (s : SceneT) (k : Nat) : topsTo s (k + 1) = if vis s k then k :: topsTo s k else topsTo s k := rfl
theorem paint_tops (s : SceneT) (W : Nat) (out : List Int) : ∀ k, k ≤ s.Surfaces.length → paintL W (s.Surfaces.take k) out = (topsTo s k).foldr (pntAt s W) out
  | 0, _ => rfl
  | k + 1, hk => by
    have hkl : k < s.Surfaces.length := by omega
    have e : s.Surfaces.take (k + 1) = s.Surfaces.take k ++ [s.Surfaces[k]] := by rw [List.take_add_one, List.getElem?_eq_getElem hkl]; rfl
    rw [e, paintL_snoc, paint_tops s W out k (by omega), topsTo_succ, vis_at hkl]
    cases hv : s.Surfaces[k].Visible with
    | true => rw [if_pos rfl, List.foldr_cons, pntAt_at hkl]
    | false => rw [if_neg (by simp), pnt_hid hv]
theorem paint_rest (s : SceneT) (W : Nat) (a b c : Int) (out : List Int) : ∀ k, k ≤ s.Surfaces.length → paintL W (restN s a b c k) out = ((topsTo s k).filter (fun i : Nat => !inL a b c i)).foldr (pntAt s W) out
  | 0, _ => rfl
  | k + 1, hk => by
    have hkl : k < s.Surfaces.length := by omega
    have ih := paint_rest s W a b c out k (by omega)
    rw [topsTo_succ, vis_at hkl]
    unfold restN
    rw [rest1_at hkl]
    cases hi : inL a b c k with
    | true =>
      rw [if_pos rfl, List.append_nil, ih]
      split
      · rw [List.filter_cons_of_neg (by rw [hi]; simp)]
      · rfl
    | false =>
      rw [if_neg (by simp), paintL_snoc, ih]
      cases hv : s.Surfaces[k].Visible with
      | true => rw [if_pos rfl, List.filter_cons_of_pos (by rw [hi]; rfl), List.foldr_cons, pntAt_at hkl]
      | false => rw [if_neg (by simp), pnt_hid hv]
theorem inL_iff {a b c : Int} {k : Nat} : inL a b c k = true ↔ (k : Int) ∈ [a, b, c] := by
  unfold inL
  simp
theorem filter_drop {s : SceneT} {a b c : Int} {m : Nat} (h : Asgd s [a, b, c] m) : (tops s).filter (fun i : Nat => !inL a b c i) = (tops s).drop m := by
  obtain ⟨_, h2, h3⟩ := h
  have e : (tops s).filter (fun i : Nat => !inL a b c i) = ((tops s).take m ++ (tops s).drop m).filter (fun i : Nat => !inL a b c i) := by rw [List.take_append_drop]
  rw [e, List.filter_append]
  have e1 : ((tops s).take m).filter (fun i : Nat => !inL a b c i) = [] := by
    rw [List.filter_eq_nil_iff]
    intro t ht
    obtain ⟨i, hi, rfl⟩ := List.mem_take_iff_getElem.1 ht
    obtain ⟨k, e1, e2⟩ := h3 i (by omega)
    rw [List.getElem?_eq_getElem (by omega)] at e1
    rw [Option.some.inj e1, inL_iff.2 e2]; simp
  have e2 : ((tops s).drop m).filter (fun i : Nat => !inL a b c i) = (tops s).drop m := by
    rw [List.filter_eq_self]
    intro t ht
    obtain ⟨j, hj⟩ := List.mem_iff_getElem?.1 ht
    rw [List.getElem?_drop] at hj
    cases hq : inL a b c t with
    | false => rfl
    | true =>
      rcases h2 _ (inL_iff.1 hq) with e | ⟨i, k, hi, e1, e2⟩
      · omega
      · have hk : k = t := by omega
        subst hk
        have := tops_down e1 hj (by omega)
        omega
  rw [e1, e2]; rfl
noncomputable def planeLay (s : SceneT) (W : Nat) (t : Int) (X : List Int) : List Int := if t < 0 then X else pntAt s W t.toNat X
noncomputable def fl3 (s : SceneT) (W : Nat) (a b c : Int) (X : List Int) : List Int := planeLay s W c (planeLay s W b (planeLay s W a X))
def wideI (s : SceneT) (t : Int) : Prop := 0 ≤ t ∧ wide s t.toNat = true
def cnt1 (t : Int) : Nat := if 0 ≤ t then 1 else 0
structure Inv (s : SceneT) (W : Nat) (j : Nat) (a b c : Int) (n : Nat) (sc : Bool) : Prop where
  fa : 1 ≤ j → a = -1
  fb : 2 ≤ j → b = -1
  fl : ∀ X, fl3 s W a b c X = ((tops s).take n).foldr (pntAt s W) X
  dis : (0 ≤ a → a ≠ b ∧ a ≠ c) ∧ (0 ≤ b → b ≠ c)
  cnt : cnt1 a + (cnt1 b + cnt1 c) = n
  w0 : sc = false → ¬ wideI s a ∧ ¬ wideI s b
  w1 : ¬ (wideI s a ∧ wideI s b)
  asgd : Asgd s [a, b, c] n
theorem planeLay_nat (s : SceneT) (W k : Nat) (X : List Int) : planeLay s W (k : Int) X = pntAt s W k X := by unfold planeLay; rw [if_neg (by omega)]; rfl
theorem planeLay_neg (s : SceneT) (W : Nat) (X : List Int) : planeLay s W (-1) X = X := by unfold planeLay; rw [if_pos (by omega)]
theorem take_top {s : SceneT} {n k : Nat} (h : (tops s)[n]? = some k) (W : Nat) (X : List Int) : ((tops s).take (n + 1)).foldr (pntAt s W) X = ((tops s).take n).foldr (pntAt s W) (pntAt s W k X) := by
  rw [List.take_add_one, h, List.foldr_append]; rfl
theorem asgd_set {s : SceneT} {out : List Int} {n k j : Nat} (h : Asgd s out n) (ht : (tops s)[n]? = some k) (hj : out[j]? = some (-1)) : Asgd s (out.set j (k : Int)) (n + 1) := by
  obtain ⟨h1, h2, h3⟩ := h
  have hjl : j < out.length := (List.getElem?_eq_some_iff.1 hj).1
  refine ⟨by simpa using h1, fun u hu => ?_, fun i hi => ?_⟩
  · rcases List.mem_or_eq_of_mem_set hu with hu | rfl
    · rcases h2 u hu with rfl | ⟨i, k', hi, e1, e2⟩
      · exact .inl rfl
      · exact .inr ⟨i, k', by omega, e1, e2⟩
    · exact .inr ⟨n, k, by omega, ht, rfl⟩
  · by_cases e : i = n
    · subst e
      exact ⟨k, ht, List.mem_set hjl (k : Int)⟩
    · obtain ⟨k', e1, e2⟩ := h3 i (by omega)
      refine ⟨k', e1, ?_⟩
      obtain ⟨a, ha⟩ := List.getElem?_of_mem e2
      have hne : j ≠ a := fun e => by
        rw [e, ha] at hj
        have := Option.some.inj hj
        omega
      exact List.mem_of_getElem? (i := a) (by rw [List.getElem?_set_ne hne]; exact ha)
theorem new_top {s : SceneT} {out : List Int} {n k : Nat} (h : Asgd s out n) (ht : (tops s)[n]? = some k) {u : Int} (hu : u ∈ out) : (k : Int) ≠ u := by
  rcases h.2.1 u hu with rfl | ⟨i, k', hi, e1, rfl⟩
  · omega
  · have := tops_down e1 ht hi
    omega
theorem wideI_nat {s : SceneT} {k : Nat} : wideI s (k : Int) ↔ wide s k = true := by
  unfold wideI
  constructor
  · exact fun h => h.2
  · exact fun h => ⟨by omega, h⟩
theorem wideI_neg (s : SceneT) : ¬ wideI s (-1) := fun h => by have := h.1; omega
theorem Inv.weak {s : SceneT} {W j : Nat} {a b c : Int} {n : Nat} {sc : Bool} (h : Inv s W j a b c n sc) : Inv s W 0 a b c n sc := ⟨fun h => by omega, fun h => by omega, h.fl, h.dis, h.cnt, h.w0, h.w1, h.asgd⟩
theorem asg_inv1 {s : SceneT} {W : Nat} {a b c : Int} {n : Nat} {sc : Bool} (h : Inv s W 1 a b c n sc) : ∃ a' b' c' sc', (asg s 1 [a, b, c] n sc).1 = [a', b', c'] ∧ Inv s W 0 a' b' c' (asg s 1 [a, b, c] n sc).2 sc' ∧ c' = c := by
  cases ht : (tops s)[n]? with
  | none => rw [asg_none ht]; exact ⟨a, b, c, sc, rfl, h.weak, rfl⟩
  | some k =>
    cases hb : (wide s k && sc) with
    | true => rw [asg_stop ht hb]; exact ⟨a, b, c, sc, rfl, h.weak, rfl⟩
    | false =>
      rw [asg_go ht hb]
      have hwk : wide s k = true → sc = false := fun hw => by rw [hw] at hb; simpa using hb
      have ha := h.fa (by omega)
      subst ha
      have hi : Inv s W 0 (k : Int) b c (n + 1) (sc || wide s k) := by
        refine ⟨fun h => by omega, fun h => by omega, fun X => ?_, ?_, ?_, fun hs => ?_, ?_, ?_⟩
        · have := h.fl (pntAt s W k X)
          unfold fl3 at this ⊢
          rw [planeLay_neg] at this
          rw [planeLay_nat, this, take_top ht]
        · exact ⟨fun _ => ⟨new_top h.asgd ht (by simp), new_top h.asgd ht (by simp)⟩, h.dis.2⟩
        · have h1 := h.cnt
          have e1 : cnt1 (-1) = 0 := rfl
          have e2 : cnt1 (k : Int) = 1 := by unfold cnt1; rw [if_pos (by omega)]
          omega
        · simp only [Bool.or_eq_false_iff] at hs
          exact ⟨fun hq => absurd hs.2 (by rw [wideI_nat.1 hq]; simp), (h.w0 hs.1).2⟩
        · rintro ⟨h1, h2⟩
          exact (h.w0 (hwk (wideI_nat.1 h1))).2 h2
        · exact asgd_set (j := 0) h.asgd ht rfl
      exact ⟨(k : Int), b, c, _, rfl, hi, rfl⟩
theorem asg_inv2 {s : SceneT} {W : Nat} {a b c : Int} {n : Nat} {sc : Bool} (h : Inv s W 2 a b c n sc) : ∃ a' b' c' sc', (asg s 2 [a, b, c] n sc).1 = [a', b', c'] ∧ Inv s W 0 a' b' c' (asg s 2 [a, b, c] n sc).2 sc' ∧ c' = c := by
  cases ht : (tops s)[n]? with
  | none => rw [asg_none ht]; exact ⟨a, b, c, sc, rfl, h.weak, rfl⟩
  | some k =>
    cases hb : (wide s k && sc) with
    | true => rw [asg_stop ht hb]; exact ⟨a, b, c, sc, rfl, h.weak, rfl⟩
    | false =>
      rw [asg_go ht hb]
      have ha := h.fa (by omega)
      subst ha
      have hbb := h.fb (by omega)
      subst hbb
      have hi : Inv s W 1 (-1) (k : Int) c (n + 1) (sc || wide s k) := by
        refine ⟨fun _ => rfl, fun h => by omega, fun X => ?_, ?_, ?_, fun hs => ?_, ?_, ?_⟩
        · have := h.fl (pntAt s W k X)
          unfold fl3 at this ⊢
          rw [planeLay_neg, planeLay_neg] at this
          rw [planeLay_neg, planeLay_nat, this, take_top ht]
        · exact ⟨fun h => by omega, fun _ => new_top h.asgd ht (by simp)⟩
        · have h1 := h.cnt
          have e1 : cnt1 (-1) = 0 := rfl
          have e2 : cnt1 (k : Int) = 1 := by unfold cnt1; rw [if_pos (by omega)]
          omega
        · simp only [Bool.or_eq_false_iff] at hs
          exact ⟨wideI_neg s, fun hq => absurd hs.2 (by rw [wideI_nat.1 hq]; simp)⟩
        · rintro ⟨h1, _⟩
          exact wideI_neg s h1
        · exact asgd_set (j := 1) h.asgd ht rfl
      exact asg_inv1 hi
theorem asg_inv (s : SceneT) (W : Nat) (j : Nat) (a b c : Int) (n : Nat) (sc : Bool) (hj : j ≤ 2) (h : Inv s W j a b c n sc) : ∃ a' b' c' sc', (asg s j [a, b, c] n sc).1 = [a', b', c'] ∧ Inv s W 0 a' b' c' (asg s j [a, b, c] n sc).2 sc' ∧ c' = c := by
  match j, hj, h with
  | 0, _, h => exact ⟨a, b, c, sc, rfl, h, rfl⟩
  | 1, _, h => exact asg_inv1 h
  | 2, _, h => exact asg_inv2 h
theorem asgOf_inv (s : SceneT) (o : OptionsT) (ho : inR o.Overlays 0 2 = true) (W : Nat) : ∃ a b c sc, (asgOf s o).1 = [a, b, c] ∧ Inv s W 0 a b c (asgOf s o).2 sc ∧ (c = -1 ∨ ∃ k x, curs s o = some k ∧ c = (k : Nat) ∧ s.Surfaces[k]? = some x ∧ fits x = true) := by
  have ho' := inR_t.1 ho
  unfold asgOf
  cases hc : curs s o with
  | none =>
    have hi : Inv s W o.Overlays.toNat (-1) (-1) (-1) 0 false := ⟨fun _ => rfl, fun _ => rfl, fun X => by unfold fl3; rw [planeLay_neg, planeLay_neg, planeLay_neg]; rfl, ⟨fun h => by omega, fun h => by omega⟩, rfl, fun _ => ⟨wideI_neg s, wideI_neg s⟩, fun h => wideI_neg s h.1, rfl, fun u hu => .inl (by simpa using hu), fun i hi => by omega⟩
    obtain ⟨a, b, c, sc, h1, h2, h3⟩ := asg_inv s W _ _ _ _ _ _ (by omega) hi
    exact ⟨a, b, c, sc, h1, h2, .inl h3⟩
  | some k =>
    have ht := curs_at hc
    have hi : Inv s W o.Overlays.toNat (-1) (-1) (k : Int) 1 false := ⟨fun _ => rfl, fun _ => rfl, fun X => by
      have := take_top ht W X
      unfold fl3; rw [planeLay_neg, planeLay_neg, planeLay_nat, this]; rfl, ⟨fun h => by omega, fun h => by omega⟩, by
      have e2 : cnt1 (k : Int) = 1 := by unfold cnt1; rw [if_pos (by omega)]
      rw [e2]; rfl, fun _ => ⟨wideI_neg s, wideI_neg s⟩, fun h => wideI_neg s h.1, rfl, fun u hu => by
        simp only [List.mem_cons, List.not_mem_nil, or_false] at hu
        rcases hu with rfl | rfl | rfl
        · exact .inl rfl
        · exact .inl rfl
        · exact .inr ⟨0, k, by omega, ht, rfl⟩, fun i hi => by
        obtain rfl : i = 0 := by omega
        exact ⟨k, ht, by simp⟩⟩
    obtain ⟨a, b, c, sc, h1, h2, h3⟩ := asg_inv s W _ _ _ _ _ _ (by omega) hi
    refine ⟨a, b, c, sc, h1, h2, .inr ?_⟩
    unfold curs at hc
    rw [ht] at hc
    simp only [] at hc
    split at hc
    · rename_i x hx
      split at hc
      · rename_i hf
        rw [Bool.and_eq_true] at hf
        exact ⟨k, x, rfl, h3, hx, hf.2⟩
      · cases hc
    · cases hc
theorem restN_succ (s : SceneT) (a b c : Int) (k : Nat) : restN s a b c (k + 1) = restN s a b c k ++ rest1 s a b c k := rfl
theorem rest_len (s : SceneT) {a b c : Int} (hd : (0 ≤ a → a ≠ b ∧ a ≠ c) ∧ (0 ≤ b → b ≠ c)) : ∀ k, k ≤ s.Surfaces.length → (restN s a b c k).length + ((if 0 ≤ a ∧ a < k then 1 else 0) + ((if 0 ≤ b ∧ b < k then 1 else 0) + (if 0 ≤ c ∧ c < k then 1 else 0))) = k
  | 0, _ => by
    rw [if_neg (by omega), if_neg (by omega), if_neg (by omega)]; rfl
  | k + 1, hk => by
    have ih := rest_len s hd k (by omega)
    have e : (restN s a b c (k + 1)).length = (restN s a b c k).length + if inL a b c k then 0 else 1 := by
      rw [restN_succ, List.length_append, rest1_at (by omega)]
      split <;> rfl
    rw [e]
    have step : ∀ u : Int, (if 0 ≤ u ∧ u < ((k + 1 : Nat) : Int) then 1 else 0) = (if 0 ≤ u ∧ u < (k : Int) then 1 else 0) + (if u = k then 1 else 0) := fun u => by
      by_cases h1 : u = k
      · rw [if_pos (by omega), if_neg (by omega), if_pos h1]
      · rw [if_neg h1]
        by_cases h2 : 0 ≤ u ∧ u < (k : Int)
        · rw [if_pos (by omega), if_pos h2]
        · rw [if_neg (by omega), if_neg h2]
    rw [step a, step b, step c]
    have hin : (if inL a b c k then 0 else 1) + ((if a = k then 1 else 0) + ((if b = k then 1 else 0) + (if c = k then 1 else 0))) = 1 := by
      unfold inL
      obtain ⟨d1, d2⟩ := hd
      by_cases h1 : a = k
      · have := d1 (by omega)
        rw [if_pos (by simp [h1]), if_pos h1, if_neg (by omega), if_neg (by omega)]
      · by_cases h2 : b = k
        · have := d2 (by omega)
          rw [if_pos (by simp [h2]), if_neg h1, if_pos h2, if_neg (by omega)]
        · by_cases h3 : c = k
          · rw [if_pos (by simp [h3]), if_neg h1, if_neg h2, if_pos h3]
          · have hf : (decide ((k : Int) = a) || (decide ((k : Int) = b) || decide ((k : Int) = c))) = false := by
              simp only [Bool.or_eq_false_iff, decide_eq_false_iff_not]
              exact ⟨fun e => h1 e.symm, fun e => h2 e.symm, fun e => h3 e.symm⟩
            rw [hf, if_neg h1, if_neg h2, if_neg h3]; rfl
    omega
theorem roundP (s : SceneT) (o : OptionsT) (h : smScene s) (hok : sceneOk s = true) (hl : inR o.Layout 0 2 = true) (t : Int) (ht : At s t) : ∃ p, p.Words.length ≤ 512 ∧ ((t = -1 ∧ p = zeroP) ∨ ∃ (k : Nat) (hk : k < s.Surfaces.length), t = k ∧ p.On = true ∧ p.X = s.Surfaces[k].X ∧ p.Y = s.Surfaces[k].Y ∧ p.W = s.Surfaces[k].Buffer.W ∧ p.H = s.Surfaces[k].Buffer.H ∧ p.Alpha = s.Surfaces[k].Alpha ∧ p.Orient = s.Surfaces[k].Orient ∧ p.ToW = s.Surfaces[k].W ∧ p.ToH = s.Surfaces[k].H ∧ spec_LoadImage p.Words p.W p.H p.Layout = some (s.Surfaces[k].Buffer, true))
    ∧ (∀ (l : List Int) (k : Nat) (v : List PlaneT), l[k]? = some t → v.length = 4 → k < 3 → v[k + 1]? = some zeroP → impl_PlanesOf_L0 s o l v k = some (.inl (v.set (k + 1) p, ((k + 1 : Nat) : Int)))) := by
  have hsl : s.Surfaces.length ≤ 1048576 := h.1
  rcases ht with rfl | ⟨t0, t1⟩
  · refine ⟨zeroP, by simp [zeroP], .inl ⟨rfl, rfl⟩, fun l k v hk hv h3 hz => ?_⟩
    have hkl := (List.getElem?_eq_some_iff.1 hk).1
    have hv0 : v.set (k + 1) zeroP = v := by
      obtain ⟨q1, q2⟩ := List.getElem?_eq_some_iff.1 hz
      rw [← q2]; exact List.set_getElem_self q1
    simp only [impl_PlanesOf_L0, idx_at hk, bnd_s]
    rw [ifO_pos (by simpa using hkl), wr_succ (by omega), hv0]; rfl
  · obtain ⟨k', rfl⟩ : ∃ k' : Nat, t = k' := ⟨t.toNat, by omega⟩
    have hk' : k' < s.Surfaces.length := by omega
    have hsm : smSurface s.Surfaces[k'] := h.2 _ (List.getElem_mem hk')
    have hx := surf_parts (surf_at hok hk')
    obtain ⟨w, p1, p2, p3⟩ := PlaneOf_ok (x := s.Surfaces[k'].X) (y := s.Surfaces[k'].Y) hx.2.2.2.2.2.2 hl
    have p1' : impl_PlaneOf s.Surfaces[k'].Buffer s.Surfaces[k'].X s.Surfaces[k'].Y o.Layout = some (PlaneT.mk true s.Surfaces[k'].X s.Surfaces[k'].Y s.Surfaces[k'].Buffer.W s.Surfaces[k'].Buffer.H o.Layout w 255 0 0 0) := by
      obtain ⟨q, g1, g2, _⟩ := PlaneOf_eq s.Surfaces[k'].Buffer s.Surfaces[k'].X s.Surfaces[k'].Y o.Layout hsm
      rw [p1] at g1
      rw [g2, ← Option.some.inj g1]
    refine ⟨PlaneT.mk true s.Surfaces[k'].X s.Surfaces[k'].Y s.Surfaces[k'].Buffer.W s.Surfaces[k'].Buffer.H o.Layout w s.Surfaces[k'].Alpha s.Surfaces[k'].Orient s.Surfaces[k'].W s.Surfaces[k'].H, p2, .inr ⟨k', hk', rfl, rfl, rfl, rfl, rfl, rfl, rfl, rfl, rfl, rfl, p3⟩, fun l k v hk hv h3 hz => ?_⟩
    have hkl := (List.getElem?_eq_some_iff.1 hk).1
    simp only [impl_PlanesOf_L0, idx_at hk, idx_lt hk', bnd_s, p1']
    rw [ifO_pos (by simpa using hkl), wr_succ (by omega), upd_lt (by omega), ifO_neg (by simp)]; rfl
theorem sameInts_self (xs : List Int) (h : xs.length ≤ 1048576) : laws_sameInts xs xs = some true := by
  have hl := allLoop (L := fun k => laws_sameInts_L0 xs xs k) xs.length (by omega) (fun _ => true) false (fun k hk _ => by
    show laws_sameInts_L0 xs xs k = _
    unfold laws_sameInts_L0
    rw [ifO_pos (by simpa using hk), idx_lt hk, bnd_s, bnd_s, ifO_neg (by simp)]) (fun k hk h => by cases h) (by
    show laws_sameInts_L0 xs xs _ = _
    unfold laws_sameInts_L0
    rw [ifO_neg (by simp)])
  unfold laws_sameInts
  rw [hl, if_pos (by simp), ifO_neg (by simp)]; rfl
theorem btoi_eq (t : Int) : laws_btoi (decide (0 ≤ t)) = some ((cnt1 t : Nat) : Int) := by
  unfold laws_btoi cnt1
  by_cases h : 0 ≤ t
  · rw [ifO_pos (by simpa using h), if_pos h]; rfl
  · rw [ifO_neg (by simpa using h), if_neg h]; rfl
theorem cntLoop (a b c : Int) : loopO (fun q => laws_FnAssigned_L0 [a, b, c] q.1 q.2) (0, 0) = some (((cnt1 a + (cnt1 b + cnt1 c) : Nat)) : Int) := by
  have c1 : ∀ t, cnt1 t ≤ 1 := fun t => by unfold cnt1; split <;> omega
  have st : ∀ (k : Nat) (t : Int) (v : Nat), k < 3 → [a, b, c][k]? = some t → v ≤ 3 → laws_FnAssigned_L0 [a, b, c] (v : Int) (k : Int) = some (.inl (((v + cnt1 t : Nat) : Int), ((k + 1 : Nat) : Int))) := fun k t v hk ht hv => by
    have := c1 t
    unfold laws_FnAssigned_L0
    rw [ifO_pos (by simp; omega), idx_at ht, bnd_s, btoi_eq, bnd_s, wr_in (n := (v : Int) + ((cnt1 t : Nat) : Int)) (by omega) (by omega), wr_succ (by omega)]; rfl
  have a1 := c1 a
  have b1 := c1 b
  rw [loopO_inl (f := fun q => laws_FnAssigned_L0 [a, b, c] q.1 q.2) (s := (0, 0)) (st 0 a 0 (by omega) rfl (by omega)),
    loopO_inl (f := fun q => laws_FnAssigned_L0 [a, b, c] q.1 q.2) (st 1 b (0 + cnt1 a) (by omega) rfl (by omega)),
    loopO_inl (f := fun q => laws_FnAssigned_L0 [a, b, c] q.1 q.2) (st 2 c (0 + cnt1 a + cnt1 b) (by omega) rfl (by omega))]
  have e : 0 + cnt1 a + cnt1 b + cnt1 c = cnt1 a + (cnt1 b + cnt1 c) := by omega
  rw [e]
  exact loopO_inr rfl
def Shows (s : SceneT) (t : Int) (p : PlaneT) : Prop := (t = -1 ∧ p = zeroP) ∨ ∃ (k : Nat) (hk : k < s.Surfaces.length), t = k ∧ p.On = true ∧ p.X = s.Surfaces[k].X ∧ p.Y = s.Surfaces[k].Y ∧ p.W = s.Surfaces[k].Buffer.W ∧ p.H = s.Surfaces[k].Buffer.H ∧ p.Alpha = s.Surfaces[k].Alpha ∧ p.Orient = s.Surfaces[k].Orient ∧ p.ToW = s.Surfaces[k].W ∧ p.ToH = s.Surfaces[k].H ∧ spec_LoadImage p.Words p.W p.H p.Layout = some (s.Surfaces[k].Buffer, true)
theorem layP {s : SceneT} (hok : sceneOk s = true) {t : Int} {p : PlaneT} (h : Shows s t p) (hvis : ∀ k : Nat, t = k → vis s k = true) (W : Nat) (X : List Int) : lay W p X = planeLay s W t X := by
  rcases h with ⟨rfl, rfl⟩ | ⟨k, hk, rfl, q1, q2, q3, _, _, q6, q7, q8, q9, q10⟩
  · rw [planeLay_neg, lay_off rfl]
  · obtain ⟨j, j1, _, _, j4⟩ := pic_ok _ (surf_at hok hk)
    have hv := hvis k rfl
    rw [vis_at hk] at hv
    rw [planeLay_nat, pntAt_at hk]
    unfold lay pnt
    rw [j4 p q1 q6 q7 q8 q9 q10, if_pos hv, picOf_at j1]
    simp only [q2, q3]
theorem overP {s : SceneT} (hok : sceneOk s = true) {t : Int} {p : PlaneT} (h : Shows s t p) {kk : Int} (hkk : kk = 1 ∨ kk = 2) {w hh : Int} (hw : inR w 1 16 = true) (hhh : inR hh 1 16 = true) : spec_PlaneOk kk p w hh = some true := by
  rcases h with ⟨rfl, rfl⟩ | ⟨k, hk, rfl, q1, q2, q3, _, _, q6, q7, q8, q9, q10⟩
  · exact ok_zero (by omega) hw hhh
  · have hx := surf_at hok hk
    obtain ⟨j, _, _, _, j4⟩ := pic_ok _ hx
    have hp := surf_parts hx
    exact ok_over hkk hw hhh q1 (j4 p q1 q6 q7 q8 q9 q10) (by rw [q2]; exact hp.2.1) (by rw [q3]; exact hp.2.2.1)
theorem cursP {s : SceneT} (hok : sceneOk s = true) {t : Int} {p : PlaneT} (h : Shows s t p) (hf : ∀ (k : Nat) (hk : k < s.Surfaces.length), t = k → fits s.Surfaces[k] = true) {w hh : Int} (hw : inR w 1 16 = true) (hhh : inR hh 1 16 = true) : spec_PlaneOk 3 p w hh = some true := by
  rcases h with ⟨rfl, rfl⟩ | ⟨k, hk, rfl, q1, q2, q3, q4, q5, q6, q7, q8, q9, q10⟩
  · exact ok_zero (by omega) hw hhh
  · have hx := surf_at hok hk
    obtain ⟨j, _, _, _, j4⟩ := pic_ok _ hx
    have hp := surf_parts hx
    have hfit := hf k hk rfl
    unfold fits at hfit
    simp only [Bool.and_eq_true, decide_eq_true_eq] at hfit
    obtain ⟨_, f1, f2, f3, f4, f5, f6⟩ := hfit
    exact ok_cursor hw hhh q1 (j4 p q1 q6 q7 q8 q9 q10) (by rw [q2]; exact hp.2.1) (by rw [q3]; exact hp.2.2.1) (by rw [q7, f2]) (by rw [q8, f3]) (by rw [q9, f4]) (by rw [q6, f1]) (by rw [q4]; exact f5) (by rw [q5]; exact f6)
theorem toW {s : SceneT} (hok : sceneOk s = true) {t : Int} {p : PlaneT} (h : Shows s t p) (hn : ¬ wideI s t) : p.ToW = 0 := by
  rcases h with ⟨rfl, rfl⟩ | ⟨k, hk, rfl, q1, q2, q3, _, _, q6, q7, q8, q9, q10⟩
  · rfl
  · have hp := surf_parts (surf_at hok hk)
    have hw : ¬ (0 < s.Surfaces[k].W) := fun e => hn (wideI_nat.2 (by rw [wide_at hk]; simpa using e))
    rw [q8]
    rcases hp.2.2.2.1 with ⟨h1, _⟩ | ⟨h1, _⟩
    · have := inR_t.1 h1
      omega
    · exact h1
theorem FnAssigned_true (code : List Int) (o : code.length ≤ 9223372036854775807 ∧ ∀ y ∈ code, 0 ≤ y ∧ y ≤ 255) : laws_FnAssigned code = some true := by
  unfold laws_FnAssigned laws_big
  rw [bnd_s]
  by_cases hbig' : 1048576 < code.length
  · rw [ifO_pos (by simp; omega)]
  have hbig : code.length ≤ 1048576 := by omega
  rw [ifO_neg (by simp; omega)]
  obtain ⟨s, op, hd, ⟨hsm, hok, _⟩, ho, hl⟩ := DrawAssignment_ok code hbig
  have hn6 : s.Surfaces.length ≤ 6 := sceneOk_sm hok hsm.1
  obtain ⟨W, H, hW, hH, ⟨w1, w2⟩, ⟨h1, h2⟩, pS, oB, oS⟩ := Paint_eq hsm hok
  obtain ⟨a, b, c, sc, habc, inv, hcur⟩ := asgOf_inv s op ho W
  have hm3 := (asgOf_ok s op ho).2
  have hRsm := restOf_sm hsm [a, b, c]
  have hRok := rest_ok hok a b c
  obtain ⟨W', H', hW', hH', _, _, pR, _, oR⟩ := Paint_eq hRsm hRok
  have hRW : (restOf s [a, b, c]).W = s.W := rfl
  have hRH : (restOf s [a, b, c]).H = s.H := rfl
  have hRB : (restOf s [a, b, c]).Back = s.Back := rfl
  have hRS : (restOf s [a, b, c]).Surfaces = restN s a b c s.Surfaces.length := rfl
  obtain rfl : W' = W := by rw [hRW] at hW'; omega
  obtain rfl : H' = H := by rw [hRH] at hH'; omega
  rw [hRW, hRH, hRB, hRS] at pR
  rw [hRB, hRS] at oR
  have i1 : impl_AssignedOf s op = some ((asgOf s op).1, ((asgOf s op).2 : Int)) := by
    obtain ⟨l, n, e1, e2, _⟩ := AssignedOf_eq s op hsm
    rw [e2, ← e1, s_AssignedOf s op hsm hok ho hl]
  have iR := i_RestOf s op hsm hok ho hl
  rw [habc] at iR i1
  generalize hM : (asgOf s op).2 = m at *
  have hP : paintL W' (restN s a b c s.Surfaces.length) (List.replicate (H' * W') s.Back) = ((tops s).drop m).foldr (pntAt s W') (List.replicate (H' * W') s.Back) := by
    rw [paint_rest s W' a b c _ _ (Nat.le_refl _), show topsTo s s.Surfaces.length = tops s from rfl, filter_drop inv.asgd]
  have hfull : fl3 s W' a b c (paintL W' (restN s a b c s.Surfaces.length) (List.replicate (H' * W') s.Back)) = paintL W' s.Surfaces (List.replicate (H' * W') s.Back) := by
    have := paint_tops s W' (List.replicate (H' * W') s.Back) s.Surfaces.length (Nat.le_refl _)
    rw [List.take_length] at this
    rw [this, inv.fl, hP, ← List.foldr_append, List.take_append_drop]; rfl
  generalize hPP : paintL W' (restN s a b c s.Surfaces.length) (List.replicate (H' * W') s.Back) = P at *
  have hHW : H' * W' ≤ 16 * 16 := Nat.mul_le_mul h2 w2
  have rW : inR s.W 1 16 = true := inR_t.2 (by omega)
  have rH : inR s.H 1 16 = true := inR_t.2 (by omega)
  have hI : imgOk (ImageT.mk s.W s.H P) = true := by
    unfold imgOk
    have e : wr (s.W * s.H) = ((H' * W' : Nat) : Int) := by rw [hW, hH]; exact wrWH w2 h2
    have e2 : P.all pixOk = true := List.all_eq_true.2 fun v hv => opq_pix (oR.2 v hv)
    simp only [rW, rH, e, e2, oR.1]
    simp
  have hat : ∀ t ∈ [a, b, c], At s t := fun t ht => by
    rcases inv.asgd.2.1 t ht with e | ⟨i, k, _, e1, e2⟩
    · exact .inl e
    · have := tops_lt e1
      exact .inr (by omega)
  have hvis : ∀ t ∈ [a, b, c], ∀ k : Nat, t = k → vis s k = true := fun t ht k hk => by
    rcases inv.asgd.2.1 t ht with e | ⟨i, k', _, e1, e2⟩
    · omega
    · obtain rfl : k = k' := by omega
      exact (tops_mem.1 (List.mem_of_getElem? e1)).2
  obtain ⟨qa, wa, sa, ra⟩ := roundP s op hsm hok hl a (hat a (by simp))
  obtain ⟨qb, wb, sb, rb⟩ := roundP s op hsm hok hl b (hat b (by simp))
  obtain ⟨qc, wc, sc', rc⟩ := roundP s op hsm hok hl c (hat c (by simp))
  obtain ⟨w0, p1, p2, p3⟩ := PlaneOf_ok (x := 0) (y := 0) hI hl
  have p1' : impl_PlaneOf (ImageT.mk s.W s.H P) 0 0 op.Layout = some (PlaneT.mk true 0 0 s.W s.H op.Layout w0 255 0 0 0) := by
    obtain ⟨q, g1, g2, _⟩ := PlaneOf_eq (ImageT.mk s.W s.H P) 0 0 op.Layout (by have := imgOk_le hI; omega)
    rw [p1] at g1
    rw [g2, ← Option.some.inj g1]
  obtain ⟨j, s1, s2⟩ := show_ok (p := PlaneT.mk true 0 0 s.W s.H op.Layout w0 255 0 0 0) rfl hI p3 rfl rfl (.inl ⟨rfl, rfl⟩)
  have hj := s2 rfl rfl rfl rfl
  subst hj
  have c0 : spec_PlaneOk 0 (PlaneT.mk true 0 0 s.W s.H op.Layout w0 255 0 0 0) s.W s.H = some true := ok_primary rW rH rfl s1 (by have := imgOk_le hI; omega) oR.2 rfl rfl rfl rfl rfl rfl rfl rfl
  generalize hq0 : PlaneT.mk true 0 0 s.W s.H op.Layout w0 255 0 0 0 = q0 at *
  have hq0w : q0.Words.length ≤ 512 := by rw [← hq0]; exact p2
  have iP : impl_PlanesOf s op (ImageT.mk s.W s.H P) = some [q0, qa, qb, qc] := by
    have eo : impl_OptionsOk op = some true := by rw [OptionsOk_eq, s_OptionsOk, ho, hl]; rfl
    have ei := i_ImageOk (ImageT.mk s.W s.H P) (by have := imgOk_le hI; omega)
    rw [hI] at ei
    have e4 : ∀ z : PlaneT, mkO 4 z = some [z, z, z, z] := fun z => rfl
    have e5 : ∀ q z : PlaneT, upd [z, z, z, z] 0 q = some [q, z, z, z] := fun q z => rfl
    have r2 : loopO (fun x => impl_PlanesOf_L0 s op [a, b, c] x.1 x.2) ([q0, zeroP, zeroP, zeroP], 0) = some [q0, qa, qb, qc] := by
      rw [loopO_inl (f := fun x => impl_PlanesOf_L0 s op [a, b, c] x.1 x.2) (s := ([q0, zeroP, zeroP, zeroP], 0)) (ra [a, b, c] 0 [q0, zeroP, zeroP, zeroP] rfl (by simp) (by omega) rfl),
        loopO_inl (f := fun x => impl_PlanesOf_L0 s op [a, b, c] x.1 x.2) (rb [a, b, c] 1 [q0, qa, zeroP, zeroP] rfl (by simp) (by omega) rfl),
        loopO_inl (f := fun x => impl_PlanesOf_L0 s op [a, b, c] x.1 x.2) (rc [a, b, c] 2 [q0, qa, qb, zeroP] rfl (by simp) (by omega) rfl)]
      exact loopO_inr rfl
    unfold zeroP at r2
    unfold impl_PlanesOf
    simp only [i_SceneOk s hsm, hok, eo, ei, bnd_s, orO_some, e4, p1', e5, i1]
    rw [ifO_neg (by simp), r2]; rfl
  have hz : qa.ToW = 0 ∨ qb.ToW = 0 := by
    by_cases h : wideI s a
    · exact .inr (toW hok sb fun h' => inv.w1 ⟨h, h'⟩)
    · exact .inl (toW hok sa h)
  have hfc : ∀ (k : Nat) (hk : k < s.Surfaces.length), c = k → fits s.Surfaces[k] = true := fun k hk hck => by
    rcases hcur with e | ⟨k', x, _, e1, e2, e3⟩
    · omega
    · obtain rfl : k = k' := by omega
      rw [List.getElem?_eq_getElem hk] at e2
      rw [Option.some.inj e2]; exact e3
  have kok : spec_PlanesOk [q0, qa, qb, qc] s.W s.H = some true := planesOk_mk c0 (overP hok sa (.inl rfl) rW rH) (overP hok sb (.inr rfl) rW rH) (cursP hok sc' hfc rW rH) hz
  have ksm : smPlaneS [q0, qa, qb, qc] := ⟨by simp, fun x hx => by
    show x.Words.length ≤ 1048576
    simp only [List.mem_cons, List.not_mem_nil, or_false] at hx
    rcases hx with rfl | rfl | rfl | rfl <;> omega⟩
  obtain ⟨kg, ki⟩ := goodOf ksm kok
  obtain ⟨W2, H2, i', hW2, hH2, _, _, z1, z2, z3, _, z5, _⟩ := scanned_lay q0 qa qb qc s.W s.H ksm kg
  obtain rfl : W2 = W' := by omega
  rw [s1] at z1
  obtain rfl := (Prod.mk.inj (Option.some.inj z1)).1
  have hlay : lay W2 qc (lay W2 qb (lay W2 qa P)) = paintL W2 s.Surfaces (List.replicate (H' * W2) s.Back) := by
    rw [layP hok sa (hvis a (by simp)), layP hok sb (hvis b (by simp)), layP hok sc' (hvis c (by simp))]
    exact hfull
  have z5' : impl_scanned [q0, qa, qb, qc] = some (ImageT.mk s.W s.H (paintL W2 s.Surfaces (List.replicate (H' * W2) s.Back))) := by rw [z5]; exact congrArg (fun d => some (ImageT.mk s.W s.H d)) hlay
  have hscan : impl_ScanOut [q0, qa, qb, qc] s.W s.H = some (ImageT.mk s.W s.H (paintL W2 s.Surfaces (List.replicate (H' * W2) s.Back))) := by
    unfold impl_ScanOut
    rw [ki, bnd_s, z5']; rfl
  have hself := sameInts_self (paintL W2 s.Surfaces (List.replicate (H' * W2) s.Back)) (by rw [oS.1]; omega)
  have hsi : laws_sameImage (ImageT.mk s.W s.H (paintL W2 s.Surfaces (List.replicate (H' * W2) s.Back))) (ImageT.mk s.W s.H (paintL W2 s.Surfaces (List.replicate (H' * W2) s.Back))) = some true := by
    unfold laws_sameImage
    simp only [hself, bnd_s, andO_some]
    simp
  have hcl := cntLoop a b c
  rw [inv.cnt] at hcl
  have hlen := rest_len s inv.dis s.Surfaces.length (Nat.le_refl _)
  have hif : ∀ t ∈ [a, b, c], (if 0 ≤ t ∧ t < (s.Surfaces.length : Int) then 1 else 0) = cnt1 t := fun t ht => by
    unfold cnt1
    rcases hat t ht with e | ⟨e1, e2⟩
    · rw [if_neg (by omega), if_neg (by omega)]
    · rw [if_pos ⟨e1, e2⟩, if_pos e1]
  rw [hif a (by simp), hif b (by simp), hif c (by simp), inv.cnt] at hlen
  have hwl : wr ((s.Surfaces.length : Int) - (m : Int)) = ((restN s a b c s.Surfaces.length).length : Int) := by
    rw [wr_in (by omega) (by omega)]; omega
  rw [hd, bnd_s]
  simp only []
  rw [iR, bnd_s, pR, bnd_s, iP, bnd_s, i1, bnd_s]
  simp only []
  rw [hcl, bnd_s, ki, bnd_s]
  simp only [hscan, pS, hsi, bnd_s, andO_some, hwl, hRS]
  simp
end Go.Proofs.Ytbdpbboonilhhaa
