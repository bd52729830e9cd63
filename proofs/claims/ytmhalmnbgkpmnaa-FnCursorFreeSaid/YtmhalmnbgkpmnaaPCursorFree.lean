/- A surface that the cursor shows can move, and nothing is to be painted anew. -/
import Derived.Test.YtmhalmnbgkpmnaaPRestOf
import Derived.Test.YtmhalmnbgkpmnaaPDrawScene
import Derived.Test.YtmhalmnbgkpmnaaPSelf
import Derived.Test.YtmhalmnbgkpmnaaPAt
namespace Go.Proofs.Ytmhalmnbgkpmnaa
open Go.RowKit K
def sur (X Y : Int) (i : ImageT) : SurfaceT := SurfaceT.mk 77 X Y 0 0 255 0 true i
def addS (s : SceneT) (x : SurfaceT) : SceneT := SceneT.mk s.W s.H s.Back (s.Surfaces ++ [x])
theorem sur_ok {X Y : Int} {i : ImageT} (hX : inR X (-32) 32 = true) (hY : inR Y (-32) 32 = true) (hi : imgOk i = true) : surfOk (sur X Y i) = true := by
  unfold surfOk sur
  simp only [hX, hY, hi]; rfl
theorem addS_sm {s : SceneT} (h : smScene s) (hl : s.Surfaces.length ≤ 6) {x : SurfaceT} (hx : smSurface x) : smScene (addS s x) := by
  refine ⟨by show (s.Surfaces ++ [x]).length ≤ 1048576; simp; omega, fun y hy => ?_⟩
  rcases List.mem_append.1 (show y ∈ s.Surfaces ++ [x] from hy) with hy | hy
  · exact h.2 y hy
  · rw [List.mem_singleton.1 hy]; exact hx
theorem sceneOk_add {s : SceneT} {x : SurfaceT} (hok : sceneOk s = true) (hid : ∀ y ∈ s.Surfaces, y.Id ≠ x.Id) (hx : surfOk x = true) : sceneOk (addS s x) = decide (s.Surfaces.length + 1 ≤ 6) := by
  unfold sceneOk at hok ⊢
  simp only [Bool.and_eq_true] at hok
  obtain ⟨⟨⟨⟨a1, a2⟩, a3⟩, _⟩, a5⟩ := hok
  have hall : (List.range (addS s x).Surfaces.length).all (surfN (addS s x).Surfaces) = true := by
    refine List.all_eq_true.2 fun k hk => ?_
    have hk' : k < (s.Surfaces ++ [x]).length := List.mem_range.1 hk
    rw [List.length_append, List.length_singleton] at hk'
    show surfN (s.Surfaces ++ [x]) k = true
    by_cases e : k < s.Surfaces.length
    · have h1 := List.all_eq_true.1 a5 k (List.mem_range.2 e)
      rw [surfN_at e] at h1
      rw [surfN_at (by simp; omega), List.getElem_append_left e, List.take_append_of_le_length (by omega)]
      exact h1
    · obtain rfl : k = s.Surfaces.length := by omega
      rw [surfN_at (by simp), List.getElem_append_right (by omega), List.take_left]
      simp only [Nat.sub_self, List.getElem_cons_zero, hx, Bool.true_and, Bool.not_eq_true', List.any_eq_false, decide_eq_true_eq]
      exact hid
  rw [hall]
  have e1 : (addS s x).W = s.W := rfl
  have e2 : (addS s x).H = s.H := rfl
  have e3 : (addS s x).Back = s.Back := rfl
  have e4 : (((addS s x).Surfaces.length : Nat) : Int) = (s.Surfaces.length : Int) + 1 := by show (((s.Surfaces ++ [x]).length : Nat) : Int) = _; simp
  rw [e1, e2, e3, a1, a2, a3, e4, Bool.and_true, Bool.true_and, Bool.true_and, Bool.true_and]
  exact decide_eq_decide.2 (by omega)
theorem edit_add {s : SceneT} (hs : Fine s) {i : ImageT} (hi : imgOk i = true) : spec_DoEdit s (EditT.mk 0 77 1 1 i) = some (if s.Surfaces.length + 1 ≤ 6 then (addS s (sur 1 1 i), true) else (s, false)) := by
  obtain ⟨hsm, hok, hf⟩ := hs
  have hn : s.Surfaces.length ≤ 6 := sceneOk_sm hok hsm.1
  have hil := imgOk_le hi
  have hix : spec_SurfaceIndex s 77 = some (-1) := by
    rw [SurfaceIndex_eq s 77 hsm.1]
    have : s.Surfaces.findIdx? (fun y => decide (y.Id = 77)) = none := List.findIdx?_eq_none_iff.2 fun y hy => by simpa using (hf y hy).2
    rw [this]
  obtain ⟨r, r1, _⟩ := restLoop' s hsm (Q := fun _ => True) (fun _ _ => trivial) (-1)
  have hx : surfOk (sur 1 1 i) = true := sur_ok rfl rfl hi
  have hm : smScene (addS s (sur 1 1 i)) := addS_sm hsm hn (show i.Data.length ≤ 1048576 by omega)
  have hc := sceneOk_add (x := sur 1 1 i) hok (fun y hy => (hf y hy).2) hx
  have ha : app s.Surfaces [sur 1 1 i] = some (s.Surfaces ++ [sur 1 1 i]) := app_le (by simp; omega)
  unfold spec_DoEdit
  rw [c_copyScene s hsm, bnd_s, hix, bnd_s, s_SceneOk s hsm, bnd_s, hok, l01In_eq, bnd_s, orO_some, bnd_s, ifO_neg (by rfl), r1, bnd_s, ifO_pos (by rfl), c_copyImage i (by omega), bnd_s]
  rw [show SurfaceT.mk 77 1 1 0 0 255 0 true i = sur 1 1 i from rfl, ha, bnd_s, bnd_s]
  simp only []
  rw [show SceneT.mk s.W s.H s.Back (s.Surfaces ++ [sur 1 1 i]) = addS s (sur 1 1 i) from rfl, s_SceneOk _ hm, bnd_s, hc]
  by_cases h6 : s.Surfaces.length + 1 ≤ 6
  · rw [if_pos h6, decide_eq_true h6, Bool.not_true, ifO_false, c_copyScene _ hm]; rfl
  · rw [if_neg h6, decide_eq_false h6, Bool.not_false, ifO_true]; rfl
theorem edit_move {s : SceneT} (hs : Fine s) (h6 : s.Surfaces.length + 1 ≤ 6) {i : ImageT} (hi : imgOk i = true) {A B : Int} (hA : inR A (-32) 32 = true) (hB : inR B (-32) 32 = true) (j : ImageT) : spec_DoEdit (addS s (sur 1 1 i)) (EditT.mk 2 77 A B j) = some (addS s (sur A B i), true) := by
  obtain ⟨hsm, hok, hf⟩ := hs
  have hn : s.Surfaces.length ≤ 6 := by omega
  have hil := imgOk_le hi
  have hm : smScene (addS s (sur 1 1 i)) := addS_sm hsm hn (show i.Data.length ≤ 1048576 by omega)
  have hm2 : smScene (addS s (sur A B i)) := addS_sm hsm hn (show i.Data.length ≤ 1048576 by omega)
  have hc := sceneOk_add (x := sur 1 1 i) hok (fun y hy => (hf y hy).2) (sur_ok rfl rfl hi)
  have hc2 := sceneOk_add (x := sur A B i) hok (fun y hy => (hf y hy).2) (sur_ok hA hB hi)
  rw [decide_eq_true h6] at hc hc2
  have hix : spec_SurfaceIndex (addS s (sur 1 1 i)) 77 = some (s.Surfaces.length : Int) := by
    rw [SurfaceIndex_eq _ 77 hm.1]
    have : (addS s (sur 1 1 i)).Surfaces.findIdx? (fun y => decide (y.Id = 77)) = some s.Surfaces.length := by
      show (s.Surfaces ++ [sur 1 1 i]).findIdx? (fun y => decide (y.Id = 77)) = some s.Surfaces.length
      refine List.findIdx?_eq_some_iff_getElem.2 ⟨by simp, ?_, fun k hk => ?_⟩
      · rw [List.getElem_append_right (by omega)]; simp [sur]
      · rw [List.getElem_append_left (by omega)]
        have := (hf _ (List.getElem_mem (show k < s.Surfaces.length by omega))).2
        simpa using this
    rw [this]
  obtain ⟨r, r1, _⟩ := restLoop' (addS s (sur 1 1 i)) hm (Q := fun _ => True) (fun _ _ => trivial) (s.Surfaces.length : Int)
  have hlt : s.Surfaces.length < (s.Surfaces ++ [sur 1 1 i]).length := by simp
  have g1 : idx (addS s (sur 1 1 i)).Surfaces (s.Surfaces.length : Int) = some (sur 1 1 i) := by
    show idx (s.Surfaces ++ [sur 1 1 i]) (s.Surfaces.length : Int) = _
    rw [idx_lt hlt, List.getElem_append_right (by omega)]; simp
  have g2 : ∀ (x y : SurfaceT), upd (s.Surfaces ++ [x]) (s.Surfaces.length : Int) y = some (s.Surfaces ++ [y]) := fun x y => by
    rw [upd_lt (by simp), List.set_append_right _ _ (by omega)]; simp
  have g3 : ∀ (x : SurfaceT), idx (s.Surfaces ++ [x]) (s.Surfaces.length : Int) = some x := fun x => by
    rw [idx_lt (by simp), List.getElem_append_right (by omega)]; simp
  unfold spec_DoEdit
  have hd : decide ((s.Surfaces.length : Int) < 0) = false := by simp
  rw [c_copyScene _ hm, bnd_s, hix, bnd_s, s_SceneOk _ hm, bnd_s, hc, l01In_eq, bnd_s, orO_some, bnd_s, hd, ifO_neg (by rfl), r1, bnd_s, ifO_neg (by rfl), ifO_neg (by rfl), ifO_pos (by rfl), g1, bnd_s]
  rw [show (addS s (sur 1 1 i)).Surfaces = s.Surfaces ++ [sur 1 1 i] from rfl, g2, bnd_s, g3, bnd_s, g2, bnd_s, bnd_s]
  simp only []
  rw [show SceneT.mk (addS s (sur 1 1 i)).W (addS s (sur 1 1 i)).H (addS s (sur 1 1 i)).Back (s.Surfaces ++ [SurfaceT.mk (sur 1 1 i).Id A B (sur 1 1 i).W (sur 1 1 i).H (sur 1 1 i).Alpha (sur 1 1 i).Orient (sur 1 1 i).Visible (sur 1 1 i).Buffer]) = addS s (sur A B i) from rfl, s_SceneOk _ hm2, bnd_s, hc2, Bool.not_true, ifO_false, c_copyScene _ hm2]; rfl
theorem topsTo_congr {s t : SceneT} (h : ∀ k, vis s k = vis t k) : ∀ n, topsTo s n = topsTo t n
  | 0 => rfl
  | n + 1 => by
    unfold topsTo
    rw [h n, topsTo_congr h n]
theorem asg_congr {s t : SceneT} (h : tops s = tops t) (hw : ∀ k, wide s k = wide t k) : ∀ (j : Nat) (out : List Int) (n : Nat) (sc : Bool), asg s j out n sc = asg t j out n sc
  | 0, _, _, _ => rfl
  | j + 1, out, n, sc => by
    cases ht : (tops t)[n]? with
    | none => rw [asg_none ht, asg_none (by rw [h]; exact ht)]
    | some k =>
      cases hb : (wide t k && sc) with
      | true => rw [asg_stop ht hb, asg_stop (by rw [h]; exact ht) (by rw [hw]; exact hb)]
      | false => rw [asg_go ht hb, asg_go (by rw [h]; exact ht) (by rw [hw]; exact hb), hw k]; exact asg_congr h hw j _ _ _
theorem asg_slot2 (s : SceneT) : ∀ (j : Nat) (out : List Int) (n : Nat) (sc : Bool), j ≤ 2 → (asg s j out n sc).1[2]? = out[2]?
  | 0, _, _, _, _ => rfl
  | j + 1, out, n, sc, hj => by
    cases ht : (tops s)[n]? with
    | none => rw [asg_none ht]
    | some k =>
      cases hb : (wide s k && sc) with
      | true => rw [asg_stop ht hb]
      | false =>
        rw [asg_go ht hb, asg_slot2 s j _ _ _ (by omega), List.getElem?_set_ne (by omega)]
theorem at_addS (s : SceneT) (x y : SurfaceT) (k : Nat) : (addS s x).Surfaces[k]? = (if k = s.Surfaces.length then some x else (addS s y).Surfaces[k]?) := by
  show (s.Surfaces ++ [x])[k]? = if k = s.Surfaces.length then some x else (s.Surfaces ++ [y])[k]?
  by_cases e : k = s.Surfaces.length
  · subst e; simp
  · rw [if_neg e]
    rcases Nat.lt_or_ge k s.Surfaces.length with h | h
    · rw [List.getElem?_append_left h, List.getElem?_append_left h]
    · rw [List.getElem?_eq_none (by simp; omega), List.getElem?_eq_none (by simp; omega)]
theorem vis_addS (s : SceneT) (X Y A B : Int) (i : ImageT) (k : Nat) : vis (addS s (sur X Y i)) k = vis (addS s (sur A B i)) k := by
  unfold vis
  rw [at_addS s (sur X Y i) (sur A B i) k]
  by_cases e : k = s.Surfaces.length
  · subst e
    have : (addS s (sur A B i)).Surfaces[s.Surfaces.length]? = some (sur A B i) := by show (s.Surfaces ++ [sur A B i])[s.Surfaces.length]? = _; simp
    rw [if_pos rfl, this]; rfl
  · rw [if_neg e]
theorem wide_addS (s : SceneT) (X Y A B : Int) (i : ImageT) (k : Nat) : wide (addS s (sur X Y i)) k = wide (addS s (sur A B i)) k := by
  unfold wide
  rw [at_addS s (sur X Y i) (sur A B i) k]
  by_cases e : k = s.Surfaces.length
  · subst e
    have : (addS s (sur A B i)).Surfaces[s.Surfaces.length]? = some (sur A B i) := by show (s.Surfaces ++ [sur A B i])[s.Surfaces.length]? = _; simp
    rw [if_pos rfl, this]; rfl
  · rw [if_neg e]
theorem tops_addS (s : SceneT) (X Y : Int) (i : ImageT) : (tops (addS s (sur X Y i)))[0]? = some s.Surfaces.length := by
  unfold tops
  have e : (addS s (sur X Y i)).Surfaces.length = s.Surfaces.length + 1 := by show (s.Surfaces ++ [sur X Y i]).length = _; simp
  rw [e]
  unfold topsTo
  have hv : vis (addS s (sur X Y i)) s.Surfaces.length = true := by
    unfold vis
    have : (addS s (sur X Y i)).Surfaces[s.Surfaces.length]? = some (sur X Y i) := by show (s.Surfaces ++ [sur X Y i])[s.Surfaces.length]? = _; simp
    rw [this]; rfl
  rw [if_pos hv]; rfl
theorem curs_addS (s : SceneT) (X Y : Int) {i : ImageT} (o : OptionsT) (hc : o.Cursor = true) (hX : inR X (-32) 32 = true) (hY : inR Y (-32) 32 = true) (hi : imgOk i = true) (hw : i.W = 2) (hh : i.H = 2) : curs (addS s (sur X Y i)) o = some s.Surfaces.length := by
  have : (addS s (sur X Y i)).Surfaces[s.Surfaces.length]? = some (sur X Y i) := by show (s.Surfaces ++ [sur X Y i])[s.Surfaces.length]? = _; simp
  have hf : fits (sur X Y i) = true := by
    unfold fits
    rw [sur_ok hX hY hi]
    simp only [sur, hw, hh]; rfl
  unfold curs
  simp only [tops_addS, this, hc, hf, Bool.and_self, if_true]
theorem restN_addS (s : SceneT) (x : SurfaceT) (a b c : Int) : ∀ k, k ≤ s.Surfaces.length → restN (addS s x) a b c k = restN s a b c k
  | 0, _ => rfl
  | k + 1, h => by
    have e : rest1 (addS s x) a b c k = rest1 s a b c k := by
      unfold rest1
      rw [show (addS s x).Surfaces[k]? = s.Surfaces[k]? from List.getElem?_append_left (by omega)]
    unfold restN
    rw [restN_addS s x a b c k (by omega), e]
theorem restOf_addS (s : SceneT) (x y : SurfaceT) (a b : Int) : restOf (addS s x) [a, b, (s.Surfaces.length : Int)] = restOf (addS s y) [a, b, (s.Surfaces.length : Int)] := by
  have key : ∀ x : SurfaceT, restOf (addS s x) [a, b, (s.Surfaces.length : Int)] = SceneT.mk s.W s.H s.Back (restN s a b (s.Surfaces.length : Int) s.Surfaces.length) := fun x => by
    have e : (addS s x).Surfaces.length = s.Surfaces.length + 1 := by show (s.Surfaces ++ [x]).length = _; simp
    have e1 : rest1 (addS s x) a b (s.Surfaces.length : Int) s.Surfaces.length = [] := by
      rw [rest1_at (by omega)]
      have : inL a b (s.Surfaces.length : Int) (s.Surfaces.length : Int) = true := by unfold inL; simp
      rw [this]; rfl
    unfold restOf
    simp only [e]
    show SceneT.mk s.W s.H s.Back (restN (addS s x) a b (s.Surfaces.length : Int) s.Surfaces.length ++ rest1 (addS s x) a b (s.Surfaces.length : Int) s.Surfaces.length) = _
    rw [e1, List.append_nil, restN_addS s x a b _ _ (Nat.le_refl _)]
  rw [key x, key y]
theorem FnCursorFree_true (code : List Int) (o : code.length ≤ 9223372036854775807 ∧ ∀ y ∈ code, 0 ≤ y ∧ y ≤ 255) : laws_FnCursorFree code = some true := by
  unfold laws_FnCursorFree laws_big
  rw [bnd_s]
  by_cases hbig' : 1048576 < code.length
  · rw [ifO_pos (by simp; omega)]
  have hbig : code.length ≤ 1048576 := by omega
  rw [ifO_neg (by simp; omega)]
  obtain ⟨s, op, hd, hs, ho, hl⟩ := DrawAssignment_ok code hbig
  obtain ⟨a0, e0, a00, a01⟩ := at_ok code hbig o.2 0 (by omega) (by omega)
  obtain ⟨a1, e1, a10, a11⟩ := at_ok code hbig o.2 1 (by omega) (by omega)
  obtain ⟨a2, e2, a20, a21⟩ := at_ok code hbig o.2 2 (by omega) (by omega)
  have ep : wr (4278190080 + a0) = 4278190080 + a0 := wr_in (by omega) (by omega)
  obtain ⟨i, n1, _, n3, _⟩ := s_NewImage 2 2 (4278190080 + a0)
  obtain ⟨hi, hiW, hiH⟩ := n3 rfl rfl (inR_t.2 (by omega))
  rw [hd, bnd_s]
  simp only []
  rw [e0, bnd_s, ep, n1, bnd_s, edit_add hs hi, bnd_s]
  by_cases h6' : ¬ s.Surfaces.length + 1 ≤ 6
  · have hn : s.Surfaces.length ≤ 6 := sceneOk_sm hs.2.1 hs.1.1
    rw [if_neg h6']
    simp only [Bool.not_false, ifO_true]
    have : decide ((s.Surfaces.length : Int) = 6) = true := by simp; omega
    rw [this]
  have h6 : s.Surfaces.length + 1 ≤ 6 := by omega
  generalize hO : OptionsT.mk op.Overlays true op.Layout op.Partial op.Sleep op.Secret = o1
  have ho1 : inR o1.Overlays 0 2 = true := by rw [← hO]; exact ho
  have hl1 : inR o1.Layout 0 2 = true := by rw [← hO]; exact hl
  have hc1 : o1.Cursor = true := by rw [← hO]
  have ho1' := inR_t.1 ho1
  rw [if_pos h6]
  simp only [Bool.not_true, ifO_false]
  have hA : Int.tmod a1 12 = a1 % 12 := Int.tmod_eq_emod_of_nonneg a10
  have hB : Int.tmod a2 10 = a2 % 10 := Int.tmod_eq_emod_of_nonneg a20
  rw [e1, bnd_s, e2, bnd_s, hA, hB, wr_in (n := a1 % 12 - 2) (by omega) (by omega), wr_in (n := a2 % 10 - 2) (by omega) (by omega)]
  have hX : inR (a1 % 12 - 2) (-32) 32 = true := inR_t.2 (by omega)
  have hY : inR (a2 % 10 - 2) (-32) 32 = true := inR_t.2 (by omega)
  generalize a1 % 12 - 2 = A at *
  generalize a2 % 10 - 2 = B at *
  rw [edit_move hs h6 hi hX hY, bnd_s]
  simp only []
  have hil := imgOk_le hi
  have hn : s.Surfaces.length ≤ 6 := by omega
  have mt : smScene (addS s (sur 1 1 i)) := addS_sm hs.1 hn (show i.Data.length ≤ 1048576 by omega)
  have mu : smScene (addS s (sur A B i)) := addS_sm hs.1 hn (show i.Data.length ≤ 1048576 by omega)
  have kt := sceneOk_add (x := sur 1 1 i) hs.2.1 (fun y hy => (hs.2.2 y hy).2) (sur_ok rfl rfl hi)
  have ku := sceneOk_add (x := sur A B i) hs.2.1 (fun y hy => (hs.2.2 y hy).2) (sur_ok hX hY hi)
  rw [decide_eq_true h6] at kt ku
  have ct := curs_addS s 1 1 o1 hc1 rfl rfl hi hiW hiH
  have cu := curs_addS s A B o1 hc1 hX hY hi hiW hiH
  have htops : tops (addS s (sur 1 1 i)) = tops (addS s (sur A B i)) := by
    unfold tops
    have e1 : (addS s (sur 1 1 i)).Surfaces.length = s.Surfaces.length + 1 := by show (s.Surfaces ++ [sur 1 1 i]).length = _; simp
    have e2 : (addS s (sur A B i)).Surfaces.length = s.Surfaces.length + 1 := by show (s.Surfaces ++ [sur A B i]).length = _; simp
    rw [e1, e2]
    exact topsTo_congr (vis_addS s 1 1 A B i) _
  have hasg : asgOf (addS s (sur 1 1 i)) o1 = asgOf (addS s (sur A B i)) o1 := by
    unfold asgOf
    rw [ct, cu]
    exact asg_congr htops (wide_addS s 1 1 A B i) _ _ _ _
  have i1 : impl_AssignedOf (addS s (sur 1 1 i)) o1 = some ((asgOf (addS s (sur 1 1 i)) o1).1, ((asgOf (addS s (sur 1 1 i)) o1).2 : Int)) := by
    obtain ⟨l, n, e1, e2, _⟩ := AssignedOf_eq (addS s (sur 1 1 i)) o1 mt
    rw [e2, ← e1, s_AssignedOf _ o1 mt kt ho1 hl1]
  have rt := i_RestOf _ o1 mt kt ho1 hl1
  have rs := s_RestOf _ o1 mt kt ho1 hl1
  have ru := i_RestOf _ o1 mu ku ho1 hl1
  obtain ⟨a, b, c, habc⟩ := asgOf_three (addS s (sur 1 1 i)) o1 ho1
  have h2 : (asgOf (addS s (sur 1 1 i)) o1).1[2]? = some (s.Surfaces.length : Int) := by
    unfold asgOf
    rw [ct]
    show (asg _ _ _ _ _).1[2]? = _
    rw [asg_slot2 _ _ _ _ _ (by omega)]; rfl
  have hpos : 1 ≤ (asgOf (addS s (sur 1 1 i)) o1).2 := by
    unfold asgOf
    rw [ct]
    exact asg_ge _ _ _ 1 _
  rw [habc] at h2
  obtain rfl : c = (s.Surfaces.length : Int) := Option.some.inj h2
  rw [← hasg, habc] at ru
  rw [habc] at rt rs i1
  rw [restOf_addS s (sur A B i) (sur 1 1 i)] at ru
  have hsm := restOf_sm mt [a, b, (s.Surfaces.length : Int)]
  generalize restOf (addS s (sur 1 1 i)) [a, b, (s.Surfaces.length : Int)] = R at *
  have hg : laws_get [a, b, (s.Surfaces.length : Int)] 2 = some (s.Surfaces.length : Int) := rfl
  have hlen : wr (((addS s (sur 1 1 i)).Surfaces.length : Int) - 1) = (s.Surfaces.length : Int) := by
    have e : (addS s (sur 1 1 i)).Surfaces.length = s.Surfaces.length + 1 := by show (s.Surfaces ++ [sur 1 1 i]).length = _; simp
    rw [e, wr_in (by omega) (by omega)]; omega
  rw [i1, bnd_s]
  simp only [hg, bnd_s, rt, ru, rs, same_scene R hsm, no_damage R hsm, andO_some, hlen]
  have d1 : decide (0 < ((asgOf (addS s (sur 1 1 i)) o1).2 : Int)) = true := by simp; omega
  rw [d1]
  simp
end Go.Proofs.Ytmhalmnbgkpmnaa
