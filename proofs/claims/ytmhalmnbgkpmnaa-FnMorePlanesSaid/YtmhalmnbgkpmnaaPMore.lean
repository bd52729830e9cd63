/- With more overlays no fewer surfaces are assigned. -/
import Derived.Test.YtmhalmnbgkpmnaaPTops
import Derived.Test.YtmhalmnbgkpmnaaPDrawScene
import Derived.Test.YtmhalmnbgkpmnaaPAt
namespace Go.Proofs.Ytmhalmnbgkpmnaa
open Go.RowKit K
theorem asg_mono (s : SceneT) : ∀ (j : Nat) (out out' : List Int) (n : Nat) (sc : Bool), j ≤ 2 → (asg s j out n sc).2 ≤ (asg s (j + 1) out' n sc).2
  | 0, out, out', n, sc, _ => by
    have e : (asg s 0 out n sc).2 = n := rfl
    rw [e]
    cases ht : (tops s)[n]? with
    | none => rw [asg_none ht]; exact Nat.le_refl _
    | some k =>
      cases hb : (wide s k && sc) with
      | true => rw [asg_stop ht hb]; exact Nat.le_refl _
      | false => rw [asg_go ht hb]; exact Nat.le_succ n
  | j + 1, out, out', n, sc, hj => by
    cases ht : (tops s)[n]? with
    | none => rw [asg_none ht, asg_none ht]; exact Nat.le_refl _
    | some k =>
      cases hb : (wide s k && sc) with
      | true => rw [asg_stop ht hb, asg_stop ht hb]; exact Nat.le_refl _
      | false => rw [asg_go ht hb, asg_go ht hb]; exact asg_mono s j _ _ _ _ (by omega)
theorem asg_ge (s : SceneT) : ∀ (j : Nat) (out : List Int) (n : Nat) (sc : Bool), n ≤ (asg s j out n sc).2
  | 0, _, _, _ => Nat.le_refl _
  | j + 1, out, n, sc => by
    cases ht : (tops s)[n]? with
    | none => rw [asg_none ht]; exact Nat.le_refl _
    | some k =>
      cases hb : (wide s k && sc) with
      | true => rw [asg_stop ht hb]; exact Nat.le_refl _
      | false => rw [asg_go ht hb]; exact Nat.le_trans (Nat.le_succ n) (asg_ge s j _ _ _)
theorem hasLoop (xs : List Int) (k : Int) (h : xs.length ≤ 1048576) : laws_has xs k = some (xs.any fun x => decide (x = k)) := by
  have := allList (L := fun i => laws_has_L0 xs k i) xs (by omega) (fun x => !decide (x = k)) true (fun i hi => by
    simp only [laws_has_L0, idx_lt hi, bnd_s]
    rw [ifO_pos (by simpa using hi)]
    cases decide (xs[i] = k) <;> rfl) (by simp [laws_has_L0])
  rw [laws_has, this]
  have e : (xs.all fun x => !decide (x = k)) = !(xs.any fun x => decide (x = k)) := by rw [List.all_eq_not_any_not]; simp
  rw [e]
  cases xs.any fun x => decide (x = k) <;> rfl
theorem FnMorePlanes_true (code : List Int) (o : code.length ≤ 9223372036854775807 ∧ ∀ y ∈ code, 0 ≤ y ∧ y ≤ 255) : laws_FnMorePlanes code = some true := by
  unfold laws_FnMorePlanes laws_big
  rw [bnd_s]
  by_cases hbig' : 1048576 < code.length
  · rw [ifO_pos (by simp; omega)]
  have hbig : code.length ≤ 1048576 := by omega
  rw [ifO_neg (by simp; omega)]
  obtain ⟨s, op, hd, ⟨hsm, hok⟩, ho, hl⟩ := DrawAssignment_ok code hbig
  obtain ⟨v, hv, v0, v1⟩ := at_ok code hbig o.2 0 (by omega) (by omega)
  rw [hd, bnd_s]
  simp only []
  rw [hv, bnd_s]
  have hm : Int.tmod v 2 = v % 2 := Int.tmod_eq_emod_of_nonneg v0
  obtain ⟨j, hj, hj1⟩ : ∃ j : Nat, v % 2 = j ∧ j ≤ 1 := ⟨(v % 2).toNat, by omega, by omega⟩
  rw [hm, hj]
  have hw : wr ((j : Int) + 1) = ((j + 1 : Nat) : Int) := wr_succ (by omega)
  rw [hw]
  generalize ho1 : OptionsT.mk (j : Int) op.Cursor op.Layout op.Partial op.Sleep op.Secret = o1
  generalize ho2 : OptionsT.mk ((j + 1 : Nat) : Int) op.Cursor op.Layout op.Partial op.Sleep op.Secret = o2
  have a1 : inR o1.Overlays 0 2 = true := by rw [← ho1]; exact inR_t.2 ⟨by show (0 : Int) ≤ j; omega, by show (j : Int) ≤ 2; omega⟩
  have a2 : inR o2.Overlays 0 2 = true := by rw [← ho2]; exact inR_t.2 ⟨by show (0 : Int) ≤ (j + 1 : Nat); omega, by show ((j + 1 : Nat) : Int) ≤ 2; omega⟩
  have b1 : inR o1.Layout 0 2 = true := by rw [← ho1]; exact hl
  have b2 : inR o2.Layout 0 2 = true := by rw [← ho2]; exact hl
  have i1 : impl_AssignedOf s o1 = some ((asgOf s o1).1, ((asgOf s o1).2 : Int)) := by
    obtain ⟨l, n, e1, e2, _⟩ := AssignedOf_eq s o1 hsm
    rw [e2, ← e1, s_AssignedOf s o1 hsm hok a1 b1]
  have i2 : impl_AssignedOf s o2 = some ((asgOf s o2).1, ((asgOf s o2).2 : Int)) := by
    obtain ⟨l, n, e1, e2, _⟩ := AssignedOf_eq s o2 hsm
    rw [e2, ← e1, s_AssignedOf s o2 hsm hok a2 b2]
  have i3 : impl_TopVisible s 0 = some (topV s 0) := by rw [TopVisible_eq s _ hsm]; exact TopVisible_topV s hsm hok 0 (by omega)
  obtain ⟨⟨q1, q2, q3⟩, q4⟩ := asgOf_ok s o2 a2
  have hle : (asgOf s o1).2 ≤ (asgOf s o2).2 := by
    have ec : curs s o1 = curs s o2 := by unfold curs; rw [← ho1, ← ho2]
    have e1 : o1.Overlays.toNat = j := by rw [← ho1]; rfl
    have e2 : o2.Overlays.toNat = j + 1 := by rw [← ho2]; rfl
    unfold asgOf
    rw [ec, e1, e2]
    cases curs s o2 with
    | none => exact asg_mono s j _ _ _ _ (by omega)
    | some k => exact asg_mono s j _ _ _ _ (by omega)
  have hpos : decide (0 < ((asgOf s o2).2 : Int)) = decide (0 ≤ topV s 0) := by
    refine decide_eq_decide.2 ?_
    cases ht : (tops s)[0]? with
    | none =>
      have : topV s 0 = -1 := by unfold topV; rw [ht]
      rw [this]
      refine ⟨fun h => ?_, fun h => by omega⟩
      obtain ⟨k, e, _⟩ := q3 0 (by omega)
      rw [ht] at e; cases e
    | some k =>
      have : topV s 0 = (k : Int) := by unfold topV; rw [ht]
      rw [this]
      refine ⟨fun h => by omega, fun h => ?_⟩
      have e2 : o2.Overlays.toNat = j + 1 := by rw [← ho2]; rfl
      have hone : 1 ≤ (asgOf s o2).2 := by
        unfold asgOf
        cases hc : curs s o2 with
        | none =>
          rw [e2]
          show 1 ≤ (asg s (j + 1) [-1, -1, -1] 0 false).2
          rw [asg_go ht (by simp)]
          exact asg_ge s j _ _ _
        | some k' => exact asg_ge s _ _ 1 _
      omega
  have hsl := sceneOk_sm hok hsm.1
  rw [i1, bnd_s]
  simp only []
  rw [i2, bnd_s]
  simp only []
  rw [i3]
  generalize hL : (asgOf s o2).1 = L at *
  generalize hM : (asgOf s o2).2 = M at *
  generalize hN : (asgOf s o1).2 = n at *
  have inner : ∀ (v0 : Nat) (hv0 : v0 < L.length) (j k : Nat), k + j = s.Surfaces.length → (0 ≤ L[v0] → L[v0] < (k : Int)) → loopO (fun v1 => laws_FnMorePlanes_L1 s L v0 v1) (k : Int) = some (.inl ()) := by
    intro v0 hv0 j
    induction j with
    | zero =>
      intro k hk _
      refine loopO_inr ?_
      show laws_FnMorePlanes_L1 s L v0 k = _
      unfold laws_FnMorePlanes_L1
      rw [idx_lt hv0, bnd_s, ifO_neg (by simp; omega)]
    | succ j ih =>
      intro k hk hlow
      have hkl : k < s.Surfaces.length := by omega
      by_cases hneg : L[v0] < 0
      · refine loopO_inr ?_
        show laws_FnMorePlanes_L1 s L v0 k = _
        unfold laws_FnMorePlanes_L1
        rw [idx_lt hv0, bnd_s, ifO_neg (by simp; omega)]
      · have hst : laws_FnMorePlanes_L1 s L v0 k = some (.inl ((k + 1 : Nat) : Int)) := by
          unfold laws_FnMorePlanes_L1
          rw [idx_lt hv0, bnd_s, ifO_pos (by simp; omega), idx_lt hkl, bnd_s, hasLoop L _ (by omega), bnd_s, andO_some, bnd_s, wr_succ (by omega)]
          rw [ifO_neg]
          cases hvis : s.Surfaces[k].Visible with
          | false => rfl
          | true =>
            have hk : k ∈ tops s := tops_mem.2 ⟨hkl, by rw [vis_at hkl]; exact hvis⟩
            obtain ⟨i, hi⟩ := List.getElem?_of_mem hk
            rcases q2 _ (List.getElem_mem hv0) with e | ⟨i', k', h1, h2, h3⟩
            · omega
            · have hik : i < M := by
                rcases Nat.lt_or_ge i' i with h | h
                · have := tops_down h2 hi h
                  have := hlow (by omega)
                  omega
                · omega
              obtain ⟨k2, e1, e2⟩ := q3 i hik
              rw [hi] at e1
              obtain rfl := Option.some.inj e1
              have : (L.any fun x => decide (x = (k : Int))) = true := List.any_eq_true.2 ⟨_, e2, by simp⟩
              rw [this]; rfl
        rw [loopO_inl (f := fun v1 => laws_FnMorePlanes_L1 s L v0 v1) hst]
        exact ih (k + 1) (by omega) (fun h => by have := hlow h; omega)
  have outer := allLoop (L := fun v => laws_FnMorePlanes_L0 s L v) L.length (by omega) (fun _ => true) false (fun k hk _ => by
    show laws_FnMorePlanes_L0 s L k = _
    unfold laws_FnMorePlanes_L0
    rw [ifO_pos (by simpa using hk), idx_lt hk, bnd_s]
    rcases q2 _ (List.getElem_mem hk) with e | ⟨i', k', h1, h2, h3⟩
    · have := inner k hk s.Surfaces.length 0 (by omega) (by omega)
      rw [e, wr_in (by omega) (by omega)]
      rw [show ((0 : Nat) : Int) = -1 + 1 from rfl] at this
      rw [this]; rfl
    · have hk' := tops_lt h2
      have := inner k hk (s.Surfaces.length - (k' + 1)) (k' + 1) (by omega) (by omega)
      rw [h3, wr_succ (by omega), this]; rfl) (fun k hk h => by cases h) (by simp [laws_FnMorePlanes_L0])
  rw [outer, if_pos (by simp), bnd_s, fork_inl]
  simp only [bnd_s, hpos, andO_some]
  have d1 : decide ((n : Int) ≤ (M : Int)) = true := by simpa using hle
  have d2 : decide ((M : Int) ≤ 3) = true := by simp; omega
  rw [d1, d2]
  simp [andO]
end Go.Proofs.Ytmhalmnbgkpmnaa
