/- The changes for a state lead to it. -/
import Derived.Test.YtmhalmnbgkpmnaaGreatPApply
import Derived.Test.YtmhalmnbgkpmnaaGreatPTest
import Derived.Test.YtmhalmnbgkpmnaaGreatPChg
import Derived.Test.YtmhalmnbgkpmnaaGreatPDrawChanges
namespace Go.Proofs.YtmhalmnbgkpmnaaGreat
open Go.RowKit K
theorem samePl_eq {a b : PlaneT} (h : samePl a b = true) : a = b := by
  unfold samePl eqInts at h
  simp only [Bool.and_eq_true, decide_eq_true_eq, beq_iff_eq] at h
  obtain ⟨⟨⟨⟨⟨⟨⟨⟨⟨⟨h1, h2⟩, h3⟩, h4⟩, h5⟩, h6⟩, h7⟩, h8⟩, h9⟩, h10⟩, h11⟩ := h
  cases a; cases b
  simp only at h1 h2 h3 h4 h5 h6 h7 h8 h9 h10 h11
  subst h1 h2 h3 h4 h5 h6 h7 h8 h9 h10 h11
  rfl
theorem sameCol_eq {a b : ColorMapT} (h : sameCol a b = true) : a = b := by
  unfold sameCol eqInts at h
  simp only [Bool.and_eq_true, decide_eq_true_eq] at h
  cases a; cases b
  simp only at h
  rw [h.1, h.2]
theorem mix_step {a b : List PlaneT} (hl : a.length = b.length) {n : Nat} (hn : n < b.length) : (b.take n ++ a.drop n).set n b[n] = b.take (n + 1) ++ a.drop (n + 1) := by
  have ht : (b.take n).length = n := by rw [List.length_take]; omega
  rw [List.set_append_right _ _ (by omega), ht, Nat.sub_self, List.drop_eq_getElem_cons (show n < a.length by omega), List.set_cons_zero]
  have e : b.take (n + 1) = b.take n ++ [b[n]] := by rw [List.take_add_one, List.getElem?_eq_getElem hn]; rfl
  rw [e, List.append_assoc]; rfl
theorem apAll_chgs {a b : List PlaneT} (hl : a.length = b.length) (col : ColorMapT) : ∀ n, n ≤ b.length → apAll (a, col) (chgs a b n) = (b.take n ++ a.drop n, col)
  | 0, _ => by simp [apAll, chgs]
  | n + 1, h => by
    have hn : n < b.length := by omega
    have ha : n < a.length := by omega
    have ih := apAll_chgs hl col n (by omega)
    have e : apAll (a, col) (chgs a b (n + 1)) = apAll (apAll (a, col) (chgs a b n)) (chg1 a b n) := by
      unfold apAll
      rw [← List.foldl_append]; rfl
    rw [e, ih]
    cases hs : samePl a[n] b[n] with
    | true =>
      have hab := samePl_eq hs
      rw [chg1_same ha hn hs, ← mix_step hl hn]
      show (b.take n ++ a.drop n, col) = _
      have ht : (b.take n).length = n := by rw [List.length_take]; omega
      have : (b.take n ++ a.drop n).set n b[n] = b.take n ++ a.drop n := by
        rw [List.set_append_right _ _ (by omega), ht, Nat.sub_self, List.drop_eq_getElem_cons ha, List.set_cons_zero, hab]
      rw [this]
    | false =>
      rw [chg1_diff ha hn hs, ← mix_step hl hn]
      show ap1 (b.take n ++ a.drop n, col) (ChangeT.mk (n : Int) b[n] (ColorMapT.mk [] [])) = _
      unfold ap1
      rw [if_neg (by simp)]
      simp
theorem chgs_chB (a b : List PlaneT) : ∀ n, n ≤ 4 → ∀ x ∈ chgs a b n, chB x = true
  | 0, _, x, h => by simp [chgs] at h
  | n + 1, hn, x, h => by
    unfold chgs at h
    rcases List.mem_append.1 h with h | h
    · exact chgs_chB a b n (by omega) x h
    · unfold chg1 at h
      split at h
      · split at h
        · simp at h
        · rw [List.mem_singleton.1 h]
          unfold chB
          rw [if_neg (by show ¬ (n : Int) = -1; omega)]
          have : inR (n : Int) 0 3 = true := inR_t.2 (by omega)
          simp [this]
      · simp at h
theorem chgs_self (a : List PlaneT) : ∀ n, chgs a a n = []
  | 0 => rfl
  | n + 1 => by
    unfold chgs
    rw [chgs_self a n]
    rcases Nat.lt_or_ge n a.length with h | h
    · rw [chg1_same h h (samePl_self _)]; rfl
    · rw [chg1_none (.inl h)]; rfl
theorem lead_apply {c : CrtcT} {P : List PlaneT} {m : ColorMapT} (hl : c.Planes.length = P.length) : apAll (c.Planes, c.Color) (chgFor c P m) = (P, m) := by
  unfold chgFor
  have e1 : min c.Planes.length P.length = P.length := by omega
  rw [e1]
  have e : ∀ l, apAll (c.Planes, c.Color) (chgs c.Planes P P.length ++ l) = apAll (P, c.Color) l := fun l => by
    have := apAll_chgs hl c.Color P.length (Nat.le_refl _)
    rw [List.take_length, ← hl, List.drop_length, List.append_nil, hl] at this
    rw [← this]
    unfold apAll
    rw [List.foldl_append]
  rw [e]
  cases hs : sameCol c.Color m with
  | true => rw [if_pos rfl, sameCol_eq hs]; rfl
  | false =>
    rw [if_neg (by simp)]
    show ap1 (P, c.Color) (ChangeT.mk (-1) zeroP0 m) = _
    unfold ap1
    rw [if_pos (by show (-1 : Int) < 0; omega)]
theorem chgFor_chB {c : CrtcT} {P : List PlaneT} {m : ColorMapT} (h4 : P.length ≤ 4) : ∀ x ∈ chgFor c P m, chB x = true := by
  intro x hx
  unfold chgFor at hx
  rcases List.mem_append.1 hx with hx | hx
  · exact chgs_chB _ _ _ (by omega) x hx
  · split at hx
    · simp at hx
    · rw [List.mem_singleton.1 hx]; rfl
theorem crtcB_of {c : CrtcT} (h : smCrtc c) (h1 : spec_PlanesOk c.Planes c.W c.H = some true) (h2 : colOk c.Color = true) : crtcB c = true := by
  have e := s_CrtcOk c h
  unfold spec_CrtcOk at e
  rw [h1, bnd_s, s_ColorOk, h2, bnd_s] at e
  exact (Option.some.inj e).symm
theorem apAll_len : ∀ (l : List ChangeT) (p : List PlaneT × ColorMapT), (apAll p l).1.length = p.1.length
  | [], _ => rfl
  | x :: l, p => by
    show (apAll (ap1 p x) l).1.length = _
    rw [apAll_len l (ap1 p x), ap1_len]
theorem FnChangesLead_true (code : List Int) (o : code.length ≤ 9223372036854775807 ∧ ∀ y ∈ code, 0 ≤ y ∧ y ≤ 255) : laws_FnChangesLead code = some true := by
  unfold laws_FnChangesLead laws_big
  rw [bnd_s]
  by_cases hbig' : 1048576 < code.length
  · rw [ifO_pos (by simp; omega)]
  have hbig : code.length ≤ 1048576 := by omega
  rw [ifO_neg (by simp; omega)]
  obtain ⟨c, l, hd, hc, hp, hcol, hl4, hl⟩ := DrawChanges_ok code hbig
  have hls : smChangeS l := ⟨by omega, hl⟩
  have hcb := crtcB_of hc hp hcol
  have h4 := crtcB_four hc hcb
  have hst : spec_TestChanges c l = some (tcs c l) := by
    obtain ⟨r, q, e1, e2, _⟩ := TestChanges_eq c l hc hls
    rw [e1, ← e2, i_TestChanges c l hc hls]
  have hsd : smCrtc (tcs c l).1 := tcs_sm hc hl
  have hgood : crtcB (tcs c l).1 = true ∧ (tcs c l).1.W = c.W ∧ (tcs c l).1.H = c.H ∧ (tcs c l).1.Planes.length = 4 := by
    unfold tcs
    split
    · rename_i h
      exact ⟨h.2.2, rfl, rfl, by show (apAll (c.Planes, c.Color) l).1.length = 4; rw [apAll_len]; exact h4⟩
    · exact ⟨hcb, rfl, rfl, h4⟩
  obtain ⟨g1, g2, g3, g4⟩ := hgood
  have htc : tcs c l = ((tcs c l).1, (tcs c l).2) := rfl
  rw [hd, bnd_s]
  simp only []
  rw [hst, bnd_s, htc]
  simp only []
  generalize (tcs c l).1 = d at *
  have hx := chgFor_sm c d.Planes d.Color hsd.1 hsd.2
  have hxs : smChangeS (chgFor c d.Planes d.Color) := ⟨by have := hx.1; omega, hx.2.2⟩
  have hlen : (chgFor c d.Planes d.Color).length ≤ 5 := by have := hx.1; omega
  have hxb := chgFor_chB (c := c) (P := d.Planes) (m := d.Color) (by omega)
  have hap := lead_apply (c := c) (P := d.Planes) (m := d.Color) (by omega)
  rw [i_ChangesFor c d.Planes d.Color hc hsd.1 hsd.2, bnd_s]
  generalize chgFor c d.Planes d.Color = x at *
  have hdd : stOf c (d.Planes, d.Color) = d := by
    unfold stOf
    rw [← g2, ← g3]
  have htx : tcs c x = (d, true) := by
    unfold tcs
    rw [hap, hdd, if_pos ⟨hcb, List.all_eq_true.2 hxb, g1⟩]
  have hloop := allLoop (L := fun v => laws_FnChangesLead_L0 x v) x.length (by omega) (fun _ => true) false (fun k hk _ => by
    show laws_FnChangesLead_L0 x k = _
    unfold laws_FnChangesLead_L0
    rw [ifO_pos (by simpa using hk), idx_lt hk, bnd_s, i_ChangeOk _ (hxs.2 _ (List.getElem_mem hk)), hxb _ (List.getElem_mem hk), bnd_s]; rfl) (fun k hk h => by cases h) (by
    show laws_FnChangesLead_L0 x _ = _
    unfold laws_FnChangesLead_L0
    rw [ifO_neg (by simp)])
  have hself : chgFor d d.Planes d.Color = [] := by
    unfold chgFor
    rw [chgs_self]
    have : sameCol d.Color d.Color = true := by simp [sameCol, eqInts]
    rw [if_pos this]; rfl
  rw [i_TestChanges c x hc hxs, bnd_s, htx]
  simp only []
  rw [hloop, if_pos (by simp), bnd_s, fork_inl]
  simp only [same_self d hsd, i_ChangesFor d d.Planes d.Color hsd hsd.1 hsd.2, hself, bnd_s, andO_some]
  have d5 : decide ((x.length : Int) ≤ 5) = true := by simp; omega
  rw [d5]
  rfl
end Go.Proofs.YtmhalmnbgkpmnaaGreat
