/- Changes happen together or not at all, in any order. -/
import Derived.Test.YtbdpbboonilhhaaPApply
import Derived.Test.YtbdpbboonilhhaaPDrawChanges
namespace Go.Proofs.Ytbdpbboonilhhaa
open Go.RowKit K
theorem FnAtomic_true (code : List Int) (o : code.length ≤ 9223372036854775807 ∧ ∀ y ∈ code, 0 ≤ y ∧ y ≤ 255) : laws_FnAtomic code = some true := by
  unfold laws_FnAtomic laws_big
  rw [bnd_s]
  by_cases hbig' : 1048576 < code.length
  · rw [ifO_pos (by simp; omega)]
  have hbig : code.length ≤ 1048576 := by omega
  rw [ifO_neg (by simp; omega)]
  obtain ⟨c, l, hd, hc, _, _, hl4, hl⟩ := DrawChanges_ok code hbig
  have hls : smChangeS l := ⟨by omega, hl⟩
  rw [hd, bnd_s]
  simp only []
  rw [i_TestChanges c l hc hls, bnd_s]
  have hrs : smChangeS l.reverse := ⟨by rw [List.length_reverse]; omega, fun x hx => hl x (List.mem_reverse.1 hx)⟩
  by_cases hcond : crtcB c = true ∧ l.all chB = true ∧ crtcB (stOf c (apAll (c.Planes, c.Color) l)) = true
  · have htcs : tcs c l = (stOf c (apAll (c.Planes, c.Color) l), true) := if_pos hcond
    obtain ⟨hb, ha, hf⟩ := hcond
    have hsm := tcs_sm (l := l) hc hl
    rw [htcs] at hsm ⊢
    simp only [Bool.not_true, ifO_false]
    generalize hD : stOf c (apAll (c.Planes, c.Color) l) = d at *
    have hok : impl_CrtcOk d = some true := by rw [i_CrtcOk d hsm, hf]
    have inner : ∀ (k : Nat) (hk : k < l.length), ∃ y, loopO (fun v => laws_FnAtomic_L1 l d k v) 0 = some y ∧ (y = .inr true ∨ (y = .inl () ∧ ∀ (i : Nat) (hi : i < k), l[i].Plane ≠ l[k].Plane)) := by
      intro k hk
      have key : ∀ (j i : Nat), i + j = k → (∀ (m : Nat) (hm : m < i), ∀ hm' : m < l.length, l[m].Plane ≠ l[k].Plane) → ∃ y, loopO (fun v => laws_FnAtomic_L1 l d k v) (i : Int) = some y ∧ (y = .inr true ∨ (y = .inl () ∧ ∀ (i : Nat) (hi : i < k), l[i].Plane ≠ l[k].Plane)) := by
        intro j
        induction j with
        | zero =>
          intro i hij hm
          refine ⟨.inl (), loopO_inr ?_, .inr ⟨rfl, fun m hm' => hm m (by omega) (by omega)⟩⟩
          show laws_FnAtomic_L1 l d k i = _
          unfold laws_FnAtomic_L1
          rw [ifO_neg (by simp; omega)]
        | succ j ih =>
          intro i hij hm
          have hil : i < l.length := by omega
          by_cases e : l[i].Plane = l[k].Plane
          · refine ⟨.inr true, loopO_inr ?_, .inl rfl⟩
            show laws_FnAtomic_L1 l d k i = _
            unfold laws_FnAtomic_L1
            rw [ifO_pos (by simp; omega), idx_lt hil, bnd_s, idx_lt hk, bnd_s, ifO_pos (by simpa using e), hok]; rfl
          · have hst : laws_FnAtomic_L1 l d k i = some (.inl ((i + 1 : Nat) : Int)) := by
              unfold laws_FnAtomic_L1
              rw [ifO_pos (by simp; omega), idx_lt hil, bnd_s, idx_lt hk, bnd_s, ifO_neg (by simpa using e), wr_succ (by omega)]
            rw [loopO_inl (f := fun v => laws_FnAtomic_L1 l d k v) hst]
            refine ih (i + 1) (by omega) (fun m hm1 hm2 => ?_)
            by_cases em : m = i
            · subst em; exact e
            · exact hm m (by omega) hm2
      exact key k 0 (by omega) (fun m hm => by omega)
    have outer : ∀ (k : Nat), k ≤ l.length → (∀ (j : Nat) (hj : j < l.length), k ≤ j → ∀ (i : Nat) (hi : i < j), l[i].Plane ≠ l[j].Plane) → ∃ y, loopO (fun x => laws_FnAtomic_L0 l d x.1 x.2) ((l.drop k).reverse, (k : Int) - 1) = some y ∧ (y = .inr true ∨ (y = .inl l.reverse ∧ ∀ (j : Nat) (hj : j < l.length) (i : Nat) (hi : i < j), l[i].Plane ≠ l[j].Plane)) := by
      intro k
      induction k with
      | zero =>
        intro hk h
        refine ⟨.inl l.reverse, loopO_inr ?_, .inr ⟨rfl, fun j hj i hi => h j hj (by omega) i hi⟩⟩
        show laws_FnAtomic_L0 l d _ _ = _
        unfold laws_FnAtomic_L0
        rw [ifO_neg (by simp)]; rfl
      | succ k ih =>
        intro hk h
        have hkl : k < l.length := by omega
        have e1 : ((k + 1 : Nat) : Int) - 1 = (k : Int) := by omega
        obtain ⟨y, hy, hy2⟩ := inner k hkl
        have hap : app (l.drop (k + 1)).reverse [l[k]] = some (l.drop k).reverse := by
          rw [app_le (by simp; omega), List.drop_eq_getElem_cons hkl, List.reverse_cons]
        rw [e1]
        rcases hy2 with rfl | ⟨rfl, hy2⟩
        · refine ⟨.inr true, loopO_inr ?_, .inl rfl⟩
          show laws_FnAtomic_L0 l d _ (k : Int) = _
          unfold laws_FnAtomic_L0
          rw [ifO_pos (by simp), idx_lt hkl, bnd_s, hap, bnd_s, hy, bnd_s, fork_inr]
        · have hst : laws_FnAtomic_L0 l d (l.drop (k + 1)).reverse (k : Int) = some (.inl ((l.drop k).reverse, (k : Int) - 1)) := by
            unfold laws_FnAtomic_L0
            rw [ifO_pos (by simp), idx_lt hkl, bnd_s, hap, bnd_s, hy, bnd_s, fork_inl, wr_in (by omega) (by omega)]
          rw [loopO_inl (f := fun x => laws_FnAtomic_L0 l d x.1 x.2) hst]
          refine ih (by omega) (fun j hj hkj i hi => ?_)
          by_cases ej : j = k
          · subst ej; exact hy2 i hi
          · exact h j hj (by omega) i hi
    obtain ⟨y, hy, hy2⟩ := outer l.length (Nat.le_refl _) (fun j hj h => by omega)
    rw [List.drop_length, List.reverse_nil] at hy
    rw [wr_in (n := (l.length : Int) - 1) (by omega) (by omega), hy, bnd_s]
    rcases hy2 with rfl | ⟨rfl, hdis⟩
    · rw [fork_inr]
    · rw [fork_inl, i_TestChanges c l.reverse hc hrs, bnd_s]
      have hap : apAll (c.Planes, c.Color) l.reverse = apAll (c.Planes, c.Color) l := by
        refine List.Perm.foldl_eq' (List.reverse_perm l) (fun x hx y hy z => ?_) _
        obtain ⟨i, hi, rfl⟩ := List.mem_iff_getElem.1 (List.mem_reverse.1 hx)
        obtain ⟨j, hj, rfl⟩ := List.mem_iff_getElem.1 (List.mem_reverse.1 hy)
        have bx := List.all_eq_true.1 ha _ (List.getElem_mem hi)
        have by_ := List.all_eq_true.1 ha _ (List.getElem_mem hj)
        rcases Nat.lt_trichotomy i j with h | h | h
        · first | exact ap1_comm (hdis j hj i h) bx by_ z | exact (ap1_comm (hdis j hj i h) bx by_ z).symm
        · subst h; rfl
        · first | exact ap1_comm (fun e => hdis i hi j h e.symm) bx by_ z | exact (ap1_comm (fun e => hdis i hi j h e.symm) bx by_ z).symm
      have har : l.reverse.all chB = true := by rw [List.all_reverse]; exact ha
      have htr : tcs c l.reverse = (d, true) := by
        unfold tcs
        rw [hap, hD, if_pos ⟨hb, har, hf⟩]
      rw [htr]
      simp only [hok, bnd_s, same_self d hsm, andO_some]
      rfl
  · have htcs : tcs c l = (c, false) := if_neg hcond
    rw [htcs]
    simp only [Bool.not_false, ifO_true]
    rw [same_self c hc, bnd_s]
end Go.Proofs.Ytbdpbboonilhhaa
