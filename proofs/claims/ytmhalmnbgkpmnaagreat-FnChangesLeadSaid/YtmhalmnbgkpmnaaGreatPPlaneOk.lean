/- Whether planes are valid. -/
import Derived.Test.YtmhalmnbgkpmnaaGreatPShow
namespace Go.Proofs.YtmhalmnbgkpmnaaGreat
open Go.RowKit K
theorem s_Zero (p : PlaneT) (hon : p.On = false) : ∃ b, spec_l19Zero p = some b ∧ impl_samePlane p (PlaneT.mk false 0 0 0 0 0 [] 0 0 0 0) = some b := by
  have e : slices_Equal_S_int_int p.Words [] = some (decide ((p.Words.length : Int) = 0)) := by
    unfold slices_Equal_S_int_int
    cases hw : p.Words with
    | nil =>
      have : loopO (fun v => slices_Equal_S_int_int_L0 [] [] v) 0 = some (.inl ()) := loopO_inr (by simp [slices_Equal_S_int_int_L0])
      simp [this, fork_inl]
    | cons x r =>
      rw [ifO_pos (by simp; omega)]
      simp; omega
  simp only [spec_l19Zero, impl_samePlane, hon, e, bnd_s, andO_some]
  refine ⟨_, rfl, ?_⟩
  congr 1
  simp only [beq_self_eq_true, Bool.true_and]
  generalize decide ((p.Words.length : Int) = 0) = z
  cases decide (p.X = 0) <;> cases decide (p.Y = 0) <;> cases decide (p.W = 0) <;> cases decide (p.H = 0) <;> cases decide (p.Layout = 0) <;> cases decide (p.Alpha = 0) <;> cases decide (p.Orient = 0) <;> cases decide (p.ToW = 0) <;> cases decide (p.ToH = 0) <;> cases z <;> rfl
theorem allOpaque (i : ImageT) (h : i.Data.length ≤ 1048576) : loopO (fun v => spec_PlaneOk_L0 i v) 0 = some (if i.Data.all opq then .inl () else .inr false) := by
  refine allList i.Data (by omega) _ false (fun k hk => ?_) ?_
  · simp only [spec_PlaneOk_L0, idx_lt hk, bnd_s, s_Opaque]
    rw [ifO_pos (by simpa using hk)]
    cases opq i.Data[k] <;> rfl
  · simp [spec_PlaneOk_L0]
theorem hasClear (xs : List Int) (h : xs.length ≤ 1048576) : slices_ContainsFunc_S_int_int xs impl_PlaneOk_1 = some (!xs.all opq) := by
  have e := findLoop (L := fun i => slices_IndexFunc_S_int_int_L0 xs impl_PlaneOk_1 i) xs (by omega) (fun y => !opq y) (fun i hi => by
    simp only [slices_IndexFunc_S_int_int_L0, idx_lt hi, bnd_s, impl_PlaneOk_1, i_Opaque]
    rw [ifO_pos (by simp only [decide_eq_true_eq]; omega), ifO_if]) (by simp [slices_IndexFunc_S_int_int_L0])
  have hf : xs.all opq = (xs.findIdx? fun y => !opq y).isNone := by
    rw [Bool.eq_iff_iff, List.all_eq_true, Option.isNone_iff_eq_none, List.findIdx?_eq_none_iff]
    simp
  simp only [slices_ContainsFunc_S_int_int, slices_IndexFunc_S_int_int, e, bnd_s, hf]
  cases xs.findIdx? fun y => !opq y with
  | none => rfl
  | some k => show some (decide (0 ≤ (k : Int))) = _; simp
theorem PlaneOk_eq (k : Int) (p : PlaneT) (w h : Int) (hp : p.Words.length ≤ 1048576) : ∃ b, spec_PlaneOk k p w h = some b ∧ impl_PlaneOk k p w h = some b
    ∧ (b = true → k = 0 → (1 ≤ w ∧ w ≤ 16) ∧ (1 ≤ h ∧ h ≤ 16) ∧ ∃ i, spec_PlaneImage p = some (i, true) ∧ impl_PlaneImage p = some (i, true) ∧ imgSz i ∧ i.W = w ∧ i.H = h)
    ∧ (b = true → ∀ i, spec_PlaneImage p = some (i, true) → inR p.X (-32) 32 = true ∧ inR p.Y (-32) 32 = true) := by
  simp only [spec_PlaneOk, impl_PlaneOk, l01In_eq, within_eq, isSide_eq, bnd_s, orO_some]
  cases hc : (!inR k 0 3 || !inR w 1 16 || !inR h 1 16) with
  | true => exact ⟨false, rfl, rfl, by simp, by simp⟩
  | false =>
    have hc' : inR k 0 3 = true ∧ inR w 1 16 = true ∧ inR h 1 16 = true := by
      revert hc; cases inR k 0 3 <;> cases inR w 1 16 <;> cases inR h 1 16 <;> simp
    obtain ⟨hk, hw, hh⟩ := hc'
    rw [inR_t] at hk hw hh
    simp only [ifO_false]
    cases hon : p.On with
    | false =>
      obtain ⟨b, e1, e2⟩ := s_Zero p hon
      simp only [Bool.not_false, ifO_true, e1, e2, bnd_s, andO_some]
      exact ⟨_, rfl, rfl, fun hb h0 => by subst h0; simp at hb, fun _ i hi => by
        have hz : spec_PlaneImage p = some (zeroImg, false) := by simp only [spec_PlaneImage, spec_l19Loaded, hon, Bool.not_false, ifO_true, bnd_s, l01In_eq, orO_some, Bool.true_or]; rfl
        rw [hz] at hi; cases hi⟩
    | true =>
      obtain ⟨i, b, e1, e2, e3, e4⟩ := PlaneImage_eq p hp
      simp only [Bool.not_true, ifO_false, e1, e2, bnd_s]
      cases hq : (!b || !inR p.X (-32) 32 || !inR p.Y (-32) 32) with
      | true => exact ⟨false, rfl, rfl, by simp, by simp⟩
      | false =>
        have hb : b = true := by revert hq; cases b <;> simp
        subst hb
        obtain ⟨g1, g2⟩ := e4 rfl
        have hxy : inR p.X (-32) 32 = true ∧ inR p.Y (-32) 32 = true := by
          revert hq; cases inR p.X (-32) 32 <;> cases inR p.Y (-32) 32 <;> simp
        simp only [ifO_false, allOpaque i (by omega), hasClear i.Data (by omega), bnd_s, andO_some, Bool.not_not]
        by_cases h0 : k = 0
        · subst h0
          rw [ifO_neg (c := decide ((0 : Int) = 3)) (by decide), ifO_neg (c := !decide ((0 : Int) = 0)) (by decide), ifO_pos (c := decide ((0 : Int) = 0)) (by decide)]
          generalize hpl : ((((((((decide (p.Orient = 0)) && (decide (p.ToW = 0))) && (decide (p.ToH = 0))) && (decide (p.Alpha = 255))) && (decide (p.X = 0))) && (decide (p.Y = 0))) && (decide (p.W = w))) && (decide (p.H = h))) = pl
          refine ⟨pl && i.Data.all opq, ?_, rfl, fun hb _ => ⟨hw, hh, i, rfl, rfl, g1, ?_⟩, fun _ _ _ => hxy⟩
          · cases i.Data.all opq
            · simp [fork_inr]
            · simp [fork_inl]
          · rw [Bool.and_eq_true] at hb
            rw [hb.1] at hpl
            simp only [Bool.and_eq_true, decide_eq_true_eq] at hpl
            obtain ⟨⟨⟨⟨⟨⟨⟨o1, o2⟩, o3⟩, _⟩, _⟩, _⟩, o4⟩, o5⟩ := hpl
            obtain ⟨q1, q2⟩ := g2 o1 o2 o3
            exact ⟨q1.trans o4, q2.trans o5⟩
        · rw [ifO_pos (c := !decide (k = 0)) (by simpa using h0), ifO_neg (c := decide (k = 0)) (by simpa using h0)]
          cases decide (k = 3) <;> exact ⟨_, rfl, rfl, fun _ h => absurd h h0, fun _ _ _ => hxy⟩
def goodPlanes (list : List PlaneT) (w h : Int) : Prop := ∃ p q r s, list = [p, q, r, s] ∧ (∀ t ∈ list, ∀ i, spec_PlaneImage t = some (i, true) → inR t.X (-32) 32 = true ∧ inR t.Y (-32) 32 = true) ∧ (1 ≤ w ∧ w ≤ 16) ∧ (1 ≤ h ∧ h ≤ 16) ∧ ∃ i, spec_PlaneImage p = some (i, true) ∧ impl_PlaneImage p = some (i, true) ∧ imgSz i ∧ i.W = w ∧ i.H = h
theorem PlanesOk_eq (list : List PlaneT) (w h : Int) (hl : smPlaneS list) : ∃ b, spec_PlanesOk list w h = some b ∧ impl_PlanesOk list w h = some b ∧ (b = true → goodPlanes list w h) := by
  unfold spec_PlanesOk impl_PlanesOk
  by_cases h4 : list.length = 4
  · obtain ⟨p, q, r, s, rfl⟩ : ∃ p q r s, list = [p, q, r, s] := by
      match list, h4 with
      | [p, q, r, s], _ => exact ⟨p, q, r, s, rfl⟩
    have sm : ∀ x ∈ [p, q, r, s], x.Words.length ≤ 1048576 := hl.2
    obtain ⟨f, hf⟩ : ∃ f : Int → PlaneT → Bool, ∀ k, ∀ x ∈ [p, q, r, s], spec_PlaneOk k x w h = some (f k x) ∧ impl_PlaneOk k x w h = some (f k x) ∧ (f k x = true → k = 0 → (1 ≤ w ∧ w ≤ 16) ∧ (1 ≤ h ∧ h ≤ 16) ∧ ∃ i, spec_PlaneImage x = some (i, true) ∧ impl_PlaneImage x = some (i, true) ∧ imgSz i ∧ i.W = w ∧ i.H = h) ∧ (f k x = true → ∀ i, spec_PlaneImage x = some (i, true) → inR x.X (-32) 32 = true ∧ inR x.Y (-32) 32 = true) :=
      ⟨fun k x => if hx : x.Words.length ≤ 1048576 then Classical.choose (PlaneOk_eq k x w h hx) else false, fun k x hx => by
        simp only [dif_pos (sm x hx)]; exact Classical.choose_spec (PlaneOk_eq k x w h (sm x hx))⟩
    have hs : loopO (fun k => spec_PlanesOk_L0 [p, q, r, s] w h k) 0 = some (if (List.range 4).all (fun k => if hk : k < 4 then f k [p, q, r, s][k] else false) then .inl () else .inr false) := by
      refine allLoop 4 (by omega) _ false (fun k hk ho => ?_) (fun k hk ho => ?_) ?_
      · have hk' : k < [p, q, r, s].length := hk
        rw [dif_pos hk] at ho
        simp only [spec_PlanesOk_L0, idx_lt hk', bnd_s, (hf k [p, q, r, s][k] (List.getElem_mem hk')).1, ho]
        rw [ifO_pos (by simp; omega)]; rfl
      · have hk' : k < [p, q, r, s].length := hk
        rw [dif_pos hk] at ho
        simp only [spec_PlanesOk_L0, idx_lt hk', bnd_s, (hf k [p, q, r, s][k] (List.getElem_mem hk')).1, ho]
        rw [ifO_pos (by simp; omega)]; rfl
      · simp [spec_PlanesOk_L0]
    have hi : loopO (fun k => impl_PlanesOk_L0 [p, q, r, s] w h k) 0 = some (if (List.range 4).all (fun k => if hk : k < 4 then f k [p, q, r, s][k] else false) then .inl () else .inr false) := by
      refine allLoop 4 (by omega) _ false (fun k hk ho => ?_) (fun k hk ho => ?_) ?_
      · have hk' : k < [p, q, r, s].length := hk
        rw [dif_pos hk] at ho
        simp only [impl_PlanesOk_L0, idx_lt hk', bnd_s, (hf k [p, q, r, s][k] (List.getElem_mem hk')).2.1, ho]
        rw [ifO_pos (by simp; omega)]; rfl
      · have hk' : k < [p, q, r, s].length := hk
        rw [dif_pos hk] at ho
        simp only [impl_PlanesOk_L0, idx_lt hk', bnd_s, (hf k [p, q, r, s][k] (List.getElem_mem hk')).2.1, ho]
        rw [ifO_pos (by simp; omega)]; rfl
      · simp [impl_PlanesOk_L0]
    have i1 : idx [p, q, r, s] 1 = some q := rfl
    have i2 : idx [p, q, r, s] 2 = some r := rfl
    have hlen : (!decide ((([p, q, r, s] : List PlaneT).length : Int) = 4)) = false := by simp
    rw [hs, hi, hlen]
    simp only [i1, i2, bnd_s, orO_some, andO_some, ifO_false, Bool.false_or]
    cases ha : (List.range 4).all (fun k => if hk : k < 4 then f k [p, q, r, s][k] else false) with
    | false =>
      refine ⟨false, rfl, ?_, by simp⟩
      cases ((!decide (q.ToW = 0)) && (!decide (r.ToW = 0))) <;> rfl
    | true =>
      refine ⟨decide (q.ToW = 0) || decide (r.ToW = 0), rfl, ?_, fun _ => ?_⟩
      · cases decide (q.ToW = 0) <;> cases decide (r.ToW = 0) <;> rfl
      · have h0 := List.all_eq_true.1 ha 0 (by simp)
        simp only [show (0 : Nat) < 4 by omega, dite_true] at h0
        obtain ⟨g1, g2, g3⟩ := (hf (0 : Nat) p (by simp)).2.2.1 h0 rfl
        refine ⟨p, q, r, s, rfl, fun t ht i hi => ?_, g1, g2, g3⟩
        obtain ⟨k, hk, rfl⟩ := List.mem_iff_getElem.1 ht
        have hk4 : k < 4 := hk
        have hk0 := List.all_eq_true.1 ha k (by simpa using hk4)
        rw [dif_pos hk4] at hk0
        exact (hf k _ (List.getElem_mem hk)).2.2.2 hk0 i hi
  · have hlen : (!decide ((list.length : Int) = 4)) = true := by simp; omega
    rw [hlen]
    exact ⟨false, rfl, rfl, by simp⟩
end Go.Proofs.YtmhalmnbgkpmnaaGreat
