/- Whether flips are valid, in so many words. -/
import Derived.Test.YtgkflkecnmnipaaGreatPCrtc
namespace Go.Proofs.YtgkflkecnmnipaaGreat
open Go.RowKit K
theorem idx_d {xs : List Int} {k : Nat} (h : k < xs.length) : idx xs (k : Int) = some (xs.getD k 0) := by
  rw [idx_lt h]; simp only [List.getD_eq_getElem?_getD]; rw [List.getElem?_eq_getElem h]; rfl
def ascAt (xs : List Int) (lo hi : Int) (k : Nat) : Bool := inR (xs.getD k 0) lo hi && !(decide (0 < k) && decide (xs.getD k 0 ≤ xs.getD (k - 1) 0))
def asc (xs : List Int) (lo hi : Int) : Bool := (List.range xs.length).all (ascAt xs lo hi)
theorem ascLoop (xs : List Int) (lo hi : Int) (hn : xs.length ≤ 1048576) (L : Int → Option (Int ⊕ (Unit ⊕ Bool)))
    (hL : ∀ k, L k = ifO (decide (k < (xs.length : Int))) (Option.bind (idx xs k) fun x => Option.bind (some (inR x lo hi)) fun b => Option.bind (orO (!b) (Option.bind (andO (decide (0 < k)) (Option.bind (idx xs (wr (k - 1))) fun y => some (decide (x ≤ y)))) fun q => some q)) fun q => ifO q (some (.inr (.inr false))) (some (.inl (wr (k + 1))))) (some (.inr (.inl ())))) :
    loopO L 0 = some (if asc xs lo hi then .inl () else .inr false) := by
  have step : ∀ k : Nat, k < xs.length → L (k : Int) = if ascAt xs lo hi k = true then some (.inl (wr ((k : Int) + 1))) else some (.inr (.inr false)) := by
    intro k hk
    rw [hL, ifO_pos (by simp only [decide_eq_true_eq]; omega), idx_d hk, bnd_s, bnd_s]
    unfold ascAt
    cases inR (xs.getD k 0) lo hi with
    | false => rfl
    | true =>
      by_cases h0 : 0 < k
      · have e : wr ((k : Int) - 1) = ((k - 1 : Nat) : Int) := by rw [wr_in (by omega) (by omega)]; omega
        have d0 : decide (0 < (k : Int)) = true := by simp; omega
        rw [e, idx_d (show k - 1 < xs.length by omega), bnd_s, d0]
        simp only [andO_some, bnd_s, orO_some, decide_eq_true h0, Bool.true_and, Bool.not_true, Bool.false_or]
        cases decide (xs.getD k 0 ≤ xs.getD (k - 1) 0) <;> rfl
      · have d0 : decide (0 < (k : Int)) = false := by simp; omega
        rw [d0]
        simp only [decide_eq_false h0, Bool.false_and]
        rfl
  exact allLoop xs.length (by omega) (ascAt xs lo hi) false (fun k hk ho => by rw [step k hk, if_pos ho]) (fun k hk ho => by rw [step k hk, if_neg (by rw [ho]; simp)])
    (by rw [hL, ifO_neg (by simp)])
theorem smPend {f : FlipsT} (h : smFlips f) {k : Nat} (hk : k < f.Pending.length) : smCrtc f.Pending[k].State := h.1.2 _ (List.getElem_mem hk)
noncomputable def pendB (f : FlipsT) (k : Nat) : Bool := match f.Pending[k]? with
  | some x => crtcB x.State && decide (x.Seq = f.Next - f.Pending.length + k) && inR x.Fence 0 8
  | .none => false
noncomputable def flipsB (f : FlipsT) : Bool := decide (f.Pending.length ≤ 2) && inR f.Next 0 1000000 && decide ((f.Pending.length : Int) ≤ f.Next) && (List.range f.Pending.length).all (pendB f) && asc f.Signalled 1 8 && asc f.Events 0 (f.Next - f.Pending.length - 1)
theorem FlipsOk_eq (f : FlipsT) (h : smFlips f) : spec_FlipsOk f = some (flipsB f) ∧ impl_FlipsOk f = some (flipsB f) := by
  have hl : f.Pending.length ≤ 1048576 := h.1.1
  have l1 : f.Signalled.length ≤ 1048576 := h.2.1
  have l2 : f.Events.length ≤ 1048576 := h.2.2
  simp only [spec_FlipsOk, impl_FlipsOk, l01In_eq, within_eq, bnd_s, orO_some]
  cases hq : (decide (2 < (f.Pending.length : Int)) || !inR f.Next 0 1000000) with
  | true =>
    have : flipsB f = false := by
      unfold flipsB
      by_cases h2 : f.Pending.length ≤ 2
      · have : decide (2 < (f.Pending.length : Int)) = false := by simp; omega
        rw [this, Bool.false_or, Bool.not_eq_true'] at hq
        rw [hq]; simp
      · rw [decide_eq_false h2]; simp
    rw [this]
    exact ⟨rfl, rfl⟩
  | false =>
    simp only [Bool.or_eq_false_iff, decide_eq_false_iff_not, Bool.not_eq_false', inR_t] at hq
    obtain ⟨hq1, hq2⟩ := hq
    have en : wr (f.Next - (f.Pending.length : Int)) = f.Next - f.Pending.length := wr_in (by omega) (by omega)
    have en1 : wr (f.Next - (f.Pending.length : Int) - 1) = f.Next - f.Pending.length - 1 := wr_in (by omega) (by omega)
    have s1 := ascLoop f.Signalled 1 8 l1 (fun v => spec_FlipsOk_L1 f v) (fun k => by
      unfold spec_FlipsOk_L1
      cases hi : idx f.Signalled k <;> rfl)
    have s2 := ascLoop f.Events 0 (wr (wr (f.Next - (f.Pending.length : Int)) - 1)) l2 (fun v => spec_FlipsOk_L2 f v) (fun k => by
      unfold spec_FlipsOk_L2
      cases hi : idx f.Events k <;> rfl)
    have i1 := ascLoop f.Signalled 1 8 l1 (fun v => impl_ascendingWithin_L0 f.Signalled 1 8 v) (fun k => rfl)
    have i2 := ascLoop f.Events 0 (wr (wr (f.Next - (f.Pending.length : Int)) - 1)) l2 (fun v => impl_ascendingWithin_L0 f.Events 0 (wr (wr (f.Next - (f.Pending.length : Int)) - 1)) v) (fun k => rfl)
    rw [ifO_false]
    simp only [impl_ascendingWithin, i1, i2, s1, s2, bnd_s]
    have hA : wr (wr (f.Next - (f.Pending.length : Int)) - 1) = f.Next - f.Pending.length - 1 := by rw [en, en1]
    rw [hA]
    unfold flipsB
    generalize asc f.Signalled 1 8 = A
    generalize asc f.Events 0 (f.Next - f.Pending.length - 1) = B
    rw [show decide (f.Pending.length ≤ 2) = true by simp; omega, inR_t.2 hq2, Bool.true_and, Bool.true_and]
    by_cases hlt : f.Next < f.Pending.length
    · -- the first flip's number is below 0
      have hp : 0 < f.Pending.length := by omega
      rw [ifO_pos (by simpa using hlt), decide_eq_false (show ¬ ((f.Pending.length : Int) ≤ f.Next) by omega), Bool.false_and, Bool.false_and, Bool.false_and]
      have hs : spec_FlipsOk_L0 f 0 = some (.inr (.inr false)) := by
        unfold spec_FlipsOk_L0
        rw [ifO_pos (by simpa using hp), show (0 : Int) = ((0 : Nat) : Int) from rfl, idx_lt hp, bnd_s, s_CrtcOk _ (smPend h hp), bnd_s, en, wr_in (n := f.Next - f.Pending.length + ((0 : Nat) : Int)) (by omega) (by omega), l01In_eq, bnd_s, orO_some, bnd_s]
        rw [ifO_pos (by
          simp only [Bool.or_eq_true, Bool.not_eq_true', decide_eq_true_eq, decide_eq_false_iff_not]
          omega)]
      rw [loopO_inr (f := fun v => spec_FlipsOk_L0 f v) (s := 0) hs]
      exact ⟨rfl, rfl⟩
    · rw [ifO_neg (by simpa using hlt), decide_eq_true (show (f.Pending.length : Int) ≤ f.Next by omega), Bool.true_and]
      have key : ∀ k, k < f.Pending.length → spec_FlipsOk_L0 f k = (if pendB f k = true then some (.inl (wr ((k : Int) + 1))) else some (.inr (.inr false))) ∧ impl_FlipsOk_L0 f k = (if pendB f k = true then some (.inl (wr ((k : Int) + 1))) else some (.inr (.inr false))) := by
        intro k hk
        have ek : wr (f.Next - f.Pending.length + (k : Int)) = f.Next - f.Pending.length + k := wr_in (by omega) (by omega)
        have ep : pendB f k = (crtcB f.Pending[k].State && decide (f.Pending[k].Seq = f.Next - f.Pending.length + k) && inR f.Pending[k].Fence 0 8) := by
          unfold pendB; rw [List.getElem?_eq_getElem hk]
        rw [ep]
        constructor
        · unfold spec_FlipsOk_L0
          rw [ifO_pos (by simp only [decide_eq_true_eq]; omega), idx_lt hk, bnd_s, s_CrtcOk _ (smPend h hk), bnd_s, en, ek, l01In_eq, bnd_s, orO_some, bnd_s]
          by_cases hsq : f.Pending[k].Seq = f.Next - f.Pending.length + k
          · have hn : decide (f.Pending[k].Seq < 0) = false := by simp; omega
            rw [hn, decide_eq_true hsq]
            cases crtcB f.Pending[k].State <;> cases inR f.Pending[k].Fence 0 8 <;> rfl
          · rw [decide_eq_false hsq]
            cases crtcB f.Pending[k].State <;> cases inR f.Pending[k].Fence 0 8 <;> cases decide (f.Pending[k].Seq < 0) <;> rfl
        · unfold impl_FlipsOk_L0
          rw [ifO_pos (by simp only [decide_eq_true_eq]; omega), idx_lt hk, bnd_s, en, ek, within_eq, bnd_s, orO_some, bnd_s, i_CrtcOk _ (smPend h hk), bnd_s, orO_some, bnd_s]
          cases crtcB f.Pending[k].State <;> cases inR f.Pending[k].Fence 0 8 <;> cases decide (f.Pending[k].Seq = f.Next - f.Pending.length + k) <;> rfl
      have r1 := allLoop (L := fun v => spec_FlipsOk_L0 f v) f.Pending.length (by omega) (pendB f) false (fun k hk ho => by rw [(key k hk).1, if_pos ho]) (fun k hk ho => by rw [(key k hk).1, if_neg (by rw [ho]; simp)]) (by simp [spec_FlipsOk_L0])
      have r2 := allLoop (L := fun v => impl_FlipsOk_L0 f v) f.Pending.length (by omega) (pendB f) false (fun k hk ho => by rw [(key k hk).2, if_pos ho]) (fun k hk ho => by rw [(key k hk).2, if_neg (by rw [ho]; simp)]) (by simp [impl_FlipsOk_L0])
      rw [r1, r2]
      constructor
      · cases (List.range f.Pending.length).all (pendB f) <;> cases A <;> cases B <;> rfl
      · cases (List.range f.Pending.length).all (pendB f) <;> cases A <;> cases B <;> rfl
theorem s_FlipsOk (f : FlipsT) (h : smFlips f) : spec_FlipsOk f = some (flipsB f) := (FlipsOk_eq f h).1
theorem i_FlipsOk (f : FlipsT) (h : smFlips f) : impl_FlipsOk f = some (flipsB f) := (FlipsOk_eq f h).2
theorem asc_len {xs : List Int} {lo hi : Int} (h : asc xs lo hi = true) : (xs.length : Int) ≤ max 0 (hi - lo + 1) := by
  have key : ∀ k, k < xs.length → lo + k ≤ xs.getD k 0 ∧ xs.getD k 0 ≤ hi := by
    intro k
    induction k with
    | zero =>
      intro hk
      have := List.all_eq_true.1 h 0 (List.mem_range.2 hk)
      unfold ascAt at this
      simp only [Bool.and_eq_true, inR_t] at this
      omega
    | succ k ih =>
      intro hk
      have h1 := ih (by omega)
      have := List.all_eq_true.1 h (k + 1) (List.mem_range.2 hk)
      unfold ascAt at this
      simp only [Bool.and_eq_true, inR_t, Bool.not_eq_true', Bool.and_eq_false_iff, decide_eq_false_iff_not, Nat.add_sub_cancel] at this
      omega
  rcases Nat.eq_zero_or_pos xs.length with h0 | h0
  · omega
  · have := key (xs.length - 1) (by omega)
    omega
theorem flipsB_in {f : FlipsT} (hb : flipsB f = true) : f.Pending.length ≤ 2 ∧ (0 ≤ f.Next ∧ f.Next ≤ 1000000) ∧ (f.Pending.length : Int) ≤ f.Next ∧ (∀ k, k < f.Pending.length → pendB f k = true) ∧ asc f.Signalled 1 8 = true ∧ asc f.Events 0 (f.Next - f.Pending.length - 1) = true := by
  unfold flipsB at hb
  simp only [Bool.and_eq_true, decide_eq_true_eq, inR_t, List.all_eq_true, List.mem_range] at hb
  exact ⟨by omega, by omega, by omega, hb.1.1.2, hb.1.2, hb.2⟩
end Go.Proofs.YtgkflkecnmnipaaGreat
