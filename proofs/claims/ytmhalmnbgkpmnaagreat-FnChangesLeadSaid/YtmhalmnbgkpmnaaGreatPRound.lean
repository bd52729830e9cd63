/- An image stored and loaded again. -/
import Derived.Test.YtmhalmnbgkpmnaaGreatPLoad
namespace Go.Proofs.YtmhalmnbgkpmnaaGreat
open Go.RowKit K
theorem plc_inj {W : Nat} {lay : Int} (hy : lay = 0 ∨ lay = 1) {x y x' y' : Nat} (hx : x < W) (hx' : x' < W) (h : plc W lay x y = plc W lay x' y') : x = x' ∧ y = y' := by
  have div_mod : ∀ {T a b a' b' : Nat}, a < T → a' < T → b * T + a = b' * T + a' → a = a' ∧ b = b' := by
    intro T a b a' b' h1 h2 e
    have e1 := congrArg (· % T) e
    have e2 := congrArg (· / T) e
    simp only [Nat.mul_comm _ T, Nat.mul_add_mod, Nat.mul_add_div (show 0 < T by omega), Nat.mod_eq_of_lt h1, Nat.mod_eq_of_lt h2, Nat.div_eq_of_lt h1, Nat.div_eq_of_lt h2, Nat.add_zero] at e1 e2
    exact ⟨e1, e2⟩
  unfold plc at h
  rcases hy with rfl | rfl
  · rw [if_pos rfl, if_pos rfl] at h
    have e : y * W + x = y' * W + x' := by
      apply Int.ofNat_inj.1
      rw [Int.natCast_add, Int.natCast_add, Int.natCast_mul, Int.natCast_mul]; exact h
    exact div_mod hx hx' e
  · rw [if_neg (by decide), if_neg (by decide)] at h
    have q : ∀ a b : Nat, ((b : Int) / 4 * (((W : Int) + 3) / 4) + (a : Int) / 4) = (((b / 4) * ((W + 3) / 4) + a / 4 : Nat) : Int) := by
      intro a b
      rw [Int.natCast_add, Int.natCast_mul]; rfl
    rw [q, q] at h
    have h1 : (y / 4) * ((W + 3) / 4) + x / 4 = (y' / 4) * ((W + 3) / 4) + x' / 4 ∧ y % 4 = y' % 4 ∧ x % 4 = x' % 4 := by
      generalize (y / 4) * ((W + 3) / 4) + x / 4 = p at h ⊢
      generalize (y' / 4) * ((W + 3) / 4) + x' / 4 = p' at h ⊢
      omega
    obtain ⟨h2, h3⟩ := div_mod (T := (W + 3) / 4) (by omega) (by omega) h1.1
    omega
section Img
variable (i : ImageT) (W H : Nat) (lay : Int) (hW : i.W = W) (hH : i.H = H) (w1 : 1 ≤ W) (w2 : W ≤ 16) (h1 : 1 ≤ H) (h2 : H ≤ 16) (hl : i.Data.length = H * W)
def Laid (m : Nat) (o : List Int) : Prop := (o.length : Int) = cnt W H lay ∧ ∀ y x : Nat, y < H → x < W → y * W + x < m → o.getD (plc W lay x y).toNat 0 = i.Data.getD (y * W + x) 0
include hW hH w1 w2 h1 h2 hl
theorem layRow (hy : lay = 0 ∨ lay = 1) (y : Nat) (hlt : y < H) : ∀ (j x : Nat) (o : List Int), x + j = W → Laid i W H lay (y * W + x) o →
    ∃ o', loopO (fun (v, x) => spec_StoreImage_L4 i lay y v x) (o, (x : Int)) = some o' ∧ Laid i W H lay ((y + 1) * W) o' := by
  have hyw : (y + 1) * W ≤ H * W := Nat.mul_le_mul_right _ hlt
  have hHW : H * W ≤ 16 * 16 := Nat.mul_le_mul h2 w2
  rw [Nat.add_mul, Nat.one_mul] at hyw ⊢
  have e0 : (y : Int) * i.W = ((y * W : Nat) : Int) := by rw [hW, Int.natCast_mul]
  intro j
  induction j with
  | zero =>
    intro x o hx ho
    have : x = W := by omega
    subst this
    refine ⟨o, loopO_inr ?_, ho⟩
    show spec_StoreImage_L4 i lay y o x = _
    unfold spec_StoreImage_L4
    rw [ifO_neg (by rw [hW]; simp)]
  | succ j ih =>
    intro x o hx ho
    have hk : y * W + x < i.Data.length := by omega
    have a2 : wr (wr ((y : Int) * i.W) + x) = ((y * W + x : Nat) : Int) := by
      rw [e0, wr_in (n := ((y * W : Nat) : Int)) (by omega) (by omega), wr_in (by omega) (by omega)]; omega
    have hpl : ∀ y x : Nat, y < H → x < W → 0 ≤ plc W lay x y ∧ plc W lay x y < cnt W H lay := fun y x hy hx => plc_in (W := W) (H := H) (lay := lay) (x := x) (y := y) (by omega) (by omega) (by omega) (by omega) (by omega) (by omega) (by omega) (by omega)
    have hp := hpl y x hlt (by omega)
    have hu : upd o (plc W lay x y) i.Data[y * W + x] = some (o.set (plc W lay x y).toNat i.Data[y * W + x]) := upd_of hp.1 (by have := ho.1; omega) _
    have hs : spec_StoreImage_L4 i lay y o x = some (.inl (o.set (plc W lay x y).toNat i.Data[y * W + x], ((x + 1 : Nat) : Int))) := by
      unfold spec_StoreImage_L4
      rw [ifO_pos (by rw [hW]; simp; omega), a2, idx_lt hk, hW, hH, s_WordPlace (by omega) (by omega) (by omega) (by omega) (by omega) (by omega) (by omega) (by omega) hy]
      simp only [bnd_s, hu]
      rw [wr_succ (by omega)]
    rw [@loopO_inl _ _ (fun (v, x) => spec_StoreImage_L4 i lay y v x) (o, (x : Int)) _ hs]
    refine ih (x + 1) _ (by omega) ⟨by simpa using ho.1, fun y' x' hy' hx' hm => ?_⟩
    have hp' := hpl y' x' hy' hx'
    simp only [List.getD_eq_getElem?_getD, List.getElem?_set]
    by_cases e : (plc W lay x y).toNat = (plc W lay x' y').toNat
    · obtain ⟨rfl, rfl⟩ := plc_inj hy (show x < W by omega) hx' (show plc W lay x y = plc W lay x' y' by omega)
      rw [if_pos rfl, if_pos (by have := ho.1; omega), List.getElem?_eq_getElem hk]
    · rw [if_neg e]
      have hne : y' * W + x' ≠ y * W + x := fun he => e (by
        have e1 := congrArg (· % W) he
        have e2 := congrArg (· / W) he
        simp only [Nat.mul_comm _ W, Nat.mul_add_mod, Nat.mul_add_div (show 0 < W by omega), Nat.mod_eq_of_lt hx', Nat.mod_eq_of_lt (show x < W by omega), Nat.div_eq_of_lt hx', Nat.div_eq_of_lt (show x < W by omega), Nat.add_zero] at e1 e2
        subst e1; subst e2; rfl)
      have := ho.2 y' x' hy' hx' (by omega)
      simpa only [List.getD_eq_getElem?_getD] using this
theorem layRows (hy : lay = 0 ∨ lay = 1) : ∀ (j y : Nat) (o : List Int), y + j = H → Laid i W H lay (y * W) o → ∃ o', loopO (fun (v, y) => spec_StoreImage_L3 i lay v y) (o, (y : Int)) = some o' ∧ Laid i W H lay (H * W) o' := by
  intro j
  induction j with
  | zero =>
    intro y o hy' ho
    obtain rfl : y = H := by omega
    refine ⟨o, loopO_inr ?_, ho⟩
    show spec_StoreImage_L3 i lay o y = _
    unfold spec_StoreImage_L3
    rw [ifO_neg (by rw [hH]; simp)]
  | succ j ih =>
    intro y o hy' ho
    obtain ⟨o', p1, p2⟩ := layRow i W H lay hW hH w1 w2 h1 h2 hl hy y (by omega) W 0 o (by omega) (by simpa using ho)
    have hs : spec_StoreImage_L3 i lay o y = some (.inl (o', ((y + 1 : Nat) : Int))) := by
      unfold spec_StoreImage_L3
      simp only [] at p1
      rw [ifO_pos (by rw [hH]; simp; omega), wr_succ (by omega)]
      rw [show ((0 : Nat) : Int) = 0 from rfl] at p1
      rw [p1, bnd_s]
    rw [@loopO_inl _ _ (fun (v, y) => spec_StoreImage_L3 i lay v y) (o, (y : Int)) _ hs]
    exact ih (y + 1) o' (by omega) p2
def Runs (m : Nat) (o : List Int) : Prop := o.length ≤ 2 * m ∧ m ≤ H * W ∧ ∀ rest : List Int, (o ++ rest).length ≤ 1048576 →
  loopO (fun (d, k) => spec_l15Expand_L0 (o ++ rest) (H * W : Nat) d k) (([] : List Int), 0) = loopO (fun (d, k) => spec_l15Expand_L0 (o ++ rest) (H * W : Nat) d k) (i.Data.take m, (o.length : Int))
omit hW hH w1 h1 in
theorem runsStep {m r : Nat} {o : List Int} (v : Int) (ho : Runs i W H m o) (r1 : 1 ≤ r) (r2 : m + r ≤ H * W) (hv : ∀ q, q < r → i.Data[m + q]? = some v) : Runs i W H (m + r) (o ++ [(r : Int), v]) := by
  have hHW : H * W ≤ 16 * 16 := Nat.mul_le_mul h2 w2
  obtain ⟨o1, o2, o3⟩ := ho
  refine ⟨by simp only [List.length_append, List.length_cons, List.length_nil]; omega, r2, fun rest hr => ?_⟩
  have hlen : (o ++ [(r : Int), v] ++ rest).length = o.length + 2 + rest.length := by simp; omega
  have e := o3 ([(r : Int), v] ++ rest) (by rw [← List.append_assoc]; exact hr)
  rw [← List.append_assoc] at e
  rw [e]
  generalize hws : o ++ [(r : Int), v] ++ rest = ws at *
  have g0 : ws[o.length]? = some (r : Int) := by rw [← hws]; simp
  have g1 : ws[o.length + 1]? = some v := by rw [← hws]; simp
  have htl : (i.Data.take m).length = m := by rw [List.length_take]; omega
  have ht : i.Data.take m ++ List.replicate r v = i.Data.take (m + r) := by
    apply List.ext_getElem?
    intro n
    rcases Nat.lt_or_ge n m with hn | hn
    · rw [List.getElem?_append_left (by omega), List.getElem?_take_of_lt hn, List.getElem?_take_of_lt (by omega)]
    · rw [List.getElem?_append_right (by omega), htl, List.getElem?_replicate]
      by_cases hq : n - m < r
      · rw [if_pos hq, List.getElem?_take_of_lt (by omega)]
        have := hv (n - m) hq
        rw [show m + (n - m) = n by omega] at this
        exact this.symm
      · rw [if_neg hq, List.getElem?_take_eq_none (by omega)]
  have hs : spec_l15Expand_L0 ws (H * W : Nat) (i.Data.take m) o.length = some (.inl (i.Data.take (m + r), ((o.length + 2 : Nat) : Int))) := by
    unfold spec_l15Expand_L0
    have hk0 : o.length < ws.length := by omega
    have hk1 : o.length + 1 < ws.length := by omega
    have f0 : ws[o.length] = (r : Int) := by rw [List.getElem?_eq_getElem hk0] at g0; exact Option.some.inj g0
    have f1 : ws[o.length + 1] = v := by rw [List.getElem?_eq_getElem hk1] at g1; exact Option.some.inj g1
    have hwl : ws.length ≤ 1048576 := by omega
    have c1 : decide (wr ((o.length : Int) + 1) < (ws.length : Int)) = true := by rw [wr_succ (by omega)]; simp only [decide_eq_true_eq]; omega
    have hin : inR (r : Int) 1 (wr (((H * W : Nat) : Int) - ((i.Data.take m).length : Int))) = true := by
      rw [htl, wr_in (by omega) (by omega)]; exact inR_t.2 (by omega)
    have hk2 : wr ((o.length : Int) + 2) = ((o.length + 2 : Nat) : Int) := by rw [wr_in (by omega) (by omega)]; omega
    have := expInner ws o.length hk1 hwl r (i.Data.take m) (by omega)
    simp only [] at this
    rw [ifO_pos c1, idx_lt hk0, bnd_s, l01In_eq, bnd_s, f0, hin, Bool.not_true, ifO_false, bnd_s, this, bnd_s, hk2, f1, ht]
  rw [@loopO_inl _ _ (fun (d, k) => spec_l15Expand_L0 ws (H * W : Nat) d k) (i.Data.take m, (o.length : Int)) _ hs]
  simp
omit hH h1 in
theorem runEnd2 (y x : Nat) (hy : y < H) (hx : x < W) : ∀ (j v : Nat), x + v + j = W → 1 ≤ v → (∀ q, q < v → i.Data[y * W + x + q]? = i.Data[y * W + x]?) → ∃ r, v ≤ r ∧ x + r ≤ W ∧ loopO (fun v => spec_StoreImage_L2 i y x v) (v : Int) = some (r : Int)
    ∧ ∀ q, q < r → i.Data[y * W + x + q]? = i.Data[y * W + x]? := by
  have hyw : (y + 1) * W ≤ H * W := Nat.mul_le_mul_right _ hy
  have hHW : H * W ≤ 16 * 16 := Nat.mul_le_mul h2 w2
  rw [Nat.add_mul, Nat.one_mul] at hyw
  have e0 : (y : Int) * i.W = ((y * W : Nat) : Int) := by rw [hW, Int.natCast_mul]
  intro j
  induction j with
  | zero =>
    intro v hv h1v hq
    refine ⟨v, Nat.le_refl _, by omega, loopO_inr ?_, hq⟩
    show spec_StoreImage_L2 i y x v = _
    unfold spec_StoreImage_L2
    rw [wr_in (n := (x : Int) + v) (by omega) (by omega)]
    have : decide ((x : Int) + v < i.W) = false := by rw [hW]; simp; omega
    rw [this]; rfl
  | succ j ih =>
    intro v hv h1v hq
    have hk : y * W + x < i.Data.length := by omega
    have hkv : y * W + x + v < i.Data.length := by omega
    have hs : spec_StoreImage_L2 i y x v = ifO (decide (i.Data[y * W + x + v] = i.Data[y * W + x])) (some (.inl ((v + 1 : Nat) : Int))) (some (.inr (v : Int))) := by
      unfold spec_StoreImage_L2
      have hc : decide ((x : Int) + v < i.W) = true := by rw [hW]; simp; omega
      have a1 : wr (wr (wr ((y : Int) * i.W) + x) + v) = ((y * W + x + v : Nat) : Int) := by
        rw [e0, wr_in (n := ((y * W : Nat) : Int)) (by omega) (by omega), wr_in (n := ((y * W : Nat) : Int) + x) (by omega) (by omega), wr_in (by omega) (by omega)]; omega
      have a2 : wr (wr ((y : Int) * i.W) + x) = ((y * W + x : Nat) : Int) := by
        rw [e0, wr_in (n := ((y * W : Nat) : Int)) (by omega) (by omega), wr_in (by omega) (by omega)]; omega
      rw [wr_in (n := (x : Int) + v) (by omega) (by omega), hc, a1, a2, idx_lt hkv, idx_lt hk, wr_succ (by omega)]
      rfl
    by_cases hd : i.Data[y * W + x + v] = i.Data[y * W + x]
    · rw [ifO_pos (by simpa using hd)] at hs
      obtain ⟨r, r1, r2, r3, r4⟩ := ih (v + 1) (by omega) (by omega) (fun q hq' => by
        by_cases e : q = v
        · subst e; rw [List.getElem?_eq_getElem hkv, List.getElem?_eq_getElem hk, hd]
        · exact hq q (by omega))
      refine ⟨r, by omega, r2, ?_, r4⟩
      rw [loopO_inl (f := fun v => spec_StoreImage_L2 i y x v) hs]; exact r3
    · rw [ifO_neg (by simpa using hd)] at hs
      exact ⟨v, Nat.le_refl _, by omega, loopO_inr hs, hq⟩
omit hH h1 in
theorem runRow2 (y : Nat) (hy : y < H) : ∀ (j x : Nat) (o : List Int), x + j = W → Runs i W H (y * W + x) o → ∃ o', loopO (fun (v, x) => spec_StoreImage_L1 i y v x) (o, (x : Int)) = some o' ∧ Runs i W H ((y + 1) * W) o' := by
  have hyw : (y + 1) * W ≤ H * W := Nat.mul_le_mul_right _ hy
  have hHW : H * W ≤ 16 * 16 := Nat.mul_le_mul h2 w2
  rw [Nat.add_mul, Nat.one_mul] at hyw ⊢
  have e0 : (y : Int) * i.W = ((y * W : Nat) : Int) := by rw [hW, Int.natCast_mul]
  intro j
  induction j using Nat.strongRecOn with
  | _ j ih =>
    intro x o hx ho
    by_cases hj : j = 0
    · have : x = W := by omega
      subst this
      refine ⟨o, loopO_inr ?_, ho⟩
      show spec_StoreImage_L1 i y o x = _
      unfold spec_StoreImage_L1
      rw [ifO_neg (by rw [hW]; simp)]
    · obtain ⟨r, r1, r2, r3, r4⟩ := runEnd2 i W H hW w1 w2 h2 hl y x hy (by omega) (W - (x + 1)) 1 (by omega) (by omega) (fun q hq => by rw [show q = 0 by omega]; rfl)
      replace r3 : loopO (fun v => spec_StoreImage_L2 i y x v) 1 = some (r : Int) := r3
      have hk : y * W + x < i.Data.length := by omega
      have a2 : wr (wr ((y : Int) * i.W) + x) = ((y * W + x : Nat) : Int) := by
        rw [e0, wr_in (n := ((y * W : Nat) : Int)) (by omega) (by omega), wr_in (by omega) (by omega)]; omega
      have hol := ho.1
      have ha : app o [(r : Int), i.Data[y * W + x]] = some (o ++ [(r : Int), i.Data[y * W + x]]) := app_le (by simp only [List.length_cons, List.length_nil]; omega)
      have hs : spec_StoreImage_L1 i y o x = some (.inl (o ++ [(r : Int), i.Data[y * W + x]], ((x + r : Nat) : Int))) := by
        unfold spec_StoreImage_L1
        rw [ifO_pos (by rw [hW]; simp; omega), r3, a2, idx_lt hk]
        simp only [bnd_s, ha]
        rw [wr_in (n := (x : Int) + r) (by omega) (by omega)]; rfl
      rw [@loopO_inl _ _ (fun (v, x) => spec_StoreImage_L1 i y v x) (o, (x : Int)) _ hs]
      have hst := runsStep i W H w2 h2 hl i.Data[y * W + x] ho r1 (by omega) (fun q hq => by rw [r4 q hq, List.getElem?_eq_getElem hk])
      rw [Nat.add_assoc] at hst
      exact ih (W - (x + r)) (by omega) (x + r) _ (by omega) hst
omit h1 in
theorem runRows2 : ∀ (j y : Nat) (o : List Int), y + j = H → Runs i W H (y * W) o → ∃ o', loopO (fun (v, y) => spec_StoreImage_L0 i v y) (o, (y : Int)) = some o' ∧ Runs i W H (H * W) o' := by
  intro j
  induction j with
  | zero =>
    intro y o hy' ho
    obtain rfl : y = H := by omega
    refine ⟨o, loopO_inr ?_, ho⟩
    show spec_StoreImage_L0 i o y = _
    unfold spec_StoreImage_L0
    rw [ifO_neg (by rw [hH]; simp)]
  | succ j ih =>
    intro y o hy' ho
    obtain ⟨o', p1, p2⟩ := runRow2 i W H hW w1 w2 h2 hl y (by omega) W 0 o (by omega) (by simpa using ho)
    have hs : spec_StoreImage_L0 i o y = some (.inl (o', ((y + 1 : Nat) : Int))) := by
      unfold spec_StoreImage_L0
      rw [show ((0 : Nat) : Int) = 0 from rfl] at p1
      simp only [] at p1
      rw [ifO_pos (by rw [hH]; simp; omega), wr_succ (by omega), p1, bnd_s]
    rw [@loopO_inl _ _ (fun (v, y) => spec_StoreImage_L0 i v y) (o, (y : Int)) _ hs]
    exact ih (y + 1) o' (by omega) p2
end Img
theorem Load_Store (i : ImageT) (lay : Int) (hi : imgOk i = true) (hlay : inR lay 0 2 = true) : ∃ w, spec_StoreImage i lay = some (w, true) ∧ spec_LoadImage w i.W i.H lay = some (i, true) ∧ w.length ≤ 512 := by
  obtain ⟨⟨w1, w2⟩, ⟨h1, h2⟩, hd, _⟩ := imgOk_in hi
  have hle := imgOk_le hi
  obtain ⟨W, hW⟩ : ∃ W : Nat, i.W = W := ⟨i.W.toNat, by omega⟩
  obtain ⟨H, hH⟩ : ∃ H : Nat, i.H = H := ⟨i.H.toNat, by omega⟩
  have hl : i.Data.length = H * W := by
    rw [hW, hH, ← Int.natCast_mul, Nat.mul_comm] at hd
    omega
  have w1' : 1 ≤ W := by omega
  have w2' : W ≤ 16 := by omega
  have h1' : 1 ≤ H := by omega
  have h2' : H ≤ 16 := by omega
  have hHW : H * W ≤ 16 * 16 := Nat.mul_le_mul h2' w2'
  have hmk : ImageT.mk (W : Int) (H : Int) i.Data = i := by rw [← hW, ← hH]
  obtain ⟨w, b, e1, _, e3⟩ := StoreImage_eq i lay (by omega)
  have a : inR i.W 1 16 = true := inR_t.2 (by omega)
  have b' : inR i.H 1 16 = true := inR_t.2 (by omega)
  have hb : b = true := by
    cases b with
    | true => rfl
    | false =>
      exfalso
      have e1' := e1
      simp only [spec_StoreImage, s_ImageOk i (by omega), l01In_eq, hi, hlay, bnd_s, orO_some, Bool.not_true, Bool.or_false, ifO_false] at e1'
      unfold ifO at e1'
      split at e1'
      · obtain ⟨q, _, hq⟩ := Option.bind_eq_some_iff.1 e1'
        cases hq
      · obtain ⟨q, _, hq⟩ := Option.bind_eq_some_iff.1 e1'
        obtain ⟨q2, _, hq2⟩ := Option.bind_eq_some_iff.1 hq
        obtain ⟨q3, _, hq3⟩ := Option.bind_eq_some_iff.1 hq2
        cases hq3
  subst hb
  refine ⟨w, e1, ?_, e3⟩
  have fin : (Option.bind (spec_StoreImage i lay) fun x => Option.bind (orO (!x.2) (Option.bind (spec_l05Ints x.1 w) fun y => some (!y))) fun q => ifO q (some (ImageT.mk 0 0 [], false)) (some (i, true))) = some (i, true) := by
    rw [e1, bnd_s]
    simp only [s_Ints w w (by omega), eqInts, decide_true, bnd_s, orO_some]
    rfl
  have e1' := e1
  simp only [spec_StoreImage, s_ImageOk i (by omega), l01In_eq, hi, hlay, bnd_s, orO_some, Bool.not_true, Bool.or_false, ifO_false] at e1'
  simp only [spec_LoadImage, l01In_eq, a, b', bnd_s, orO_some, Bool.not_true, Bool.or_false, ifO_false]
  by_cases hl2 : lay = 2
  · subst hl2
    rw [ifO_pos (by simp)] at e1' ⊢
    have r0 : Runs i W H (0 * W) [] := ⟨by simp, by omega, fun rest _ => by simp⟩
    obtain ⟨o, p1, p2⟩ := runRows2 i W H hW hH w1' w2' h2' hl H 0 [] (by omega) r0
    rw [show ((0 : Nat) : Int) = 0 from rfl] at p1
    simp only [] at p1 e1'
    rw [p1, bnd_s] at e1'
    simp only [Option.some.injEq, Prod.mk.injEq, and_true] at e1'
    subst e1'
    have q := p2.2.2 [] (by simp; omega)
    rw [List.append_nil] at q
    have hend : loopO (fun (d, k) => spec_l15Expand_L0 o (H * W : Nat) d k) (i.Data.take (H * W), (o.length : Int)) = some (.inl i.Data) := by
      refine loopO_inr ?_
      show spec_l15Expand_L0 o (H * W : Nat) (i.Data.take (H * W)) o.length = _
      unfold spec_l15Expand_L0
      rw [ifO_neg (by rw [wr_succ (by omega)]; simp only [decide_eq_false_iff_not]; omega), List.take_of_length_le (by omega)]
    rw [hend] at q
    simp only [] at q
    rw [hW, hH, wrWH w2' h2', spec_l15Expand]
    simp only []
    rw [q]
    simp only [bnd_s, fork_inl, hmk]
    exact fin
  · have hy : lay = 0 ∨ lay = 1 := by
      rw [inR_t] at hlay; omega
    rw [ifO_neg (by simpa using hl2)] at e1' ⊢
    have c0 := cnt_in (W := W) (H := H) (lay := lay) (by omega) (by omega) (by omega) (by omega)
    rw [hW, hH, s_WordCount (by omega) (by omega) (by omega) (by omega) hy, bnd_s, mkO_of c0.1 (by omega), bnd_s] at e1'
    obtain ⟨o, p1, p2⟩ := layRows i W H lay hW hH w1' w2' h1' h2' hl hy H 0 (List.replicate (cnt W H lay).toNat 0) (by omega) ⟨by simp; omega, fun y x _ _ h => by omega⟩
    rw [show ((0 : Nat) : Int) = 0 from rfl] at p1
    simp only [] at p1 e1'
    rw [p1, bnd_s] at e1'
    simp only [Option.some.injEq, Prod.mk.injEq, and_true] at e1'
    subst e1'
    rw [hW, hH, s_WordCount (by omega) (by omega) (by omega) (by omega) hy, bnd_s, ifO_pos (by simpa using p2.1.symm)]
    have hp : ∀ x y : Nat, x < W → y < H → idx o (plc W lay x y) = some (i.Data.getD (y * W + x) 0) := fun x y hx hy' => by
      have := plc_in (W := W) (H := H) (lay := lay) (x := x) (y := y) (by omega) (by omega) (by omega) (by omega) (by omega) (by omega) (by omega) (by omega)
      rw [idx_getD this.1 (by have := p2.1; omega), p2.2 y x hy' hx (by
        have hyw : (y + 1) * W ≤ H * W := Nat.mul_le_mul_right _ hy'
        rw [Nat.add_mul, Nat.one_mul] at hyw
        omega)]
    have hs := mapRows (L0 := fun (q, y) => spec_LoadImage_L1 o W H lay q y) (L1 := fun y (q, x) => spec_LoadImage_L2 o W H lay y q x) W H w2' h2' (fun x y => i.Data.getD (y * W + x) 0)
      (fun y x out hy' hx ho => by
        show spec_LoadImage_L2 o W H lay y out x = _
        unfold spec_LoadImage_L2
        rw [ifO_pos (by simp only [decide_eq_true_eq]; omega), s_WordPlace (by omega) (by omega) (by omega) (by omega) (by omega) (by omega) (by omega) (by omega) hy, bnd_s, hp x y hx hy', bnd_s, app_le (by simp only [List.length_singleton]; omega), bnd_s, wr_succ (by omega)])
      (fun y out => by
        show spec_LoadImage_L2 o W H lay y out W = _
        unfold spec_LoadImage_L2
        rw [ifO_neg (by simp)])
      (fun y out hy' => by
        show spec_LoadImage_L1 o W H lay out y = _
        unfold spec_LoadImage_L1
        rw [ifO_pos (by simp only [decide_eq_true_eq]; omega)])
      (fun out => by
        show spec_LoadImage_L1 o W H lay out H = _
        unfold spec_LoadImage_L1
        rw [ifO_neg (by simp)])
    have hdat : mapD W H (fun x y => i.Data.getD (y * W + x) 0) = i.Data := by
      have key : ∀ (h : Nat), h ≤ H → ((List.range h).flatMap fun y => (List.range W).map fun x => i.Data.getD (y * W + x) 0) = i.Data.take (h * W) := by
        intro h
        induction h with
        | zero => intro _; simp
        | succ h ih =>
          intro hh
          have hyw : (h + 1) * W ≤ H * W := Nat.mul_le_mul_right _ hh
          rw [Nat.add_mul, Nat.one_mul] at hyw
          rw [List.range_succ, List.flatMap_append, ih (by omega), Nat.add_mul, Nat.one_mul, List.take_add]
          congr 1
          simp only [List.flatMap_cons, List.flatMap_nil, List.append_nil]
          apply List.ext_getElem?
          intro n
          rw [List.getElem?_map]
          rcases Nat.lt_or_ge n W with hn | hn
          · rw [List.getElem?_range hn, List.getElem?_take_of_lt hn, List.getElem?_drop, List.getElem?_eq_getElem (by omega)]
            simp only [Option.map_some, List.getD_eq_getElem?_getD]
            rw [List.getElem?_eq_getElem (by omega)]; rfl
          · rw [List.getElem?_eq_none (by simpa using hn), List.getElem?_take_eq_none hn]; rfl
      have := key H (Nat.le_refl _)
      rw [List.take_of_length_le (by omega)] at this
      exact this
    rw [hdat] at hs
    simp only [] at hs ⊢
    rw [hs]
    simp only [bnd_s, hmk]
    exact fin
end Go.Proofs.YtmhalmnbgkpmnaaGreat
