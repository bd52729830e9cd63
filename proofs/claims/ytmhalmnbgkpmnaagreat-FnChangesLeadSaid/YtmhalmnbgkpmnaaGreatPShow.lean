/- What a plane shows: turned, scaled, faded. -/
import Derived.Test.YtmhalmnbgkpmnaaGreatPLoad
import Derived.Test.YtmhalmnbgkpmnaaGreatPPixel
namespace Go.Proofs.YtmhalmnbgkpmnaaGreat
open Go.RowKit K
theorem OrientPoint_same (W H o x y : Int) : spec_OrientPoint W H o x y = impl_OrientPoint W H o x y := rfl
theorem OrientSize_same (W H o : Int) : spec_OrientSize W H o = impl_OrientSize W H o := rfl
def oW (W H : Nat) (o : Int) : Nat := if o.tmod 2 = 1 then H else W
def oH (W H : Nat) (o : Int) : Nat := if o.tmod 2 = 1 then W else H
theorem OrientSize_eq {W H : Nat} {o : Int} (w1 : 1 ≤ W) (w2 : W ≤ 16) (h1 : 1 ≤ H) (h2 : H ≤ 16) (ho : inR o 0 7 = true) : spec_OrientSize W H o = some ((oW W H o : Int), (oH W H o : Int)) := by
  have a : inR (W : Int) 1 16 = true := inR_t.2 (by omega)
  have b : inR (H : Int) 1 16 = true := inR_t.2 (by omega)
  simp only [spec_OrientSize, l01In_eq, a, b, ho, bnd_s, orO_some]
  rw [ifO_neg (by rfl), ifO_if]
  unfold oW oH
  by_cases h : o.tmod 2 = 1 <;> simp [h]
theorem turn {o : Int} {L : Int × Int × Int × Int × Int → Option ((Int × Int × Int × Int × Int) ⊕ (Int × Int))} (ho : 0 ≤ o)
    (hL : ∀ w h x y v, L (w, h, x, y, v) = ifO (decide (v < Int.tmod o 4)) (some (.inl (h, w, wr (wr (h - 1) - y), x, wr (v + 1)))) (some (.inr (x, y)))) (W H : Nat) (w2 : W ≤ 16) (h2 : H ≤ 16) (x y : Nat) (hx : x < W) (hy : y < H) :
    ∃ a b : Nat, loopO L (W, H, x, y, 0) = some ((a : Int), (b : Int)) ∧ a < oW W H o ∧ b < oH W H o := by
  have key : ∀ (j v : Nat) (w h x y : Nat), ((v : Int) + j = Int.tmod o 4) → (w = if v % 2 = 1 then H else W) → (h = if v % 2 = 1 then W else H) → x < w → y < h → ∃ a b : Nat, loopO L (w, h, x, y, v) = some ((a : Int), (b : Int)) ∧ a < oW W H o ∧ b < oH W H o := by
    intro j
    induction j with
    | zero =>
      intro v w h x y hv hw hh hx hy
      have e : o.tmod 2 = ((v % 2 : Nat) : Int) := by
        have := Int.tmod_eq_emod_of_nonneg (b := 4) ho
        have := Int.tmod_eq_emod_of_nonneg (b := 2) ho
        omega
      refine ⟨x, y, loopO_inr ?_, ?_, ?_⟩
      · rw [hL, ifO_neg (by simp; omega)]
      · unfold oW
        rw [hw] at hx
        by_cases q : v % 2 = 1
        · rw [if_pos (by omega)]; rw [if_pos q] at hx; exact hx
        · rw [if_neg (by omega)]; rw [if_neg q] at hx; exact hx
      · unfold oH
        rw [hh] at hy
        by_cases q : v % 2 = 1
        · rw [if_pos (by omega)]; rw [if_pos q] at hy; exact hy
        · rw [if_neg (by omega)]; rw [if_neg q] at hy; exact hy
    | succ j ih =>
      intro v w h x y hv hw hh hx hy
      have hb : w ≤ 16 ∧ h ≤ 16 := by
        by_cases q : v % 2 = 1
        · rw [if_pos q] at hw hh; omega
        · rw [if_neg q] at hw hh; omega
      have h4 : Int.tmod o 4 ≤ 4 := by
        have := Int.tmod_eq_emod_of_nonneg (b := 4) ho
        omega
      have e1 : L (w, h, x, y, v) = some (.inl (h, w, ((h - 1 - y : Nat) : Int), x, ((v + 1 : Nat) : Int))) := by
        rw [hL, ifO_pos (by simp only [decide_eq_true_eq]; omega), wr_succ (by omega), wr_in (n := (h : Int) - 1) (by omega) (by omega), wr_in (by omega) (by omega)]
        congr 4
        simp only [Prod.mk.injEq, and_true]
        omega
      rw [loopO_inl e1]
      have hm : (v + 1) % 2 = 1 ↔ ¬ v % 2 = 1 := by omega
      refine ih (v + 1) h w (h - 1 - y) x (by omega) ?_ ?_ (by omega) hx
      · rw [hh]; by_cases q : v % 2 = 1 <;> simp [q, hm]
      · rw [hw]; by_cases q : v % 2 = 1 <;> simp [q, hm]
  have := key (Int.tmod o 4).toNat 0 W H x y (by
    have := Int.tmod_eq_emod_of_nonneg (b := 4) ho
    omega) (by simp) (by simp) hx hy
  exact this
theorem OrientPoint_in {W H : Nat} {o : Int} (w1 : 1 ≤ W) (w2 : W ≤ 16) (h1 : 1 ≤ H) (h2 : H ≤ 16) (ho : inR o 0 7 = true) {x y : Nat} (hx : x < W) (hy : y < H) : ∃ a b : Nat, spec_OrientPoint W H o x y = some ((a : Int), (b : Int)) ∧ a < oW W H o ∧ b < oH W H o := by
  have a : inR (W : Int) 1 16 = true := inR_t.2 (by omega)
  have b : inR (H : Int) 1 16 = true := inR_t.2 (by omega)
  have c : inR (x : Int) 0 (wr ((W : Int) - 1)) = true := by rw [wr_in (by omega) (by omega)]; exact inR_t.2 (by omega)
  have d : inR (y : Int) 0 (wr ((H : Int) - 1)) = true := by rw [wr_in (by omega) (by omega)]; exact inR_t.2 (by omega)
  simp only [spec_OrientPoint, l01In_eq, a, b, c, d, ho, bnd_s, orO_some]
  rw [ifO_neg (by rfl)]
  have ho' := inR_t.1 ho
  by_cases h4 : 4 ≤ o
  · rw [ifO_pos (by simpa using h4)]
    have e : wr (wr ((W : Int) - 1) - x) = ((W - 1 - x : Nat) : Int) := by rw [wr_in (n := (W : Int) - 1) (by omega) (by omega), wr_in (by omega) (by omega)]; omega
    obtain ⟨p, q, r1, r2, r3⟩ := turn (L := fun (a, b, c, d, e) => spec_OrientPoint_L0 o a b c d e) ho'.1 (fun _ _ _ _ _ => rfl) W H w2 h2 (W - 1 - x) y (by omega) hy
    simp only [] at r1
    rw [e, r1]
    exact ⟨p, q, rfl, r2, r3⟩
  · rw [ifO_neg (by simpa using h4)]
    obtain ⟨p, q, r1, r2, r3⟩ := turn (L := fun (a, b, c, d, e) => spec_OrientPoint_L1 o a b c d e) ho'.1 (fun _ _ _ _ _ => rfl) W H w2 h2 x y hx hy
    simp only [] at r1
    rw [r1]
    exact ⟨p, q, rfl, r2, r3⟩
theorem isOr (x : Int) : impl_isOrient x = some (inR x 0 7) := rfl
section Img
variable (i : ImageT) (W H : Nat) (o : Int) (hW : i.W = W) (hH : i.H = H) (w1 : 1 ≤ W) (w2 : W ≤ 16) (h1 : 1 ≤ H) (h2 : H ≤ 16) (hl : i.Data.length = H * W) (ho : inR o 0 7 = true)
theorem oWH : oH W H o * oW W H o = H * W := by
  unfold oH oW; split
  · exact Nat.mul_comm _ _
  · rfl
include hW hH w1 w2 h1 h2 hl ho
theorem orientRow (y : Nat) (hlt : y < H) : ∀ (j x : Nat) (q : List Int), x + j = W → (q.length = H * W ∧ ∀ v ∈ q, v = 0 ∨ v ∈ i.Data) →
    ∃ q', loopO (fun (v, x) => spec_Oriented_L1 i o (oW W H o) y v x) (q, (x : Int)) = some q' ∧ (q'.length = H * W ∧ ∀ v ∈ q', v = 0 ∨ v ∈ i.Data)
      ∧ loopO (fun (q, k) => impl_Oriented_L0 i o (oW W H o) q k) (q, ((y * W + x : Nat) : Int)) = loopO (fun (q, k) => impl_Oriented_L0 i o (oW W H o) q k) (q', (((y + 1) * W : Nat) : Int)) := by
  have hyw : (y + 1) * W ≤ H * W := Nat.mul_le_mul_right _ hlt
  have hHW : H * W ≤ 16 * 16 := Nat.mul_le_mul h2 w2
  rw [Nat.add_mul, Nat.one_mul] at hyw ⊢
  have e0 : (y : Int) * i.W = ((y * W : Nat) : Int) := by rw [hW, Int.natCast_mul]
  intro j
  induction j with
  | zero =>
    intro x q hx hq
    have : x = W := by omega
    subst this
    refine ⟨q, loopO_inr ?_, hq, rfl⟩
    show spec_Oriented_L1 i o _ y q x = _
    unfold spec_Oriented_L1
    rw [ifO_neg (by rw [hW]; simp)]
  | succ j ih =>
    intro x q hx hq
    have hk : y * W + x < i.Data.length := by omega
    have a2 : wr (wr ((y : Int) * i.W) + x) = ((y * W + x : Nat) : Int) := by
      rw [e0, wr_in (n := ((y * W : Nat) : Int)) (by omega) (by omega), wr_in (by omega) (by omega)]; omega
    obtain ⟨a, b, p1, p2, p3⟩ := OrientPoint_in (o := o) w1 w2 h1 h2 ho (show x < W by omega) hlt
    have hab : b * oW W H o + a < H * W := by
      have : (b + 1) * oW W H o ≤ oH W H o * oW W H o := Nat.mul_le_mul_right _ p3
      rw [oWH, Nat.add_mul, Nat.one_mul] at this
      omega
    have a3 : wr (wr ((b : Int) * (oW W H o : Nat)) + a) = ((b * oW W H o + a : Nat) : Int) := by
      rw [← Int.natCast_mul, wr_in (n := ((b * oW W H o : Nat) : Int)) (by omega) (by omega), wr_in (by omega) (by omega)]; omega
    have hu : upd q ((b * oW W H o + a : Nat) : Int) i.Data[y * W + x] = some (q.set (b * oW W H o + a) i.Data[y * W + x]) := upd_lt (by have := hq.1; omega) _
    have hs : spec_Oriented_L1 i o (oW W H o) y q x = some (.inl (q.set (b * oW W H o + a) i.Data[y * W + x], ((x + 1 : Nat) : Int))) := by
      unfold spec_Oriented_L1
      rw [ifO_pos (by rw [hW]; simp; omega), a2, idx_lt hk, hW, hH, p1]
      simp only [bnd_s, a3, hu]
      rw [wr_succ (by omega)]
    have hi : impl_Oriented_L0 i o (oW W H o) q ((y * W + x : Nat) : Int) = some (.inl (q.set (b * oW W H o + a) i.Data[y * W + x], ((y * W + (x + 1) : Nat) : Int))) := by
      unfold impl_Oriented_L0
      have hm : ((y * W + x : Nat) : Int).tmod i.W = (x : Int) := by
        rw [hW, ← Int.ofNat_tmod, Nat.mul_comm, Nat.mul_add_mod, Nat.mod_eq_of_lt (by omega)]
      have hq : ((y * W + x : Nat) : Int).tdiv i.W = (y : Int) := by
        rw [hW, ← Int.ofNat_tdiv, Nat.mul_comm, Nat.mul_add_div (by omega), Nat.div_eq_of_lt (by omega), Nat.add_zero]
      rw [ifO_pos (by simp only [decide_eq_true_eq]; omega), idx_lt hk, remO_of (by omega), quoO_of (by omega), hm, hq]
      simp only [bnd_s]
      rw [wr_in (n := (y : Int)) (by omega) (by omega), hW, hH, ← OrientPoint_same, p1]
      simp only [bnd_s, a3, hu]
      rw [wr_succ (by omega)]; rfl
    rw [@loopO_inl _ _ (fun (v, x) => spec_Oriented_L1 i o (oW W H o) y v x) (q, (x : Int)) _ hs, @loopO_inl _ _ (fun (q, k) => impl_Oriented_L0 i o (oW W H o) q k) (q, ((y * W + x : Nat) : Int)) _ hi]
    refine ih (x + 1) _ (by omega) ⟨by simpa using hq.1, fun v hv => ?_⟩
    rcases List.mem_or_eq_of_mem_set hv with h | rfl
    · exact hq.2 v h
    · exact .inr (List.getElem_mem hk)
theorem orient_eq (q : List Int) (hq : q.length = H * W ∧ ∀ v ∈ q, v = 0 ∨ v ∈ i.Data) : ∃ r, loopO (fun (v, y) => spec_Oriented_L0 i o (oW W H o) v y) (q, 0) = some r ∧ loopO (fun (q, k) => impl_Oriented_L0 i o (oW W H o) q k) (q, 0) = some r ∧ (r.length = H * W ∧ ∀ v ∈ r, v = 0 ∨ v ∈ i.Data) := by
  obtain ⟨r, r1, r2, r3⟩ := rowsLoop (S := fun (v, y) => spec_Oriented_L0 i o (oW W H o) v y) (I := fun (q, k) => impl_Oriented_L0 i o (oW W H o) q k) W H h2 (fun _ q => q.length = H * W ∧ ∀ v ∈ q, v = 0 ∨ v ∈ i.Data) (fun y q => loopO (fun (v, x) => spec_Oriented_L1 i o (oW W H o) y v x) (q, (0 : Int)))
    (fun y hlt q hq => by
      obtain ⟨q', p1, p2, p3⟩ := orientRow i W H o hW hH w1 w2 h1 h2 hl ho y hlt W 0 q (by omega) hq
      exact ⟨q', p1, p2, by simpa using p3⟩)
    (fun y hlt q => by
      show spec_Oriented_L0 i o _ q y = _
      unfold spec_Oriented_L0
      rw [ifO_pos (by rw [hH]; simp; omega)])
    (fun q => by
      show spec_Oriented_L0 i o _ q H = _
      unfold spec_Oriented_L0
      rw [ifO_neg (by rw [hH]; simp)])
    (fun q => by
      show impl_Oriented_L0 i o _ q _ = _
      unfold impl_Oriented_L0
      rw [ifO_neg (by rw [hl]; simp)]) H 0 q (by omega) hq
  exact ⟨r, r1, by simpa using r2, r3⟩
end Img
theorem Oriented_eq (i : ImageT) (o : Int) (h : i.Data.length ≤ 1048576) : ∃ r, spec_Oriented i o = some r ∧ impl_Oriented i o = some r ∧ r.Data.length ≤ 256 ∧ (imgOk i = true → o = 0 → r.W = i.W ∧ r.H = i.H) ∧ (imgOk i = true → inR o 0 7 = true → imgOk r = true) := by
  simp only [spec_Oriented, impl_Oriented, s_ImageOk i h, i_ImageOk i h, l01In_eq, isOr, bnd_s, orO_some]
  cases hc : (!imgOk i || !inR o 0 7) with
  | true =>
    refine ⟨zeroImg, rfl, rfl, by simp [zeroImg], fun hi ho => ?_, fun hi ho => ?_⟩
    · subst ho
      rw [hi] at hc
      cases hc
    · rw [hi, ho] at hc
      cases hc
  | false =>
    have hc' : imgOk i = true ∧ inR o 0 7 = true := by
      revert hc; cases imgOk i <;> cases inR o 0 7 <;> simp
    obtain ⟨c1, ho⟩ := hc'
    obtain ⟨⟨w1, w2⟩, ⟨h1, h2⟩, hd, hpx⟩ := imgOk_in c1
    obtain ⟨W, hW⟩ : ∃ W : Nat, i.W = W := ⟨i.W.toNat, by omega⟩
    obtain ⟨H, hH⟩ : ∃ H : Nat, i.H = H := ⟨i.H.toNat, by omega⟩
    have hl : i.Data.length = H * W := by
      rw [hW, hH, ← Int.natCast_mul, Nat.mul_comm] at hd
      omega
    have hHW : H * W ≤ 16 * 16 := Nat.mul_le_mul (by omega) (by omega)
    have hsz := OrientSize_eq (W := W) (H := H) (o := o) (by omega) (by omega) (by omega) (by omega) ho
    have hoo : oW W H o ≤ 16 ∧ oH W H o ≤ 16 := by
      unfold oW oH; by_cases q : o.tmod 2 = 1 <;> simp only [q, if_true, if_false] <;> omega
    have e := wrWH hoo.1 hoo.2
    rw [oWH] at e
    rw [ifO_false, ifO_false, ← OrientSize_same, hW, hH, hsz]
    simp only [bnd_s, e, mkO_nat (show H * W ≤ 1073741824 by omega)]
    obtain ⟨r, r1, r2, r3⟩ := orient_eq i W H o hW hH (by omega) (by omega) (by omega) (by omega) hl ho (List.replicate (H * W) 0) ⟨by simp, fun v hv => .inl (List.eq_of_mem_replicate hv)⟩
    simp only [] at r1 r2
    rw [r1, r2]
    refine ⟨_, rfl, rfl, by rw [r3.1]; omega, fun _ h0 => by subst h0; exact ⟨hW ▸ rfl, hH ▸ rfl⟩, fun _ _ => ?_⟩
    have h16 : 1 ≤ oW W H o ∧ 1 ≤ oH W H o := by
      unfold oW oH; by_cases q : o.tmod 2 = 1 <;> simp only [q, if_true, if_false] <;> omega
    unfold imgOk
    have a1 : inR ((oW W H o : Nat) : Int) 1 16 = true := inR_t.2 (by omega)
    have a2 : inR ((oH W H o : Nat) : Int) 1 16 = true := inR_t.2 (by omega)
    have a3 : decide ((r.length : Int) = wr (((oW W H o : Nat) : Int) * ((oH W H o : Nat) : Int))) = true := by rw [e, r3.1]; simp
    have a4 : r.all pixOk = true := List.all_eq_true.2 fun v hv => by
      rcases r3.2 v hv with rfl | h
      · rfl
      · exact hpx v h
    simp only [a1, a2, a3, a4]; rfl
theorem ScalePoint_same (a b k : Int) : spec_ScalePoint a b k = impl_ScalePoint a b k := rfl
theorem ScalePoint_in {a b : Nat} (a1 : 1 ≤ a) (a2 : a ≤ 16) (b1 : 1 ≤ b) (b2 : b ≤ 16) {k : Nat} (hk : k < b) : spec_ScalePoint a b k = some ((k * a / b : Nat) : Int) ∧ k * a / b < a := by
  have e1 : inR (a : Int) 1 16 = true := inR_t.2 (by omega)
  have e2 : inR (b : Int) 1 16 = true := inR_t.2 (by omega)
  have e3 : inR (k : Int) 0 (wr ((b : Int) - 1)) = true := by rw [wr_in (by omega) (by omega)]; exact inR_t.2 (by omega)
  have hm : k * a ≤ 16 * 16 := Nat.mul_le_mul (by omega) a2
  constructor
  · simp only [spec_ScalePoint, l01In_eq, e1, e2, e3, bnd_s, orO_some]
    rw [ifO_neg (by rfl), ← Int.natCast_mul, wr_in (n := ((k * a : Nat) : Int)) (by omega) (by omega), quoO_of (by omega), bnd_s, ← Int.ofNat_tdiv]
    have : k * a / b ≤ 256 := Nat.le_trans (Nat.div_le_self _ _) hm
    generalize k * a / b = q at this ⊢
    rw [wr_in (by omega) (by omega)]
  · rw [Nat.div_lt_iff_lt_mul (by omega)]
    rw [Nat.mul_comm a b]
    exact Nat.mul_lt_mul_of_pos_right hk (by omega)
theorem Scaled_eq (i : ImageT) (w h : Int) (hl : i.Data.length ≤ 1048576) : ∃ r, spec_Scaled i w h = some r ∧ impl_Scaled i w h = some r ∧ r.Data.length ≤ 256 ∧ (imgOk i = true → inR w 1 16 = true → inR h 1 16 = true → imgOk r = true) := by
  simp only [spec_Scaled, impl_Scaled, s_ImageOk i hl, i_ImageOk i hl, l01In_eq, isSide_eq, bnd_s, orO_some]
  cases hc : (!imgOk i || !inR w 1 16 || !inR h 1 16) with
  | true => exact ⟨zeroImg, rfl, rfl, by simp [zeroImg], fun a b c => by rw [a, b, c] at hc; cases hc⟩
  | false =>
    have hc' : imgOk i = true ∧ inR w 1 16 = true ∧ inR h 1 16 = true := by
      revert hc; cases imgOk i <;> cases inR w 1 16 <;> cases inR h 1 16 <;> simp
    obtain ⟨c1, c2, c3⟩ := hc'
    have d2 := c2
    have d3 := c3
    obtain ⟨⟨w1, w2⟩, ⟨h1, h2⟩, hd, hpx⟩ := imgOk_in c1
    rw [inR_t] at c2 c3
    obtain ⟨W, hW⟩ : ∃ W : Nat, i.W = W := ⟨i.W.toNat, by omega⟩
    obtain ⟨H, hH⟩ : ∃ H : Nat, i.H = H := ⟨i.H.toNat, by omega⟩
    obtain ⟨w, rfl⟩ : ∃ n : Nat, w = n := ⟨w.toNat, by omega⟩
    obtain ⟨h, rfl⟩ : ∃ n : Nat, h = n := ⟨h.toNat, by omega⟩
    have hl' : i.Data.length = H * W := by
      rw [hW, hH, ← Int.natCast_mul, Nat.mul_comm] at hd
      omega
    have hHW : H * W ≤ 16 * 16 := Nat.mul_le_mul (by omega) (by omega)
    have hhw : h * w ≤ 16 * 16 := Nat.mul_le_mul (by omega) (by omega)
    have at_ : ∀ x y : Nat, x < w → y < h → ∃ a b : Nat, spec_ScalePoint H h y = some (a : Int) ∧ spec_ScalePoint W w x = some (b : Int) ∧ idx i.Data (wr (wr ((a : Int) * W) + b)) = some (i.Data.getD (y * H / h * W + x * W / w) 0) := by
      intro x y hx hy
      obtain ⟨p1, p2⟩ := ScalePoint_in (a := H) (b := h) (by omega) (by omega) (by omega) (by omega) hy
      obtain ⟨q1, q2⟩ := ScalePoint_in (a := W) (b := w) (by omega) (by omega) (by omega) (by omega) hx
      refine ⟨_, _, p1, q1, ?_⟩
      have hm : (y * H / h + 1) * W ≤ H * W := Nat.mul_le_mul_right _ p2
      rw [Nat.add_mul, Nat.one_mul] at hm
      generalize y * H / h = a at *
      generalize x * W / w = b at *
      have e : wr (wr ((a : Int) * W) + b) = ((a * W + b : Nat) : Int) := by
        rw [← Int.natCast_mul, wr_in (n := ((a * W : Nat) : Int)) (by omega) (by omega), wr_in (by omega) (by omega)]; omega
      rw [e, idx_getD (by omega) (by omega)]; rfl
    rw [ifO_false, ifO_false]
    have hm := i_mapImage w h (by omega) (by omega) (fun z0 z1 => impl_Scaled_1 z0 z1 i h w) (fun x y => i.Data.getD (y * H / h * W + x * W / w) 0) (fun x y hx hy => by
      obtain ⟨a, b, p1, p2, p3⟩ := at_ x y hx hy
      show impl_Scaled_1 x y i h w = _
      unfold impl_Scaled_1
      rw [hH, hW, ← ScalePoint_same, ← ScalePoint_same, p1, bnd_s, p2, bnd_s, p3, bnd_s])
    have hs := mapRows (L0 := fun (o, y) => spec_Scaled_L0 i w h o y) (L1 := fun y (o, x) => spec_Scaled_L1 i w h y o x) w h (by omega) (by omega) (fun x y => i.Data.getD (y * H / h * W + x * W / w) 0)
      (fun y x out hy hx ho => by
        obtain ⟨a, b, p1, p2, p3⟩ := at_ x y hx hy
        show spec_Scaled_L1 i w h y out x = _
        unfold spec_Scaled_L1
        rw [ifO_pos (by simp only [decide_eq_true_eq]; omega), hH, hW, p1, bnd_s, p2, bnd_s, p3, bnd_s, app_le (by simp only [List.length_singleton]; omega), bnd_s, wr_succ (by omega)])
      (fun y out => by
        show spec_Scaled_L1 i w h y out w = _
        unfold spec_Scaled_L1
        rw [ifO_neg (by simp)])
      (fun y out hy => by
        show spec_Scaled_L0 i w h out y = _
        unfold spec_Scaled_L0
        rw [ifO_pos (by simp only [decide_eq_true_eq]; omega)])
      (fun out => by
        show spec_Scaled_L0 i w h out h = _
        unfold spec_Scaled_L0
        rw [ifO_neg (by simp)])
    simp only [] at hs
    rw [hs, hm]
    refine ⟨_, rfl, rfl, by show (mapD w h _).length ≤ 256; rw [mapD_len]; omega, fun _ _ _ => ?_⟩
    unfold imgOk
    have a3 : decide (((mapD w h fun x y => i.Data.getD (y * H / h * W + x * W / w) 0).length : Int) = wr ((w : Int) * h)) = true := by
      rw [wrWH (by omega) (by omega), mapD_len]; simp
    have a4 : (mapD w h fun x y => i.Data.getD (y * H / h * W + x * W / w) 0).all pixOk = true := List.all_eq_true.2 fun v hv => by
      unfold mapD at hv
      obtain ⟨y, _, hv⟩ := List.mem_flatMap.1 hv
      obtain ⟨x, _, rfl⟩ := List.mem_map.1 hv
      simp only [List.getD_eq_getElem?_getD]
      cases hg : i.Data[y * H / h * W + x * W / w]? with
      | none => rfl
      | some u => exact hpx u (List.mem_of_getElem? hg)
    simp only [d2, d3, a3, a4]; rfl
theorem and255 (p : Int) (k : Int) : 0 ≤ and64 (shr p k) 255 ∧ and64 (shr p k) 255 ≤ 255 := by
  unfold and64
  have h : (BitVec.ofInt 64 (shr p k) &&& BitVec.ofInt 64 255).toNat ≤ 255 := by
    rw [BitVec.toNat_and]
    exact Nat.and_le_right
  rw [wr_in (by omega) (by omega)]
  omega
def part (a b : Int) : Int := (a * b + 127) / 255
theorem part_in {a b : Int} (a0 : 0 ≤ a) (a1 : a ≤ 255) (b0 : 0 ≤ b) (b1 : b ≤ 255) : 0 ≤ part a b ∧ part a b ≤ b := by
  unfold part
  have := mul_in a0 a1 b0 b1
  have : a * b ≤ 255 * b := Int.mul_le_mul_of_nonneg_right a1 b0
  omega
theorem Part_eq {a b : Int} (a0 : 0 ≤ a) (a1 : a ≤ 255) (b0 : 0 ≤ b) (b1 : b ≤ 255) : spec_Part a b = some (part a b) ∧ impl_Part a b = some (part a b) := by
  have e1 := inR_t.2 ⟨a0, a1⟩
  have e2 := inR_t.2 ⟨b0, b1⟩
  have hm := mul_in a0 a1 b0 b1
  have key : wr (Int.tdiv (wr (wr (a * b) + 127)) 255) = part a b := by
    rw [wr_in (n := a * b) (by omega) (by omega), wr_in (n := a * b + 127) (by omega) (by omega), Int.tdiv_eq_ediv_of_nonneg (by omega), wr_in (by omega) (by omega)]; rfl
  simp only [spec_Part, impl_Part, l01In_eq, within_eq, e1, e2, bnd_s, orO_some, key]
  exact ⟨rfl, rfl⟩
theorem or_add {a p : Int} (a0 : 0 ≤ a) (a1 : a ≤ 255) : or64 (shl a 24) (and64 p 16777215) = wr (shl a 24 + and64 p 16777215) ∧ 0 ≤ wr (shl a 24 + and64 p 16777215) ∧ wr (shl a 24 + and64 p 16777215) ≤ 4294967295 := by
  obtain ⟨n, rfl⟩ : ∃ n : Nat, a = n := ⟨a.toNat, by omega⟩
  have hq : ∃ q : Nat, and64 p 16777215 = q ∧ q < 2 ^ 24 := by
    refine ⟨(BitVec.ofInt 64 p &&& BitVec.ofInt 64 16777215).toNat, ?_, ?_⟩
    · unfold and64
      have h : (BitVec.ofInt 64 p &&& BitVec.ofInt 64 16777215).toNat ≤ 16777215 := by
        rw [BitVec.toNat_and]; exact Nat.and_le_right
      rw [wr_in (by omega) (by omega)]
    · rw [BitVec.toNat_and]
      exact Nat.lt_of_le_of_lt Nat.and_le_right (by decide)
  obtain ⟨q, hq, hq2⟩ := hq
  have hs : shl (n : Int) 24 = ((n <<< 24 : Nat) : Int) := by
    unfold shl
    rw [Nat.shiftLeft_eq]
    have e : (2 : Int) ^ (min (Int.toNat 24) 64) = ((2 ^ 24 : Nat) : Int) := rfl
    rw [e, ← Int.natCast_mul, wr_in (by omega) (by omega)]
  rw [hs, hq]
  have hn : n <<< 24 ≤ 255 * 2 ^ 24 := by rw [Nat.shiftLeft_eq]; exact Nat.mul_le_mul_right _ (by omega)
  unfold or64
  have e : (BitVec.ofInt 64 ((n <<< 24 : Nat) : Int) ||| BitVec.ofInt 64 (q : Int)).toNat = n <<< 24 + q := by
    rw [Nat.shiftLeft_add_eq_or_of_lt hq2, BitVec.toNat_or]
    have t1 : (BitVec.ofInt 64 ((n <<< 24 : Nat) : Int)).toNat = n <<< 24 := by
      rw [BitVec.ofInt_natCast, BitVec.toNat_ofNat, Nat.mod_eq_of_lt (by omega)]
    have t2 : (BitVec.ofInt 64 (q : Int)).toNat = q := by
      rw [BitVec.ofInt_natCast, BitVec.toNat_ofNat, Nat.mod_eq_of_lt (by omega)]
    rw [t1, t2]
  rw [e]
  refine ⟨by congr 1, ?_⟩
  rw [wr_in (by omega) (by omega)]; omega
theorem Fade_eq (p a : Int) : ∃ r, spec_Fade p a = some r ∧ impl_Fade p a = some r ∧ (pixOk p = true → inR a 0 255 = true → pixOk r = true) := by
  simp only [spec_Fade, impl_Fade, l04Pixel_eq, isPixel_eq, l01In_eq, within_eq, bnd_s, orO_some]
  cases hc : (!inR p 0 4294967295 || !inR a 0 255) with
  | true => exact ⟨_, rfl, rfl, fun h1 h2 => by unfold pixOk at h1; rw [h1, h2] at hc; cases hc⟩
  | false =>
    have hc' : inR p 0 4294967295 = true ∧ inR a 0 255 = true := by
      revert hc; cases inR p 0 4294967295 <;> cases inR a 0 255 <;> simp
    obtain ⟨c1, c2⟩ := hc'
    have e0 : inR 0 0 3 = true := rfl
    simp only [spec_ChannelOf, impl_channel, l04Pixel_eq, l01In_eq, c1, e0, bnd_s, orO_some, shr24, ifO_false, Bool.not_true, Bool.or_false]
    have hb := and255 p 24
    have ha := inR_t.1 c2
    obtain ⟨f1, f2⟩ := Part_eq hb.1 hb.2 ha.1 ha.2
    have hp := part_in hb.1 hb.2 ha.1 ha.2
    have ho := or_add (p := p) hp.1 (show part (and64 (shr p 24) 255) a ≤ 255 by omega)
    simp only [f1, f2, bnd_s, ho.1]
    exact ⟨_, rfl, rfl, fun _ _ => inR_t.2 ho.2⟩
theorem mapLoop {L : List Int × Int → Option ((List Int × Int) ⊕ List Int)} (xs : List Int) (f : Int → Int) 
    (hgo : ∀ (k : Nat) (out : List Int) (hk : k < out.length), out.length = xs.length → L (out, (k : Int)) = some (.inl (out.set k (f out[k]), ((k + 1 : Nat) : Int)))) (hend : ∀ out, out.length = xs.length → L (out, (xs.length : Int)) = some (.inr out)) : loopO L (xs, 0) = some (xs.map f) := by
  have key : ∀ (j k : Nat), k + j = xs.length → loopO L ((xs.take k).map f ++ xs.drop k, (k : Int)) = some (xs.map f) := by
    intro j
    induction j with
    | zero =>
      intro k hk
      obtain rfl : k = xs.length := by omega
      rw [loopO_inr (hend _ (by simp))]; simp
    | succ j ih =>
      intro k hk
      have hlt : k < xs.length := by omega
      have hll : ((xs.take k).map f ++ xs.drop k).length = xs.length := by simp; omega
      have hmin : min k xs.length = k := by omega
      have hg : ((xs.take k).map f ++ xs.drop k)[k]'(by omega) = xs[k] := by
        rw [List.getElem_append_right (by simp [hmin])]; simp [hmin]
      have := hgo k ((xs.take k).map f ++ xs.drop k) (by omega) hll
      rw [hg] at this
      rw [loopO_inl this]
      have e : ((xs.take k).map f ++ xs.drop k).set k (f xs[k]) = (xs.take (k + 1)).map f ++ xs.drop (k + 1) := by
        rw [List.set_append_right _ _ (by simp [hmin]), List.drop_eq_getElem_cons hlt]
        simp only [List.length_map, List.length_take, hmin, Nat.sub_self, List.set_cons_zero]
        rw [List.take_add_one, List.map_append, List.getElem?_eq_getElem hlt, List.append_assoc]; rfl
      rw [e]
      exact ih (k + 1) (by omega)
  have := key xs.length 0 (by omega)
  simpa using this
def imgSz (i : ImageT) : Prop := (1 ≤ i.W ∧ i.W ≤ 16) ∧ (1 ≤ i.H ∧ i.H ≤ 16) ∧ (i.Data.length : Int) = i.W * i.H ∧ ∀ p ∈ i.Data, pixOk p = true
theorem imgSz_map {q : ImageT} (h : imgOk q = true) (f : Int → Int) (hf : ∀ x, pixOk x = true → pixOk (f x) = true) : imgSz (ImageT.mk q.W q.H (q.Data.map f)) := by
  obtain ⟨h1, h2, h3, h4⟩ := imgOk_in h
  refine ⟨h1, h2, by simpa using h3, fun p hp => ?_⟩
  obtain ⟨x, hx, rfl⟩ := List.mem_map.1 hp
  exact hf x (h4 x hx)
theorem PlaneImage_eq (p : PlaneT) (h : p.Words.length ≤ 1048576) : ∃ i b, spec_PlaneImage p = some (i, b) ∧ impl_PlaneImage p = some (i, b) ∧ i.Data.length ≤ 256 ∧ (b = true → imgSz i ∧ (p.Orient = 0 → p.ToW = 0 → p.ToH = 0 → i.W = p.W ∧ i.H = p.H)) := by
  have hfade : ∀ a, ∃ f : Int → Int, ∀ x, spec_Fade x a = some (f x) ∧ impl_Fade x a = some (f x) ∧ (pixOk x = true → inR a 0 255 = true → pixOk (f x) = true) := fun a =>
    ⟨fun x => Classical.choose (Fade_eq x a), fun x => Classical.choose_spec (Fade_eq x a)⟩
  obtain ⟨f, hf⟩ := hfade p.Alpha
  have z : (zeroImg.Data.length ≤ 256) := by simp [zeroImg]
  simp only [spec_PlaneImage, spec_l19Loaded, impl_PlaneImage, within_eq, l01In_eq, bnd_s, orO_some]
  cases hon : p.On with
  | false => exact ⟨zeroImg, false, rfl, rfl, z, by simp⟩
  | true =>
    obtain ⟨i, b, e1, e2, e3, e4⟩ := LoadImage_eq p.Words p.W p.H p.Layout h
    simp only [Bool.not_true, ifO_false, Bool.false_or, e1, e2, bnd_s]
    obtain ⟨o, o1, o2, o3, o4, _⟩ := Oriented_eq i p.Orient (by omega)
    have fin : ∀ (L : List Int × Int → Option ((List Int × Int) ⊕ List Int)) (o : ImageT), o.Data.length ≤ 256 → (∀ v k, L (v, k) = ifO (decide (k < (v.length : Int))) (Option.bind (idx v k) fun x => Option.bind (spec_Fade x p.Alpha) fun y => Option.bind (upd v k y) fun q => some (.inl (q, wr (k + 1)))) (some (.inr v))) →
        loopO L (o.Data, 0) = some (o.Data.map f) ∧ impl_faded o p.Alpha = some (ImageT.mk o.W o.H (o.Data.map f), o.Data.map f) := by
      intro L o ho hL
      constructor
      · refine mapLoop o.Data f (fun k out hk he => ?_) (fun out he => ?_)
        · rw [hL, ifO_pos (by simpa using hk), idx_lt hk, bnd_s, (hf _).1, bnd_s, upd_lt hk, bnd_s, wr_succ (by omega)]
        · rw [hL, ifO_neg (by simp; omega)]
      · have := mapLoop (L := fun (v, k) => impl_faded_L0 o p.Alpha v k) o.Data f (fun k out hk he => by
          show impl_faded_L0 o p.Alpha out k = _
          unfold impl_faded_L0
          rw [ifO_pos (by simp only [decide_eq_true_eq]; omega), idx_lt hk, bnd_s, (hf _).2.1, bnd_s, upd_lt hk, bnd_s, wr_succ (by omega)]) (fun out he => by
          show impl_faded_L0 o p.Alpha out _ = _
          unfold impl_faded_L0
          rw [ifO_neg (by simp)])
        unfold impl_faded
        simp only [] at this
        rw [this]; rfl
    cases ha : inR p.Alpha 0 255 with
    | false =>
      cases b <;> exact ⟨zeroImg, false, rfl, rfl, z, by simp⟩
    | true =>
      simp only [Bool.not_true, Bool.or_false, ifO_false, o2, bnd_s]
      have z2 : ∀ q : ImageT, q.Data.length ≤ 256 → (ImageT.mk q.W q.H (q.Data.map f)).Data.length ≤ 256 := fun q hq => by simpa using hq
      by_cases hsc : ((!decide (p.ToW = 0)) || (!decide (p.ToH = 0))) = true
      · obtain ⟨q, q1, q2, q3, _⟩ := Scaled_eq o p.ToW p.ToH (by omega)
        cases b with
        | false =>
          refine ⟨zeroImg, false, rfl, ?_, z, by simp⟩
          simp only [hsc, ifO_true, q2, bnd_s, i_ImageOk q (by omega), orO_some, Bool.not_false, Bool.true_or]; rfl
        | true =>
          simp only [Bool.not_true, ifO_false, o1, bnd_s, hsc, ifO_true, q1, q2, s_ImageOk q (by omega), i_ImageOk q (by omega), orO_some, Bool.false_or]
          cases hq : imgOk q with
          | false => exact ⟨zeroImg, false, rfl, rfl, z, by simp⟩
          | true =>
            obtain ⟨f1, f2⟩ := fin (fun (v, k) => spec_PlaneImage_L0 p v k) q q3 (fun _ _ => rfl)
            simp only [] at f1
            simp only [Bool.not_true, ifO_false, f1, f2, bnd_s]
            exact ⟨_, true, rfl, rfl, z2 q q3, fun _ => ⟨imgSz_map hq f (fun x hx => (hf x).2.2 hx ha), fun _ t1 t2 => by rw [t1, t2] at hsc; cases hsc⟩⟩
      · have hsc' : ((!decide (p.ToW = 0)) || (!decide (p.ToH = 0))) = false := by simpa using hsc
        cases b with
        | false =>
          refine ⟨zeroImg, false, rfl, ?_, z, by simp⟩
          simp only [hsc', ifO_false, i_ImageOk o (by omega), Bool.not_false]; rfl
        | true =>
          simp only [Bool.not_true, ifO_false, o1, bnd_s, hsc', s_ImageOk o (by omega), i_ImageOk o (by omega), orO_some, Bool.false_or]
          cases hq : imgOk o with
          | false => exact ⟨zeroImg, false, rfl, rfl, z, by simp⟩
          | true =>
            obtain ⟨f1, f2⟩ := fin (fun (v, k) => spec_PlaneImage_L1 p v k) o o3 (fun _ _ => rfl)
            simp only [] at f1
            simp only [Bool.not_true, ifO_false, f1, f2, bnd_s]
            exact ⟨_, true, rfl, rfl, z2 o o3, fun _ => ⟨imgSz_map hq f (fun x hx => (hf x).2.2 hx ha), fun t0 _ _ => by
              obtain ⟨d1, d2, d3⟩ := e4 rfl
              obtain ⟨d4, d5⟩ := o4 d1 t0
              exact ⟨d4.trans d2, d5.trans d3⟩⟩⟩
end Go.Proofs.YtmhalmnbgkpmnaaGreat
