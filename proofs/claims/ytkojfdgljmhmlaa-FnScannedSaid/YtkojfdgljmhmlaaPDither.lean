/- Dots. -/
import Derived.Test.YtkojfdgljmhmlaaPScan
namespace Go.Proofs.Ytkojfdgljmhmlaa
open Go.RowKit K
/-! ### Dots -/
theorem and1 {x : Int} (h0 : 0 ≤ x) (h1 : x ≤ 4611686018427387904) : and64 x 1 = Int.tmod x 2 := by
  obtain ⟨n, rfl⟩ : ∃ n : Nat, x = n := ⟨x.toNat, by omega⟩
  unfold and64
  have t1 : (BitVec.ofInt 64 (n : Int)).toNat = n := by
    rw [BitVec.ofInt_natCast, BitVec.toNat_ofNat, Nat.mod_eq_of_lt (by omega)]
  have t2 : (BitVec.ofInt 64 1).toNat = 1 := rfl
  rw [BitVec.toNat_and, t1, t2, Nat.and_one_is_mod, wr_in (by omega) (by omega), show (2 : Int) = ((2 : Nat) : Int) from rfl, ← Int.ofNat_tmod]
theorem shl_k {o : Int} (h0 : 0 ≤ o) (h1 : o ≤ 1048576) : shl o 6 = o * 64 ∧ shl o 12 = o * 4096 := by
  unfold shl
  have e : (2 : Int) ^ (min (Int.toNat 6) 64) = 64 := rfl
  have e2 : (2 : Int) ^ (min (Int.toNat 12) 64) = 4096 := rfl
  rw [e, e2, wr_in (by omega) (by omega), wr_in (by omega) (by omega)]
  exact ⟨rfl, rfl⟩
theorem or_add6 {o q : Int} (h0 : 0 ≤ o) (h1 : o ≤ 1048576) (q0 : 0 ≤ q) (q1 : q ≤ 63) : or64 (shl o 6) q = o * 64 + q := by
  rw [(shl_k h0 h1).1]
  obtain ⟨n, rfl⟩ : ∃ n : Nat, o = n := ⟨o.toNat, by omega⟩
  obtain ⟨m, rfl⟩ : ∃ m : Nat, q = m := ⟨q.toNat, by omega⟩
  have hn : n <<< 6 = n * 64 := by rw [Nat.shiftLeft_eq]
  have e0 : (n : Int) * (64 : Int) = ((n <<< 6 : Nat) : Int) := by omega
  unfold or64
  have e : (BitVec.ofInt 64 ((n : Int) * 64) ||| BitVec.ofInt 64 (m : Int)).toNat = n <<< 6 + m := by
    rw [Nat.shiftLeft_add_eq_or_of_lt (show m < 2 ^ 6 by omega), BitVec.toNat_or, e0]
    have t1 : (BitVec.ofInt 64 ((n <<< 6 : Nat) : Int)).toNat = n <<< 6 := by
      rw [BitVec.ofInt_natCast, BitVec.toNat_ofNat, Nat.mod_eq_of_lt (by omega)]
    have t2 : (BitVec.ofInt 64 (m : Int)).toNat = m := by
      rw [BitVec.ofInt_natCast, BitVec.toNat_ofNat, Nat.mod_eq_of_lt (by omega)]
    rw [t1, t2]
  rw [e, wr_in (by omega) (by omega)]
  omega
theorem level_eq {v x y : Int} (v0 : 0 ≤ v) (v1 : v ≤ 255) (x0 : 0 ≤ x) (x1 : x ≤ 16) (y0 : 0 ≤ y) (y1 : y ≤ 16) : ∃ l, spec_DitherLevel v x y = some l ∧ impl_DitherLevel v x y = some l ∧ 0 ≤ l ∧ l ≤ 63 := by
  have hv : inR v 0 255 = true := inR_t.2 ⟨v0, v1⟩
  have ht : ∃ t, spec_Threshold x y = some t ∧ impl_Threshold x y = some t ∧ 0 ≤ t ∧ t ≤ 3 := by
    simp only [spec_Threshold, impl_Threshold, and1 x0 (show x ≤ 4611686018427387904 by omega), and1 y0 (show y ≤ 4611686018427387904 by omega)]
    cases decide (Int.tmod x 2 = 0) <;> cases decide (Int.tmod y 2 = 0) <;> exact ⟨_, rfl, rfl, by omega, by omega⟩
  obtain ⟨t, t1, t2, t3, t4⟩ := ht
  have e : wr (Int.tdiv (wr (wr (252 * v) + wr (255 * t))) 1020) = (252 * v + 255 * t) / 1020 := by
    rw [wr_in (n := 252 * v) (by omega) (by omega), wr_in (n := 255 * t) (by omega) (by omega), wr_in (n := 252 * v + 255 * t) (by omega) (by omega), Int.tdiv_eq_ediv_of_nonneg (by omega), wr_in (by omega) (by omega)]
  simp only [spec_DitherLevel, impl_DitherLevel, l01In_eq, within_eq, hv, bnd_s, t1, t2, e]
  exact ⟨_, rfl, rfl, by omega, by omega⟩
theorem dither_eq {p x y : Int} (x0 : 0 ≤ x) (x1 : x ≤ 16) (y0 : 0 ≤ y) (y1 : y ≤ 16) : ∃ d, spec_DitherPixel p x y = some d ∧ impl_DitherPixel p x y = some d := by
  simp only [spec_DitherPixel, impl_DitherPixel, l04Pixel_eq, isPixel_eq, bnd_s]
  cases hp : inR p 0 4294967295 with
  | false => exact ⟨_, rfl, rfl⟩
  | true =>
    obtain ⟨r, r0, r1, r2, r3⟩ := chan p 1 (by omega)
    obtain ⟨g, g0, g1, g2, g3⟩ := chan p 2 (by omega)
    obtain ⟨b, b0, b1, b2, b3⟩ := chan p 3 (by omega)
    obtain ⟨lr, u1, u2, u3, u4⟩ := level_eq r0 r1 x0 x1 y0 y1
    obtain ⟨lg, w1, w2, w3, w4⟩ := level_eq g0 g1 x0 x1 y0 y1
    obtain ⟨lb, z1, z2, z3, z4⟩ := level_eq b0 b1 x0 x1 y0 y1
    have w12 : wr (1 + 1) = 2 := by rw [wr_in (by omega) (by omega)]; rfl
    have w23 : wr (2 + 1) = 3 := by rw [wr_in (by omega) (by omega)]; rfl
    have w34 : wr (3 + 1) = 4 := by rw [wr_in (by omega) (by omega)]; rfl
    have i1 : impl_DitherPixel_L0 p x y 0 1 = some (.inl (lr, 2)) := by
      simp only [impl_DitherPixel_L0, r2, bnd_s, u2, or_add6 (o := 0) (by omega) (by omega) u3 u4, w12]
      rw [ifO_pos (by decide)]
      simp
    have i2 : impl_DitherPixel_L0 p x y lr 2 = some (.inl (lr * 64 + lg, 3)) := by
      simp only [impl_DitherPixel_L0, g2, bnd_s, w2, or_add6 (o := lr) u3 (by omega) w3 w4, w23]
      rw [ifO_pos (by decide)]
    have i3 : impl_DitherPixel_L0 p x y (lr * 64 + lg) 3 = some (.inl ((lr * 64 + lg) * 64 + lb, 4)) := by
      simp only [impl_DitherPixel_L0, b2, bnd_s, z2, or_add6 (o := lr * 64 + lg) (by omega) (by omega) z3 z4, w34]
      rw [ifO_pos (by decide)]
    have hi : loopO (fun q => impl_DitherPixel_L0 p x y q.1 q.2) (0, 1) = some ((lr * 64 + lg) * 64 + lb) := by
      rw [loopO_inl (f := fun q => impl_DitherPixel_L0 p x y q.1 q.2) (s := (0, 1)) i1]
      rw [loopO_inl (f := fun q => impl_DitherPixel_L0 p x y q.1 q.2) (s := (lr, 2)) i2]
      rw [loopO_inl (f := fun q => impl_DitherPixel_L0 p x y q.1 q.2) (s := (lr * 64 + lg, 3)) i3]
      exact loopO_inr rfl
    refine ⟨(lr * 64 + lg) * 64 + lb, ?_, ?_⟩
    · simp only [r3 hp, g3 hp, b3 hp, u1, w1, z1, bnd_s, (shl_k u3 (show lr ≤ 1048576 by omega)).2, (shl_k w3 (show lg ≤ 1048576 by omega)).1]
      rw [ifO_neg (by rfl), wr_in (n := lr * 4096 + lg * 64) (by omega) (by omega), wr_in (by omega) (by omega)]
      congr 1; omega
    · rw [ifO_neg (by rfl), hi]; rfl
end Go.Proofs.Ytkojfdgljmhmlaa
