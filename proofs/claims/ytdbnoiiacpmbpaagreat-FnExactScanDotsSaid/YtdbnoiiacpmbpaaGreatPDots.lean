/- The dots of a line. -/
import Derived.Test.YtdbnoiiacpmbpaaGreatPScan
import Derived.Test.YtdbnoiiacpmbpaaGreatPColor
namespace Go.Proofs.YtdbnoiiacpmbpaaGreat
open Go.RowKit K
theorem floor_eq (a : Int) (b : Int) (hb : b = 16 ∨ b = 256) (h0 : -4611686018427387904 ≤ a) (h1 : a ≤ 4611686018427387904) : impl_floorDiv a b = some (a / b) ∧ spec_l08Floor a b = some (a / b) := by
  have key : impl_floorDiv a b = some (a / b) := by
    unfold impl_floorDiv
    have hne : b ≠ 0 := by omega
    rw [quoO_of hne, remO_of hne, bnd_s, bnd_s, Go.tdiv_eq_if, Go.tmod_eq_if]
    rcases hb with rfl | rfl
    · split
      · rw [ifO_neg (by simp; omega), wr_in (by omega) (by omega)]
      · by_cases hm : -((-a) % 16) < 0
        · rw [ifO_pos (by simpa using hm), wr_in (n := -((-a) / 16)) (by omega) (by omega), wr_in (by omega) (by omega)]
          congr 1; omega
        · rw [ifO_neg (by simpa using hm), wr_in (n := -((-a) / 16)) (by omega) (by omega)]
          congr 1; omega
    · split
      · rw [ifO_neg (by simp; omega), wr_in (by omega) (by omega)]
      · by_cases hm : -((-a) % 256) < 0
        · rw [ifO_pos (by simpa using hm), wr_in (n := -((-a) / 256)) (by omega) (by omega), wr_in (by omega) (by omega)]
          congr 1; omega
        · rw [ifO_neg (by simpa using hm), wr_in (n := -((-a) / 256)) (by omega) (by omega)]
          congr 1; omega
  exact ⟨key, key⟩
theorem list9 {xs : List Int} (h : xs.length = 9) : ∃ a b c d e f g i j, xs = [a, b, c, d, e, f, g, i, j] := by
  match xs, h with
  | [a, b, c, d, e, f, g, i, j], _ => exact ⟨a, b, c, d, e, f, g, i, j, rfl⟩
theorem mix_eq {m : ColorMapT} (hm : colOk m = true) {row r g b : Int} (hrow : row = 0 ∨ row = 1 ∨ row = 2) (hr : inR r 0 255 = true) (hg : inR g 0 255 = true) (hb : inR b 0 255 = true) :
    ∃ v, spec_MixChannels m row r g b = some v ∧ impl_mixRow m row r g b = some v ∧ 0 ≤ v ∧ v ≤ 255 := by
  have hm' := hm
  unfold colOk at hm'
  simp only [Bool.and_eq_true, decide_eq_true_eq] at hm'
  obtain ⟨⟨⟨h9, _⟩, hall⟩, _⟩ := hm'
  have hrow' : inR row 0 2 = true := inR_t.2 (by omega)
  simp only [spec_MixChannels, s_ColorOk, hm, l01In_eq, hrow', hr, hg, hb, bnd_s, orO_some, impl_mixRow]
  rw [ifO_neg (by rfl)]
  have fin : ∀ x y z : Int, inR x (-1024) 1024 = true → inR y (-1024) 1024 = true → inR z (-1024) 1024 = true → ∃ v,
      (Option.bind (spec_l08Floor (wr ((wr ((wr ((wr (x * r)) + (wr (y * g)))) + (wr (z * b)))) + 128)) 256) fun q => some (max 0 (min 255 q))) = some v
      ∧ (Option.bind (impl_floorDiv (wr ((wr ((wr ((wr (x * r)) + (wr (y * g)))) + (wr (z * b)))) + 128)) 256) fun q => Option.bind (impl_Clamp q 0 255) fun s => some s) = some v ∧ 0 ≤ v ∧ v ≤ 255 := by
    intro x y z hx hy hz
    have hI := I64_wr ((wr ((wr ((wr (x * r)) + (wr (y * g)))) + (wr (z * b)))) + 128)
    rw [inR_t] at hx hy hz
    have hr' := inR_t.1 hr
    have hg' := inR_t.1 hg
    have hb' := inR_t.1 hb
    have bnd3 : ∀ p q : Int, -1024 ≤ p → p ≤ 1024 → 0 ≤ q → q ≤ 255 → -261120 ≤ p * q ∧ p * q ≤ 261120 := by
      intro p q p0 p1 q0 q1
      have u1 : p * q ≤ 1024 * q := Int.mul_le_mul_of_nonneg_right p1 q0
      have u2 : -1024 * q ≤ p * q := Int.mul_le_mul_of_nonneg_right p0 q0
      omega
    have b1 := bnd3 x r hx.1 hx.2 hr'.1 hr'.2
    have b2 := bnd3 y g hy.1 hy.2 hg'.1 hg'.2
    have b3 := bnd3 z b hz.1 hz.2 hb'.1 hb'.2
    rw [wr_in (n := x * r) (by omega) (by omega), wr_in (n := y * g) (by omega) (by omega), wr_in (n := z * b) (by omega) (by omega), wr_in (n := x * r + y * g) (by omega) (by omega), wr_in (n := x * r + y * g + z * b) (by omega) (by omega), wr_in (n := x * r + y * g + z * b + 128) (by omega) (by omega)]
    obtain ⟨f1, f2⟩ := floor_eq (x * r + y * g + z * b + 128) 256 (by omega) (by omega) (by omega)
    rw [f1, f2]
    simp only [bnd_s, impl_Clamp]
    rw [ifO_neg (by decide)]
    refine ⟨_, rfl, ?_, by omega, by omega⟩
    rw [bnd_s, Int.min_comm]
  obtain ⟨a0, a1, a2, a3, a4, a5, a6, a7, a8, hM⟩ := list9 h9
  rw [hM] at hall ⊢
  simp only [List.all_cons, List.all_nil, Bool.and_true, Bool.and_eq_true] at hall
  obtain ⟨i0, i1, i2, i3, i4, i5, i6, i7, i8⟩ := hall
  have w0 : wr (3 * 0) = 0 := by rw [wr_in (by omega) (by omega)]; rfl
  have w3 : wr (3 * 1) = 3 := by rw [wr_in (by omega) (by omega)]; rfl
  have w6 : wr (3 * 2) = 6 := by rw [wr_in (by omega) (by omega)]; rfl
  have ws : ∀ n k : Int, 0 ≤ n → n ≤ 6 → 0 ≤ k → k ≤ 2 → wr (n + k) = n + k := fun n k _ _ _ _ => wr_in (by omega) (by omega)
  rcases hrow with rfl | rfl | rfl
  · rw [w0, ws 0 1 (by omega) (by omega) (by omega) (by omega), ws 0 2 (by omega) (by omega) (by omega) (by omega)]
    exact fin a0 a1 a2 i0 i1 i2
  · rw [w3, ws 3 1 (by omega) (by omega) (by omega) (by omega), ws 3 2 (by omega) (by omega) (by omega) (by omega)]
    exact fin a3 a4 a5 i3 i4 i5
  · rw [w6, ws 6 1 (by omega) (by omega) (by omega) (by omega), ws 6 2 (by omega) (by omega) (by omega) (by omega)]
    exact fin a6 a7 a8 i6 i7 i8
theorem curve_eq {m : ColorMapT} (hm : colOk m = true) {v : Int} (v0 : 0 ≤ v) (v1 : v ≤ 255) : ∃ c, spec_CurveAt m v = some c ∧ impl_curveValue m v = some c ∧ 0 ≤ c ∧ c ≤ 255 := by
  have hm' := hm
  unfold colOk at hm'
  simp only [Bool.and_eq_true, decide_eq_true_eq] at hm'
  obtain ⟨⟨_, h17⟩, hall⟩ := hm'
  have hv : inR v 0 255 = true := inR_t.2 ⟨v0, v1⟩
  obtain ⟨n, rfl⟩ : ∃ n : Nat, v = n := ⟨v.toNat, by omega⟩
  have e1 : wr (Int.tdiv (n : Int) 16) = ((n / 16 : Nat) : Int) := by
    rw [show (16 : Int) = ((16 : Nat) : Int) from rfl, ← Int.ofNat_tdiv, wr_in (by omega) (by omega)]
  have e2 : Int.tmod (n : Int) 16 = ((n % 16 : Nat) : Int) := by
    rw [show (16 : Int) = ((16 : Nat) : Int) from rfl, ← Int.ofNat_tmod]
  have k1 : n / 16 < m.Curve.length := by omega
  have k2 : n / 16 + 1 < m.Curve.length := by omega
  simp only [spec_CurveAt, s_ColorOk, hm, l01In_eq, hv, bnd_s, orO_some, impl_curveValue, e1, e2, wr_succ (show n / 16 < 4611686018427387904 by omega), idx_lt k1, idx_lt k2]
  rw [ifO_neg (by rfl)]
  have ha := inR_t.1 (List.all_eq_true.1 hall _ (List.getElem_mem k1))
  have hb := inR_t.1 (List.all_eq_true.1 hall _ (List.getElem_mem k2))
  generalize m.Curve[n / 16] = a at *
  generalize m.Curve[n / 16 + 1] = b at *
  have ht : n % 16 ≤ 15 := by omega
  generalize n % 16 = t at *
  have hp : -(a * 15) ≤ (b - a) * t ∧ (b - a) * t ≤ 256 * 15 := by
    constructor
    · have u : -a * t ≤ (b - a) * t := Int.mul_le_mul_of_nonneg_right (by omega) (by omega)
      have u2 : a * t ≤ a * 15 := Int.mul_le_mul_of_nonneg_left (by omega) ha.1
      rw [Int.neg_mul] at u
      omega
    · have u : (b - a) * t ≤ 256 * t := Int.mul_le_mul_of_nonneg_right (by omega) (by omega)
      omega
  rw [wr_in (n := b - a) (by omega) (by omega), wr_in (n := (b - a) * t) (by omega) (by omega)]
  generalize (b - a) * (t : Int) = q at *
  obtain ⟨f1, f2⟩ := floor_eq q 16 (by omega) (by omega) (by omega)
  rw [f1, f2, bnd_s, wr_in (n := a + q / 16) (by omega) (by omega)]
  exact ⟨_, rfl, rfl, by omega, by omega⟩
theorem colStep {m : ColorMapT} (hm : colOk m = true) {p o row : Int} (hp : pixOk p = true) (o0 : 0 ≤ o) (o1 : o ≤ 1099511627776) (hrow : row = 0 ∨ row = 1 ∨ row = 2) :
    ∃ o', 0 ≤ o' ∧ o' ≤ o * 256 + 255 ∧ spec_ColorPixel_L0 m p o row = some (.inl (o', wr (row + 1))) ∧ impl_colored_L0 m p o row = some (.inl (o', wr (row + 1))) := by
  obtain ⟨r, r0, r1, r2, r3⟩ := chan p 1 (by omega)
  obtain ⟨g, g0, g1, g2, g3⟩ := chan p 2 (by omega)
  obtain ⟨b, b0, b1, b2, b3⟩ := chan p 3 (by omega)
  obtain ⟨v, m1, m2, m3, m4⟩ := mix_eq hm hrow (inR_t.2 ⟨r0, r1⟩) (inR_t.2 ⟨g0, g1⟩) (inR_t.2 ⟨b0, b1⟩)
  obtain ⟨c, c1, c2, c3, c4⟩ := curve_eq hm m3 m4
  have l1 : decide (row < 3) = true := by simp; omega
  refine ⟨o * 256 + c, by omega, by omega, ?_, ?_⟩
  · simp only [spec_ColorPixel_L0, l1, ifO_true, r3 hp, g3 hp, b3 hp, bnd_s, m1, c1, shl8 o0 o1]
    rw [wr_in (n := o * 256 + c) (by omega) (by omega)]
  · simp only [impl_colored_L0, l1, ifO_true, r2, g2, b2, bnd_s, m2, c2, or_add2 o0 o1 c3 c4]
theorem colored_eq {m : ColorMapT} (hm : colOk m = true) {p : Int} (hp : pixOk p = true) : ∃ r, spec_ColorPixel m p = some r ∧ impl_colored m p = some r := by
  have hp' := hp
  unfold pixOk at hp'
  obtain ⟨a, a0, a1, a2, a3⟩ := chan p 0 (by omega)
  obtain ⟨o1, b1, b2, s1, i1⟩ := colStep (o := a) (row := 0) hm hp a0 (by omega) (by omega)
  obtain ⟨o2, b3, b4, s2, i2⟩ := colStep (o := o1) (row := 1) hm hp b1 (by omega) (by omega)
  obtain ⟨o3, b5, b6, s3, i3⟩ := colStep (o := o2) (row := 2) hm hp b3 (by omega) (by omega)
  have w01 : wr (0 + 1) = 1 := by rw [wr_in (by omega) (by omega)]; rfl
  have w12 : wr (1 + 1) = 2 := by rw [wr_in (by omega) (by omega)]; rfl
  have w23 : wr (2 + 1) = 3 := by rw [wr_in (by omega) (by omega)]; rfl
  rw [w01] at s1 i1
  rw [w12] at s2 i2
  rw [w23] at s3 i3
  have hs : loopO (fun x => spec_ColorPixel_L0 m p x.1 x.2) (a, 0) = some o3 := by
    rw [loopO_inl (f := fun x => spec_ColorPixel_L0 m p x.1 x.2) (s := (a, 0)) s1]
    rw [loopO_inl (f := fun x => spec_ColorPixel_L0 m p x.1 x.2) (s := (o1, 1)) s2]
    rw [loopO_inl (f := fun x => spec_ColorPixel_L0 m p x.1 x.2) (s := (o2, 2)) s3]
    exact loopO_inr rfl
  have hi : loopO (fun x => impl_colored_L0 m p x.1 x.2) (a, 0) = some o3 := by
    rw [loopO_inl (f := fun x => impl_colored_L0 m p x.1 x.2) (s := (a, 0)) i1]
    rw [loopO_inl (f := fun x => impl_colored_L0 m p x.1 x.2) (s := (o1, 1)) i2]
    rw [loopO_inl (f := fun x => impl_colored_L0 m p x.1 x.2) (s := (o2, 2)) i3]
    exact loopO_inr rfl
  refine ⟨o3, ?_, ?_⟩
  · simp only [spec_ColorPixel, s_ColorOk, hm, l04Pixel_eq, hp', bnd_s, orO_some, a3 hp]
    rw [ifO_neg (by rfl), hs]; rfl
  · simp only [impl_colored, a2, bnd_s]
    rw [hi]; rfl
/-! ### Dots -/
theorem and1 {x : Int} (h0 : 0 ≤ x) (h1 : x ≤ 4611686018427387904) : and64 x 1 = Int.tmod x 2 := by
  obtain ⟨n, rfl⟩ : ∃ n : Nat, x = n := ⟨x.toNat, by omega⟩
  unfold and64
  have t1 : (BitVec.ofInt 64 (n : Int)).toNat = n := by
    rw [BitVec.ofInt_natCast, BitVec.toNat_ofNat, Nat.mod_eq_of_lt (by omega)]
  have t2 : (BitVec.ofInt 64 1).toNat = 1 := rfl
  rw [BitVec.toNat_and, t1, t2, Nat.and_one_is_mod, wr_in (by omega) (by omega), show (2 : Int) = ((2 : Nat) : Int) from rfl, ← Int.ofNat_tmod]
theorem shl_k {o : Int} (h0 : 0 ≤ o) (h1 : o ≤ 1048576) : shl o 6 = o * 64 ∧ shl o 12 = o * 4096 := by
  unfold shl
  have e : (2 : Int) ^ (min (Int.toNat 6) 64) = 64 := rfl
  have e2 : (2 : Int) ^ (min (Int.toNat 12) 64) = 4096 := rfl
  rw [e, e2, wr_in (by omega) (by omega), wr_in (by omega) (by omega)]
  exact ⟨rfl, rfl⟩
theorem or_add6 {o q : Int} (h0 : 0 ≤ o) (h1 : o ≤ 1048576) (q0 : 0 ≤ q) (q1 : q ≤ 63) : or64 (shl o 6) q = o * 64 + q := by
  rw [(shl_k h0 h1).1]
  obtain ⟨n, rfl⟩ : ∃ n : Nat, o = n := ⟨o.toNat, by omega⟩
  obtain ⟨m, rfl⟩ : ∃ m : Nat, q = m := ⟨q.toNat, by omega⟩
  have hn : n <<< 6 = n * 64 := by rw [Nat.shiftLeft_eq]
  have e0 : (n : Int) * (64 : Int) = ((n <<< 6 : Nat) : Int) := by omega
  unfold or64
  have e : (BitVec.ofInt 64 ((n : Int) * 64) ||| BitVec.ofInt 64 (m : Int)).toNat = n <<< 6 + m := by
    rw [Nat.shiftLeft_add_eq_or_of_lt (show m < 2 ^ 6 by omega), BitVec.toNat_or, e0]
    have t1 : (BitVec.ofInt 64 ((n <<< 6 : Nat) : Int)).toNat = n <<< 6 := by
      rw [BitVec.ofInt_natCast, BitVec.toNat_ofNat, Nat.mod_eq_of_lt (by omega)]
    have t2 : (BitVec.ofInt 64 (m : Int)).toNat = m := by
      rw [BitVec.ofInt_natCast, BitVec.toNat_ofNat, Nat.mod_eq_of_lt (by omega)]
    rw [t1, t2]
  rw [e, wr_in (by omega) (by omega)]
  omega
theorem level_eq {v x y : Int} (v0 : 0 ≤ v) (v1 : v ≤ 255) (x0 : 0 ≤ x) (x1 : x ≤ 16) (y0 : 0 ≤ y) (y1 : y ≤ 16) : ∃ l, spec_DitherLevel v x y = some l ∧ impl_DitherLevel v x y = some l ∧ 0 ≤ l ∧ l ≤ 63 := by
  have hv : inR v 0 255 = true := inR_t.2 ⟨v0, v1⟩
  have ht : ∃ t, spec_Threshold x y = some t ∧ impl_Threshold x y = some t ∧ 0 ≤ t ∧ t ≤ 3 := by
    simp only [spec_Threshold, impl_Threshold, and1 x0 (show x ≤ 4611686018427387904 by omega), and1 y0 (show y ≤ 4611686018427387904 by omega)]
    cases decide (Int.tmod x 2 = 0) <;> cases decide (Int.tmod y 2 = 0) <;> exact ⟨_, rfl, rfl, by omega, by omega⟩
  obtain ⟨t, t1, t2, t3, t4⟩ := ht
  have e : wr (Int.tdiv (wr (wr (252 * v) + wr (255 * t))) 1020) = (252 * v + 255 * t) / 1020 := by
    rw [wr_in (n := 252 * v) (by omega) (by omega), wr_in (n := 255 * t) (by omega) (by omega), wr_in (n := 252 * v + 255 * t) (by omega) (by omega), Int.tdiv_eq_ediv_of_nonneg (by omega), wr_in (by omega) (by omega)]
  simp only [spec_DitherLevel, impl_DitherLevel, l01In_eq, within_eq, hv, bnd_s, t1, t2, e]
  exact ⟨_, rfl, rfl, by omega, by omega⟩
theorem dither_eq {p x y : Int} (x0 : 0 ≤ x) (x1 : x ≤ 16) (y0 : 0 ≤ y) (y1 : y ≤ 16) : ∃ d, spec_DitherPixel p x y = some d ∧ impl_DitherPixel p x y = some d := by
  simp only [spec_DitherPixel, impl_DitherPixel, l04Pixel_eq, isPixel_eq, bnd_s]
  cases hp : inR p 0 4294967295 with
  | false => exact ⟨_, rfl, rfl⟩
  | true =>
    obtain ⟨r, r0, r1, r2, r3⟩ := chan p 1 (by omega)
    obtain ⟨g, g0, g1, g2, g3⟩ := chan p 2 (by omega)
    obtain ⟨b, b0, b1, b2, b3⟩ := chan p 3 (by omega)
    obtain ⟨lr, u1, u2, u3, u4⟩ := level_eq r0 r1 x0 x1 y0 y1
    obtain ⟨lg, w1, w2, w3, w4⟩ := level_eq g0 g1 x0 x1 y0 y1
    obtain ⟨lb, z1, z2, z3, z4⟩ := level_eq b0 b1 x0 x1 y0 y1
    have w12 : wr (1 + 1) = 2 := by rw [wr_in (by omega) (by omega)]; rfl
    have w23 : wr (2 + 1) = 3 := by rw [wr_in (by omega) (by omega)]; rfl
    have w34 : wr (3 + 1) = 4 := by rw [wr_in (by omega) (by omega)]; rfl
    have i1 : impl_DitherPixel_L0 p x y 0 1 = some (.inl (lr, 2)) := by
      simp only [impl_DitherPixel_L0, r2, bnd_s, u2, or_add6 (o := 0) (by omega) (by omega) u3 u4, w12]
      rw [ifO_pos (by decide)]
      simp
    have i2 : impl_DitherPixel_L0 p x y lr 2 = some (.inl (lr * 64 + lg, 3)) := by
      simp only [impl_DitherPixel_L0, g2, bnd_s, w2, or_add6 (o := lr) u3 (by omega) w3 w4, w23]
      rw [ifO_pos (by decide)]
    have i3 : impl_DitherPixel_L0 p x y (lr * 64 + lg) 3 = some (.inl ((lr * 64 + lg) * 64 + lb, 4)) := by
      simp only [impl_DitherPixel_L0, b2, bnd_s, z2, or_add6 (o := lr * 64 + lg) (by omega) (by omega) z3 z4, w34]
      rw [ifO_pos (by decide)]
    have hi : loopO (fun q => impl_DitherPixel_L0 p x y q.1 q.2) (0, 1) = some ((lr * 64 + lg) * 64 + lb) := by
      rw [loopO_inl (f := fun q => impl_DitherPixel_L0 p x y q.1 q.2) (s := (0, 1)) i1]
      rw [loopO_inl (f := fun q => impl_DitherPixel_L0 p x y q.1 q.2) (s := (lr, 2)) i2]
      rw [loopO_inl (f := fun q => impl_DitherPixel_L0 p x y q.1 q.2) (s := (lr * 64 + lg, 3)) i3]
      exact loopO_inr rfl
    refine ⟨(lr * 64 + lg) * 64 + lb, ?_, ?_⟩
    · simp only [r3 hp, g3 hp, b3 hp, u1, w1, z1, bnd_s, (shl_k u3 (show lr ≤ 1048576 by omega)).2, (shl_k w3 (show lg ≤ 1048576 by omega)).1]
      rw [ifO_neg (by rfl), wr_in (n := lr * 4096 + lg * 64) (by omega) (by omega), wr_in (by omega) (by omega)]
      congr 1; omega
    · rw [ifO_neg (by rfl), hi]; rfl
theorem ScanDots_eq (list : List PlaneT) (w h : Int) (m : ColorMapT) (y : Int) (hs : smPlaneS list) (hm : smColorMap m) : ∃ r, spec_ScanDots list w h m y = some r ∧ impl_ScanDots list w h m y = some r ∧ r.length ≤ 256 := by
  obtain ⟨b, e1, e2, e3⟩ := PlanesOk_eq list w h hs
  simp only [spec_ScanDots, spec_ScanLine, impl_ScanDots, e1, e2, i_ColorOk m hm, bnd_s, l01In_eq, within_eq, orO_some]
  have ev : ∀ line : List Int, (line = [] ∨ colOk m = false) → loopO (fun x => spec_ScanDots_L0 m y line x.1 x.2) (([] : List Int), 0) = some [] := fun line hl => loopO_inr (by
    show spec_ScanDots_L0 m y line [] 0 = _
    unfold spec_ScanDots_L0
    rw [s_ColorOk, bnd_s, andO_some, bnd_s, ifO_neg]
    rcases hl with rfl | hl
    · simp
    · rw [hl]; simp)
  cases hc : (!b || !inR y 0 (wr (h - 1))) with
  | true =>
    have hq : ((!b || !colOk m) || !inR y 0 (wr (h - 1))) = true := by
      revert hc; cases b <;> cases colOk m <;> cases inR y 0 (wr (h - 1)) <;> simp
    rw [hq]
    have := ev [] (.inl rfl)
    refine ⟨[], ?_, rfl, by simp⟩
    simp only [ifO_true, bnd_s]
    rw [this]; rfl
  | false =>
    have hb : b = true ∧ inR y 0 (wr (h - 1)) = true := by
      revert hc; cases b <;> simp
    obtain ⟨rfl, hy⟩ := hb
    obtain ⟨W, H, d, rfl, rfl, ⟨w1, w2⟩, ⟨h1, h2⟩, hd, s1, s2, hpx⟩ := scanned_eq list w h hs (e3 rfl)
    have hHW : H * W ≤ 16 * 16 := Nat.mul_le_mul h2 w2
    have hy' := hy
    rw [wr_in (n := (H : Int) - 1) (by omega) (by omega), inR_t] at hy'
    obtain ⟨y, rfl⟩ : ∃ n : Nat, y = n := ⟨y.toNat, by omega⟩
    have hyw : (y + 1) * W ≤ H * W := Nat.mul_le_mul_right _ (by omega)
    have hyw' := hyw
    rw [Nat.add_mul, Nat.one_mul] at hyw'
    have a1 : wr ((y : Int) * W) = ((y * W : Nat) : Int) := by
      rw [← Int.natCast_mul, wr_in (by omega) (by omega)]
    have a2 : wr (((y * W : Nat) : Int) + W) = (((y + 1) * W : Nat) : Int) := by
      rw [wr_in (by omega) (by omega), Nat.add_mul]; omega
    have sb : subO d ((y * W : Nat) : Int) (((y + 1) * W : Nat) : Int) = some ((d.take ((y + 1) * W)).drop (y * W)) := by
      unfold subO
      have l1 : y * W ≤ (y + 1) * W := Nat.mul_le_mul_right _ (by omega)
      rw [if_pos ⟨Int.natCast_nonneg _, Int.ofNat_le.2 l1, Int.ofNat_le.2 (by rw [hd]; exact hyw)⟩, Int.toNat_natCast, Int.toNat_natCast]
    generalize hline : (d.take ((y + 1) * W)).drop (y * W) = line at *
    have hll : line.length = W := by
      rw [← hline, List.length_drop, List.length_take, Nat.min_eq_left (by rw [hd]; exact hyw), Nat.add_mul]; omega
    have hat : ∀ x (hx : x < line.length), line[x] = d[y * W + x]'(by omega) := by
      intro x hx
      have : line[x]? = d[y * W + x]? := by
        rw [← hline, List.getElem?_drop, List.getElem?_take_of_lt (by rw [Nat.add_mul]; omega)]
      rw [List.getElem?_eq_getElem hx, List.getElem?_eq_getElem (by omega)] at this
      exact Option.some.inj this
    have hap : app ([] : List Int) line = some line := by rw [app_le (by simp only [List.length_nil]; omega)]; rfl
    simp only [s1, s2, bnd_s, a1, a2, sb, hap, ifO_false, Bool.not_true, Bool.false_or, hy, Bool.or_false]
    cases hco : colOk m with
    | false =>
      have := ev line (.inr hco)
      exact ⟨[], by rw [this]; rfl, rfl, by simp⟩
    | true =>
      have key : ∀ x, x < W → ∃ v, ∀ p, d[y * W + x]? = some p → (∃ c, spec_ColorPixel m p = some c ∧ impl_colored m p = some c ∧ spec_DitherPixel c x y = some v ∧ impl_DitherPixel c x y = some v) := by
        intro x hx
        have hlt : y * W + x < d.length := by omega
        obtain ⟨c, c1, c2⟩ := colored_eq hco (hpx _ (List.getElem_mem hlt))
        obtain ⟨v, v1, v2⟩ := dither_eq (p := c) (x := x) (y := y) (by omega) (by omega) (by omega) (by omega)
        refine ⟨v, fun p hp => ?_⟩
        rw [List.getElem?_eq_getElem hlt] at hp
        cases hp
        exact ⟨c, c1, c2, v1, v2⟩
      obtain ⟨v, hv⟩ : ∃ v : Nat → Int, ∀ x, x < W → ∀ p, d[y * W + x]? = some p → (∃ c, spec_ColorPixel m p = some c ∧ impl_colored m p = some c ∧ spec_DitherPixel c x y = some (v x) ∧ impl_DitherPixel c x y = some (v x)) :=
        ⟨fun x => if hx : x < W then Classical.choose (key x hx) else 0, fun x hx => by simp only [dif_pos hx]; exact Classical.choose_spec (key x hx)⟩
      have r1 := mapRow (L := fun q => spec_ScanDots_L0 m y line q.1 q.2) W v (fun x out hx ho => by
        have hlt : y * W + x < d.length := by omega
        obtain ⟨c, c1, _, v1, _⟩ := hv x hx _ (List.getElem?_eq_getElem hlt)
        have hxl : x < line.length := by omega
        show spec_ScanDots_L0 m y line out x = _
        unfold spec_ScanDots_L0
        rw [s_ColorOk, bnd_s, andO_some, bnd_s, hco, ifO_pos (by simp only [Bool.and_true, decide_eq_true_eq]; omega), idx_lt hxl, bnd_s, hat x hxl, c1, bnd_s, v1, bnd_s, app_le (by simp only [List.length_singleton]; omega), bnd_s, wr_succ (by omega)]) (fun out => by
        show spec_ScanDots_L0 m y line out W = _
        unfold spec_ScanDots_L0
        rw [s_ColorOk, bnd_s, andO_some, bnd_s, ifO_neg (by simp; omega)]) W 0 [] (by omega) (by simp; omega)
      have r2 := fillLoop (L := fun q => impl_lineDots_L0 (ImageT.mk W H d) m y (List.replicate W 0) q.1 q.2) (List.range W) v 0 (by simp; omega) (fun k hk out ho => by
        have hkW : k < W := by simpa using hk
        have hlt : y * W + k < d.length := by omega
        obtain ⟨c, _, c2, _, v2⟩ := hv k hkW _ (List.getElem?_eq_getElem hlt)
        have e : wr (((y * W : Nat) : Int) + (k : Int)) = ((y * W + k : Nat) : Int) := by rw [wr_in (by omega) (by omega)]; omega
        show impl_lineDots_L0 (ImageT.mk W H d) m y (List.replicate W 0) out k = _
        unfold impl_lineDots_L0
        simp only [a1, e]
        have hol : k < out.length := by rw [ho]; simpa using hkW
        rw [ifO_pos (by simp; omega), idx_lt hlt, bnd_s, c2, bnd_s, v2, bnd_s, upd_lt hol, bnd_s, List.getElem_range]) (fun out => by
        show impl_lineDots_L0 (ImageT.mk W H d) m y (List.replicate W 0) out _ = _
        unfold impl_lineDots_L0
        rw [ifO_neg (by simp)])
      rw [show ((0 : Nat) : Int) = 0 from rfl, List.nil_append, ← List.range_eq_range'] at r1
      simp only [List.length_range] at r2
      refine ⟨(List.range W).map v, ?_, ?_, by simp; omega⟩
      · rw [r1]; rfl
      · rw [ifO_neg (by rfl), impl_lineDots]
        simp only []
        rw [mkO_nat (show W ≤ 1073741824 by omega), bnd_s, r2]; rfl
theorem ngd (k m : Nat) : ¬ (1 + (k : Int) + (m : Int) < 0) := by omega
theorem FnExactScanDots_true (l : List PlaneT) (w h : Int) (m : ColorMapT) (y : Int) (o : l.length ≤ 9223372036854775807 ∧ ∀ y ∈ l, okPlane y) (_ : I64 w) (_ : I64 h) (om : okColorMap m) (_ : I64 y) : laws_FnExactScanDots l w h m y = some true := by
  obtain ⟨v, hv, hv1, hb⟩ := szPlaneS_ok l o 1048576 (by decide) (by decide)
  simp only [laws_FnExactScanDots, hv, bnd_s]
  by_cases hneg : v < 0
  · rw [ifO_pos (by simpa using hneg)]
  · have hs := hb (by omega)
    rw [ifO_neg (by simpa using hneg)]
    obtain ⟨v2, hv2, _, hb2⟩ := szColorMap_ok m om v (by omega) hv1
    rw [hv2, bnd_s]
    by_cases hneg2 : v2 < 0
    · rw [ifO_pos (by simpa using hneg2)]
    · have hm := hb2 (by omega)
      rw [ifO_neg (by simpa using hneg2)]
      obtain ⟨r, h1, h2, h3⟩ := ScanDots_eq l w h m y hs hm
      have hr : smIntS r := show r.length ≤ 1048576 by omega
      have b1 := nPlaneS_le hs
      have b2 := nIntS_le hr
      have b3 := nIntS_le hm.1
      have b4 := nIntS_le hm.2
      obtain ⟨y0, a0⟩ := mkPlaneS l hs 1 (by decide) (by omega)
      obtain ⟨y2, y3, a2⟩ := mkColorMap m hm (1 + (nPlaneS l : Nat)) (by omega) (by unfold mColorMap; omega)
      obtain ⟨y1, a1, d1⟩ := mhIntS r hr 1 (by decide) (by omega)
      have n2 : ¬ (1 + (nIntS r : Int) < 0) := by omega
      simp [toPlaneS_eq l hs, toColorMap_eq m hm, h1, h2, eqPlaneS_self l hs, eqColorMap_self m hm, eqIntS_self r hr, a0, a2, a1, d1, ngd, n2, orO]
end Go.Proofs.YtdbnoiiacpmbpaaGreat
