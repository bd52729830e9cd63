/- Pixels, lines and dots are those of the whole frame. -/
import Derived.Test.YtkojfdgljmhmlaaPPlanesDrawn
import Derived.Test.YtkojfdgljmhmlaaPDither
import Derived.Test.YtkojfdgljmhmlaaPColorI
namespace Go.Proofs.Ytkojfdgljmhmlaa
open Go.RowKit K
def idC : ColorMapT := ColorMapT.mk [256, 0, 0, 0, 256, 0, 0, 0, 256] ((List.range 17).map fun k : Nat => 16 * (k : Int))
theorem i_Identity : impl_IdentityColor = some idC := by
  have h := loopO_up (f := fun x => impl_IdentityColor_L0 x.1 x.2) (fun k => ((List.range k).map fun k : Nat => 16 * (k : Int), (k : Int))) 17 ((List.range 17).map fun k : Nat => 16 * (k : Int)) (by simp [impl_IdentityColor_L0]) (fun k hk => by
    show impl_IdentityColor_L0 ((List.range k).map fun k : Nat => 16 * (k : Int)) (k : Int) = _
    unfold impl_IdentityColor_L0
    rw [ifO_pos (by simp only [decide_eq_true_eq]; omega), wr_in (n := 16 * (k : Int)) (by omega) (by omega), app_le (by simp only [List.length_map, List.length_range, List.length_singleton]; omega), bnd_s, wr_succ (by omega), List.range_succ, List.map_append]; rfl) 0 (by omega)
  unfold impl_IdentityColor
  have h' : loopO (fun x => impl_IdentityColor_L0 x.1 x.2) (([] : List Int), 0) = some ((List.range 17).map fun k : Nat => 16 * (k : Int)) := h
  rw [h']; rfl
theorem chanE (n : Nat) (hn : n < 4294967296) : impl_channel (n : Int) 0 = some ((n / 16777216 % 256 : Nat) : Int) ∧ impl_channel (n : Int) 1 = some ((n / 65536 % 256 : Nat) : Int) ∧ impl_channel (n : Int) 2 = some ((n / 256 % 256 : Nat) : Int) ∧ impl_channel (n : Int) 3 = some ((n % 256 : Nat) : Int) := by
  have and_ : ∀ m : Nat, m < 4294967296 → and64 (m : Int) 255 = ((m % 256 : Nat) : Int) := by
    intro m hm
    have := and64_nat (n := m) (m := 255) (by omega) (by omega)
    rw [show (255 : Nat) = 2 ^ 8 - 1 from rfl, Nat.and_two_pow_sub_one_eq_mod] at this
    exact this
  have s0 : shrO (n : Int) (wr (24 - wr (8 * 0))) = some (shr n 24) := rfl
  have s1 : shrO (n : Int) (wr (24 - wr (8 * 1))) = some (shr n 16) := rfl
  have s2 : shrO (n : Int) (wr (24 - wr (8 * 2))) = some (shr n 8) := rfl
  have s3 : shrO (n : Int) (wr (24 - wr (8 * 3))) = some (shr n 0) := rfl
  have e16 : shr (n : Int) 16 = ((n / 65536 : Nat) : Int) := by
    unfold shr
    have e : (2 : Int) ^ (min (Int.toNat 16) 64) = ((65536 : Nat) : Int) := rfl
    rw [e, Int.fdiv_eq_ediv_of_nonneg _ (by omega)]; rfl
  have e8 : shr (n : Int) 8 = ((n / 256 : Nat) : Int) := by
    unfold shr
    have e : (2 : Int) ^ (min (Int.toNat 8) 64) = ((256 : Nat) : Int) := rfl
    rw [e, Int.fdiv_eq_ediv_of_nonneg _ (by omega)]; rfl
  have e0 : shr (n : Int) 0 = (n : Int) := by
    unfold shr
    have e : (2 : Int) ^ (min (Int.toNat 0) 64) = ((1 : Nat) : Int) := rfl
    rw [e, Int.fdiv_eq_ediv_of_nonneg _ (by omega)]; simp
  refine ⟨?_, ?_, ?_, ?_⟩
  · simp only [impl_channel, s0, bnd_s, shr24_nat]; rw [and_ _ (by omega)]
  · simp only [impl_channel, s1, bnd_s, e16]; rw [and_ _ (by omega)]
  · simp only [impl_channel, s2, bnd_s, e8]; rw [and_ _ (by omega)]
  · simp only [impl_channel, s3, bnd_s, e0]; rw [and_ _ (by omega)]
theorem fl_eq (a b : Int) (hb : b = 16 ∨ b = 256) (h0 : 0 ≤ a) (h1 : a ≤ 4611686018427387904) : impl_floorDiv a b = some (a / b) := by
  unfold impl_floorDiv
  have hne : b ≠ 0 := by omega
  rw [quoO_of hne, remO_of hne, bnd_s, bnd_s, Int.tdiv_eq_ediv_of_nonneg h0, Int.tmod_eq_emod_of_nonneg h0]
  have : ¬ a % b < 0 := by rcases hb with rfl | rfl <;> omega
  rw [ifO_neg (by simpa using this)]
  rcases hb with rfl | rfl <;> rw [wr_in (by omega) (by omega)]
theorem mix_id {r g b : Int} (hr : 0 ≤ r ∧ r ≤ 255) (hg : 0 ≤ g ∧ g ≤ 255) (hb : 0 ≤ b ∧ b ≤ 255) : impl_mixRow idC 0 r g b = some r ∧ impl_mixRow idC 1 r g b = some g ∧ impl_mixRow idC 2 r g b = some b := by
  have fin : ∀ x y z v : Int, (x * r + y * g + z * b = 256 * v) → (0 ≤ v ∧ v ≤ 255) → (0 ≤ x * r ∧ x * r ≤ 65280) → (0 ≤ y * g ∧ y * g ≤ 65280) → (0 ≤ z * b ∧ z * b ≤ 65280) →
      (Option.bind (impl_floorDiv (wr ((wr ((wr ((wr (x * r)) + (wr (y * g)))) + (wr (z * b)))) + 128)) 256) fun q => Option.bind (impl_Clamp q 0 255) fun s => some s) = some v := by
    intro x y z v e hv hx hy hz
    rw [wr_in (n := x * r) (by omega) (by omega), wr_in (n := y * g) (by omega) (by omega), wr_in (n := z * b) (by omega) (by omega), wr_in (n := x * r + y * g) (by omega) (by omega), wr_in (n := x * r + y * g + z * b) (by omega) (by omega), wr_in (n := x * r + y * g + z * b + 128) (by omega) (by omega), e]
    rw [fl_eq _ 256 (.inr rfl) (by omega) (by omega), bnd_s]
    unfold impl_Clamp
    rw [ifO_neg (by decide), bnd_s]
    congr 1; omega
  have w0 : wr (3 * 0) = 0 := by rw [wr_in (by omega) (by omega)]; rfl
  have w3 : wr (3 * 1) = 3 := by rw [wr_in (by omega) (by omega)]; rfl
  have w6 : wr (3 * 2) = 6 := by rw [wr_in (by omega) (by omega)]; rfl
  refine ⟨?_, ?_, ?_⟩
  · unfold impl_mixRow
    rw [w0]
    exact fin 256 0 0 r (by omega) hr (by omega) (by omega) (by omega)
  · unfold impl_mixRow
    rw [w3]
    exact fin 0 256 0 g (by omega) hg (by omega) (by omega) (by omega)
  · unfold impl_mixRow
    rw [w6]
    exact fin 0 0 256 b (by omega) hb (by omega) (by omega) (by omega)
theorem curve_id {v : Int} (v0 : 0 ≤ v) (v1 : v ≤ 255) : impl_curveValue idC v = some v := by
  obtain ⟨n, rfl⟩ : ∃ n : Nat, v = n := ⟨v.toNat, by omega⟩
  have e1 : wr (Int.tdiv (n : Int) 16) = ((n / 16 : Nat) : Int) := by
    rw [show (16 : Int) = ((16 : Nat) : Int) from rfl, ← Int.ofNat_tdiv, wr_in (by omega) (by omega)]
  have e2 : Int.tmod (n : Int) 16 = ((n % 16 : Nat) : Int) := by
    rw [show (16 : Int) = ((16 : Nat) : Int) from rfl, ← Int.ofNat_tmod]
  have hat : ∀ k : Nat, k < 17 → idx idC.Curve (k : Int) = some (16 * (k : Int)) := by
    intro k hk
    rw [idx_lt (show k < idC.Curve.length by simpa [idC] using hk)]
    simp [idC]
  simp only [impl_curveValue, e1, e2, wr_succ (show n / 16 < 4611686018427387904 by omega), hat (n / 16) (by omega), hat (n / 16 + 1) (by omega), bnd_s]
  have ed : wr (16 * ((n / 16 + 1 : Nat) : Int) - 16 * ((n / 16 : Nat) : Int)) = 16 := by rw [wr_in (by omega) (by omega)]; omega
  rw [ed, wr_in (n := 16 * ((n % 16 : Nat) : Int)) (by omega) (by omega), fl_eq _ 16 (.inl rfl) (by omega) (by omega), bnd_s, wr_in (by omega) (by omega)]
  congr 1; omega
theorem colored_id {p : Int} (hp : pixOk p = true) : impl_colored idC p = some p := by
  have hp' := inR_t.1 hp
  obtain ⟨n, rfl⟩ : ∃ n : Nat, p = n := ⟨p.toNat, by omega⟩
  obtain ⟨c0, c1, c2, c3⟩ := chanE n (by omega)
  have hr : 0 ≤ ((n / 65536 % 256 : Nat) : Int) ∧ ((n / 65536 % 256 : Nat) : Int) ≤ 255 := by omega
  have hg : 0 ≤ ((n / 256 % 256 : Nat) : Int) ∧ ((n / 256 % 256 : Nat) : Int) ≤ 255 := by omega
  have hb : 0 ≤ ((n % 256 : Nat) : Int) ∧ ((n % 256 : Nat) : Int) ≤ 255 := by omega
  obtain ⟨m0, m1, m2⟩ := mix_id hr hg hb
  have step : ∀ (row o v : Int), row < 3 → impl_mixRow idC row ((n / 65536 % 256 : Nat) : Int) ((n / 256 % 256 : Nat) : Int) ((n % 256 : Nat) : Int) = some v → (0 ≤ v ∧ v ≤ 255) → 0 ≤ o → o ≤ 1099511627776 → impl_colored_L0 idC n o row = some (.inl (o * 256 + v, wr (row + 1))) := by
    intro row o v hrow hm hv o0 o1
    have l1 : decide (row < 3) = true := by simpa using hrow
    simp only [impl_colored_L0, l1, ifO_true, c1, c2, c3, bnd_s, hm, curve_id hv.1 hv.2, or_add2 o0 o1 hv.1 hv.2]
  have w01 : wr (0 + 1) = 1 := by rw [wr_in (by omega) (by omega)]; rfl
  have w12 : wr (1 + 1) = 2 := by rw [wr_in (by omega) (by omega)]; rfl
  have w23 : wr (2 + 1) = 3 := by rw [wr_in (by omega) (by omega)]; rfl
  have i1 := step 0 ((n / 16777216 % 256 : Nat) : Int) _ (by omega) m0 hr (by omega) (by omega)
  have i2 := step 1 (((n / 16777216 % 256 : Nat) : Int) * 256 + ((n / 65536 % 256 : Nat) : Int)) _ (by omega) m1 hg (by omega) (by omega)
  have i3 := step 2 ((((n / 16777216 % 256 : Nat) : Int) * 256 + ((n / 65536 % 256 : Nat) : Int)) * 256 + ((n / 256 % 256 : Nat) : Int)) _ (by omega) m2 hb (by omega) (by omega)
  rw [w01] at i1
  rw [w12] at i2
  rw [w23] at i3
  have hi : loopO (fun x => impl_colored_L0 idC n x.1 x.2) (((n / 16777216 % 256 : Nat) : Int), 0) = some (n : Int) := by
    rw [loopO_inl (f := fun x => impl_colored_L0 idC n x.1 x.2) (s := (((n / 16777216 % 256 : Nat) : Int), 0)) i1]
    rw [loopO_inl (f := fun x => impl_colored_L0 idC n x.1 x.2) (s := (((n / 16777216 % 256 : Nat) : Int) * 256 + ((n / 65536 % 256 : Nat) : Int), 1)) i2]
    rw [loopO_inl (f := fun x => impl_colored_L0 idC n x.1 x.2) (s := ((((n / 16777216 % 256 : Nat) : Int) * 256 + ((n / 65536 % 256 : Nat) : Int)) * 256 + ((n / 256 % 256 : Nat) : Int), 2)) i3]
    have e4 : (((((n / 16777216 % 256 : Nat) : Int) * 256 + ((n / 65536 % 256 : Nat) : Int)) * 256 + ((n / 256 % 256 : Nat) : Int)) * 256 + ((n % 256 : Nat) : Int)) = (n : Int) := by omega
    rw [e4]
    exact loopO_inr rfl
  simp only [impl_colored, c0, bnd_s]
  rw [hi]; rfl
theorem at_ok (code : List Int) (hc : code.length ≤ 1048576) (ho : ∀ y ∈ code, 0 ≤ y ∧ y ≤ 255) (k : Int) (hk : k = 0 ∨ k = 1) : ∃ v, laws_at code k = some v ∧ 0 ≤ v := by
  unfold laws_at
  by_cases h0 : code.length = 0
  · rw [ifO_pos (by simpa using h0)]; exact ⟨0, rfl, by omega⟩
  · rw [ifO_neg (by simpa using h0)]
    have e : wr (wr (k * 5) + 1) = k * 5 + 1 := by rw [wr_in (n := k * 5) (by omega) (by omega), wr_in (by omega) (by omega)]
    rw [e, remO_of (by omega), bnd_s, Int.tmod_eq_emod_of_nonneg (by omega)]
    have m0 := Int.emod_nonneg (k * 5 + 1) (show (code.length : Int) ≠ 0 by omega)
    have m1 := Int.emod_lt_of_pos (k * 5 + 1) (show 0 < (code.length : Int) by omega)
    rw [idx_of m0 m1, bnd_s]
    have := ho _ (List.getElem_mem (show ((k * 5 + 1) % (code.length : Int)).toNat < code.length by omega))
    rw [wr_in (by omega) (by omega)]
    exact ⟨_, rfl, this.1⟩
theorem FnScanned_true (code : List Int) (o : code.length ≤ 9223372036854775807 ∧ ∀ y ∈ code, 0 ≤ y ∧ y ≤ 255) : laws_FnScanned code = some true := by
  unfold laws_FnScanned laws_big
  rw [bnd_s]
  by_cases hbig : 1048576 < code.length
  · rw [ifO_pos (by simp only [decide_eq_true_eq]; omega)]
  · rw [ifO_neg (by simp only [decide_eq_false_iff_not]; omega)]
    have hc : code.length ≤ 1048576 := by omega
    obtain ⟨l, w, h, e1, _, _, ok, sm⟩ := DrawPlanes_ok code hc
    obtain ⟨q, p1, p2, p3⟩ := PlanesOk_eq l w h sm
    rw [ok] at p1
    obtain rfl := Option.some.inj p1
    obtain ⟨W, H, d, rfl, rfl, ⟨w1, w2⟩, ⟨h1, h2⟩, hd, _, s2, hpx⟩ := scanned_eq l w h sm (p3 rfl)
    have hHW : H * W ≤ 16 * 16 := Nat.mul_le_mul h2 w2
    obtain ⟨ya, a1, a2⟩ := at_ok code hc o.2 0 (.inl rfl)
    obtain ⟨xa, a3, a4⟩ := at_ok code hc o.2 1 (.inr rfl)
    obtain ⟨y, hy, hyH⟩ : ∃ y : Nat, remO ya H = some (y : Int) ∧ y < H := by
      have m0 := Int.emod_nonneg ya (show (H : Int) ≠ 0 by omega)
      have m1 := Int.emod_lt_of_pos ya (show 0 < (H : Int) by omega)
      exact ⟨(ya % H).toNat, by rw [remO_of (by omega), Int.tmod_eq_emod_of_nonneg a2]; congr 1; omega, by omega⟩
    obtain ⟨x, hx, hxW⟩ : ∃ x : Nat, remO xa W = some (x : Int) ∧ x < W := by
      have m0 := Int.emod_nonneg xa (show (W : Int) ≠ 0 by omega)
      have m1 := Int.emod_lt_of_pos xa (show 0 < (W : Int) by omega)
      exact ⟨(xa % W).toNat, by rw [remO_of (by omega), Int.tmod_eq_emod_of_nonneg a4]; congr 1; omega, by omega⟩
    have hyw : (y + 1) * W ≤ H * W := Nat.mul_le_mul_right _ (by omega)
    have hyw' := hyw
    rw [Nat.add_mul, Nat.one_mul] at hyw'
    have b1 : wr ((y : Int) * W) = ((y * W : Nat) : Int) := by
      rw [← Int.natCast_mul, wr_in (by omega) (by omega)]
    have b2 : wr ((((y + 1 : Nat)) : Int) * W) = (((y + 1) * W : Nat) : Int) := by
      rw [← Int.natCast_mul, wr_in (by omega) (by omega)]
    have b3 : ∀ k : Nat, k < W → wr (((y * W : Nat) : Int) + (k : Int)) = ((y * W + k : Nat) : Int) := fun k hk => by rw [wr_in (by omega) (by omega)]; omega
    have iny : inR (y : Int) 0 (wr ((H : Int) - 1)) = true := by rw [wr_in (by omega) (by omega)]; exact inR_t.2 (by omega)
    have inx : inR (x : Int) 0 (wr ((W : Int) - 1)) = true := by rw [wr_in (by omega) (by omega)]; exact inR_t.2 (by omega)
    have sb : subO d ((y * W : Nat) : Int) (((y + 1) * W : Nat) : Int) = some ((d.take ((y + 1) * W)).drop (y * W)) := by
      unfold subO
      have l1 : y * W ≤ (y + 1) * W := Nat.mul_le_mul_right _ (by omega)
      rw [if_pos ⟨Int.natCast_nonneg _, Int.ofNat_le.2 l1, Int.ofNat_le.2 (by rw [hd]; exact hyw)⟩, Int.toNat_natCast, Int.toNat_natCast]
    generalize hline : (d.take ((y + 1) * W)).drop (y * W) = line at *
    have hll : line.length = W := by
      rw [← hline, List.length_drop, List.length_take, Nat.min_eq_left (by rw [hd]; exact hyw), Nat.add_mul]; omega
    have hat : ∀ k (hk : k < line.length), line[k] = d[y * W + k]'(by omega) := by
      intro k hk
      have : line[k]? = d[y * W + k]? := by
        rw [← hline, List.getElem?_drop, List.getElem?_take_of_lt (by rw [Nat.add_mul]; omega)]
      rw [List.getElem?_eq_getElem hk, List.getElem?_eq_getElem (by omega)] at this
      exact Option.some.inj this
    -- the whole, a line, dots, a pixel
    have r1 : impl_ScanOut l W H = some (ImageT.mk W H d) := by
      simp only [impl_ScanOut, p2, s2, bnd_s, Bool.not_true, ifO_false]
    have r2 : impl_ScanLine l W H y = some line := by
      simp only [impl_ScanLine, p2, s2, bnd_s, within_eq, iny, orO_some, Bool.not_true, Bool.or_false, ifO_false, wr_succ (show y < 4611686018427387904 by omega), b1, b2, sb]
      rw [slices_Clone_S_int_int, need_t (by omega), bnd_s]
    have key : ∀ k, k < W → ∃ v, ∀ p, d[y * W + k]? = some p → spec_DitherPixel p k y = some v ∧ impl_DitherPixel p k y = some v := by
      intro k hk
      have hlt : y * W + k < d.length := by omega
      obtain ⟨v, v1, v2⟩ := dither_eq (p := d[y * W + k]) (x := k) (y := y) (by omega) (by omega) (by omega) (by omega)
      refine ⟨v, fun p hp => ?_⟩
      rw [List.getElem?_eq_getElem hlt] at hp
      cases hp
      exact ⟨v1, v2⟩
    obtain ⟨v, hv⟩ : ∃ v : Nat → Int, ∀ k, k < W → ∀ p, d[y * W + k]? = some p → spec_DitherPixel p k y = some (v k) ∧ impl_DitherPixel p k y = some (v k) :=
      ⟨fun k => if hk : k < W then Classical.choose (key k hk) else 0, fun k hk => by simp only [dif_pos hk]; exact Classical.choose_spec (key k hk)⟩
    have hcol : impl_ColorOk idC = some true := by
      rw [i_ColorOkL idC (by simp [idC]) (by simp [idC])]; rfl
    have r3 : impl_ScanDots l W H idC y = some ((List.range W).map v) := by
      have f := fillLoop (L := fun q => impl_lineDots_L0 (ImageT.mk W H d) idC y (List.replicate W 0) q.1 q.2) (List.range W) v 0 (by simp; omega) (fun k hk out ho => by
        have hkW : k < W := by simpa using hk
        have hlt : y * W + k < d.length := by omega
        obtain ⟨_, v2⟩ := hv k hkW _ (List.getElem?_eq_getElem hlt)
        show impl_lineDots_L0 (ImageT.mk W H d) idC y (List.replicate W 0) out k = _
        unfold impl_lineDots_L0
        simp only [b1, b3 k hkW]
        have hol : k < out.length := by rw [ho]; simpa using hkW
        rw [ifO_pos (by simp; omega), idx_lt hlt, bnd_s, colored_id (hpx _ (List.getElem_mem hlt)), bnd_s, v2, bnd_s, upd_lt hol, bnd_s, List.getElem_range]) (fun out => by
        show impl_lineDots_L0 (ImageT.mk W H d) idC y (List.replicate W 0) out _ = _
        unfold impl_lineDots_L0
        rw [ifO_neg (by simp)])
      simp only [List.length_range] at f
      simp only [impl_ScanDots, p2, s2, hcol, bnd_s, within_eq, iny, orO_some, Bool.not_true, Bool.or_false, ifO_false, impl_lineDots]
      rw [mkO_nat (show W ≤ 1073741824 by omega), bnd_s, f]; rfl
    have r4 : impl_ScanPixel l W H x y = some (d[y * W + x]'(by omega)) := by
      simp only [impl_ScanPixel, p2, s2, bnd_s, within_eq, inx, iny, orO_some, Bool.not_true, Bool.or_false, ifO_false, b1, b3 x hxW]
      rw [idx_lt (show y * W + x < d.length by omega)]; rfl
    have e0 : wr ((W : Int) * H) = ((H * W : Nat) : Int) := wrWH w2 h2
    have hloop : loopO (fun v0 => laws_FnScanned_L0 W (ImageT.mk W H d) y line ((List.range W).map v) v0) 0 = some (.inl ()) := by
      refine loopO_up (f := fun v0 => laws_FnScanned_L0 W (ImageT.mk W H d) y line ((List.range W).map v) v0) (fun k => (k : Int)) W (.inl ()) ?_ (fun k hk => ?_) 0 (by omega)
      · simp [laws_FnScanned_L0]
      · have hkl : k < line.length := by omega
        have hlt : y * W + k < d.length := by omega
        have hkd : k < ((List.range W).map v).length := by simpa using hk
        obtain ⟨v1, _⟩ := hv k hk _ (List.getElem?_eq_getElem hlt)
        have hvk : ((List.range W).map v)[k] = v k := by simp
        simp only [laws_FnScanned_L0, idx_lt hkl, b1, b3 k hk, idx_lt hlt, idx_lt hkd, bnd_s, hat k hkl, v1, hvk]
        rw [ifO_pos (by simp only [decide_eq_true_eq]; omega), orO_some, bnd_s, ifO_neg (by simp), wr_succ (by omega)]
    simp only [e1, bnd_s, r1, a1, hy, a3, hx, r2, i_Identity, r3, e0, hloop, fork_inl, r4, idx_lt (show x < line.length by omega), hat x (by omega), p2]
    rw [ifO_neg (by simp [hd, hll])]
    simp [andO]
end Go.Proofs.Ytkojfdgljmhmlaa
