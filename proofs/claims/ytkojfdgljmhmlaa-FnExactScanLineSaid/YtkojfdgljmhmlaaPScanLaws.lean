/- The laws about pixels, lines and pictures of planes. -/
import Derived.Test.YtkojfdgljmhmlaaPScan
namespace Go.Proofs.Ytkojfdgljmhmlaa
open Go.RowKit K
theorem ngs (m : Nat) : ¬ (1 + (m : Int) < 0) := by omega
theorem ScanPixel_eq (list : List PlaneT) (w h x y : Int) (hs : smPlaneS list) : ∃ r, spec_ScanPixel list w h x y = some r ∧ impl_ScanPixel list w h x y = some r := by
  obtain ⟨b, e1, e2, e3⟩ := PlanesOk_eq list w h hs
  simp only [spec_ScanPixel, impl_ScanPixel, e1, e2, bnd_s, within_eq, orO_some]
  cases b with
  | false => exact ⟨_, rfl, rfl⟩
  | true =>
    obtain ⟨W, H, d, rfl, rfl, ⟨w1, w2⟩, ⟨h1, h2⟩, hd, s1, s2⟩ := scanned_eq list w h hs (e3 rfl)
    have hHW : H * W ≤ 16 * 16 := Nat.mul_le_mul h2 w2
    simp only [s1, s2, bnd_s, Bool.not_true, ifO_false, Bool.false_or, spec_l05At]
    rw [wr_in (n := (W : Int) - 1) (by omega) (by omega), wr_in (n := (H : Int) - 1) (by omega) (by omega)]
    have hq : (!inR x 0 ((W : Int) - 1) || !inR y 0 ((H : Int) - 1)) = (decide (x < 0) || decide ((W : Int) ≤ x) || decide (y < 0) || decide ((H : Int) ≤ y)) := by
      rw [Bool.eq_iff_iff]
      simp only [Bool.or_eq_true, Bool.not_eq_true', inR_f, decide_eq_true_eq]
      omega
    rw [hq]
    cases hc : (decide (x < 0) || decide ((W : Int) ≤ x) || decide (y < 0) || decide ((H : Int) ≤ y)) with
    | true => exact ⟨_, rfl, rfl⟩
    | false =>
      simp only [Bool.or_eq_false_iff, decide_eq_false_iff_not] at hc
      obtain ⟨x, rfl⟩ : ∃ n : Nat, x = n := ⟨x.toNat, by omega⟩
      obtain ⟨y, rfl⟩ : ∃ n : Nat, y = n := ⟨y.toNat, by omega⟩
      have hyw : (y + 1) * W ≤ H * W := Nat.mul_le_mul_right _ (by omega)
      rw [Nat.add_mul, Nat.one_mul] at hyw
      have e : wr (wr ((y : Int) * W) + x) = ((y * W + x : Nat) : Int) := by
        rw [← Int.natCast_mul, wr_in (n := ((y * W : Nat) : Int)) (by omega) (by omega), wr_in (by omega) (by omega)]; omega
      rw [e, idx_lt (show y * W + x < d.length by omega)]
      exact ⟨_, rfl, rfl⟩
theorem ScanLine_eq (list : List PlaneT) (w h y : Int) (hs : smPlaneS list) : ∃ r, spec_ScanLine list w h y = some r ∧ impl_ScanLine list w h y = some r ∧ r.length ≤ 256 := by
  obtain ⟨b, e1, e2, e3⟩ := PlanesOk_eq list w h hs
  simp only [spec_ScanLine, impl_ScanLine, e1, e2, bnd_s, l01In_eq, within_eq, orO_some]
  cases hc : (!b || !inR y 0 (wr (h - 1))) with
  | true => exact ⟨[], rfl, rfl, by simp⟩
  | false =>
    have hb : b = true ∧ inR y 0 (wr (h - 1)) = true := by
      revert hc; cases b <;> simp
    obtain ⟨rfl, hy⟩ := hb
    obtain ⟨W, H, d, rfl, rfl, ⟨w1, w2⟩, ⟨h1, h2⟩, hd, s1, s2⟩ := scanned_eq list w h hs (e3 rfl)
    have hHW : H * W ≤ 16 * 16 := Nat.mul_le_mul h2 w2
    rw [wr_in (n := (H : Int) - 1) (by omega) (by omega), inR_t] at hy
    obtain ⟨y, rfl⟩ : ∃ n : Nat, y = n := ⟨y.toNat, by omega⟩
    have hyw : (y + 1) * W ≤ H * W := Nat.mul_le_mul_right _ (by omega)
    have hyw' := hyw
    rw [Nat.add_mul, Nat.one_mul] at hyw'
    have a1 : wr ((y : Int) * W) = ((y * W : Nat) : Int) := by
      rw [← Int.natCast_mul, wr_in (by omega) (by omega)]
    have a2 : wr (((y * W : Nat) : Int) + W) = (((y + 1) * W : Nat) : Int) := by
      rw [wr_in (by omega) (by omega), Nat.add_mul]; omega
    have a3 : wr ((((y + 1 : Nat)) : Int) * W) = (((y + 1) * W : Nat) : Int) := by
      rw [← Int.natCast_mul, wr_in (by omega) (by omega)]
    have sb : subO d ((y * W : Nat) : Int) (((y + 1) * W : Nat) : Int) = some ((d.take ((y + 1) * W)).drop (y * W)) := by
      unfold subO
      have l1 : y * W ≤ (y + 1) * W := Nat.mul_le_mul_right _ (by omega)
      rw [if_pos ⟨Int.natCast_nonneg _, Int.ofNat_le.2 l1, Int.ofNat_le.2 (by rw [hd]; exact hyw)⟩, Int.toNat_natCast, Int.toNat_natCast]
    have hl : ((d.take ((y + 1) * W)).drop (y * W)).length ≤ 256 := by
      rw [List.length_drop, List.length_take]; omega
    simp only [s1, s2, bnd_s, ifO_false, wr_succ (show y < 4611686018427387904 by omega), a1, a2, a3, sb]
    refine ⟨_, ?_, ?_, hl⟩
    · rw [app_le (by simp only [List.length_nil]; omega)]; rfl
    · rw [slices_Clone_S_int_int, need_t (by omega), bnd_s]
theorem ScanOut_eq (list : List PlaneT) (w h : Int) (hs : smPlaneS list) : ∃ r, spec_ScanOut list w h = some r ∧ impl_ScanOut list w h = some r ∧ r.Data.length ≤ 256 := by
  obtain ⟨b, e1, e2, e3⟩ := PlanesOk_eq list w h hs
  simp only [spec_ScanOut, impl_ScanOut, e1, e2, bnd_s]
  cases b with
  | false => exact ⟨zeroImg, rfl, rfl, by simp [zeroImg]⟩
  | true =>
    obtain ⟨W, H, d, rfl, rfl, ⟨w1, w2⟩, ⟨h1, h2⟩, hd, s1, s2⟩ := scanned_eq list w h hs (e3 rfl)
    have hHW : H * W ≤ 16 * 16 := Nat.mul_le_mul h2 w2
    simp only [s1, s2, bnd_s, Bool.not_true, ifO_false]
    exact ⟨_, rfl, rfl, by show d.length ≤ 256; omega⟩
theorem FnExactScanPixel_true (l : List PlaneT) (w h x y : Int) (o : l.length ≤ 9223372036854775807 ∧ ∀ y ∈ l, okPlane y) (_ : I64 w) (_ : I64 h) (_ : I64 x) (_ : I64 y) : laws_FnExactScanPixel l w h x y = some true := by
  obtain ⟨v, hv, _, hb⟩ := szPlaneS_ok l o 1048576 (by decide) (by decide)
  simp only [laws_FnExactScanPixel, hv, bnd_s]
  by_cases hneg : v < 0
  · rw [ifO_pos (by simpa using hneg)]
  · have hs := hb (by omega)
    rw [ifO_neg (by simpa using hneg)]
    obtain ⟨r, h1, h2⟩ := ScanPixel_eq l w h x y hs
    simp [toPlaneS_eq l hs, h1, h2, eqPlaneS_self l hs]
theorem FnExactScanLine_true (l : List PlaneT) (w h y : Int) (o : l.length ≤ 9223372036854775807 ∧ ∀ y ∈ l, okPlane y) (_ : I64 w) (_ : I64 h) (_ : I64 y) : laws_FnExactScanLine l w h y = some true := by
  obtain ⟨v, hv, _, hb⟩ := szPlaneS_ok l o 1048576 (by decide) (by decide)
  simp only [laws_FnExactScanLine, hv, bnd_s]
  by_cases hneg : v < 0
  · rw [ifO_pos (by simpa using hneg)]
  · have hs := hb (by omega)
    rw [ifO_neg (by simpa using hneg)]
    obtain ⟨r, h1, h2, h3⟩ := ScanLine_eq l w h y hs
    have hr : smIntS r := show r.length ≤ 1048576 by omega
    have b1 := nPlaneS_le hs
    have b2 := nIntS_le hr
    obtain ⟨y0, a0⟩ := mkPlaneS l hs 1 (by decide) (by omega)
    obtain ⟨y1, a1, d1⟩ := mhIntS r hr 1 (by decide) (by omega)
    simp [toPlaneS_eq l hs, h1, h2, eqPlaneS_self l hs, eqIntS_self r hr, a0, a1, d1, ngs, orO]
theorem FnExactScanOut_true (l : List PlaneT) (w h : Int) (o : l.length ≤ 9223372036854775807 ∧ ∀ y ∈ l, okPlane y) (_ : I64 w) (_ : I64 h) : laws_FnExactScanOut l w h = some true := by
  obtain ⟨v, hv, _, hb⟩ := szPlaneS_ok l o 1048576 (by decide) (by decide)
  simp only [laws_FnExactScanOut, hv, bnd_s]
  by_cases hneg : v < 0
  · rw [ifO_pos (by simpa using hneg)]
  · have hs := hb (by omega)
    rw [ifO_neg (by simpa using hneg)]
    obtain ⟨r, h1, h2, h3⟩ := ScanOut_eq l w h hs
    have hr : smImage r := show r.Data.length ≤ 1048576 by omega
    have b1 := nPlaneS_le hs
    have b2 := nIntS_le (show smIntS r.Data from hr)
    obtain ⟨y0, a0⟩ := mkPlaneS l hs 1 (by decide) (by omega)
    obtain ⟨y1, a1, d1⟩ := mhIntS r.Data hr 1 (by decide) (by omega)
    simp [toPlaneS_eq l hs, h1, h2, eqPlaneS_self l hs, eqImage_self r hr, laws_markImage, laws_heldImage, a0, a1, d1, ngs, orO]
end Go.Proofs.Ytkojfdgljmhmlaa
