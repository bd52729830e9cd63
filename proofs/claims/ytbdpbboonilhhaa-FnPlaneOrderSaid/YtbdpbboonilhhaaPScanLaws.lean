/- The laws about pixels, lines and pictures of planes. -/
import Derived.Test.YtbdpbboonilhhaaPScan
namespace Go.Proofs.Ytbdpbboonilhhaa
open Go.RowKit K
theorem ngs (m : Nat) : ¬ (1 + (m : Int) < 0) := by omega
theorem ScanOut_eq (list : List PlaneT) (w h : Int) (hs : smPlaneS list) : ∃ r, spec_ScanOut list w h = some r ∧ impl_ScanOut list w h = some r ∧ r.Data.length ≤ 256 := by
  obtain ⟨b, e1, e2, e3⟩ := PlanesOk_eq list w h hs
  simp only [spec_ScanOut, impl_ScanOut, e1, e2, bnd_s]
  cases b with
  | false => exact ⟨zeroImg, rfl, rfl, by simp [zeroImg]⟩
  | true =>
    obtain ⟨W, H, d, rfl, rfl, ⟨w1, w2⟩, ⟨h1, h2⟩, hd, s1, s2, _⟩ := scanned_eq list w h hs (e3 rfl)
    have hHW : H * W ≤ 16 * 16 := Nat.mul_le_mul h2 w2
    simp only [s1, s2, bnd_s, Bool.not_true, ifO_false]
    exact ⟨_, rfl, rfl, by show d.length ≤ 256; omega⟩
end Go.Proofs.Ytbdpbboonilhhaa
