/- Images that are valid. -/
import Derived.Test.YtbdpbboonilhhaaPImage
namespace Go.Proofs.Ytbdpbboonilhhaa
open Go.RowKit K
theorem mul_in {a b m n : Int} (a0 : 0 ≤ a) (a1 : a ≤ m) (b0 : 0 ≤ b) (b1 : b ≤ n) : 0 ≤ a * b ∧ a * b ≤ m * n :=
  ⟨Int.mul_nonneg a0 b0, Int.mul_le_mul a1 b1 b0 (by omega)⟩
def zeroImg : ImageT := ImageT.mk 0 0 []
theorem imgOk_in {i : ImageT} (h : imgOk i = true) : (1 ≤ i.W ∧ i.W ≤ 16) ∧ (1 ≤ i.H ∧ i.H ≤ 16) ∧ (i.Data.length : Int) = i.W * i.H ∧ ∀ p ∈ i.Data, pixOk p = true := by
  unfold imgOk at h
  simp only [Bool.and_eq_true, inR_t, decide_eq_true_eq] at h
  obtain ⟨⟨⟨⟨w1, w2⟩, h1, h2⟩, hd⟩, hp⟩ := h
  have hm := mul_in (a := i.W) (b := i.H) (m := 16) (n := 16) (by omega) w2 (by omega) h2
  rw [wr_in (by omega) (by omega)] at hd
  exact ⟨⟨w1, w2⟩, ⟨h1, h2⟩, hd, fun p hp' => List.all_eq_true.1 hp p hp'⟩
theorem imgOk_le {i : ImageT} (h : imgOk i = true) : i.Data.length ≤ 256 := by
  obtain ⟨⟨w1, w2⟩, ⟨h1, h2⟩, hd, _⟩ := imgOk_in h
  have hm := mul_in (a := i.W) (b := i.H) (m := 16) (n := 16) (by omega) w2 (by omega) h2
  omega
theorem wrWH {W H : Nat} (w2 : W ≤ 16) (h2 : H ≤ 16) : wr ((W : Int) * H) = ((H * W : Nat) : Int) := by
  have hHW : H * W ≤ 16 * 16 := Nat.mul_le_mul h2 w2
  have e : (W : Int) * H = ((H * W : Nat) : Int) := by rw [Nat.mul_comm, Int.natCast_mul]
  rw [e, wr_in (by omega) (by omega)]
end Go.Proofs.Ytbdpbboonilhhaa
