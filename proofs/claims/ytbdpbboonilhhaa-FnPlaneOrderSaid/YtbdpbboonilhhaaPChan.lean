/- The channels of a pixel; an opaque pixel over another. -/
import Derived.Test.YtbdpbboonilhhaaPScan
import Derived.Test.YtbdpbboonilhhaaPOr
namespace Go.Proofs.Ytbdpbboonilhhaa
open Go.RowKit K
theorem chanE (n : Nat) (hn : n < 4294967296) : impl_channel (n : Int) 0 = some ((n / 16777216 % 256 : Nat) : Int) ∧ impl_channel (n : Int) 1 = some ((n / 65536 % 256 : Nat) : Int) ∧ impl_channel (n : Int) 2 = some ((n / 256 % 256 : Nat) : Int) ∧ impl_channel (n : Int) 3 = some ((n % 256 : Nat) : Int) := by
  have and_ : ∀ m : Nat, m < 4294967296 → and64 (m : Int) 255 = ((m % 256 : Nat) : Int) := by
    intro m hm
    have := and64_nat (n := m) (m := 255) (by omega) (by omega)
    rw [show (255 : Nat) = 2 ^ 8 - 1 from rfl, Nat.and_two_pow_sub_one_eq_mod] at this
    exact this
  have s0 : shrO (n : Int) (wr (24 - wr (8 * 0))) = some (shr n 24) := rfl
  have s1 : shrO (n : Int) (wr (24 - wr (8 * 1))) = some (shr n 16) := rfl
  have s2 : shrO (n : Int) (wr (24 - wr (8 * 2))) = some (shr n 8) := rfl
  have s3 : shrO (n : Int) (wr (24 - wr (8 * 3))) = some (shr n 0) := rfl
  have e16 : shr (n : Int) 16 = ((n / 65536 : Nat) : Int) := by
    unfold shr
    have e : (2 : Int) ^ (min (Int.toNat 16) 64) = ((65536 : Nat) : Int) := rfl
    rw [e, Int.fdiv_eq_ediv_of_nonneg _ (by omega)]; rfl
  have e8 : shr (n : Int) 8 = ((n / 256 : Nat) : Int) := by
    unfold shr
    have e : (2 : Int) ^ (min (Int.toNat 8) 64) = ((256 : Nat) : Int) := rfl
    rw [e, Int.fdiv_eq_ediv_of_nonneg _ (by omega)]; rfl
  have e0 : shr (n : Int) 0 = (n : Int) := by
    unfold shr
    have e : (2 : Int) ^ (min (Int.toNat 0) 64) = ((1 : Nat) : Int) := rfl
    rw [e, Int.fdiv_eq_ediv_of_nonneg _ (by omega)]; simp
  refine ⟨?_, ?_, ?_, ?_⟩
  · simp only [impl_channel, s0, bnd_s, shr24_nat]; rw [and_ _ (by omega)]
  · simp only [impl_channel, s1, bnd_s, e16]; rw [and_ _ (by omega)]
  · simp only [impl_channel, s2, bnd_s, e8]; rw [and_ _ (by omega)]
  · simp only [impl_channel, s3, bnd_s, e0]; rw [and_ _ (by omega)]
theorem opq_ge {p : Int} (h0 : 4278190080 ≤ p) (h1 : p ≤ 4294967295) : opq p = true := by
  obtain ⟨n, rfl⟩ : ∃ n : Nat, p = n := ⟨p.toNat, by omega⟩
  unfold opq pixOk
  have e : inR (n : Int) 0 4294967295 = true := inR_t.2 (by omega)
  have hd : n / 16777216 = 255 := by omega
  rw [e, shr24_nat, hd]; rfl
theorem opq_in {p : Int} (h : opq p = true) : 4278190080 ≤ p ∧ p ≤ 4294967295 := by
  unfold opq at h
  rw [Bool.and_eq_true, decide_eq_true_eq] at h
  have h0 := inR_t.1 h.1
  obtain ⟨n, rfl⟩ : ∃ n : Nat, p = n := ⟨p.toNat, by omega⟩
  have h2 := h.2
  rw [shr24_nat] at h2
  have ha := and64_nat (n := n / 16777216) (m := 255) (by omega) (by omega)
  have ha' : and64 ((n / 16777216 : Nat) : Int) 255 = ((n / 16777216 &&& 255 : Nat) : Int) := ha
  rw [ha', show (255 : Nat) = 2 ^ 8 - 1 from rfl, Nat.and_two_pow_sub_one_eq_mod] at h2
  omega
theorem ov_opaque {t b : Int} (ht : pixOk t = true) (hb : pixOk b = true) : opq (ov t b) = true := by
  have h := (Classical.choose_spec (Over_eq t b)).2.2 ht hb
  exact opq_ge h.2.1 (inR_t.1 h.1).2
theorem ov_top {t b : Int} (ht : opq t = true) (hb : pixOk b = true) : ov t b = t := by
  obtain ⟨h0, h1⟩ := opq_in ht
  obtain ⟨n, rfl⟩ : ∃ n : Nat, t = n := ⟨t.toNat, by omega⟩
  have hp : pixOk (n : Int) = true := inR_t.2 (by omega)
  obtain ⟨e0, e1, e2, e3⟩ := chanE n (by omega)
  have hd : n / 16777216 % 256 = 255 := by omega
  rw [hd] at e0
  have h := ((Classical.choose_spec (Over_eq (n : Int) b)).2.2 hp hb).2.2 e0 _ _ _ e1 e2 e3
  show Classical.choose (Over_eq (n : Int) b) = _
  rw [h]
  omega
end Go.Proofs.Ytbdpbboonilhhaa
