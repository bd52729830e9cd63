/- Or, of numbers that are not negative. -/
import Derived.Test.YtbdpbboonilhhaaPPixel
namespace Go.Proofs.Ytbdpbboonilhhaa
open Go.RowKit K
theorem and64_nat {n m : Nat} (hn : n < 9223372036854775808) (hm : m < 9223372036854775808) : and64 (n : Int) (m : Int) = ((n &&& m : Nat) : Int) := by
  unfold and64
  have t1 : (BitVec.ofInt 64 (n : Int)).toNat = n := by
    rw [BitVec.ofInt_natCast, BitVec.toNat_ofNat, Nat.mod_eq_of_lt (by omega)]
  have t2 : (BitVec.ofInt 64 (m : Int)).toNat = m := by
    rw [BitVec.ofInt_natCast, BitVec.toNat_ofNat, Nat.mod_eq_of_lt (by omega)]
  have := Nat.and_le_left (n := n) (m := m)
  rw [BitVec.toNat_and, t1, t2, wr_in (by omega) (by omega)]
theorem or64_nat {n m : Nat} (hn : n < 4294967296) (hm : m < 4294967296) : or64 (n : Int) (m : Int) = ((n ||| m : Nat) : Int) ∧ n ||| m < 4294967296 := by
  unfold or64
  have t1 : (BitVec.ofInt 64 (n : Int)).toNat = n := by
    rw [BitVec.ofInt_natCast, BitVec.toNat_ofNat, Nat.mod_eq_of_lt (by omega)]
  have t2 : (BitVec.ofInt 64 (m : Int)).toNat = m := by
    rw [BitVec.ofInt_natCast, BitVec.toNat_ofNat, Nat.mod_eq_of_lt (by omega)]
  have h : n ||| m < 2 ^ 32 := Nat.or_lt_two_pow (by omega) (by omega)
  rw [BitVec.toNat_or, t1, t2, wr_in (by omega) (by omega)]
  exact ⟨rfl, by omega⟩
theorem shr24_nat (n : Nat) : shr (n : Int) 24 = ((n / 16777216 : Nat) : Int) := by
  unfold shr
  have e : (2 : Int) ^ (min (Int.toNat 24) 64) = ((16777216 : Nat) : Int) := rfl
  rw [e, Int.fdiv_eq_ediv_of_nonneg _ (by omega)]
  rfl
theorem opq_or {p : Int} (hp : pixOk p = true) : pixOk (or64 p 4278190080) = true ∧ opq (or64 p 4278190080) = true := by
  have hp' := inR_t.1 hp
  obtain ⟨n, rfl⟩ : ∃ n : Nat, p = n := ⟨p.toNat, by omega⟩
  obtain ⟨e, hlt⟩ := or64_nat (n := n) (m := 4278190080) (by omega) (by omega)
  have e' : or64 (n : Int) 4278190080 = ((n ||| 4278190080 : Nat) : Int) := e
  rw [e']
  have h1 : pixOk ((n ||| 4278190080 : Nat) : Int) = true := inR_t.2 (by omega)
  refine ⟨h1, ?_⟩
  unfold opq
  rw [h1, shr24_nat]
  have hd : (n ||| 4278190080) / 16777216 = n / 16777216 ||| 255 := by
    have := Nat.shiftRight_or_distrib (a := n) (b := 4278190080) (i := 24)
    rw [Nat.shiftRight_eq_div_pow, Nat.shiftRight_eq_div_pow, Nat.shiftRight_eq_div_pow] at this
    exact this
  have hlt2 : n / 16777216 ||| 255 < 9223372036854775808 := by rw [← hd]; omega
  have ha := and64_nat (n := n / 16777216 ||| 255) (m := 255) hlt2 (by omega)
  have hv : (n / 16777216 ||| 255) &&& 255 = 255 := by
    apply Nat.eq_of_testBit_eq
    intro j
    rw [Nat.testBit_and, Nat.testBit_or]
    cases Nat.testBit (n / 16777216) j <;> cases Nat.testBit 255 j <;> rfl
  rw [hd]
  rw [hv] at ha
  have ha' : and64 ((n / 16777216 ||| 255 : Nat) : Int) 255 = 255 := ha
  rw [ha']; rfl
end Go.Proofs.Ytbdpbboonilhhaa
