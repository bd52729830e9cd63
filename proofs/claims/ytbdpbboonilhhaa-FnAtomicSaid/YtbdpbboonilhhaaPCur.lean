/- What the cursor draws: bytes, numbers below another one, one of a list. -/
import Derived.Test.YtbdpbboonilhhaaPBase
namespace Go.Proofs.Ytbdpbboonilhhaa
open Go.RowKit K
theorem loopO_inv {S R : Type} {f : S → Option (S ⊕ R)} (I : S → Prop) (m : S → Nat) (Q : R → Prop)
    (h : ∀ s, I s → (∃ s', f s = some (.inl s') ∧ I s' ∧ m s' < m s) ∨ ∃ r, f s = some (.inr r) ∧ Q r) : ∀ s, I s → ∃ r, loopO f s = some r ∧ Q r := by
  have : ∀ n s, m s < n → I s → ∃ r, loopO f s = some r ∧ Q r := by
    intro n
    induction n with
    | zero => intro s hs; omega
    | succ n ih =>
      intro s hs hI
      rcases h s hI with ⟨s', h1, h2, h3⟩ | ⟨r, h1, h2⟩
      · rw [loopO_inl h1]; exact ih s' (by omega) h2
      · exact ⟨r, loopO_inr h1, h2⟩
  exact fun s hs => this _ s (Nat.lt_succ_self _) hs
theorem and255' (x : Int) : 0 ≤ and64 x 255 ∧ and64 x 255 ≤ 255 := by
  unfold and64
  have h : (BitVec.ofInt 64 x &&& BitVec.ofInt 64 255).toNat ≤ 255 := by
    rw [BitVec.toNat_and]
    exact Nat.and_le_right
  rw [wr_in (by omega) (by omega)]
  omega
section Draw
variable (b : List Int) (hb : b.length ≤ 1048576)
include hb
theorem byte_ok (i h : Int) (hi : 0 ≤ i) : ∃ r i' h', spec_l01Byte (L01CurT.mk b i h) = some (r, L01CurT.mk b i' h') ∧ 0 ≤ r ∧ r ≤ 255 ∧ 0 ≤ i' := by
  unfold spec_l01Byte
  by_cases hl : i < b.length
  · rw [ifO_pos (by simpa using hl)]
    obtain ⟨n, rfl⟩ : ∃ n : Nat, i = n := ⟨i.toNat, by omega⟩
    have hn : n < b.length := by omega
    simp only [idx_lt hn, bnd_s, wr_succ (show n < 4611686018427387904 by omega)]
    exact ⟨_, _, _, rfl, (and255' _).1, (and255' _).2, by omega⟩
  · rw [ifO_neg (by simpa using hl)]
    exact ⟨_, _, _, rfl, (and255' _).1, (and255' _).2, hi⟩
theorem below_ok (i h n : Int) (hi : 0 ≤ i) (h1 : 1 ≤ n) (h2 : n ≤ 256) : ∃ r i' h', spec_l01Below (L01CurT.mk b i h) n = some (r, L01CurT.mk b i' h') ∧ 0 ≤ r ∧ r < n ∧ 0 ≤ i' := by
  obtain ⟨r, i', h', e, r0, r1, hi'⟩ := byte_ok b hb i h hi
  unfold spec_l01Below
  rw [ifO_neg (by simp; omega), ifO_pos (by simpa using h2), e]
  simp only [bnd_s, remO_of (show n ≠ 0 by omega)]
  refine ⟨_, _, _, rfl, ?_, ?_, hi'⟩
  · rw [Int.tmod_eq_emod_of_nonneg r0]; exact Int.emod_nonneg _ (by omega)
  · rw [Int.tmod_eq_emod_of_nonneg r0]; exact Int.emod_lt_of_pos _ (by omega)
theorem pick_ok (i h : Int) (list : List Int) (hi : 0 ≤ i) (h1 : 1 ≤ list.length) (h2 : list.length ≤ 256) : ∃ v i' h', spec_l01PickInt (L01CurT.mk b i h) list = some (v, L01CurT.mk b i' h') ∧ v ∈ list ∧ 0 ≤ i' := by
  obtain ⟨r, i', h', e, r0, r1, hi'⟩ := below_ok b hb i h (list.length : Int) hi (by omega) (by omega)
  unfold spec_l01PickInt
  rw [e]
  simp only [bnd_s, idx_of r0 r1]
  exact ⟨_, _, _, rfl, List.getElem_mem _, hi'⟩
omit hb in
theorem new_ok : ∃ g, spec_l01New b = some (L01CurT.mk b 0 g) := by
  have key : ∀ (j k : Nat) (g : Int), k + j = b.length → ∃ g', loopO (fun (h, i) => spec_l01New_L0 b h i) (g, (k : Int)) = some g' := by
    intro j
    induction j with
    | zero =>
      intro k g hk
      have : k = b.length := by omega
      subst this
      refine ⟨g, loopO_inr ?_⟩
      show spec_l01New_L0 b g _ = _
      unfold spec_l01New_L0
      rw [ifO_neg (by simp)]
    | succ j ih =>
      intro k g hk
      by_cases h4 : k < 4000
      · have hs : spec_l01New_L0 b g k = some (.inl (and64 (wr (wr (wr (g * 131) + wr (b[k]'(by omega))) + 7)) 1073741823, ((k + 1 : Nat) : Int))) := by
          unfold spec_l01New_L0
          rw [ifO_pos (by simp; omega), idx_lt (show k < b.length by omega), bnd_s, wr_succ (by omega)]
        rw [@loopO_inl _ _ (fun (h, i) => spec_l01New_L0 b h i) (g, (k : Int)) _ hs]
        exact ih (k + 1) _ (by omega)
      · refine ⟨g, loopO_inr ?_⟩
        show spec_l01New_L0 b g k = _
        unfold spec_l01New_L0
        rw [ifO_neg (by simp; omega)]
  obtain ⟨g', hg⟩ := key b.length 0 (wr (33137 + (b.length : Int))) (by omega)
  exact ⟨g', by unfold spec_l01New; simp only [] at hg; rw [show ((0 : Nat) : Int) = 0 from rfl] at hg; rw [hg]; rfl⟩
end Draw
end Go.Proofs.Ytbdpbboonilhhaa
