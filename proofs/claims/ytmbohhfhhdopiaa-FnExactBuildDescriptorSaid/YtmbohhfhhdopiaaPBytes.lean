/- Strings as lists of bytes. -/
import Derived.Test.YtmbohhfhhdopiaaPBase
import Derived.Laws.IdiomStrings
namespace Go.Proofs.Ytmbohhfhhdopiaa
open Go.RowKit K
theorem b8_eq (n : Int) : b8 n = n % 256 := by
  unfold b8
  simp [IntKind.wrap, IntKind.signed, IntKind.bits]
theorem b8_in (n : Int) : 0 ≤ b8 n ∧ b8 n ≤ 255 := by rw [b8_eq]; omega
theorem b8_id {n : Int} (h : 0 ≤ n ∧ n ≤ 255) : b8 n = n := by rw [b8_eq]; omega
theorem bytesL_in {s : ByteArray} : ∀ v ∈ bytesL s, 0 ≤ v ∧ v ≤ 255 := by
  intro v hv
  obtain ⟨b, _, rfl⟩ := List.mem_map.1 hv
  have := b.toNat_lt
  omega
theorem strB_map (l : List UInt8) : strB (l.map fun b => (b.toNat : Int)) = ⟨l.toArray⟩ := by
  unfold strB
  rw [foldl_push_byteCells]
  have he0 : ByteArray.empty.data = #[] := rfl
  rw [he0]; simp
theorem strB_bytesL (s : ByteArray) : strB (bytesL s) = s := by
  unfold bytesL
  rw [strB_map]
theorem bytesL_strB {xs : List Int} (h : ∀ v ∈ xs, 0 ≤ v ∧ v ≤ 255) : bytesL (strB xs) = xs := by
  have e : xs = (xs.map fun v => UInt8.ofNat v.toNat).map fun b => (b.toNat : Int) := by
    rw [List.map_map]
    conv => lhs; rw [← List.map_id xs]
    refine List.map_congr_left fun v hv => ?_
    have := h v hv
    simp only [id, Function.comp, UInt8.toNat_ofNat']
    omega
  rw [e, strB_map]
  simp [bytesL]
theorem bytesL_inj {s t : ByteArray} (h : bytesL s = bytesL t) : s = t := by rw [← strB_bytesL s, h, strB_bytesL]
theorem bytesL_at {s : ByteArray} {k : Nat} (h : k < s.size) : (bytesL s)[k]? = some ((s[k]!).toNat : Int) := by
  unfold bytesL
  rw [List.getElem?_map, Array.getElem?_toList, Array.getElem?_eq_getElem (show k < s.data.size from h)]
  have : s[k]! = s.data[k]'h := by
    rw [getElem!_pos s k h]; rfl
  rw [this]; rfl
theorem sidx_idx (s : ByteArray) (i : Int) : sidx s i = idx (bytesL s) i := by
  unfold sidx idx
  by_cases h : 0 ≤ i ∧ i < s.size
  · rw [if_pos h, if_pos h.1, bytesL_at (by omega)]
  · rw [if_neg h]
    by_cases h0 : 0 ≤ i
    · rw [if_pos h0, List.getElem?_eq_none (by rw [bytesL_length]; omega)]
    · rw [if_neg h0]
theorem ssub_bytes {s : ByteArray} {lo hi : Int} (h : 0 ≤ lo ∧ lo ≤ hi ∧ hi ≤ s.size) : ∃ t, ssub s lo hi = some t ∧ bytesL t = ((bytesL s).take hi.toNat).drop lo.toNat := by
  refine ⟨_, if_pos h, ?_⟩
  unfold bytesL
  rw [ByteArray.data_extract]
  simp [List.map_take, List.map_drop, List.drop_take]
theorem sapp_bytes {s t : ByteArray} (h : s.size + t.size ≤ 1073741824) : ∃ u, sapp s t = some u ∧ bytesL u = bytesL s ++ bytesL t := by
  refine ⟨_, if_pos h, ?_⟩
  unfold bytesL
  rw [ByteArray.data_append]
  simp
/-- What the bytes sum up to. -/
theorem i_ByteSum (s : ByteArray) (h : s.size ≤ 10000000) : impl_ByteSum s = some ((bytesL s).sum % 256) := by
  have bound : ∀ k, k ≤ (bytesL s).length → 0 ≤ ((bytesL s).take k).sum ∧ ((bytesL s).take k).sum ≤ 255 * k := by
    intro k
    induction k with
    | zero => intro _; simp
    | succ k ih =>
      intro hk
      have h1 := ih (by omega)
      have h2 := bytesL_in _ (List.getElem_mem (show k < (bytesL s).length by omega))
      rw [List.take_add_one, List.getElem?_eq_getElem (show k < (bytesL s).length by omega), List.sum_append]
      simp only [Option.toList_some, List.sum_cons, List.sum_nil]
      omega
  have hl := bytesL_length s
  have := loopO_up (f := fun (q : Int × Int) => impl_ByteSum_L0 s q.1 q.2) (fun k => (((bytesL s).take k).sum, (k : Int))) (bytesL s).length (bytesL s).sum (by simp only [List.take_length]; simp [impl_ByteSum_L0, hl]) (fun k hk => by
    have h1 := bound k (by omega)
    have h2 := bytesL_in _ (List.getElem_mem hk)
    have h3 : ((bytesL s).take (k + 1)).sum = ((bytesL s).take k).sum + (bytesL s)[k] := by
      rw [List.take_add_one, List.getElem?_eq_getElem hk, List.sum_append]; simp
    simp only [impl_ByteSum_L0, sidx_idx, idx_lt hk, bnd_s]
    rw [ifO_pos (by simp; omega), wr_succ (by omega), wr_in (n := (bytesL s)[k]) (by omega) (by omega), wr_in (by omega) (by omega), h3]) 0 (by omega)
  have h' : loopO (fun (n_0, v_0) => impl_ByteSum_L0 s n_0 v_0) (0, 0) = some (bytesL s).sum := by simpa using this
  have hb := bound (bytesL s).length (Nat.le_refl _)
  rw [List.take_length] at hb
  rw [impl_ByteSum, h', bnd_s, Int.tmod_eq_emod_of_nonneg hb.1]
theorem s_ByteSum (s : ByteArray) (h : s.size ≤ 10000000) : spec_ByteSum s = some ((bytesL s).sum % 256) := by
  have hl := bytesL_length s
  have := loopO_up (f := fun (q : Int × Int) => spec_ByteSum_L0 s q.1 q.2) (fun k => (((bytesL s).take k).sum % 256, (k : Int))) (bytesL s).length ((bytesL s).sum % 256) (by simp only [List.take_length]; simp [spec_ByteSum_L0, hl]) (fun k hk => by
    have h2 := bytesL_in _ (List.getElem_mem hk)
    have h3 : ((bytesL s).take (k + 1)).sum = ((bytesL s).take k).sum + (bytesL s)[k] := by
      rw [List.take_add_one, List.getElem?_eq_getElem hk, List.sum_append]; simp
    simp only [spec_ByteSum_L0, sidx_idx, idx_lt hk, bnd_s]
    rw [ifO_pos (by simp; omega), wr_succ (by omega), wr_in (n := (bytesL s)[k]) (by omega) (by omega), wr_in (by omega) (by omega), h3, Int.tmod_eq_emod_of_nonneg (by omega), show (((bytesL s).take k).sum % 256 + (bytesL s)[k]) % 256 = (((bytesL s).take k).sum + (bytesL s)[k]) % 256 by omega]) 0 (by omega)
  have h' : loopO (fun (n_0, k_0) => spec_ByteSum_L0 s n_0 k_0) (0, 0) = some ((bytesL s).sum % 256) := by simpa using this
  rw [spec_ByteSum, h', bnd_s]
end Go.Proofs.Ytmbohhfhhdopiaa
