/- A monitor can be read from its descriptor, and no changed byte passes. -/
import Derived.Test.YtmbohhfhhdopiaaPDescr
namespace Go.Proofs.Ytmbohhfhhdopiaa
open Go.RowKit K
theorem build_sum (m : MonitorT) : (build m).sum % 256 = 0 := by
  unfold build
  rw [List.sum_append, List.sum_cons, List.sum_nil, b8_eq]
  omega
theorem xor8_in (a d : Int) : 0 ≤ xor8 a d ∧ xor8 a d ≤ 255 := b8_in _
theorem xor8_ne {a d : Int} (ha : 0 ≤ a ∧ a ≤ 255) (hd : 1 ≤ d ∧ d ≤ 255) : xor8 a d ≠ a := by
  intro h
  unfold xor8 at h
  have hlt : (BitVec.ofInt 8 a ^^^ BitVec.ofInt 8 d).toNat < 256 := (BitVec.ofInt 8 a ^^^ BitVec.ofInt 8 d).isLt
  rw [b8_id (by omega)] at h
  have h2 : BitVec.ofInt 8 a ^^^ BitVec.ofInt 8 d = BitVec.ofInt 8 a := by
    apply BitVec.eq_of_toNat_eq
    have e : ((BitVec.ofInt 8 a).toNat : Int) = a := by
      rw [BitVec.toNat_ofInt, show ((2 ^ 8 : Nat) : Int) = 256 from rfl]; omega
    omega
  have h3 : BitVec.ofInt 8 d = 0#8 := by
    have := congrArg (BitVec.ofInt 8 a ^^^ ·) h2
    simp only [← BitVec.xor_assoc, BitVec.xor_self, BitVec.zero_xor] at this
    exact this
  have h4 := congrArg BitVec.toNat h3
  rw [BitVec.toNat_ofInt, show ((2 ^ 8 : Nat) : Int) = 256 from rfl] at h4
  simp at h4
  omega
theorem FnDescriptors_true (code : List Int) (o : code.length ≤ 9223372036854775807 ∧ ∀ y ∈ code, 0 ≤ y ∧ y ≤ 255) : laws_FnDescriptors code = some true := by
  unfold laws_FnDescriptors laws_big
  rw [bnd_s]
  by_cases hbig : 1048576 < code.length
  · rw [ifO_pos (by simp only [decide_eq_true_eq]; omega)]
  · rw [ifO_neg (by simp only [decide_eq_false_iff_not]; omega)]
    have hc : code.length ≤ 1048576 := by omega
    obtain ⟨m, e1, ok, ⟨l1, l2⟩, hn, hin⟩ := DrawMonitor_ok code hc
    obtain ⟨a, e2, a0, a1⟩ := at_ok code hc o.2 0 (by omega) (by omega)
    obtain ⟨c, e3, c0, c1⟩ := at_ok code hc o.2 1 (by omega) (by omega)
    have hb : impl_BuildDescriptor m = some (strB (build m), true) := by rw [i_Build (by omega) (by omega), if_pos ok]
    have hp := i_parse ok
    have hL := bytesL_strB (build_in m)
    have hsum := build_sum m
    have hlen := build_len m
    generalize hs : strB (build m) = s at hb hp hL
    have hl := bytesL_length s
    rw [hL] at hl
    have hsize : s.size ≤ 100 := by omega
    have hsize0 : 8 ≤ s.size := by omega
    have hbs : impl_ByteSum s = some 0 := by rw [i_ByteSum s (by omega), hL, hsum]
    have hmok : impl_MonitorOk m = some true := by rw [i_MonitorOk m (by omega) (by omega), ok]
    have hloop : loopO (fun v_0 => laws_FnDescriptors_L0 m m v_0) 0 = some (.inl ()) := by
      refine loopO_up (f := fun v_0 => laws_FnDescriptors_L0 m m v_0) (fun k => (k : Int)) m.Modes.length (.inl ()) ?_ (fun k hk => ?_) 0 (by omega)
      · simp [laws_FnDescriptors_L0]
      · simp only [laws_FnDescriptors_L0, idx_lt hk, bnd_s]
        rw [ifO_pos (by simpa using hk), ifO_neg (by simp), wr_succ (by omega)]
    -- a byte is changed
    have hk0 : 0 ≤ a % (s.size : Int) := Int.emod_nonneg _ (by omega)
    have hk1 : a % (s.size : Int) < s.size := Int.emod_lt_of_pos _ (by omega)
    have hrem : remO a (s.size : Int) = some (a % (s.size : Int)) := by rw [remO_of (by omega), Int.tmod_eq_emod_of_nonneg a0]
    obtain ⟨k, hk⟩ : ∃ k : Nat, a % (s.size : Int) = k := ⟨(a % (s.size : Int)).toNat, by omega⟩
    rw [hk] at hrem hk1
    have hkl : k < (build m).length := by omega
    have hx : sidx s (k : Int) = some (build m)[k] := by rw [sidx_idx, hL, idx_lt hkl]
    have hxin := build_in m _ (List.getElem_mem hkl)
    obtain ⟨s1, p1, p2⟩ := ssub_bytes (s := s) (lo := 0) (hi := (k : Int)) ⟨by omega, by omega, by omega⟩
    obtain ⟨s2, q1, q2⟩ := ssub_bytes (s := s) (lo := (k : Int) + 1) (hi := s.size) ⟨by omega, by omega, by omega⟩
    have hd : b8 (wr (1 + Int.tmod c 255)) = 1 + c % 255 := by rw [Int.tmod_eq_emod_of_nonneg c0, wr_in (by omega) (by omega), b8_id (by omega)]
    generalize hy : xor8 (build m)[k] (1 + c % 255) = y
    have hyin : 0 ≤ y ∧ y ≤ 255 := by rw [← hy]; exact xor8_in _ _
    have hyne : y ≠ (build m)[k] := by rw [← hy]; exact xor8_ne hxin (by omega)
    have hyb : bytesL (strB [y]) = [y] := bytesL_strB fun v hv => by rw [List.mem_singleton.1 hv]; exact hyin
    rw [hL] at p2 q2
    have p2' : bytesL s1 = (build m).take k := by simpa using p2
    have q2' : bytesL s2 = (build m).drop (k + 1) := by
      rw [q2, show ((s.size : Int)).toNat = (build m).length by omega, List.take_length, show ((k : Int) + 1).toNat = k + 1 by omega]
    have z1 : s1.size = k := by rw [← bytesL_length, p2', List.length_take]; omega
    have z2 : s2.size ≤ 100 := by rw [← bytesL_length, q2', List.length_drop]; omega
    have z3 : (strB [y]).size = 1 := by rw [← bytesL_length, hyb]; rfl
    obtain ⟨s3, r1, r2⟩ := sapp_bytes (s := s1) (t := strB [y]) (by omega)
    have z4 : s3.size = k + 1 := by rw [← bytesL_length, r2, List.length_append, bytesL_length, bytesL_length, z1, z3]
    obtain ⟨s4, t1, t2⟩ := sapp_bytes (s := s3) (t := s2) (by omega)
    have z5 : s4.size ≤ 1048576 := by rw [← bytesL_length, t2, List.length_append, bytesL_length, bytesL_length]; omega
    have hbad : impl_ParseDescriptor s4 = some (zeroMon, false) := by
      rcases i_cases s4 z5 with ⟨m', _, f2, f3⟩ | f
      · exfalso
        have g1 := build_sum m'
        have g2 := bytesL_strB (build_in m')
        rw [f3, t2, r2, p2', q2', hyb] at g2
        rw [← g2] at g1
        have g3 : (build m).sum = ((build m).take k).sum + ((build m)[k] + ((build m).drop (k + 1)).sum) := by
          conv => lhs; rw [← List.take_append_drop k (build m), List.sum_append, List.drop_eq_getElem_cons hkl, List.sum_cons]
        rw [List.sum_append, List.sum_append, List.sum_cons, List.sum_nil] at g1
        omega
      · exact f
    simp only [e1, bnd_s, hb, hp, hbs]
    rw [show (orO _ _ : Option Bool) = some false by simp [orO], bnd_s, ifO_false, hloop]
    simp only [bnd_s, fork_inl, e2, hrem, hx, e3, hd, hy, p1, r1, wr_in (n := (k : Int) + 1) (by omega) (by omega), q1, t1, hbad, hmok]
    rfl
end Go.Proofs.Ytmbohhfhhdopiaa
