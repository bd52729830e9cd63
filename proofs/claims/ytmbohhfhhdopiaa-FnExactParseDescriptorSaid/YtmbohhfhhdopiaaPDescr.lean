/- Descriptors: what is built, what is read. -/
import Derived.Test.YtmbohhfhhdopiaaPChosen
import Derived.Test.YtmbohhfhhdopiaaPBytes
namespace Go.Proofs.Ytmbohhfhhdopiaa
open Go.RowKit K
theorem s_ModeOk (m : ModeT) : spec_ModeOk m = some (modeOk m) := by
  simp only [spec_ModeOk, l01In_eq, bnd_s, andO_some, modeOk]
theorem s_MonitorOk (m : MonitorT) (hs : m.Name.size ≤ 1048576) (hl : m.Modes.length ≤ 1048576) : spec_MonitorOk m = some (monOk m) := by
  have h0 : loopO (fun k => spec_MonitorOk_L0 m k) 0 = some (if nameOk m.Name then .inl () else .inr false) := by
    refine allLoop m.Name.size (by omega) _ false (fun k hk ho => ?_) (fun k hk ho => ?_) ?_
    · simp [spec_MonitorOk_L0, sidx_lt hk, orO_some, hk, inR] at ho ⊢
      rw [ifO_neg]; simp; omega
    · simp [spec_MonitorOk_L0, sidx_lt hk, orO_some, hk, inR] at ho ⊢
      rw [ifO_pos]; simp; omega
    · simp [spec_MonitorOk_L0]
  have h1 : loopO (fun k => spec_MonitorOk_L1 m k) 0 = some (if m.Modes.all modeOk then .inl () else .inr false) := by
    refine allList m.Modes (by omega) _ false (fun k hk => ?_) ?_
    · simp only [spec_MonitorOk_L1, idx_lt hk, bnd_s, s_ModeOk]
      rw [ifO_pos (by simpa using hk)]
      cases modeOk m.Modes[k] <;> rfl
    · simp [spec_MonitorOk_L1]
  simp only [spec_MonitorOk, l01In_eq, bnd_s, orO_some, h0, h1, monOk]
  cases inR m.Name.size 1 8 <;> cases inR m.Modes.length 1 4 <;> cases inR m.Stretch 0 255 <;> cases nameOk m.Name <;> cases m.Modes.all modeOk <;> rfl
theorem monOk_in {m : MonitorT} (h : monOk m = true) : (1 ≤ m.Name.size ∧ m.Name.size ≤ 8) ∧ (1 ≤ m.Modes.length ∧ m.Modes.length ≤ 4) ∧ (0 ≤ m.Stretch ∧ m.Stretch ≤ 255) ∧ ∀ x ∈ m.Modes, modeOk x = true := by
  unfold monOk at h
  simp only [Bool.and_eq_true, inR_t, List.all_eq_true] at h
  exact ⟨by omega, by omega, h.1.1.2, h.2⟩
/-! ### What is built -/
def mB (x : ModeT) : List Int := [b8 (shr x.Clock 16), b8 (shr x.Clock 8), b8 x.Clock, b8 x.W, b8 x.HFront, b8 x.HSync, b8 x.HBack, b8 x.H, b8 x.VFront, b8 x.VSync, b8 x.VBack]
def pre (m : MonitorT) : List Int := [0, 255, 255, 0, b8 m.Name.size] ++ bytesL m.Name ++ [b8 m.Stretch, b8 m.Modes.length]
def body (m : MonitorT) : List Int := pre m ++ m.Modes.flatMap mB
def build (m : MonitorT) : List Int := body m ++ [b8 (0 - (body m).sum % 256)]
theorem flat_len : ∀ xs : List ModeT, (xs.flatMap mB).length = xs.length * 11
  | [] => rfl
  | x :: r => by rw [List.flatMap_cons, List.length_append, flat_len r, List.length_cons]; simp [mB]; omega
theorem pre_len (m : MonitorT) : (pre m).length = 7 + m.Name.size := by
  simp [pre, bytesL_length]; omega
theorem build_len (m : MonitorT) : (build m).length = 8 + m.Name.size + m.Modes.length * 11 := by
  have h := flat_len m.Modes
  simp only [build, body, List.length_append, pre_len, h, List.length_cons, List.length_nil]; omega
theorem body_in (m : MonitorT) : ∀ v ∈ body m, 0 ≤ v ∧ v ≤ 255 := by
  intro v hv
  unfold body pre at hv
  rcases List.mem_append.1 hv with hv | hv
  · rcases List.mem_append.1 hv with hv | hv
    · rcases List.mem_append.1 hv with hv | hv
      · simp only [List.mem_cons, List.not_mem_nil, or_false] at hv
        have := b8_in (m.Name.size : Int)
        rcases hv with rfl | rfl | rfl | rfl | rfl <;> omega
      · exact bytesL_in v hv
    · simp only [List.mem_cons, List.not_mem_nil, or_false] at hv
      rcases hv with rfl | rfl <;> exact b8_in _
  · obtain ⟨x, _, hx⟩ := List.mem_flatMap.1 hv
    simp only [mB, List.mem_cons, List.not_mem_nil, or_false] at hx
    rcases hx with rfl | rfl | rfl | rfl | rfl | rfl | rfl | rfl | rfl | rfl | rfl <;> exact b8_in _
theorem build_in (m : MonitorT) : ∀ v ∈ build m, 0 ≤ v ∧ v ≤ 255 := by
  intro v hv
  rcases List.mem_append.1 hv with hv | hv
  · exact body_in m v hv
  · rw [List.mem_singleton.1 hv]; exact b8_in _
theorem flat_succ {xs : List ModeT} {k : Nat} (h : k < xs.length) : (xs.take (k + 1)).flatMap mB = (xs.take k).flatMap mB ++ mB xs[k] := by
  rw [List.take_add_one, List.getElem?_eq_getElem h, List.flatMap_append]
  simp
theorem i_Build {m : MonitorT} (hs : m.Name.size ≤ 1048576) (hl : m.Modes.length ≤ 1048576) : impl_BuildDescriptor m = some (if monOk m = true then (strB (build m), true) else (⟨#[]⟩, false)) := by
  simp only [impl_BuildDescriptor, i_MonitorOk m hs hl, bnd_s]
  cases ok : monOk m with
  | false => rfl
  | true =>
    obtain ⟨⟨a1, a2⟩, ⟨b1, b2⟩, _, _⟩ := monOk_in ok
    have hn := bytesL_length m.Name
    have hp := pre_len m
    have hloop : loopO (fun (v_0, v1_0) => impl_BuildDescriptor_L0 m v_0 v1_0) (pre m, 0) = some (body m) := by
      have := loopO_up (f := fun (q : List Int × Int) => impl_BuildDescriptor_L0 m q.1 q.2) (fun k => (pre m ++ (m.Modes.take k).flatMap mB, (k : Int))) m.Modes.length (body m) (by simp [impl_BuildDescriptor_L0, body]) (fun k hk => by
        have hf := flat_len (m.Modes.take k)
        rw [List.length_take] at hf
        have hll : (pre m ++ (m.Modes.take k).flatMap mB).length ≤ 100 := by rw [List.length_append, hp, hf]; omega
        generalize hg : pre m ++ (m.Modes.take k).flatMap mB = g at hll
        simp only [impl_BuildDescriptor_L0, idx_lt hk, bnd_s, impl_modeNumbers]
        rw [ifO_pos (by simpa using hk)]
        iterate 9 rw [app_le (by simp only [List.length_append, List.length_cons, List.length_nil]; omega), bnd_s]
        rw [wr_succ (by omega), flat_succ hk, ← List.append_assoc, hg]
        simp [mB]) 0 (by omega)
      simpa using this
    have e1 : app [0, 255, 255, 0, b8 (m.Name.size : Int)] (bytesL m.Name) = some ([0, 255, 255, 0, b8 (m.Name.size : Int)] ++ bytesL m.Name) := app_le (by rw [hn]; simp; omega)
    have e2 : app ([0, 255, 255, 0, b8 (m.Name.size : Int)] ++ bytesL m.Name) [b8 m.Stretch, b8 (m.Modes.length : Int)] = some (pre m) := by
      rw [app_le (by simp only [List.length_append, List.length_cons, List.length_nil, hn]; omega)]; rfl
    have hbl : (body m).length ≤ 100 := by simp only [body, List.length_append, hp, flat_len]; omega
    have hsz : (strB (body m)).size ≤ 10000000 := by rw [← bytesL_length, bytesL_strB (body_in m)]; omega
    simp only [Bool.not_true, ifO_false, e1, e2, bnd_s]
    rw [hloop]
    simp only [bnd_s, i_ByteSum _ hsz, bytesL_strB (body_in m), if_true]
    rw [app_le (by simp only [List.length_cons, List.length_nil]; omega), bnd_s, wr_in (n := 0 - (body m).sum % 256) (by omega) (by omega)]
    rfl
theorem s_Build {m : MonitorT} (hs : m.Name.size ≤ 1048576) (hl : m.Modes.length ≤ 1048576) : spec_BuildDescriptor m = some (if monOk m = true then (strB (build m), true) else (⟨#[]⟩, false)) := by
  simp only [spec_BuildDescriptor, s_MonitorOk m hs hl, bnd_s]
  cases ok : monOk m with
  | false => rfl
  | true =>
    obtain ⟨⟨a1, a2⟩, ⟨b1, b2⟩, _, _⟩ := monOk_in ok
    have hn := bytesL_length m.Name
    have hp := pre_len m
    have hloop : loopO (fun (v_0, v1_0) => spec_BuildDescriptor_L0 m v_0 v1_0) (pre m, 0) = some (body m) := by
      have := loopO_up (f := fun (q : List Int × Int) => spec_BuildDescriptor_L0 m q.1 q.2) (fun k => (pre m ++ (m.Modes.take k).flatMap mB, (k : Int))) m.Modes.length (body m) (by simp [spec_BuildDescriptor_L0, body]) (fun k hk => by
        have hf := flat_len (m.Modes.take k)
        rw [List.length_take] at hf
        have hll : (pre m ++ (m.Modes.take k).flatMap mB).length ≤ 100 := by rw [List.length_append, hp, hf]; omega
        generalize hg : pre m ++ (m.Modes.take k).flatMap mB = g at hll
        simp only [spec_BuildDescriptor_L0, idx_lt hk, bnd_s]
        rw [ifO_pos (by simpa using hk), app_le (by simp only [List.length_cons, List.length_nil]; omega), bnd_s]
        rw [wr_succ (by omega), flat_succ hk, ← List.append_assoc, hg]
        rfl) 0 (by omega)
      simpa using this
    have e1 : app [0, 255, 255, 0, b8 (m.Name.size : Int)] (bytesL m.Name) = some ([0, 255, 255, 0, b8 (m.Name.size : Int)] ++ bytesL m.Name) := app_le (by rw [hn]; simp; omega)
    have e2 : app ([0, 255, 255, 0, b8 (m.Name.size : Int)] ++ bytesL m.Name) [b8 m.Stretch, b8 (m.Modes.length : Int)] = some (pre m) := by
      rw [app_le (by simp only [List.length_append, List.length_cons, List.length_nil, hn]; omega)]; rfl
    have hbl : (body m).length ≤ 100 := by simp only [body, List.length_append, hp, flat_len]; omega
    have hsz : (strB (body m)).size ≤ 10000000 := by rw [← bytesL_length, bytesL_strB (body_in m)]; omega
    have hc : b8 (wr (256 - (body m).sum % 256)) = b8 (0 - (body m).sum % 256) := by
      rw [wr_in (by omega) (by omega), b8_eq, b8_eq]; omega
    obtain ⟨u, u1, u2⟩ := sapp_bytes (s := strB (body m)) (t := strB [b8 (0 - (body m).sum % 256)]) (by
      rw [← bytesL_length, bytesL_strB (body_in m), ← bytesL_length, bytesL_strB (fun v hv => by rw [List.mem_singleton.1 hv]; exact b8_in _)]
      simp only [List.length_cons, List.length_nil]; omega)
    rw [bytesL_strB (body_in m), bytesL_strB (fun v hv => by rw [List.mem_singleton.1 hv]; exact b8_in _)] at u2
    have hu : u = strB (build m) := by rw [← strB_bytesL u, u2]; rfl
    simp only [Bool.not_true, ifO_false]
    rw [need_t (by omega)]
    simp only [e1, e2, bnd_s]
    rw [hloop]
    simp only [bnd_s, s_ByteSum _ hsz, bytesL_strB (body_in m), if_true, hc, u1, hu]
/-! ### What is read -/
theorem or_add {a b : Nat} (i : Nat) (h : b < 2 ^ i) (ha : 2 ^ i * a + b < 9223372036854775808) : or64 ((2 ^ i * a : Nat) : Int) (b : Int) = ((2 ^ i * a + b : Nat) : Int) := by
  unfold or64
  have e : (BitVec.ofInt 64 ((2 ^ i * a : Nat) : Int) ||| BitVec.ofInt 64 (b : Int)).toNat = 2 ^ i * a + b := by
    rw [BitVec.toNat_or, BitVec.toNat_ofInt, BitVec.toNat_ofInt]
    rw [show (((2 ^ i * a : Nat) : Int) % ((2 ^ 64 : Nat) : Int)).toNat = 2 ^ i * a by omega, show ((b : Int) % ((2 ^ 64 : Nat) : Int)).toNat = b by omega, Nat.two_pow_add_eq_or_of_lt h]
  rw [e, wr_in (by omega) (by omega)]
theorem shl16 {a : Int} (h0 : 0 ≤ a) (h1 : a ≤ 255) : shl a 16 = a * 65536 := by
  unfold shl
  have e : (2 : Int) ^ (min (Int.toNat 16) 64) = 65536 := rfl
  rw [e, wr_in (by omega) (by omega)]
theorem shl8 {a : Int} (h0 : 0 ≤ a) (h1 : a ≤ 255) : shl a 8 = a * 256 := by
  unfold shl
  have e : (2 : Int) ^ (min (Int.toNat 8) 64) = 256 := rfl
  rw [e, wr_in (by omega) (by omega)]
theorem clock_bytes {c : Int} (h : 1 ≤ c ∧ c ≤ 1000000) : b8 (shr c 16) = c / 65536 ∧ b8 (shr c 8) = c / 256 % 256 ∧ b8 c = c % 256 := by
  have e16 : shr c 16 = c / 65536 := by
    unfold shr
    have e : (2 : Int) ^ (min (Int.toNat 16) 64) = 65536 := rfl
    rw [e, Int.fdiv_eq_ediv_of_nonneg _ (by omega)]
  have e8 : shr c 8 = c / 256 := by
    unfold shr
    have e : (2 : Int) ^ (min (Int.toNat 8) 64) = 256 := rfl
    rw [e, Int.fdiv_eq_ediv_of_nonneg _ (by omega)]
  rw [e16, e8, b8_eq, b8_eq, b8_eq]
  omega
theorem clock_i {c : Int} (h : 1 ≤ c ∧ c ≤ 1000000) : or64 (or64 (shl (wr (b8 (shr c 16))) 16) (shl (wr (b8 (shr c 8))) 8)) (wr (b8 c)) = c := by
  obtain ⟨e1, e2, e3⟩ := clock_bytes h
  rw [e1, e2, e3, wr_in (n := c / 65536) (by omega) (by omega), wr_in (n := c / 256 % 256) (by omega) (by omega), wr_in (n := c % 256) (by omega) (by omega), shl16 (by omega) (by omega), shl8 (by omega) (by omega)]
  obtain ⟨n, rfl⟩ : ∃ n : Nat, c = n := ⟨c.toNat, by omega⟩
  have a1 : ((n : Int) / 65536 * 65536) = ((2 ^ 16 * (n / 65536) : Nat) : Int) := by omega
  have a2 : ((n : Int) / 256 % 256 * 256) = ((n / 256 % 256 * 256 : Nat) : Int) := by omega
  have a3 : ((n : Int) % 256) = ((n % 256 : Nat) : Int) := by omega
  rw [a1, a2, a3, or_add 16 (by omega) (by omega), show 2 ^ 16 * (n / 65536) + n / 256 % 256 * 256 = 2 ^ 8 * (n / 256) by omega, or_add 8 (by omega) (by omega)]
  omega
theorem clock_s {c : Int} (h : 1 ≤ c ∧ c ≤ 1000000) : wr (wr (shl (wr (b8 (shr c 16))) 16 + shl (wr (b8 (shr c 8))) 8) + wr (b8 c)) = c := by
  obtain ⟨e1, e2, e3⟩ := clock_bytes h
  rw [e1, e2, e3, wr_in (n := c / 65536) (by omega) (by omega), wr_in (n := c / 256 % 256) (by omega) (by omega), wr_in (n := c % 256) (by omega) (by omega), shl16 (by omega) (by omega), shl8 (by omega) (by omega), wr_in (n := c / 65536 * 65536 + c / 256 % 256 * 256) (by omega) (by omega), wr_in (by omega) (by omega)]
  omega
theorem modeOk_in {x : ModeT} (h : modeOk x = true) : (1 ≤ x.Clock ∧ x.Clock ≤ 1000000) ∧ (wr (b8 x.W) = x.W) ∧ (wr (b8 x.HFront) = x.HFront) ∧ (wr (b8 x.HSync) = x.HSync) ∧ (wr (b8 x.HBack) = x.HBack) ∧ (wr (b8 x.H) = x.H) ∧ (wr (b8 x.VFront) = x.VFront) ∧ (wr (b8 x.VSync) = x.VSync) ∧ (wr (b8 x.VBack) = x.VBack) := by
  unfold modeOk at h
  simp only [Bool.and_eq_true, inR_t] at h
  have key : ∀ v : Int, 0 ≤ v → v ≤ 40 → wr (b8 v) = v := fun v h0 h1 => by rw [b8_id (by omega), wr_in (by omega) (by omega)]
  refine ⟨h.1.1.1.1.1.1.1.1, key _ ?_ ?_, key _ ?_ ?_, key _ ?_ ?_, key _ ?_ ?_, key _ ?_ ?_, key _ ?_ ?_, key _ ?_ ?_, key _ ?_ ?_⟩ <;> omega
theorem mB_at (x : ModeT) (R : List Int) : idx (mB x ++ R) 0 = some (b8 (shr x.Clock 16)) ∧ idx (mB x ++ R) 1 = some (b8 (shr x.Clock 8)) ∧ idx (mB x ++ R) 2 = some (b8 x.Clock) ∧ idx (mB x ++ R) 3 = some (b8 x.W) ∧ idx (mB x ++ R) 4 = some (b8 x.HFront) ∧ idx (mB x ++ R) 5 = some (b8 x.HSync) ∧ idx (mB x ++ R) 6 = some (b8 x.HBack) ∧ idx (mB x ++ R) 7 = some (b8 x.H) ∧ idx (mB x ++ R) 8 = some (b8 x.VFront) ∧ idx (mB x ++ R) 9 = some (b8 x.VSync) ∧ idx (mB x ++ R) 10 = some (b8 x.VBack) :=
  ⟨rfl, rfl, rfl, rfl, rfl, rfl, rfl, rfl, rfl, rfl, rfl⟩
theorem mB_len (x : ModeT) : (mB x).length = 11 := rfl
theorem i_step {x : ModeT} (hx : modeOk x = true) {q k : Int} {xs : List ModeT} {v : ByteArray} {R : List Int} (hv : bytesL v = mB x ++ R) (hq : k < wr q) (hl : xs.length ≤ 100) : ∃ v', impl_readDescriptor_L0 q xs v k = some (.inl (xs ++ [x], v', wr (k + 1))) ∧ bytesL v' = R := by
  have hsz : v.size = 11 + R.length := by rw [← bytesL_length, hv, List.length_append, mB_len]
  obtain ⟨v', s1, s2⟩ := ssub_bytes (s := v) (lo := 11) (hi := v.size) ⟨by omega, by omega, by omega⟩
  refine ⟨v', ?_, ?_⟩
  · obtain ⟨hc, h1, h2, h3, h4, h5, h6, h7, h8⟩ := modeOk_in hx
    obtain ⟨i0, i1, i2, i3, i4, i5, i6, i7, i8, i9, i10⟩ := mB_at x R
    simp only [impl_readDescriptor_L0, sidx_idx, hv, impl_modeNumbers, i0, i1, i2, i3, i4, i5, i6, i7, i8, i9, i10, bnd_s, clock_i hc, h1, h2, h3, h4, h5, h6, h7, h8, s1]
    rw [ifO_pos (by simpa using hq), ifO_neg (by simp; omega), app_le (by simp; omega), bnd_s]
  · rw [s2, hv, show ((v.size : Int)).toNat = (mB x ++ R).length by rw [List.length_append, mB_len]; omega, List.take_length, show Int.toNat 11 = (mB x).length from rfl, List.drop_left]
/-- The bytes behind a place. -/
theorem at_drop {L : List Int} {p j : Nat} : idx L ((p : Int) + j) = idx (L.drop p) j := by
  rw [show (p : Int) + j = ((p + j : Nat) : Int) by omega, idx_nat, idx_nat, List.getElem?_drop]
theorem s_step {x : ModeT} (hx : modeOk x = true) {p : Nat} (hp : p ≤ 1000000) {xs : List ModeT} {s : ByteArray} {R : List Int} (hv : (bytesL s).drop p = mB x ++ R) (hR : 1 ≤ R.length) (hl : xs.length < 4) : spec_ParseDescriptor_L0 s xs p = some (.inl (xs ++ [x], ((p + 11 : Nat) : Int))) := by
  have hsz : s.size = p + 11 + R.length := by
    have := congrArg List.length hv
    rw [List.length_drop, bytesL_length, List.length_append, mB_len] at this
    omega
  obtain ⟨hc, h1, h2, h3, h4, h5, h6, h7, h8⟩ := modeOk_in hx
  obtain ⟨i0, i1, i2, i3, i4, i5, i6, i7, i8, i9, i10⟩ := mB_at x R
  have key : ∀ (j : Nat) (w : Int), j ≤ 20 → idx (mB x ++ R) (j : Int) = some w → idx (bytesL s) (wr ((p : Int) + j)) = some w := fun j w hj h => by
    rw [wr_in (by omega) (by omega), at_drop, hv, h]
  have k0 : idx (bytesL s) (p : Int) = some (b8 (shr x.Clock 16)) := by
    have := at_drop (L := bytesL s) (p := p) (j := 0)
    rw [hv] at this
    simpa using this.trans i0
  have k1 : idx (bytesL s) (wr ((p : Int) + 1)) = _ := key 1 _ (by omega) i1
  have k2 : idx (bytesL s) (wr ((p : Int) + 2)) = _ := key 2 _ (by omega) i2
  have k3 : idx (bytesL s) (wr ((p : Int) + 3)) = _ := key 3 _ (by omega) i3
  have k4 : idx (bytesL s) (wr ((p : Int) + 4)) = _ := key 4 _ (by omega) i4
  have k5 : idx (bytesL s) (wr ((p : Int) + 5)) = _ := key 5 _ (by omega) i5
  have k6 : idx (bytesL s) (wr ((p : Int) + 6)) = _ := key 6 _ (by omega) i6
  have k7 : idx (bytesL s) (wr ((p : Int) + 7)) = _ := key 7 _ (by omega) i7
  have k8 : idx (bytesL s) (wr ((p : Int) + 8)) = _ := key 8 _ (by omega) i8
  have k9 : idx (bytesL s) (wr ((p : Int) + 9)) = _ := key 9 _ (by omega) i9
  have k10 : idx (bytesL s) (wr ((p : Int) + 10)) = _ := key 10 _ (by omega) i10
  simp only [spec_ParseDescriptor_L0, sidx_idx]
  rw [ifO_pos (by rw [wr_in (by omega) (by omega)]; simp; omega)]
  simp only [k0, k1, k2, k3, k4, k5, k6, k7, k8, k9, k10, bnd_s, clock_s hc, h1, h2, h3, h4, h5, h6, h7, h8]
  rw [app_le (by simp; omega), bnd_s, wr_in (by omega) (by omega)]
  rfl
/-- What was built lies so. -/
theorem build_at {m : MonitorT} (ok : monOk m = true) : idx (build m) 4 = some (m.Name.size : Int) ∧ ((build m).take (5 + m.Name.size)).drop 5 = bytesL m.Name ∧ idx (build m) ((5 + m.Name.size : Nat) : Int) = some m.Stretch ∧ idx (build m) ((6 + m.Name.size : Nat) : Int) = some (m.Modes.length : Int) ∧ ∃ c, (build m).drop (7 + m.Name.size) = m.Modes.flatMap mB ++ [c] := by
  obtain ⟨⟨a1, a2⟩, ⟨b1, b2⟩, hst, _⟩ := monOk_in ok
  have hn := bytesL_length m.Name
  have e0 : b8 (m.Name.size : Int) = m.Name.size := b8_id (by omega)
  have e1 : b8 m.Stretch = m.Stretch := b8_id hst
  have e2 : b8 (m.Modes.length : Int) = m.Modes.length := b8_id (by omega)
  have hb : build m = [0, 255, 255, 0, (m.Name.size : Int)] ++ (bytesL m.Name ++ (m.Stretch :: (m.Modes.length : Int) :: (m.Modes.flatMap mB ++ [b8 (0 - (body m).sum % 256)]))) := by
    simp [build, body, pre, e0, e1, e2]
  refine ⟨by rw [hb]; rfl, ?_, ?_, ?_, b8 (0 - (body m).sum % 256), ?_⟩
  · rw [hb, show 5 + m.Name.size = ([0, 255, 255, 0, (m.Name.size : Int)] : List Int).length + (bytesL m.Name).length by simp [hn], List.take_length_add_append, List.take_left]
    exact List.drop_left' rfl
  · rw [idx_nat, hb, List.getElem?_append_right (by simp), List.getElem?_append_right (by simp [hn])]
    simp [hn]
  · rw [idx_nat, hb, List.getElem?_append_right (by simp; omega), List.getElem?_append_right (by simp [hn]; omega)]
    simp only [List.length_cons, List.length_nil, hn]
    rw [show 6 + m.Name.size - (0 + 1 + 1 + 1 + 1 + 1) - m.Name.size = 1 by omega]
    rfl
  · rw [hb, List.drop_append, List.drop_append]
    simp only [List.length_cons, List.length_nil, hn]
    rw [show 7 + m.Name.size - (0 + 1 + 1 + 1 + 1 + 1) - m.Name.size = 2 by omega, List.drop_eq_nil_of_le (by simp; omega), List.drop_eq_nil_of_le (by omega)]
    rfl
def zeroMon : MonitorT := MonitorT.mk (⟨#[]⟩ : ByteArray) [] 0
/-- What is built is read again: the program. -/
theorem i_back {m : MonitorT} (ok : monOk m = true) : impl_readDescriptor (strB (build m)) = some (m, true) := by
  obtain ⟨⟨a1, a2⟩, ⟨b1, b2⟩, hst, hmo⟩ := monOk_in ok
  obtain ⟨t0, t1, t2, t3, c, t4⟩ := build_at ok
  have hL := bytesL_strB (build_in m)
  have hlen := build_len m
  generalize hs : strB (build m) = s at hL
  have hsz : s.size = 8 + m.Name.size + m.Modes.length * 11 := by rw [← bytesL_length, hL, hlen]
  have w5 : wr (5 + wr (m.Name.size : Int)) = ((5 + m.Name.size : Nat) : Int) := by rw [wr_in (n := (m.Name.size : Int)) (by omega) (by omega), wr_in (by omega) (by omega)]; omega
  have w6 : wr (((5 + m.Name.size : Nat) : Int) + 1) = ((6 + m.Name.size : Nat) : Int) := by rw [wr_in (by omega) (by omega)]; omega
  have w7 : wr (((5 + m.Name.size : Nat) : Int) + 2) = ((7 + m.Name.size : Nat) : Int) := by rw [wr_in (by omega) (by omega)]; omega
  obtain ⟨nm, n1, n2⟩ := ssub_bytes (s := s) (lo := 5) (hi := ((5 + m.Name.size : Nat) : Int)) ⟨by omega, by omega, by omega⟩
  have hnm : nm = m.Name := bytesL_inj (by rw [n2, hL]; exact t1)
  subst hnm
  obtain ⟨rest, r1, r2⟩ := ssub_bytes (s := s) (lo := ((7 + m.Name.size : Nat) : Int)) (hi := s.size) ⟨by omega, by omega, by omega⟩
  have hrest : bytesL rest = m.Modes.flatMap mB ++ [c] := by
    rw [r2, hL, show ((s.size : Int)).toNat = (build m).length by omega, List.take_length, ← t4]; rfl
  have hloop : ∀ (j k : Nat) (v : ByteArray), k + j = m.Modes.length → bytesL v = (m.Modes.drop k).flatMap mB ++ [c] → loopO (fun (x_0, v_0, v1_0) => impl_readDescriptor_L0 (m.Modes.length : Int) x_0 v_0 v1_0) (m.Modes.take k, v, (k : Int)) = some (.inl m.Modes) := by
    intro j
    induction j with
    | zero =>
      intro k v hk hv
      obtain rfl : k = m.Modes.length := by omega
      refine loopO_inr ?_
      show impl_readDescriptor_L0 _ _ v _ = _
      simp only [impl_readDescriptor_L0, List.take_length]
      rw [wr_in (by omega) (by omega), ifO_neg (by simp)]
    | succ j ih =>
      intro k v hk hv
      have hlt : k < m.Modes.length := by omega
      rw [List.drop_eq_getElem_cons hlt, List.flatMap_cons, List.append_assoc] at hv
      obtain ⟨v', s1, s2⟩ := i_step (hmo _ (List.getElem_mem hlt)) (q := (m.Modes.length : Int)) (k := (k : Int)) (xs := m.Modes.take k) hv (by rw [wr_in (by omega) (by omega)]; omega) (by rw [List.length_take]; omega)
      rw [wr_succ (by omega), List.take_append_getElem hlt] at s1
      rw [@loopO_inl _ _ (fun (x_0, v_0, v1_0) => impl_readDescriptor_L0 (m.Modes.length : Int) x_0 v_0 v1_0) (m.Modes.take k, v, (k : Int)) _ s1]
      exact ih (k + 1) v' (by omega) s2
  have hl := hloop m.Modes.length 0 rest (by omega) (by rw [List.drop_zero]; exact hrest)
  rw [List.take_zero, show ((0 : Nat) : Int) = 0 from rfl] at hl
  simp only [impl_readDescriptor, sidx_idx, hL, t0, bnd_s, orO_some]
  rw [ifO_neg (by rw [wr_in (n := (m.Name.size : Int)) (by omega) (by omega), wr_in (by omega) (by omega)]; simp; omega)]
  simp only [w5, n1, t2, bnd_s, w7, r1, w6, t3, hl, fork_inl]
  rw [wr_in (by omega) (by omega)]
/-- The reference. -/
theorem s_back {m : MonitorT} (ok : monOk m = true) : spec_ParseDescriptor (strB (build m)) = some (m, true) := by
  obtain ⟨⟨a1, a2⟩, ⟨b1, b2⟩, hst, hmo⟩ := monOk_in ok
  obtain ⟨t0, t1, t2, t3, c, t4⟩ := build_at ok
  have hL := bytesL_strB (build_in m)
  have hlen := build_len m
  generalize hs : strB (build m) = s at hL
  have hsz : s.size = 8 + m.Name.size + m.Modes.length * 11 := by rw [← bytesL_length, hL, hlen]
  have w5 : wr (5 + wr (m.Name.size : Int)) = ((5 + m.Name.size : Nat) : Int) := by rw [wr_in (n := (m.Name.size : Int)) (by omega) (by omega), wr_in (by omega) (by omega)]; omega
  have w7 : wr (((5 + m.Name.size : Nat) : Int) + 2) = ((7 + m.Name.size : Nat) : Int) := by rw [wr_in (by omega) (by omega)]; omega
  obtain ⟨nm, n1, n2⟩ := ssub_bytes (s := s) (lo := 5) (hi := ((5 + m.Name.size : Nat) : Int)) ⟨by omega, by omega, by omega⟩
  have hnm : nm = m.Name := bytesL_inj (by rw [n2, hL]; exact t1)
  subst hnm
  have hloop : ∀ (j k : Nat), k + j = m.Modes.length → loopO (fun (x_0, v_0) => spec_ParseDescriptor_L0 s x_0 v_0) (m.Modes.take k, ((7 + m.Name.size + 11 * k : Nat) : Int)) = some m.Modes := by
    intro j
    induction j with
    | zero =>
      intro k hk
      obtain rfl : k = m.Modes.length := by omega
      refine loopO_inr ?_
      show spec_ParseDescriptor_L0 s _ _ = _
      simp only [spec_ParseDescriptor_L0, List.take_length]
      rw [wr_in (n := ((7 + m.Name.size + 11 * m.Modes.length : Nat) : Int) + 11) (by omega) (by omega), ifO_neg (by simp; omega)]
    | succ j ih =>
      intro k hk
      have hlt : k < m.Modes.length := by omega
      have hd : (bytesL s).drop (7 + m.Name.size + 11 * k) = mB m.Modes[k] ++ ((m.Modes.drop (k + 1)).flatMap mB ++ [c]) := by
        have hf := flat_len (m.Modes.take k)
        rw [List.length_take] at hf
        have e : m.Modes.flatMap mB = (m.Modes.take k).flatMap mB ++ (m.Modes.drop k).flatMap mB := by rw [← List.flatMap_append, List.take_append_drop]
        rw [hL, ← List.drop_drop, t4, e, List.append_assoc, List.drop_append, List.drop_eq_nil_of_le (by omega), show 11 * k - ((m.Modes.take k).flatMap mB).length = 0 by omega, List.drop_eq_getElem_cons hlt, List.flatMap_cons, List.append_assoc]
        rfl
      have s1 := s_step (hmo _ (List.getElem_mem hlt)) (p := 7 + m.Name.size + 11 * k) (by omega) (xs := m.Modes.take k) hd (by simp) (by rw [List.length_take]; omega)
      rw [List.take_append_getElem hlt, show 7 + m.Name.size + 11 * k + 11 = 7 + m.Name.size + 11 * (k + 1) by omega] at s1
      rw [@loopO_inl _ _ (fun (x_0, v_0) => spec_ParseDescriptor_L0 s x_0 v_0) (m.Modes.take k, ((7 + m.Name.size + 11 * k : Nat) : Int)) _ s1]
      exact ih (k + 1) (by omega)
  have hl := hloop m.Modes.length 0 (by omega)
  rw [List.take_zero, Nat.mul_zero, Nat.add_zero] at hl
  simp only [spec_ParseDescriptor, sidx_idx, hL, t0, bnd_s, orO_some]
  rw [ifO_neg (by rw [wr_in (n := (m.Name.size : Int)) (by omega) (by omega), wr_in (by omega) (by omega)]; simp; omega)]
  simp only [w5, n1, t2, bnd_s, w7, hl]
  rw [wr_in (n := m.Stretch) (by omega) (by omega), show MonitorT.mk m.Name m.Modes m.Stretch = m from rfl, s_Build (by omega) (by omega), if_pos ok, bnd_s, hs]
  rw [ifO_neg (by simp)]
/-! ### Whatever is read -/
theorem i_total (s : ByteArray) (h : s.size ≤ 1048576) : ∃ m ok, impl_readDescriptor s = some (m, ok) ∧ m.Name.size ≤ 1048576 ∧ m.Modes.length ≤ 1048576 := by
  have hl := bytesL_length s
  by_cases h5 : s.size < 5
  · refine ⟨zeroMon, false, ?_, by show (0 : Nat) ≤ _; omega, by simp [zeroMon]⟩
    simp only [impl_readDescriptor]
    rw [show (decide ((s.size : Int) < 5)) = true by simp; omega]
    rfl
  · have g4 : idx (bytesL s) 4 = some ((bytesL s)[4]'(by omega)) := idx_lt (k := 4) (by omega)
    have hn := bytesL_in _ (List.getElem_mem (show 4 < (bytesL s).length by omega))
    generalize (bytesL s)[4]'(by omega) = n at g4 hn
    have w0 : wr n = n := wr_in (by omega) (by omega)
    by_cases h7 : (s.size : Int) < 7 + n
    · refine ⟨zeroMon, false, ?_, by show (0 : Nat) ≤ _; omega, by simp [zeroMon]⟩
      simp only [impl_readDescriptor, sidx_idx, g4, bnd_s, orO_some, w0, wr_in (n := 7 + n) (by omega) (by omega)]
      rw [ifO_pos (by simp; omega)]; rfl
    · have w5 : wr (5 + n) = 5 + n := wr_in (by omega) (by omega)
      obtain ⟨nm, n1, n2⟩ := ssub_bytes (s := s) (lo := 5) (hi := 5 + n) ⟨by omega, by omega, by omega⟩
      obtain ⟨rest, r1, r2⟩ := ssub_bytes (s := s) (lo := 5 + n + 2) (hi := s.size) ⟨by omega, by omega, by omega⟩
      have hnm : nm.size ≤ 1048576 := by
        rw [← bytesL_length, n2, List.length_drop, List.length_take]; omega
      have hrs : rest.size ≤ 1048576 := by
        rw [← bytesL_length, r2, List.length_drop, List.length_take]; omega
      have e1 := idx_of (xs := bytesL s) (i := 5 + n) (by omega) (by omega)
      have e2 := idx_of (xs := bytesL s) (i := 5 + n + 1) (by omega) (by omega)
      have hq := bytesL_in _ (List.getElem_mem (show (5 + n + 1).toNat < (bytesL s).length by omega))
      generalize (bytesL s)[(5 + n + 1).toNat]'(by omega) = q at e2 hq
      generalize (bytesL s)[(5 + n).toNat]'(by omega) = st at e1
      have wq : wr q = q := wr_in (by omega) (by omega)
      obtain ⟨y, y1, y2⟩ := loopO_inv (f := fun (z : List ModeT × ByteArray × Int) => impl_readDescriptor_L0 q z.1 z.2.1 z.2.2) (fun z => (z.1.length : Int) = z.2.2 ∧ 0 ≤ z.2.2 ∧ z.2.2 ≤ q ∧ z.2.1.size ≤ 1048576) (fun z => (q - z.2.2).toNat) (fun r => (∃ xs : List ModeT, r = .inl xs ∧ xs.length ≤ 255) ∨ r = .inr (zeroMon, false)) (by
        rintro ⟨xs, v, k⟩ ⟨h1, h2, h3, h4⟩
        simp only [] at h1 h2 h3 h4
        by_cases hk : k < q
        · by_cases hv : v.size < 11
          · right
            refine ⟨_, ?_, .inr rfl⟩
            simp only [impl_readDescriptor_L0, wq]
            rw [ifO_pos (by simpa using hk), ifO_pos (by simp; omega)]; rfl
          · left
            have hvl := bytesL_length v
            obtain ⟨v', s1, s2⟩ := ssub_bytes (s := v) (lo := 11) (hi := v.size) ⟨by omega, by omega, by omega⟩
            have at_ : ∀ j : Nat, j < 11 → ∃ w, idx (bytesL v) (j : Int) = some w := fun j hj => ⟨_, idx_lt (by omega)⟩
            obtain ⟨w0, i0⟩ := at_ 0 (by omega)
            obtain ⟨w1, i1⟩ := at_ 1 (by omega)
            obtain ⟨w2, i2⟩ := at_ 2 (by omega)
            obtain ⟨w3, i3⟩ := at_ 3 (by omega)
            obtain ⟨w4, i4⟩ := at_ 4 (by omega)
            obtain ⟨w5, i5⟩ := at_ 5 (by omega)
            obtain ⟨w6, i6⟩ := at_ 6 (by omega)
            obtain ⟨w7, i7⟩ := at_ 7 (by omega)
            obtain ⟨w8, i8⟩ := at_ 8 (by omega)
            obtain ⟨w9, i9⟩ := at_ 9 (by omega)
            obtain ⟨w10, i10⟩ := at_ 10 (by omega)
            have i0' : idx (bytesL v) 0 = some w0 := i0
            have i1' : idx (bytesL v) 1 = some w1 := i1
            have i2' : idx (bytesL v) 2 = some w2 := i2
            have i3' : idx (bytesL v) 3 = some w3 := i3
            have i4' : idx (bytesL v) 4 = some w4 := i4
            have i5' : idx (bytesL v) 5 = some w5 := i5
            have i6' : idx (bytesL v) 6 = some w6 := i6
            have i7' : idx (bytesL v) 7 = some w7 := i7
            have i8' : idx (bytesL v) 8 = some w8 := i8
            have i9' : idx (bytesL v) 9 = some w9 := i9
            have i10' : idx (bytesL v) 10 = some w10 := i10
            refine ⟨(xs ++ [ModeT.mk (or64 (or64 (shl (wr w0) 16) (shl (wr w1) 8)) (wr w2)) (wr w3) (wr w4) (wr w5) (wr w6) (wr w7) (wr w8) (wr w9) (wr w10)], v', k + 1), ?_, ⟨by simp; omega, by simp only []; omega, by simp only []; omega, ?_⟩, by simp only []; omega⟩
            · simp only [impl_readDescriptor_L0, wq, sidx_idx, i0', i1', i2', i3', i4', i5', i6', i7', i8', i9', i10', bnd_s, impl_modeNumbers, s1]
              rw [ifO_pos (by simpa using hk), ifO_neg (by simp; omega), app_le (by simp; omega), bnd_s, wr_in (n := k + 1) (by omega) (by omega)]
            · show v'.size ≤ 1048576
              rw [← bytesL_length, s2, List.length_drop, List.length_take]; omega
        · right
          refine ⟨_, ?_, .inl ⟨xs, rfl, by omega⟩⟩
          simp only [impl_readDescriptor_L0, wq]
          rw [ifO_neg (by simpa using hk)]) ([], rest, 0) ⟨by simp, by simp, by simp only []; omega, hrs⟩
      have y1' : loopO (fun (x_0, v_0, v1_0) => impl_readDescriptor_L0 q x_0 v_0 v1_0) ([], rest, 0) = some y := y1
      have hred : impl_readDescriptor s = fork y (fun x_0e => some ((MonitorT.mk nm x_0e (wr st)), true)) (fun r => some r) := by
        simp only [impl_readDescriptor, sidx_idx, g4, bnd_s, orO_some, w0, w5, wr_in (n := 7 + n) (by omega) (by omega)]
        rw [ifO_neg (by simp; omega)]
        simp only [n1, e1, wr_in (n := 5 + n + 2) (by omega) (by omega), r1, wr_in (n := 5 + n + 1) (by omega) (by omega), e2, bnd_s, y1']
      rcases y2 with ⟨xs, rfl, hx⟩ | rfl
      · exact ⟨_, _, hred, hnm, by show xs.length ≤ _; omega⟩
      · exact ⟨_, _, hred, by show (0 : Nat) ≤ _; omega, by simp [zeroMon]⟩
theorem i_cases (s : ByteArray) (h : s.size ≤ 1048576) : (∃ m, impl_ParseDescriptor s = some (m, true) ∧ monOk m = true ∧ strB (build m) = s) ∨ impl_ParseDescriptor s = some (zeroMon, false) := by
  obtain ⟨m, ok, e, h1, h2⟩ := i_total s h
  simp only [impl_ParseDescriptor, e, bnd_s, i_Build h1 h2]
  cases ok with
  | false => exact .inr rfl
  | true =>
    cases hm : monOk m with
    | false => exact .inr rfl
    | true =>
      by_cases hs : strB (build m) = s
      · refine .inl ⟨m, ?_, hm, hs⟩
        rw [if_pos rfl]
        simp [hs]
      · right
        rw [if_pos rfl]
        simp [hs]; rfl
theorem s_cases (s : ByteArray) (h : s.size ≤ 1048576) : (∃ m, spec_ParseDescriptor s = some (m, true) ∧ monOk m = true ∧ strB (build m) = s) ∨ spec_ParseDescriptor s = some (zeroMon, false) := by
  have hl := bytesL_length s
  by_cases h8 : s.size < 8
  · right
    simp only [spec_ParseDescriptor]
    rw [show (decide ((s.size : Int) < 8)) = true by simp; omega]
    rfl
  · have g4 : idx (bytesL s) 4 = some ((bytesL s)[4]'(by omega)) := idx_lt (k := 4) (by omega)
    have hn := bytesL_in _ (List.getElem_mem (show 4 < (bytesL s).length by omega))
    generalize (bytesL s)[4]'(by omega) = n at g4 hn
    have w0 : wr n = n := wr_in (by omega) (by omega)
    by_cases h7 : (s.size : Int) < 8 + n
    · right
      simp only [spec_ParseDescriptor, sidx_idx, g4, bnd_s, orO_some, w0, wr_in (n := 8 + n) (by omega) (by omega)]
      rw [ifO_pos (by simp; omega)]; rfl
    · have w5 : wr (5 + n) = 5 + n := wr_in (by omega) (by omega)
      obtain ⟨nm, n1, n2⟩ := ssub_bytes (s := s) (lo := 5) (hi := 5 + n) ⟨by omega, by omega, by omega⟩
      have hnm : nm.size ≤ 1048576 := by
        rw [← bytesL_length, n2, List.length_drop, List.length_take]; omega
      have e1 := idx_of (xs := bytesL s) (i := 5 + n) (by omega) (by omega)
      generalize (bytesL s)[(5 + n).toNat]'(by omega) = st at e1
      obtain ⟨y, y1, y2⟩ := loopO_inv (f := fun (z : List ModeT × Int) => spec_ParseDescriptor_L0 s z.1 z.2) (fun z => z.1.length ≤ 4 ∧ 0 ≤ z.2 ∧ z.2 ≤ 2000000) (fun z => 4 - z.1.length) (fun r => r.length ≤ 4) (by
        rintro ⟨xs, p⟩ ⟨h1, h2, h3⟩
        simp only [] at h1 h2 h3
        have wp : ∀ j : Int, 0 ≤ j → j ≤ 11 → wr (p + j) = p + j := fun j _ _ => wr_in (by omega) (by omega)
        by_cases hk : p + 11 < s.size ∧ xs.length < 4
        · left
          have at_ : ∀ j : Int, 0 ≤ j → j ≤ 10 → ∃ w, idx (bytesL s) (p + j) = some w := fun j _ _ => ⟨_, idx_of (by omega) (by omega)⟩
          obtain ⟨w0, i0⟩ := at_ 0 (by omega) (by omega)
          rw [Int.add_zero] at i0
          obtain ⟨w1, i1⟩ := at_ 1 (by omega) (by omega)
          obtain ⟨w2, i2⟩ := at_ 2 (by omega) (by omega)
          obtain ⟨w3, i3⟩ := at_ 3 (by omega) (by omega)
          obtain ⟨w4, i4⟩ := at_ 4 (by omega) (by omega)
          obtain ⟨w5, i5⟩ := at_ 5 (by omega) (by omega)
          obtain ⟨w6, i6⟩ := at_ 6 (by omega) (by omega)
          obtain ⟨w7, i7⟩ := at_ 7 (by omega) (by omega)
          obtain ⟨w8, i8⟩ := at_ 8 (by omega) (by omega)
          obtain ⟨w9, i9⟩ := at_ 9 (by omega) (by omega)
          obtain ⟨w10, i10⟩ := at_ 10 (by omega) (by omega)
          refine ⟨(xs ++ [ModeT.mk (wr ((wr ((shl (wr w0) 16) + (shl (wr w1) 8))) + (wr w2))) (wr w3) (wr w4) (wr w5) (wr w6) (wr w7) (wr w8) (wr w9) (wr w10)], p + 11), ?_, ⟨by simp; omega, by simp only []; omega, by simp only []; omega⟩, by simp; omega⟩
          simp only [spec_ParseDescriptor_L0, sidx_idx, wp 1 (by omega) (by omega), wp 2 (by omega) (by omega), wp 3 (by omega) (by omega), wp 4 (by omega) (by omega), wp 5 (by omega) (by omega), wp 6 (by omega) (by omega), wp 7 (by omega) (by omega), wp 8 (by omega) (by omega), wp 9 (by omega) (by omega), wp 10 (by omega) (by omega), wp 11 (by omega) (by omega), i0, i1, i2, i3, i4, i5, i6, i7, i8, i9, i10, bnd_s]
          rw [ifO_pos (by simp; omega), app_le (by simp; omega), bnd_s]
        · right
          refine ⟨_, ?_, h1⟩
          simp only [spec_ParseDescriptor_L0, wp 11 (by omega) (by omega)]
          rw [ifO_neg (by
            rw [Bool.and_eq_false_iff]
            by_cases h : p + 11 < s.size
            · exact .inr (by simp; omega)
            · exact .inl (by simpa using h))]) ([], 5 + n + 2) ⟨by simp, by simp only []; omega, by simp only []; omega⟩
      have y1' : loopO (fun (x_0, v_0) => spec_ParseDescriptor_L0 s x_0 v_0) ([], 5 + n + 2) = some y := y1
      have hred : spec_ParseDescriptor s = Option.bind (spec_BuildDescriptor (MonitorT.mk nm y (wr st))) fun (x9_1a, x9_1b) => ifO ((!x9_1b) || (!(decide (x9_1a = s)))) (some (zeroMon, false)) (some ((MonitorT.mk nm y (wr st)), true)) := by
        simp only [spec_ParseDescriptor, sidx_idx, g4, bnd_s, orO_some, w0, w5, wr_in (n := 8 + n) (by omega) (by omega)]
        rw [ifO_neg (by simp; omega)]
        simp only [n1, e1, wr_in (n := 5 + n + 2) (by omega) (by omega), bnd_s, y1']
        rfl
      rw [hred, s_Build hnm (by show y.length ≤ _; omega), bnd_s]
      generalize MonitorT.mk nm y (wr st) = m
      cases hm : monOk m with
      | false => exact .inr rfl
      | true =>
        by_cases hs : strB (build m) = s
        · refine .inl ⟨m, ?_, hm, hs⟩
          rw [if_pos rfl]
          simp [hs]
        · right
          rw [if_pos rfl]
          simp [hs]
theorem i_parse {m : MonitorT} (ok : monOk m = true) : impl_ParseDescriptor (strB (build m)) = some (m, true) := by
  obtain ⟨⟨_, a2⟩, ⟨_, b2⟩, _, _⟩ := monOk_in ok
  simp only [impl_ParseDescriptor, i_back ok, bnd_s, Bool.not_true, ifO_false, i_Build (show m.Name.size ≤ 1048576 by omega) (show m.Modes.length ≤ 1048576 by omega), ok, if_true]
  simp
theorem Parse_eq (s : ByteArray) (h : s.size ≤ 1048576) : ∃ m ok, impl_ParseDescriptor s = some (m, ok) ∧ spec_ParseDescriptor s = some (m, ok) ∧ smMonitor m := by
  have small : ∀ m, monOk m = true → smMonitor m := fun m hm => by
    obtain ⟨⟨_, a2⟩, ⟨_, b2⟩, _, _⟩ := monOk_in hm
    exact ⟨by omega, show m.Modes.length ≤ 1048576 by omega⟩
  rcases i_cases s h with ⟨m, e1, e2, e3⟩ | e1
  · exact ⟨m, true, e1, by rw [← e3]; exact s_back e2, small m e2⟩
  · rcases s_cases s h with ⟨m, f1, f2, f3⟩ | f1
    · have := i_parse f2
      rw [f3, e1] at this
      cases this
    · exact ⟨zeroMon, false, e1, f1, by show (0 : Nat) ≤ _; omega, by show (0 : Nat) ≤ _; omega⟩
theorem FnExactBuildDescriptor_true (m : MonitorT) (o : okMonitor m) : laws_FnExactBuildDescriptor m = some true := by
  obtain ⟨v, hv, _, hb⟩ := szMonitor_ok m o 1048576 (by decide) (by decide)
  simp only [laws_FnExactBuildDescriptor, hv, bnd_s]
  by_cases hneg : v < 0
  · rw [ifO_pos (by simpa using hneg)]
  · have hs := hb (by omega)
    rw [ifO_neg (by simpa using hneg)]
    simp only [toMonitor_eq m hs, bnd_s, s_Build hs.1 hs.2, i_Build hs.1 hs.2]
    cases monOk m <;> simp [eqMonitor_self m hs]
theorem FnExactParseDescriptor_true (s : ByteArray) (o : s.size ≤ 9223372036854775807) : laws_FnExactParseDescriptor s = some true := by
  have _ := o
  simp only [laws_FnExactParseDescriptor]
  by_cases hbig : 1048576 < s.size
  · rw [ifO_pos (by simp; omega)]
  · rw [ifO_neg (by simp; omega)]
    obtain ⟨m, ok, e1, e2, hs⟩ := Parse_eq s (by omega)
    have b1 := nModeS_le hs.2
    have m1 : mMonitor m ≤ 2000000000000000000 := by unfold mMonitor; omega
    obtain ⟨x0, a2, d2⟩ := mhMonitor m hs 1 (by decide) (by omega)
    have n2 : ¬ (1 + (mMonitor m : Int) < 0) := by omega
    simp [e1, e2, eqMonitor_self m hs, a2, d2, n2]
end Go.Proofs.Ytmbohhfhhdopiaa
