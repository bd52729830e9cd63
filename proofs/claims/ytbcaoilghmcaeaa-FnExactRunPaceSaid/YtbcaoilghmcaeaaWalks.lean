/- The functions of this seat: each call returns what a plain function computes. -/
import Derived.Test.YtbcaoilghmcaeaaCore
import Derived.Test.YtbcaoilghmcaeaaData
import Derived.Test.YtbcaoilghmcaeaaRows
import Derived.KernelRfl
namespace Go.Proofs.Ytbcaoilghmcaeaa
open Go.RowKit K

set_option maxRecDepth 100000
def inR (n lo hi : Int) : Bool := decide (lo ≤ n) && decide (n ≤ hi)
def pow8 (p : Int) : Bool := ((decide (p = 1) || decide (p = 2)) || decide (p = 4)) || decide (p = 8)
def w64 (n : Int) : Int := IntKind.i64.wrap n
def divOk (n m p r lo hi : Int) : Bool :=
  inR n 4 64 && inR m 1 8 && pow8 p && inR r 1 1000000 && inR lo 1 1000000 && inR hi 1 1000000 && decide (w64 (lo * m) ≤ w64 (r * n)) && decide (w64 (r * n) ≤ w64 (hi * m))
def errOf (n m p r t : Int) : Int :=
  if (!inR n 4 64 || !inR m 1 8 || !inR p 1 8 || !inR r 1 1000000 || !inR t 1 1000000) = true then -1
  else max (w64 (w64 (r * n) - w64 (w64 (t * m) * p))) (w64 (0 - w64 (w64 (r * n) - w64 (w64 (t * m) * p))))
def closer (n m p n2 m2 p2 r t : Int) : Bool :=
  decide (0 ≤ errOf n m p r t) && decide (0 ≤ errOf n2 m2 p2 r t) && decide (w64 (w64 (errOf n m p r t * m2) * p2) < w64 (w64 (errOf n2 m2 p2 r t * m) * p))
def pktLen (kind dots : Int) : Int :=
  if kind = 0 ∧ 1 ≤ dots ∧ dots ≤ 16 then 7 + 5 * dots else if (kind = 1 ∨ kind = 2) ∧ dots = 0 then 7 else -1

/-- The sum of the first bytes. -/
def bsum (s : ByteArray) : Nat → Int
  | 0 => 0
  | k + 1 => bsum s k + (s[k]!).toNat
theorem u8_lt (c : UInt8) : c.toNat < 256 := c.toNat_lt
theorem bsum_nonneg (s : ByteArray) : ∀ k, 0 ≤ bsum s k
  | 0 => by simp [bsum]
  | k + 1 => by have := bsum_nonneg s k; simp only [bsum]; omega
theorem bsum_le (s : ByteArray) : ∀ k, bsum s k ≤ 256 * k
  | 0 => by simp [bsum]
  | k + 1 => by have := bsum_le s k; have := u8_lt s[k]!; simp only [bsum]; omega
theorem bsum_mod (s : ByteArray) (k : Nat) : bsum s (k + 1) % 256 = (bsum s k % 256 + (s[k]!).toNat) % 256 := by simp only [bsum]; omega

/-- A divider's three numbers, and whether one was found. -/
abbrev Best := (Int × Int × Int) × Bool
def best0 : Best := ((0, 0, 0), false)
def takes (r t lo hi n m p : Int) (s : Best) : Bool := (divOk n m p r lo hi && inR t 1 1000000) && (!s.2 || closer n m p s.1.1 s.1.2.1 s.1.2.2 r t)
def bstep (r t lo hi n m p : Int) (s : Best) : Best := if takes r t lo hi n m p s = true then ((n, m, p), true) else s
def runN (r t lo hi m p : Int) : Nat → Int → Best → Best
  | 0, _, s => s
  | k + 1, n, s => runN r t lo hi m p k (n + 1) (bstep r t lo hi n m p s)
def runP (r t lo hi m : Int) : Nat → Int → Best → Best
  | 0, _, s => s
  | k + 1, p, s => runP r t lo hi m k (p * 2) (runN r t lo hi m p 61 4 s)
def runM (r t lo hi : Int) : Nat → Int → Best → Best
  | 0, _, s => s
  | k + 1, m, s => runM r t lo hi k (m + 1) (runP r t lo hi m 4 1 s)
def bestD (r t lo hi : Int) : Best := runM r t lo hi 8 1 best0
theorem bstep_none (r t lo hi n m p : Int) (h : inR t 1 1000000 = false) (s : Best) : bstep r t lo hi n m p s = s := by simp [bstep, takes, h]
theorem runN_none (r t lo hi m p : Int) (h : inR t 1 1000000 = false) : ∀ (k : Nat) (n : Int) (s : Best), runN r t lo hi m p k n s = s
  | 0, _, _ => rfl
  | k + 1, n, s => by rw [runN, bstep_none _ _ _ _ _ _ _ h]; exact runN_none r t lo hi m p h k _ _
theorem runP_none (r t lo hi m : Int) (h : inR t 1 1000000 = false) : ∀ (k : Nat) (n : Int) (s : Best), runP r t lo hi m k n s = s
  | 0, _, _ => rfl
  | k + 1, n, s => by rw [runP, runN_none _ _ _ _ _ _ h]; exact runP_none r t lo hi m h k _ _
theorem runM_none (r t lo hi : Int) (h : inR t 1 1000000 = false) : ∀ (k : Nat) (n : Int) (s : Best), runM r t lo hi k n s = s
  | 0, _, _ => rfl
  | k + 1, n, s => by rw [runM, runP_none _ _ _ _ _ h]; exact runM_none r t lo hi h k _ _
theorem bestD_none (r t lo hi : Int) (h : inR t 1 1000000 = false) : bestD r t lo hi = best0 := runM_none r t lo hi h 8 1 best0
def InvN (r t lo hi m p : Int) (s0 : Best) (x : Int × Best) : Prop := 4 ≤ x.1 ∧ x.1 ≤ 65 ∧ runN r t lo hi m p (65 - x.1).toNat x.1 x.2 = runN r t lo hi m p 61 4 s0
def InvP (r t lo hi m : Int) (s0 : Best) (x : Nat × Int × Best) : Prop :=
  ((x.1 = 4 ∧ x.2.1 = 1) ∨ (x.1 = 3 ∧ x.2.1 = 2) ∨ (x.1 = 2 ∧ x.2.1 = 4) ∨ (x.1 = 1 ∧ x.2.1 = 8) ∨ (x.1 = 0 ∧ x.2.1 = 16)) ∧ runP r t lo hi m x.1 x.2.1 x.2.2 = runP r t lo hi m 4 1 s0
def InvM (r t lo hi : Int) (x : Int × Best) : Prop := 1 ≤ x.1 ∧ x.1 ≤ 9 ∧ runM r t lo hi (9 - x.1).toNat x.1 x.2 = bestD r t lo hi
theorem InvN.next {r t lo hi m p : Int} {s0 : Best} {n : Int} {s : Best} (h : InvN r t lo hi m p s0 (n, s)) (hn : n ≤ 64) {s' : Best} (hs : bstep r t lo hi n m p s = s') : InvN r t lo hi m p s0 (n + 1, s') := by
  obtain ⟨h1, h2, h3⟩ := h
  subst hs
  dsimp only at *
  refine ⟨by dsimp only; omega, by dsimp only; omega, ?_⟩
  rw [← h3]
  have e : (65 - n).toNat = (65 - (n + 1)).toNat + 1 := by omega
  rw [e]; rfl
theorem InvN.done {r t lo hi m p : Int} {s0 : Best} {n : Int} {s : Best} (h : InvN r t lo hi m p s0 (n, s)) (hn : ¬ n ≤ 64) : s = runN r t lo hi m p 61 4 s0 := by
  obtain ⟨h1, h2, h3⟩ := h
  dsimp only at *
  have e : (65 - n).toNat = 0 := by omega
  rw [e] at h3; exact h3
theorem InvP.next {r t lo hi m : Int} {s0 : Best} {k : Nat} {p : Int} {s : Best} (h : InvP r t lo hi m s0 (k, p, s)) (hp : p ≤ 8) : InvP r t lo hi m s0 (k - 1, p * 2, runN r t lo hi m p 61 4 s) ∧ k - 1 < k := by
  obtain ⟨h1, h2⟩ := h
  dsimp only at *
  match k, h2 with
  | 0, _ => omega
  | k + 1, h2 => exact ⟨⟨by dsimp only; omega, h2⟩, by omega⟩
theorem InvP.done {r t lo hi m : Int} {s0 : Best} {k : Nat} {p : Int} {s : Best} (h : InvP r t lo hi m s0 (k, p, s)) (hp : ¬ p ≤ 8) : s = runP r t lo hi m 4 1 s0 := by
  obtain ⟨h1, h2⟩ := h
  dsimp only at *
  have e : k = 0 := by omega
  subst e; exact h2
theorem InvM.next {r t lo hi : Int} {m : Int} {s : Best} (h : InvM r t lo hi (m, s)) (hm : m ≤ 8) : InvM r t lo hi (m + 1, runP r t lo hi m 4 1 s) := by
  obtain ⟨h1, h2, h3⟩ := h
  dsimp only at *
  refine ⟨by dsimp only; omega, by dsimp only; omega, ?_⟩
  rw [← h3]
  have e : (9 - m).toNat = (9 - (m + 1)).toNat + 1 := by omega
  rw [e]; rfl
theorem InvM.done {r t lo hi : Int} {m : Int} {s : Best} (h : InvM r t lo hi (m, s)) (hm : ¬ m ≤ 8) : s = bestD r t lo hi := by
  obtain ⟨h1, h2, h3⟩ := h
  dsimp only at *
  have e : (9 - m).toNat = 0 := by omega
  rw [e] at h3; exact h3
def eqD (n m p n2 m2 p2 : Int) : Bool := decide (n = n2) && decide (m = m2) && decide (p = p2)
theorem eqD_self (n m p : Int) : eqD n m p n m p = true := by simp [eqD]

def modeOk (m0 m1 m2 m3 m4 m5 m6 m7 m8 : Int) : Bool :=
  inR m0 1 1000000 && inR m1 1 16 && inR m5 1 16 && inR m3 1 40 && inR m7 1 40 && inR m2 0 40 && inR m4 0 40 && inR m6 0 40 && inR m8 0 40
theorem inR_iff (n lo hi : Int) : inR n lo hi = true ↔ lo ≤ n ∧ n ≤ hi := by simp [inR]
theorem modeOk_bounds {m0 m1 m2 m3 m4 m5 m6 m7 m8 : Int} (h : modeOk m0 m1 m2 m3 m4 m5 m6 m7 m8 = true) :
    (1 ≤ m1 ∧ m1 ≤ 16) ∧ (1 ≤ m5 ∧ m5 ≤ 16) ∧ (1 ≤ m3 ∧ m3 ≤ 40) ∧ (1 ≤ m7 ∧ m7 ≤ 40) ∧ (0 ≤ m2 ∧ m2 ≤ 40) ∧ (0 ≤ m4 ∧ m4 ≤ 40) ∧ (0 ≤ m6 ∧ m6 ≤ 40) ∧ (0 ≤ m8 ∧ m8 ≤ 40) := by
  unfold modeOk at h
  simp only [Bool.and_eq_true, inR_iff] at h
  omega
def lineTotal (m0 m1 m2 m3 m4 m5 m6 m7 m8 : Int) : Int := if modeOk m0 m1 m2 m3 m4 m5 m6 m7 m8 = true then m1 + m2 + m3 + m4 else 0
def blankLines (m0 m1 m2 m3 m4 m5 m6 m7 m8 : Int) : Int := if modeOk m0 m1 m2 m3 m4 m5 m6 m7 m8 = true then m6 + m7 + m8 else 0
def frameTotal (m0 m1 m2 m3 m4 m5 m6 m7 m8 : Int) : Int := if modeOk m0 m1 m2 m3 m4 m5 m6 m7 m8 = true then (m1 + m2 + m3 + m4) * (m5 + (m6 + m7 + m8)) else 0
theorem frame_bounds (m0 m1 m2 m3 m4 m5 m6 m7 m8 : Int) : 0 ≤ frameTotal m0 m1 m2 m3 m4 m5 m6 m7 m8 ∧ frameTotal m0 m1 m2 m3 m4 m5 m6 m7 m8 ≤ 18496 := by
  unfold frameTotal
  split
  · rename_i h
    have hb := modeOk_bounds h
    have h1 : 0 ≤ m1 + m2 + m3 + m4 := by omega
    have h2 : m1 + m2 + m3 + m4 ≤ 136 := by omega
    have h3 : 0 ≤ m5 + (m6 + m7 + m8) := by omega
    have h4 : m5 + (m6 + m7 + m8) ≤ 136 := by omega
    exact ⟨Int.mul_nonneg h1 h3, by have := Int.mul_le_mul h2 h4 h3 (by omega); omega⟩
  · omega
theorem frame_wrap (m0 m1 m2 m3 m4 m5 m6 m7 m8 : Int) : IntKind.i64.wrap (lineTotal m0 m1 m2 m3 m4 m5 m6 m7 m8 * IntKind.i64.wrap (m5 + blankLines m0 m1 m2 m3 m4 m5 m6 m7 m8)) = frameTotal m0 m1 m2 m3 m4 m5 m6 m7 m8 := by
  have hf := frame_bounds m0 m1 m2 m3 m4 m5 m6 m7 m8
  unfold lineTotal blankLines
  unfold frameTotal at *
  split
  · rename_i h
    have hb := modeOk_bounds h
    rw [if_pos h] at hf
    rw [I64.wrap (n := m5 + (m6 + m7 + m8)) ⟨by omega, by omega⟩, I64.wrap ⟨by omega, by omega⟩]
  · rw [Int.zero_mul]; rfl
def beamOk (m0 m1 m2 m3 m4 m5 m6 m7 m8 n : Int) : Bool := inR n 0 (frameTotal m0 m1 m2 m3 m4 m5 m6 m7 m8 - 1)
theorem beamOk_mode {m0 m1 m2 m3 m4 m5 m6 m7 m8 n : Int} (h : inR n 0 (frameTotal m0 m1 m2 m3 m4 m5 m6 m7 m8 - 1) = true) : modeOk m0 m1 m2 m3 m4 m5 m6 m7 m8 = true ∧ 0 ≤ n ∧ n ≤ 18496 ∧ n < (m1 + m2 + m3 + m4) * (m5 + (m6 + m7 + m8)) := by
  have hf := frame_bounds m0 m1 m2 m3 m4 m5 m6 m7 m8
  rw [inR_iff] at h
  unfold frameTotal at *
  split at h
  · rename_i hm
    rw [if_pos hm] at hf
    exact ⟨hm, by omega, by omega, by omega⟩
  · omega
abbrev Beam := Int × Int × Bool × Bool × Bool × Bool
def beam (m0 m1 m2 m3 m4 m5 m6 m7 m8 n : Int) : Beam :=
  if beamOk m0 m1 m2 m3 m4 m5 m6 m7 m8 n = true then (n % (m1 + m2 + m3 + m4), n / (m1 + m2 + m3 + m4), (decide (n % (m1 + m2 + m3 + m4) < m1) && decide (n / (m1 + m2 + m3 + m4) < m5)), inR (n % (m1 + m2 + m3 + m4)) (m1 + m2) (m1 + m2 + m3 - 1), inR (n / (m1 + m2 + m3 + m4)) (m5 + m6) (m5 + m6 + m7 - 1), true)
  else (0, 0, false, false, false, false)
def eqBm (x y : Int) (a b c : Bool) (x2 y2 : Int) (a2 b2 c2 : Bool) : Bool := decide (x = x2) && decide (y = y2) && (a == a2) && (b == b2) && (c == c2)
theorem eqBm_self (x y : Int) (a b c : Bool) : eqBm x y a b c x y a b c = true := by simp [eqBm]

theorem beam_eq {m0 m1 m2 m3 m4 m5 m6 m7 m8 n : Int} (h : inR n 0 (frameTotal m0 m1 m2 m3 m4 m5 m6 m7 m8 - 1) = true) : beam m0 m1 m2 m3 m4 m5 m6 m7 m8 n = (n % (m1 + m2 + m3 + m4), n / (m1 + m2 + m3 + m4), (decide (n % (m1 + m2 + m3 + m4) < m1) && decide (n / (m1 + m2 + m3 + m4) < m5)), inR (n % (m1 + m2 + m3 + m4)) (m1 + m2) (m1 + m2 + m3 - 1), inR (n / (m1 + m2 + m3 + m4)) (m5 + m6) (m5 + m6 + m7 - 1), true) := by
  unfold beam
  rw [if_pos (show beamOk m0 m1 m2 m3 m4 m5 m6 m7 m8 n = true from h)]
theorem inR_shift (x a b c : Int) : inR x (a + b) (a + b + c - 1) = inR (x - a - b) 0 (c - 1) := by
  unfold inR
  congr 1 <;> exact decide_eq_decide.2 ⟨fun _ => by omega, fun _ => by omega⟩
theorem lineTotal_of {m0 m1 m2 m3 m4 m5 m6 m7 m8 : Int} (h : modeOk m0 m1 m2 m3 m4 m5 m6 m7 m8 = true) : lineTotal m0 m1 m2 m3 m4 m5 m6 m7 m8 = m1 + m2 + m3 + m4 := by unfold lineTotal; rw [if_pos h]

theorem ca_56 : callable Try.prog 56 = true := by kernel_rfl
theorem ca_58 : callable Try.prog 58 = true := by kernel_rfl
theorem ca_87 : callable Try.prog 87 = true := by kernel_rfl
theorem fo_26_0 : fieldOff Try.prog 26 0 = some 0 := by kernel_rfl
theorem pt_3 : plainTy Try.prog 3 = true := by kernel_rfl
theorem fo_26_1 : fieldOff Try.prog 26 1 = some 1 := by kernel_rfl
theorem fo_26_2 : fieldOff Try.prog 26 2 = some 2 := by kernel_rfl
theorem ca_84 : callable Try.prog 84 = true := by kernel_rfl
theorem ca_55 : callable Try.prog 55 = true := by kernel_rfl
theorem ag_26 : aggTy Try.prog 26 = some 3 := by kernel_rfl
theorem ca_22 : callable Try.prog 22 = true := by kernel_rfl
theorem ca_21 : callable Try.prog 21 = true := by kernel_rfl
theorem zc_26 : zeroCells Try.prog 26 = some [.int .i64 0, .int .i64 0, .int .i64 0] := by kernel_rfl
theorem bd_26_ : Try.prog.built 26 [] = some #[.int .i64 0, .int .i64 0, .int .i64 0] := by kernel_rfl
theorem ts_26 : tySize Try.prog 26 = some 3 := by kernel_rfl
theorem bd_26_0_1_2 : ∀ (x0 : Int) (x1 : Int) (x2 : Int), Try.prog.built 26 [(0, .int .i64 x0), (1, .int .i64 x1), (2, .int .i64 x2)] = some #[.int .i64 x0, .int .i64 x1, .int .i64 x2] := fun _ _ _ => by kernel_rfl
theorem ca_57 : callable Try.prog 57 = true := by kernel_rfl
theorem ca_59 : callable Try.prog 59 = true := by kernel_rfl
theorem ca_18 : callable Try.prog 18 = true := by kernel_rfl
theorem ca_19 : callable Try.prog 19 = true := by kernel_rfl
theorem fo_40_0 : fieldOff Try.prog 40 0 = some 0 := by kernel_rfl
theorem fo_40_1 : fieldOff Try.prog 40 1 = some 1 := by kernel_rfl
theorem fo_40_5 : fieldOff Try.prog 40 5 = some 5 := by kernel_rfl
theorem fo_40_3 : fieldOff Try.prog 40 3 = some 3 := by kernel_rfl
theorem fo_40_7 : fieldOff Try.prog 40 7 = some 7 := by kernel_rfl
theorem fo_40_2 : fieldOff Try.prog 40 2 = some 2 := by kernel_rfl
theorem fo_40_4 : fieldOff Try.prog 40 4 = some 4 := by kernel_rfl
theorem fo_40_6 : fieldOff Try.prog 40 6 = some 6 := by kernel_rfl
theorem fo_40_8 : fieldOff Try.prog 40 8 = some 8 := by kernel_rfl
theorem ag_40 : aggTy Try.prog 40 = some 9 := by kernel_rfl
theorem ca_60 : callable Try.prog 60 = true := by kernel_rfl
theorem ca_78 : callable Try.prog 78 = true := by kernel_rfl
theorem ca_62 : callable Try.prog 62 = true := by kernel_rfl
theorem ca_79 : callable Try.prog 79 = true := by kernel_rfl
theorem ca_64 : callable Try.prog 64 = true := by kernel_rfl
theorem ca_85 : callable Try.prog 85 = true := by kernel_rfl
theorem zc_37 : zeroCells Try.prog 37 = some [.int .i64 0, .int .i64 0, .bool false, .bool false, .bool false] := by kernel_rfl
theorem ca_61 : callable Try.prog 61 = true := by kernel_rfl
theorem bd_37_ : Try.prog.built 37 [] = some #[.int .i64 0, .int .i64 0, .bool false, .bool false, .bool false] := by kernel_rfl
theorem ts_37 : tySize Try.prog 37 = some 5 := by kernel_rfl
theorem ag_37 : aggTy Try.prog 37 = some 5 := by kernel_rfl
theorem bd_37_0_1 : ∀ (x0 : Int) (x1 : Int), Try.prog.built 37 [(0, .int .i64 x0), (1, .int .i64 x1)] = some #[.int .i64 x0, .int .i64 x1, .bool false, .bool false, .bool false] := fun _ _ => by kernel_rfl
theorem fo_37_0 : fieldOff Try.prog 37 0 = some 0 := by kernel_rfl
theorem fo_37_1 : fieldOff Try.prog 37 1 = some 1 := by kernel_rfl
theorem fo_37_2 : fieldOff Try.prog 37 2 = some 2 := by kernel_rfl
theorem ts_4 : tySize Try.prog 4 = some 1 := by kernel_rfl
theorem fo_37_3 : fieldOff Try.prog 37 3 = some 3 := by kernel_rfl
theorem fo_37_4 : fieldOff Try.prog 37 4 = some 4 := by kernel_rfl
theorem ca_63 : callable Try.prog 63 = true := by kernel_rfl
theorem bd_37_0_1_2_3_4 : ∀ (x0 : Int) (x1 : Int) (x2 : Bool) (x3 : Bool) (x4 : Bool), Try.prog.built 37 [(0, .int .i64 x0), (1, .int .i64 x1), (2, .bool x2), (3, .bool x3), (4, .bool x4)] = some #[.int .i64 x0, .int .i64 x1, .bool x2, .bool x3, .bool x4] := fun _ _ _ _ _ => by kernel_rfl
theorem zc_40 : zeroCells Try.prog 40 = some [.int .i64 0, .int .i64 0, .int .i64 0, .int .i64 0, .int .i64 0, .int .i64 0, .int .i64 0, .int .i64 0, .int .i64 0] := by kernel_rfl
theorem fo_35_0 : fieldOff Try.prog 35 0 = some 0 := by kernel_rfl
theorem ts_3 : tySize Try.prog 3 = some 1 := by kernel_rfl
theorem fo_35_1 : fieldOff Try.prog 35 1 = some 1 := by kernel_rfl
theorem fo_35_2 : fieldOff Try.prog 35 2 = some 2 := by kernel_rfl
theorem fo_35_3 : fieldOff Try.prog 35 3 = some 3 := by kernel_rfl
theorem fo_35_4 : fieldOff Try.prog 35 4 = some 4 := by kernel_rfl
theorem fo_35_5 : fieldOff Try.prog 35 5 = some 5 := by kernel_rfl
theorem fo_35_6 : fieldOff Try.prog 35 6 = some 6 := by kernel_rfl
theorem fo_35_7 : fieldOff Try.prog 35 7 = some 7 := by kernel_rfl
theorem fo_35_8 : fieldOff Try.prog 35 8 = some 8 := by kernel_rfl
theorem ts_40 : tySize Try.prog 40 = some 9 := by kernel_rfl
theorem pt_4 : plainTy Try.prog 4 = true := by kernel_rfl
theorem ub_4 : Try.prog.underlying 4 = some .bool := by kernel_rfl
theorem ca_20 : callable Try.prog 20 = true := by kernel_rfl
theorem ca_17 : callable Try.prog 17 = true := by kernel_rfl
theorem ca_23 : callable Try.prog 23 = true := by kernel_rfl
theorem ag_35 : aggTy Try.prog 35 = some 9 := by kernel_rfl
theorem ca_25 : callable Try.prog 25 = true := by kernel_rfl
theorem ca_24 : callable Try.prog 24 = true := by kernel_rfl
theorem ca_26 : callable Try.prog 26 = true := by kernel_rfl
theorem ca_27 : callable Try.prog 27 = true := by kernel_rfl

theorem s_in (n lo hi : Int) (w : World) :
    Calls Try.prog 58 #[.int .i64 n, .int .i64 lo, .int .i64 hi] w fun en w' => en = .returned (.bool (inR n lo hi)) ∧ Ext w w' := by
  refine enter (vs := [_, _, _]) Try.func58 rfl rfl rfl rfl ?_
  refine WC.seq ?_
  refine WC.region ?_
  refine Lt.ofWL.step rfl rfl rfl (OpV.assign rfl) ?_
  refine WL.nil ?_
  refine En.next ?_
  refine WC.seq ?_
  refine WC.region ?_
  refine Lt.ofWL.step rfl rfl rfl (OpV.move rfl) ?_
  refine Lt.ofWL.step rfl rfl rfl (OpV.move rfl) ?_
  refine Lt.ofWL.step rfl rfl rfl (OpV.geq rfl rfl) ?_
  refine Lt.ofWL.step rfl rfl rfl (OpV.move rfl) ?_
  refine Lt.ofWL.and 10 14 13 (p := ?pz1) (rest := ?qz1) (B := ?Bz1) rfl ?Tz1 ?Fz1 ?az1 ?bz1 ?cz1 ?dz1 ?ez1
  case Tz1 =>
    intro hc2 hkz1
    refine Lt.ofWL.step rfl rfl rfl (OpV.move rfl) ?_
    refine Lt.ofWL.step rfl rfl rfl (OpV.move rfl) ?_
    refine Lt.ofWL.step rfl rfl rfl (OpV.leq rfl rfl) ?_
    refine hkz1 _ ?_ ?_
    exact rfl
    repeat (first | exact Sub.refl _ | refine Sub.skip rfl ?_)
  case Fz1 =>
    intro hc3 hkz1
    refine Lt.ofWL.skip rfl rfl rfl ?_
    refine Lt.ofWL.skip rfl rfl rfl ?_
    refine Lt.ofWL.skip rfl rfl rfl ?_
    refine hkz1 _ ?_
    repeat (first | exact Sub.refl _ | refine Sub.skip rfl ?_)
  case az1 => exact rfl
  case bz1 => exact rfl
  case cz1 => exact rfl
  case dz1 => exact rfl
  refine Lt.ofWL.step rfl rfl rfl (OpV.assign rfl) ?_
  refine WL.nil ?_
  refine En.next ?_
  refine WC.ret ?_
  refine En.ret1 rfl (Res.tmp rfl) ?_
  intro w' hs
  exact ⟨rfl, hs.below⟩

theorem i_within (n lo hi : Int) (w : World) :
    Calls Try.prog 56 #[.int .i64 n, .int .i64 lo, .int .i64 hi] w fun en w' => en = .returned (.bool (inR n lo hi)) ∧ Ext w w' := by
  refine enter (vs := [_, _, _]) Try.func56 rfl rfl rfl rfl ?_
  refine WC.seq ?_
  refine WC.region ?_
  refine Lt.ofWL.step rfl rfl rfl (OpV.assign rfl) ?_
  refine WL.nil ?_
  refine En.next ?_
  refine WC.seq ?_
  refine WC.region ?_
  refine Lt.ofWL.step rfl rfl rfl (OpV.move rfl) ?_
  refine Lt.ofWL.step rfl rfl rfl (OpV.move rfl) ?_
  refine Lt.ofWL.step rfl rfl rfl (OpV.leq rfl rfl) ?_
  refine Lt.ofWL.step rfl rfl rfl (OpV.move rfl) ?_
  refine Lt.ofWL.and 10 14 13 (p := ?pz1) (rest := ?qz1) (B := ?Bz1) rfl ?Tz1 ?Fz1 ?az1 ?bz1 ?cz1 ?dz1 ?ez1
  case Tz1 =>
    intro hc2 hkz1
    refine Lt.ofWL.step rfl rfl rfl (OpV.move rfl) ?_
    refine Lt.ofWL.step rfl rfl rfl (OpV.move rfl) ?_
    refine Lt.ofWL.step rfl rfl rfl (OpV.leq rfl rfl) ?_
    refine hkz1 _ ?_ ?_
    exact rfl
    repeat (first | exact Sub.refl _ | refine Sub.skip rfl ?_)
  case Fz1 =>
    intro hc3 hkz1
    refine Lt.ofWL.skip rfl rfl rfl ?_
    refine Lt.ofWL.skip rfl rfl rfl ?_
    refine Lt.ofWL.skip rfl rfl rfl ?_
    refine hkz1 _ ?_
    repeat (first | exact Sub.refl _ | refine Sub.skip rfl ?_)
  case az1 => exact rfl
  case bz1 => exact rfl
  case cz1 => exact rfl
  case dz1 => exact rfl
  refine Lt.ofWL.step rfl rfl rfl (OpV.assign rfl) ?_
  refine WL.nil ?_
  refine En.next ?_
  refine WC.ret ?_
  refine En.ret1 rfl (Res.tmp rfl) ?_
  intro w' hs
  exact ⟨rfl, hs.below⟩

theorem i_isSide (n : Int) (w : World) :
    Calls Try.prog 87 #[.int .i64 n] w fun en w' => en = .returned (.bool (inR n 1 16)) ∧ Ext w w' := by
  refine enter (vs := [_]) Try.func87 rfl rfl rfl rfl ?_
  refine WC.seq ?_
  refine WC.region ?_
  refine Lt.ofWL.step rfl rfl rfl (OpV.assign rfl) ?_
  refine WL.nil ?_
  refine En.next ?_
  refine WC.seq ?_
  refine WC.region ?_
  refine Lt.ofWL.step rfl rfl rfl (OpV.move rfl) ?_
  refine Lt.ofWL.step rfl rfl rfl (OpV.call (evs.cons rfl (evs.cons rfl (evs.cons rfl (evs.nil)))) ca_56 (fun w hs => i_within _ _ _ w)) ?_
  refine Lt.ofWL.step rfl rfl rfl (OpV.assign rfl) ?_
  refine WL.nil ?_
  refine En.next ?_
  refine WC.ret ?_
  refine En.ret1 rfl (Res.tmp rfl) ?_
  intro w' hs
  exact ⟨rfl, hs.below⟩

theorem i_isClock (n : Int) (w : World) :
    Calls Try.prog 55 #[.int .i64 n] w fun en w' => en = .returned (.bool (inR n 1 1000000)) ∧ Ext w w' := by
  refine enter (vs := [_]) Try.func55 rfl rfl rfl rfl ?_
  refine WC.seq ?_
  refine WC.region ?_
  refine Lt.ofWL.step rfl rfl rfl (OpV.assign rfl) ?_
  refine WL.nil ?_
  refine En.next ?_
  refine WC.seq ?_
  refine WC.region ?_
  refine Lt.ofWL.step rfl rfl rfl (OpV.move rfl) ?_
  refine Lt.ofWL.step rfl rfl rfl (OpV.call (evs.cons rfl (evs.cons rfl (evs.cons rfl (evs.nil)))) ca_56 (fun w hs => i_within _ _ _ w)) ?_
  refine Lt.ofWL.step rfl rfl rfl (OpV.assign rfl) ?_
  refine WL.nil ?_
  refine En.next ?_
  refine WC.ret ?_
  refine En.ret1 rfl (Res.tmp rfl) ?_
  intro w' hs
  exact ⟨rfl, hs.below⟩

theorem s_power (p : Int) (w : World) :
    Calls Try.prog 84 #[.int .i64 p] w fun en w' => en = .returned (.bool (pow8 p)) ∧ Ext w w' := by
  refine enter (vs := [_]) Try.func84 rfl rfl rfl rfl ?_
  refine WC.seq ?_
  refine WC.region ?_
  refine Lt.ofWL.step rfl rfl rfl (OpV.assign rfl) ?_
  refine WL.nil ?_
  refine En.next ?_
  refine WC.seq ?_
  refine WC.region ?_
  refine Lt.ofWL.step rfl rfl rfl (OpV.move rfl) ?_
  refine Lt.ofWL.step rfl rfl rfl (OpV.eql rfl rfl) ?_
  refine Lt.ofWL.step rfl rfl rfl (OpV.move rfl) ?_
  refine Lt.ofWL.or 5 8 7 (p := ?pz1) (rest := ?qz1) (B := ?Bz1) rfl ?Tz1 ?Fz1 ?az1 ?bz1 ?cz1 ?dz1 ?ez1
  case Tz1 =>
    intro hc2 hkz1
    refine Lt.ofWL.skip rfl rfl rfl ?_
    refine Lt.ofWL.skip rfl rfl rfl ?_
    refine hkz1 _ ?_
    repeat (first | exact Sub.refl _ | refine Sub.skip rfl ?_)
  case Fz1 =>
    intro hc3 hkz1
    refine Lt.ofWL.step rfl rfl rfl (OpV.move rfl) ?_
    refine Lt.ofWL.step rfl rfl rfl (OpV.eql rfl rfl) ?_
    refine hkz1 _ ?_ ?_
    exact rfl
    repeat (first | exact Sub.refl _ | refine Sub.skip rfl ?_)
  case az1 => exact rfl
  case bz1 => exact rfl
  case cz1 => exact rfl
  case dz1 => exact rfl
  refine Lt.ofWL.step rfl rfl rfl (OpV.move rfl) ?_
  refine Lt.ofWL.or 9 12 11 (p := ?pz4) (rest := ?qz4) (B := ?Bz4) rfl ?Tz4 ?Fz4 ?az4 ?bz4 ?cz4 ?dz4 ?ez4
  case Tz4 =>
    intro hc5 hkz4
    refine Lt.ofWL.skip rfl rfl rfl ?_
    refine Lt.ofWL.skip rfl rfl rfl ?_
    refine hkz4 _ ?_
    repeat (first | exact Sub.refl _ | refine Sub.skip rfl ?_)
  case Fz4 =>
    intro hc6 hkz4
    refine Lt.ofWL.step rfl rfl rfl (OpV.move rfl) ?_
    refine Lt.ofWL.step rfl rfl rfl (OpV.eql rfl rfl) ?_
    refine hkz4 _ ?_ ?_
    exact rfl
    repeat (first | exact Sub.refl _ | refine Sub.skip rfl ?_)
  case az4 => exact rfl
  case bz4 => exact rfl
  case cz4 => exact rfl
  case dz4 => exact rfl
  refine Lt.ofWL.step rfl rfl rfl (OpV.move rfl) ?_
  refine Lt.ofWL.or 13 16 15 (p := ?pz7) (rest := ?qz7) (B := ?Bz7) rfl ?Tz7 ?Fz7 ?az7 ?bz7 ?cz7 ?dz7 ?ez7
  case Tz7 =>
    intro hc8 hkz7
    refine Lt.ofWL.skip rfl rfl rfl ?_
    refine Lt.ofWL.skip rfl rfl rfl ?_
    refine hkz7 _ ?_
    repeat (first | exact Sub.refl _ | refine Sub.skip rfl ?_)
  case Fz7 =>
    intro hc9 hkz7
    refine Lt.ofWL.step rfl rfl rfl (OpV.move rfl) ?_
    refine Lt.ofWL.step rfl rfl rfl (OpV.eql rfl rfl) ?_
    refine hkz7 _ ?_ ?_
    exact rfl
    repeat (first | exact Sub.refl _ | refine Sub.skip rfl ?_)
  case az7 => exact rfl
  case bz7 => exact rfl
  case cz7 => exact rfl
  case dz7 => exact rfl
  refine Lt.ofWL.step rfl rfl rfl (OpV.assign rfl) ?_
  refine WL.nil ?_
  refine En.next ?_
  refine WC.ret ?_
  refine En.ret1 rfl (Res.tmp rfl) ?_
  intro w' hs
  exact ⟨rfl, hs.below⟩

theorem s_PacketLength (kind dots : Int) (w : World) :
    Calls Try.prog 66 #[.int .i64 kind, .int .i64 dots] w fun en w' => en = .returned (.int .i64 (pktLen kind dots)) ∧ Ext w w' := by
  refine enter (vs := [_, _]) Try.func66 rfl rfl rfl rfl ?_
  refine WC.seq ?_
  refine WC.region ?_
  refine Lt.ofWL.step rfl rfl rfl (OpV.assign rfl) ?_
  refine WL.nil ?_
  refine En.next ?_
  refine WC.seq ?_
  refine WC.seq ?_
  refine WC.region ?_
  refine Lt.ofWL.step rfl rfl rfl (OpV.move rfl) ?_
  refine Lt.ofWL.step rfl rfl rfl (OpV.eql rfl rfl) ?_
  refine Lt.ofWL.step rfl rfl rfl (OpV.move rfl) ?_
  refine Lt.ofWL.and 7 10 9 (p := ?pz1) (rest := ?qz1) (B := ?Bz1) rfl ?Tz1 ?Fz1 ?az1 ?bz1 ?cz1 ?dz1 ?ez1
  case Tz1 =>
    intro hc2 hkz1
    refine Lt.ofWL.step rfl rfl rfl (OpV.move rfl) ?_
    refine Lt.ofWL.step rfl rfl rfl (OpV.call (evs.cons rfl (evs.cons rfl (evs.cons rfl (evs.nil)))) ca_58 (fun w hs => s_in _ _ _ w)) ?_
    refine hkz1 _ ?_ ?_
    exact rfl
    repeat (first | exact Sub.refl _ | refine Sub.skip rfl ?_)
  case Fz1 =>
    intro hc3 hkz1
    refine Lt.ofWL.skip rfl rfl rfl ?_
    refine Lt.ofWL.skip rfl rfl rfl ?_
    refine hkz1 _ ?_
    repeat (first | exact Sub.refl _ | refine Sub.skip rfl ?_)
  case az1 => exact rfl
  case bz1 => exact rfl
  case cz1 => exact rfl
  case dz1 => exact rfl
  refine Lt.ofWL.step rfl rfl rfl (OpV.move rfl) ?_
  refine Lt.ofWL.or 11 22 21 (p := ?pz4) (rest := ?qz4) (B := ?Bz4) rfl ?Tz4 ?Fz4 ?az4 ?bz4 ?cz4 ?dz4 ?ez4
  case Tz4 =>
    intro hc5 hkz4
    refine Lt.ofWL.skip rfl rfl rfl ?_
    refine Lt.ofWL.skip rfl rfl rfl ?_
    refine Lt.ofWL.skip rfl rfl rfl ?_
    refine Lt.ofWL.skip rfl rfl rfl ?_
    refine Lt.ofWL.skip rfl rfl rfl ?_
    refine Lt.ofWL.skip rfl rfl rfl ?_
    refine Lt.ofWL.skip rfl rfl rfl ?_
    refine Lt.ofWL.skip rfl rfl rfl ?_
    refine Lt.ofWL.skip rfl rfl rfl ?_
    refine Lt.ofWL.skip rfl rfl rfl ?_
    refine hkz4 _ ?_
    repeat (first | exact Sub.refl _ | refine Sub.skip rfl ?_)
  case Fz4 =>
    intro hc6 hkz4
    refine Lt.ofWL.step rfl rfl rfl (OpV.move rfl) ?_
    refine Lt.ofWL.step rfl rfl rfl (OpV.eql rfl rfl) ?_
    refine Lt.ofWL.step rfl rfl rfl (OpV.move rfl) ?_
    refine Lt.ofWL.or 14 17 16 (p := ?pz7) (rest := ?qz7) (B := ?Bz7) rfl ?Tz7 ?Fz7 ?az7 ?bz7 ?cz7 ?dz7 ?ez7
    case Tz7 =>
      intro hc8 hkz7
      refine Lt.ofWL.skip rfl rfl rfl ?_
      refine Lt.ofWL.skip rfl rfl rfl ?_
      refine hkz7 _ ?_
      repeat (first | exact Sub.refl _ | refine Sub.skip rfl ?_)
    case Fz7 =>
      intro hc9 hkz7
      refine Lt.ofWL.step rfl rfl rfl (OpV.move rfl) ?_
      refine Lt.ofWL.step rfl rfl rfl (OpV.eql rfl rfl) ?_
      refine hkz7 _ ?_ ?_
      exact rfl
      repeat (first | exact Sub.refl _ | refine Sub.skip rfl ?_)
    case az7 => exact rfl
    case bz7 => exact rfl
    case cz7 => exact rfl
    case dz7 => exact rfl
    refine Lt.ofWL.step rfl rfl rfl (OpV.move rfl) ?_
    refine Lt.ofWL.and 18 21 20 (p := ?pz10) (rest := ?qz10) (B := ?Bz10) rfl ?Tz10 ?Fz10 ?az10 ?bz10 ?cz10 ?dz10 ?ez10
    case Tz10 =>
      intro hc11 hkz10
      refine Lt.ofWL.step rfl rfl rfl (OpV.move rfl) ?_
      refine Lt.ofWL.step rfl rfl rfl (OpV.eql rfl rfl) ?_
      refine hkz10 _ ?_ ?_
      exact rfl
      repeat (first | exact Sub.refl _ | refine Sub.skip rfl ?_)
    case Fz10 =>
      intro hc12 hkz10
      refine Lt.ofWL.skip rfl rfl rfl ?_
      refine Lt.ofWL.skip rfl rfl rfl ?_
      refine hkz10 _ ?_
      repeat (first | exact Sub.refl _ | refine Sub.skip rfl ?_)
    case az10 => exact rfl
    case bz10 => exact rfl
    case cz10 => exact rfl
    case dz10 => exact rfl
    refine hkz4 _ ?_ ?_
    exact rfl
    repeat (first | exact Sub.refl _ | refine Sub.skip rfl ?_)
  case az4 => exact rfl
  case bz4 => exact rfl
  case cz4 => exact rfl
  case dz4 => exact rfl
  refine WL.nil ?_
  refine En.next ?_
  refine WC.cond rfl ?_ ?_
  ·
    intro hc13
    refine WC.seq ?_
    refine WC.region ?_
    refine Lt.ofWL.step rfl rfl rfl (OpV.move rfl) ?_
    refine Lt.ofWL.step rfl rfl rfl (OpV.mulW rfl rfl) ?_
    refine Lt.ofWL.step rfl rfl rfl (OpV.addW rfl rfl) ?_
    refine Lt.ofWL.step rfl rfl rfl (OpV.assign rfl) ?_
    refine WL.nil ?_
    refine En.next ?_
    refine WC.ret ?_
    refine En.then_ret ?_
    refine En.ret1 rfl (Res.tmp rfl) ?_
    intro w' hs
    refine ⟨congrArg _ (congrArg _ ?_), hs.below⟩
    unfold pktLen
    simp [inR] at *
    first
      | (have e1 : IntKind.i64.wrap (5 * dots) = 5 * dots := I64.wrap ⟨by omega, by omega⟩
         rw [e1, I64.wrap ⟨by omega, by omega⟩]; (repeat' split) <;> omega)
      | ((repeat' split) <;> omega)
  ·
    intro hc13
    refine WC.skip ?_
    refine En.next ?_
    refine WC.seq ?_
    refine WC.region ?_
    refine Lt.ofWL.step rfl rfl rfl (OpV.assign rfl) ?_
    refine WL.nil ?_
    refine En.next ?_
    refine WC.ret ?_
    refine En.ret1 rfl (Res.tmp rfl) ?_
    intro w' hs
    refine ⟨congrArg _ (congrArg _ ?_), hs.below⟩
    unfold pktLen
    simp [inR] at *
    first
      | (have e1 : IntKind.i64.wrap (5 * dots) = 5 * dots := I64.wrap ⟨by omega, by omega⟩
         rw [e1, I64.wrap ⟨by omega, by omega⟩]; (repeat' split) <;> omega)
      | ((repeat' split) <;> omega)

theorem i_PacketLength (kind dots : Int) (w : World) :
    Calls Try.prog 69 #[.int .i64 kind, .int .i64 dots] w fun en w' => en = .returned (.int .i64 (pktLen kind dots)) ∧ Ext w w' := by
  refine enter (vs := [_, _]) Try.func69 rfl rfl rfl rfl ?_
  refine WC.seq ?_
  refine WC.region ?_
  refine Lt.ofWL.step rfl rfl rfl (OpV.assign rfl) ?_
  refine WL.nil ?_
  refine En.next ?_
  refine WC.seq ?_
  refine WC.block ?_
  refine WC.seq ?_
  refine WC.region ?_
  refine Lt.ofWL.step rfl rfl rfl (OpV.move rfl) ?_
  refine Lt.ofWL.step rfl rfl rfl (OpV.eql rfl rfl) ?_
  refine Lt.ofWL.step rfl rfl rfl (OpV.move rfl) ?_
  refine Lt.ofWL.and 8 11 10 (p := ?pz1) (rest := ?qz1) (B := ?Bz1) rfl ?Tz1 ?Fz1 ?az1 ?bz1 ?cz1 ?dz1 ?ez1
  case Tz1 =>
    intro hc2 hkz1
    refine Lt.ofWL.step rfl rfl rfl (OpV.move rfl) ?_
    refine Lt.ofWL.step rfl rfl rfl (OpV.call (evs.cons rfl (evs.nil)) ca_87 (fun w hs => i_isSide _ w)) ?_
    refine hkz1 _ ?_ ?_
    exact rfl
    repeat (first | exact Sub.refl _ | refine Sub.skip rfl ?_)
  case Fz1 =>
    intro hc3 hkz1
    refine Lt.ofWL.skip rfl rfl rfl ?_
    refine Lt.ofWL.skip rfl rfl rfl ?_
    refine hkz1 _ ?_
    repeat (first | exact Sub.refl _ | refine Sub.skip rfl ?_)
  case az1 => exact rfl
  case bz1 => exact rfl
  case cz1 => exact rfl
  case dz1 => exact rfl
  refine Lt.ofWL.step rfl rfl rfl (OpV.assign rfl) ?_
  refine WL.nil ?_
  refine En.next ?_
  refine WC.cond rfl ?_ ?_
  ·
    intro hc4
    refine WC.seq ?_
    refine WC.region ?_
    refine Lt.ofWL.step rfl rfl rfl (OpV.move rfl) ?_
    refine Lt.ofWL.step rfl rfl rfl (OpV.mulW rfl rfl) ?_
    refine Lt.ofWL.step rfl rfl rfl (OpV.addW rfl rfl) ?_
    refine Lt.ofWL.step rfl rfl rfl (OpV.assign rfl) ?_
    refine WL.nil ?_
    refine En.next ?_
    refine WC.ret ?_
    refine En.block_ret ?_
    refine En.then_ret ?_
    refine En.ret1 rfl (Res.tmp rfl) ?_
    intro w' hs
    refine ⟨congrArg _ (congrArg _ ?_), hs.below⟩
    unfold pktLen
    simp [inR] at *
    first
      | (have e1 : IntKind.i64.wrap (5 * dots) = 5 * dots := I64.wrap ⟨by omega, by omega⟩
         rw [e1, I64.wrap ⟨by omega, by omega⟩]; (repeat' split) <;> omega)
      | ((repeat' split) <;> omega)
  ·
    intro hc4
    refine WC.seq ?_
    refine WC.region ?_
    refine Lt.ofWL.step rfl rfl rfl (OpV.move rfl) ?_
    refine Lt.ofWL.step rfl rfl rfl (OpV.eql rfl rfl) ?_
    refine Lt.ofWL.step rfl rfl rfl (OpV.move rfl) ?_
    refine Lt.ofWL.or 18 21 20 (p := ?pz5) (rest := ?qz5) (B := ?Bz5) rfl ?Tz5 ?Fz5 ?az5 ?bz5 ?cz5 ?dz5 ?ez5
    case Tz5 =>
      intro hc6 hkz5
      refine Lt.ofWL.skip rfl rfl rfl ?_
      refine Lt.ofWL.skip rfl rfl rfl ?_
      refine hkz5 _ ?_
      repeat (first | exact Sub.refl _ | refine Sub.skip rfl ?_)
    case Fz5 =>
      intro hc7 hkz5
      refine Lt.ofWL.step rfl rfl rfl (OpV.move rfl) ?_
      refine Lt.ofWL.step rfl rfl rfl (OpV.eql rfl rfl) ?_
      refine hkz5 _ ?_ ?_
      exact rfl
      repeat (first | exact Sub.refl _ | refine Sub.skip rfl ?_)
    case az5 => exact rfl
    case bz5 => exact rfl
    case cz5 => exact rfl
    case dz5 => exact rfl
    refine Lt.ofWL.step rfl rfl rfl (OpV.move rfl) ?_
    refine Lt.ofWL.and 22 25 24 (p := ?pz8) (rest := ?qz8) (B := ?Bz8) rfl ?Tz8 ?Fz8 ?az8 ?bz8 ?cz8 ?dz8 ?ez8
    case Tz8 =>
      intro hc9 hkz8
      refine Lt.ofWL.step rfl rfl rfl (OpV.move rfl) ?_
      refine Lt.ofWL.step rfl rfl rfl (OpV.eql rfl rfl) ?_
      refine hkz8 _ ?_ ?_
      exact rfl
      repeat (first | exact Sub.refl _ | refine Sub.skip rfl ?_)
    case Fz8 =>
      intro hc10 hkz8
      refine Lt.ofWL.skip rfl rfl rfl ?_
      refine Lt.ofWL.skip rfl rfl rfl ?_
      refine hkz8 _ ?_
      repeat (first | exact Sub.refl _ | refine Sub.skip rfl ?_)
    case az8 => exact rfl
    case bz8 => exact rfl
    case cz8 => exact rfl
    case dz8 => exact rfl
    refine Lt.ofWL.step rfl rfl rfl (OpV.assign rfl) ?_
    refine WL.nil ?_
    refine En.next ?_
    refine WC.cond rfl ?_ ?_
    ·
      intro hc11
      refine WC.seq ?_
      refine WC.region ?_
      refine Lt.ofWL.step rfl rfl rfl (OpV.assign rfl) ?_
      refine WL.nil ?_
      refine En.next ?_
      refine WC.ret ?_
      refine En.block_ret ?_
      refine En.then_ret ?_
      refine En.ret1 rfl (Res.tmp rfl) ?_
      intro w' hs
      refine ⟨congrArg _ (congrArg _ ?_), hs.below⟩
      unfold pktLen
      simp [inR] at *
      first
        | (have e1 : IntKind.i64.wrap (5 * dots) = 5 * dots := I64.wrap ⟨by omega, by omega⟩
           rw [e1, I64.wrap ⟨by omega, by omega⟩]; (repeat' split) <;> omega)
        | ((repeat' split) <;> omega)
    ·
      intro hc11
      refine WC.skip ?_
      refine En.block_norm ?_
      refine En.next ?_
      refine WC.seq ?_
      refine WC.region ?_
      refine Lt.ofWL.step rfl rfl rfl (OpV.assign rfl) ?_
      refine WL.nil ?_
      refine En.next ?_
      refine WC.ret ?_
      refine En.ret1 rfl (Res.tmp rfl) ?_
      intro w' hs
      refine ⟨congrArg _ (congrArg _ ?_), hs.below⟩
      unfold pktLen
      simp [inR] at *
      first
        | (have e1 : IntKind.i64.wrap (5 * dots) = 5 * dots := I64.wrap ⟨by omega, by omega⟩
           rw [e1, I64.wrap ⟨by omega, by omega⟩]; (repeat' split) <;> omega)
        | ((repeat' split) <;> omega)

theorem s_DividerOk (n m p r lo hi : Int) (w : World) :
    Calls Try.prog 57 #[.agg #[.int .i64 n, .int .i64 m, .int .i64 p], .int .i64 r, .int .i64 lo, .int .i64 hi] w fun en w' => en = .returned (.bool (divOk n m p r lo hi)) ∧ Ext w w' := by
  refine enter (vs := [_, _, _, _]) Try.func57 rfl rfl rfl rfl ?_
  refine WC.seq ?_
  refine WC.region ?_
  refine WL.heavy rfl rfl rfl (OpH.box rfl rfl ?_)
  intro b0
  refine Lt.ofWL.step rfl rfl rfl (OpV.assign rfl) ?_
  refine WL.nil ?_
  refine En.next ?_
  refine WC.seq ?_
  refine WC.seq ?_
  refine WC.region ?_
  refine Lt.ofWL.step rfl rfl rfl (OpV.fieldAddr rfl fo_26_0) ?_
  refine Lt.ofWL.step rfl rfl rfl (OpV.loadBox rfl pt_3 (.head _) rfl) ?_
  refine Lt.ofWL.step rfl rfl rfl (OpV.call (evs.cons rfl (evs.cons rfl (evs.cons rfl (evs.nil)))) ca_58 (fun w hs => s_in _ _ _ w)) ?_
  refine Lt.ofWL.step rfl rfl rfl (OpV.not rfl) ?_
  refine Lt.ofWL.step rfl rfl rfl (OpV.move rfl) ?_
  refine Lt.ofWL.or 13 18 17 (p := ?pz1) (rest := ?qz1) (B := ?Bz1) rfl ?Tz1 ?Fz1 ?az1 ?bz1 ?cz1 ?dz1 ?ez1
  case Tz1 =>
    intro hc2 hkz1
    refine Lt.ofWL.skip rfl rfl rfl ?_
    refine Lt.ofWL.skip rfl rfl rfl ?_
    refine Lt.ofWL.skip rfl rfl rfl ?_
    refine Lt.ofWL.skip rfl rfl rfl ?_
    refine hkz1 _ ?_
    repeat (first | exact Sub.refl _ | refine Sub.skip rfl ?_)
  case Fz1 =>
    intro hc3 hkz1
    refine Lt.ofWL.step rfl rfl rfl (OpV.fieldAddr rfl fo_26_1) ?_
    refine Lt.ofWL.step rfl rfl rfl (OpV.loadBox rfl pt_3 (.head _) rfl) ?_
    refine Lt.ofWL.step rfl rfl rfl (OpV.call (evs.cons rfl (evs.cons rfl (evs.cons rfl (evs.nil)))) ca_58 (fun w hs => s_in _ _ _ w)) ?_
    refine Lt.ofWL.step rfl rfl rfl (OpV.not rfl) ?_
    refine hkz1 _ ?_ ?_
    exact rfl
    repeat (first | exact Sub.refl _ | refine Sub.skip rfl ?_)
  case az1 => exact rfl
  case bz1 => exact rfl
  case cz1 => exact rfl
  case dz1 => exact rfl
  refine Lt.ofWL.step rfl rfl rfl (OpV.move rfl) ?_
  refine Lt.ofWL.or 19 24 23 (p := ?pz4) (rest := ?qz4) (B := ?Bz4) rfl ?Tz4 ?Fz4 ?az4 ?bz4 ?cz4 ?dz4 ?ez4
  case Tz4 =>
    intro hc5 hkz4
    refine Lt.ofWL.skip rfl rfl rfl ?_
    refine Lt.ofWL.skip rfl rfl rfl ?_
    refine Lt.ofWL.skip rfl rfl rfl ?_
    refine Lt.ofWL.skip rfl rfl rfl ?_
    refine hkz4 _ ?_
    repeat (first | exact Sub.refl _ | refine Sub.skip rfl ?_)
  case Fz4 =>
    intro hc6 hkz4
    refine Lt.ofWL.step rfl rfl rfl (OpV.fieldAddr rfl fo_26_2) ?_
    refine Lt.ofWL.step rfl rfl rfl (OpV.loadBox rfl pt_3 (.head _) rfl) ?_
    refine Lt.ofWL.step rfl rfl rfl (OpV.call (evs.cons rfl (evs.nil)) ca_84 (fun w hs => s_power _ w)) ?_
    refine Lt.ofWL.step rfl rfl rfl (OpV.not rfl) ?_
    refine hkz4 _ ?_ ?_
    exact rfl
    repeat (first | exact Sub.refl _ | refine Sub.skip rfl ?_)
  case az4 => exact rfl
  case bz4 => exact rfl
  case cz4 => exact rfl
  case dz4 => exact rfl
  refine Lt.ofWL.step rfl rfl rfl (OpV.move rfl) ?_
  refine Lt.ofWL.or 25 29 28 (p := ?pz7) (rest := ?qz7) (B := ?Bz7) rfl ?Tz7 ?Fz7 ?az7 ?bz7 ?cz7 ?dz7 ?ez7
  case Tz7 =>
    intro hc8 hkz7
    refine Lt.ofWL.skip rfl rfl rfl ?_
    refine Lt.ofWL.skip rfl rfl rfl ?_
    refine Lt.ofWL.skip rfl rfl rfl ?_
    refine hkz7 _ ?_
    repeat (first | exact Sub.refl _ | refine Sub.skip rfl ?_)
  case Fz7 =>
    intro hc9 hkz7
    refine Lt.ofWL.step rfl rfl rfl (OpV.move rfl) ?_
    refine Lt.ofWL.step rfl rfl rfl (OpV.call (evs.cons rfl (evs.cons rfl (evs.cons rfl (evs.nil)))) ca_58 (fun w hs => s_in _ _ _ w)) ?_
    refine Lt.ofWL.step rfl rfl rfl (OpV.not rfl) ?_
    refine hkz7 _ ?_ ?_
    exact rfl
    repeat (first | exact Sub.refl _ | refine Sub.skip rfl ?_)
  case az7 => exact rfl
  case bz7 => exact rfl
  case cz7 => exact rfl
  case dz7 => exact rfl
  refine Lt.ofWL.step rfl rfl rfl (OpV.move rfl) ?_
  refine Lt.ofWL.or 30 34 33 (p := ?pz10) (rest := ?qz10) (B := ?Bz10) rfl ?Tz10 ?Fz10 ?az10 ?bz10 ?cz10 ?dz10 ?ez10
  case Tz10 =>
    intro hc11 hkz10
    refine Lt.ofWL.skip rfl rfl rfl ?_
    refine Lt.ofWL.skip rfl rfl rfl ?_
    refine Lt.ofWL.skip rfl rfl rfl ?_
    refine hkz10 _ ?_
    repeat (first | exact Sub.refl _ | refine Sub.skip rfl ?_)
  case Fz10 =>
    intro hc12 hkz10
    refine Lt.ofWL.step rfl rfl rfl (OpV.move rfl) ?_
    refine Lt.ofWL.step rfl rfl rfl (OpV.call (evs.cons rfl (evs.cons rfl (evs.cons rfl (evs.nil)))) ca_58 (fun w hs => s_in _ _ _ w)) ?_
    refine Lt.ofWL.step rfl rfl rfl (OpV.not rfl) ?_
    refine hkz10 _ ?_ ?_
    exact rfl
    repeat (first | exact Sub.refl _ | refine Sub.skip rfl ?_)
  case az10 => exact rfl
  case bz10 => exact rfl
  case cz10 => exact rfl
  case dz10 => exact rfl
  refine Lt.ofWL.step rfl rfl rfl (OpV.move rfl) ?_
  refine Lt.ofWL.or 35 39 38 (p := ?pz13) (rest := ?qz13) (B := ?Bz13) rfl ?Tz13 ?Fz13 ?az13 ?bz13 ?cz13 ?dz13 ?ez13
  case Tz13 =>
    intro hc14 hkz13
    refine Lt.ofWL.skip rfl rfl rfl ?_
    refine Lt.ofWL.skip rfl rfl rfl ?_
    refine Lt.ofWL.skip rfl rfl rfl ?_
    refine hkz13 _ ?_
    repeat (first | exact Sub.refl _ | refine Sub.skip rfl ?_)
  case Fz13 =>
    intro hc15 hkz13
    refine Lt.ofWL.step rfl rfl rfl (OpV.move rfl) ?_
    refine Lt.ofWL.step rfl rfl rfl (OpV.call (evs.cons rfl (evs.cons rfl (evs.cons rfl (evs.nil)))) ca_58 (fun w hs => s_in _ _ _ w)) ?_
    refine Lt.ofWL.step rfl rfl rfl (OpV.not rfl) ?_
    refine hkz13 _ ?_ ?_
    exact rfl
    repeat (first | exact Sub.refl _ | refine Sub.skip rfl ?_)
  case az13 => exact rfl
  case bz13 => exact rfl
  case cz13 => exact rfl
  case dz13 => exact rfl
  refine WL.nil ?_
  refine En.next ?_
  refine WC.cond rfl ?_ ?_
  ·
    intro hc16
    refine WC.seq ?_
    refine WC.region ?_
    refine Lt.ofWL.step rfl rfl rfl (OpV.assign rfl) ?_
    refine WL.nil ?_
    refine En.next ?_
    refine WC.ret ?_
    refine En.then_ret ?_
    refine En.ret1 rfl (Res.tmp rfl) ?_
    intro w' hs
    refine ⟨congrArg _ (congrArg _ ?_), hs.below⟩
    unfold divOk w64
    revert hc16
    generalize inR n 4 64 = a1
    generalize inR m 1 8 = a2
    generalize pow8 p = a3
    generalize inR r 1 1000000 = a4
    generalize inR lo 1 1000000 = a5
    generalize inR hi 1 1000000 = a6
    cases a1 <;> cases a2 <;> cases a3 <;> cases a4 <;> cases a5 <;> cases a6 <;> simp
  ·
    intro hc16
    refine WC.skip ?_
    refine En.next ?_
    refine WC.seq ?_
    refine WC.region ?_
    refine Lt.ofWL.step rfl rfl rfl (OpV.move rfl) ?_
    refine Lt.ofWL.step rfl rfl rfl (OpV.fieldAddr rfl fo_26_1) ?_
    refine Lt.ofWL.step rfl rfl rfl (OpV.loadBox rfl pt_3 (.head _) rfl) ?_
    refine Lt.ofWL.step rfl rfl rfl (OpV.mulW rfl rfl) ?_
    refine Lt.ofWL.step rfl rfl rfl (OpV.move rfl) ?_
    refine Lt.ofWL.step rfl rfl rfl (OpV.fieldAddr rfl fo_26_0) ?_
    refine Lt.ofWL.step rfl rfl rfl (OpV.loadBox rfl pt_3 (.head _) rfl) ?_
    refine Lt.ofWL.step rfl rfl rfl (OpV.mulW rfl rfl) ?_
    refine Lt.ofWL.step rfl rfl rfl (OpV.leq rfl rfl) ?_
    refine Lt.ofWL.step rfl rfl rfl (OpV.move rfl) ?_
    refine Lt.ofWL.and 49 59 58 (p := ?pz17) (rest := ?qz17) (B := ?Bz17) rfl ?Tz17 ?Fz17 ?az17 ?bz17 ?cz17 ?dz17 ?ez17
    case Tz17 =>
      intro hc18 hkz17
      refine Lt.ofWL.step rfl rfl rfl (OpV.move rfl) ?_
      refine Lt.ofWL.step rfl rfl rfl (OpV.fieldAddr rfl fo_26_0) ?_
      refine Lt.ofWL.step rfl rfl rfl (OpV.loadBox rfl pt_3 (.head _) rfl) ?_
      refine Lt.ofWL.step rfl rfl rfl (OpV.mulW rfl rfl) ?_
      refine Lt.ofWL.step rfl rfl rfl (OpV.move rfl) ?_
      refine Lt.ofWL.step rfl rfl rfl (OpV.fieldAddr rfl fo_26_1) ?_
      refine Lt.ofWL.step rfl rfl rfl (OpV.loadBox rfl pt_3 (.head _) rfl) ?_
      refine Lt.ofWL.step rfl rfl rfl (OpV.mulW rfl rfl) ?_
      refine Lt.ofWL.step rfl rfl rfl (OpV.leq rfl rfl) ?_
      refine hkz17 _ ?_ ?_
      exact rfl
      repeat (first | exact Sub.refl _ | refine Sub.skip rfl ?_)
    case Fz17 =>
      intro hc19 hkz17
      refine Lt.ofWL.skip rfl rfl rfl ?_
      refine Lt.ofWL.skip rfl rfl rfl ?_
      refine Lt.ofWL.skip rfl rfl rfl ?_
      refine Lt.ofWL.skip rfl rfl rfl ?_
      refine Lt.ofWL.skip rfl rfl rfl ?_
      refine Lt.ofWL.skip rfl rfl rfl ?_
      refine Lt.ofWL.skip rfl rfl rfl ?_
      refine Lt.ofWL.skip rfl rfl rfl ?_
      refine Lt.ofWL.skip rfl rfl rfl ?_
      refine hkz17 _ ?_
      repeat (first | exact Sub.refl _ | refine Sub.skip rfl ?_)
    case az17 => exact rfl
    case bz17 => exact rfl
    case cz17 => exact rfl
    case dz17 => exact rfl
    refine Lt.ofWL.step rfl rfl rfl (OpV.assign rfl) ?_
    refine WL.nil ?_
    refine En.next ?_
    refine WC.ret ?_
    refine En.ret1 rfl (Res.tmp rfl) ?_
    intro w' hs
    refine ⟨congrArg _ (congrArg _ ?_), hs.below⟩
    unfold divOk w64
    revert hc16
    generalize inR n 4 64 = a1
    generalize inR m 1 8 = a2
    generalize pow8 p = a3
    generalize inR r 1 1000000 = a4
    generalize inR lo 1 1000000 = a5
    generalize inR hi 1 1000000 = a6
    cases a1 <;> cases a2 <;> cases a3 <;> cases a4 <;> cases a5 <;> cases a6 <;> simp

theorem i_DividerOk (n m p r lo hi : Int) (w : World) :
    Calls Try.prog 18 #[.agg #[.int .i64 n, .int .i64 m, .int .i64 p], .int .i64 r, .int .i64 lo, .int .i64 hi] w fun en w' => en = .returned (.bool (divOk n m p r lo hi)) ∧ Ext w w' := by
  refine enter (vs := [_, _, _, _]) Try.func18 rfl rfl rfl rfl ?_
  refine WC.seq ?_
  refine WC.region ?_
  refine WL.heavy rfl rfl rfl (OpH.box rfl rfl ?_)
  intro b0
  refine Lt.ofWL.step rfl rfl rfl (OpV.assign rfl) ?_
  refine WL.nil ?_
  refine En.next ?_
  refine WC.seq ?_
  refine WC.region ?_
  refine Lt.ofWL.step rfl rfl rfl (OpV.fieldAddr rfl fo_26_0) ?_
  refine Lt.ofWL.step rfl rfl rfl (OpV.loadBox rfl pt_3 (.head _) rfl) ?_
  refine Lt.ofWL.step rfl rfl rfl (OpV.call (evs.cons rfl (evs.cons rfl (evs.cons rfl (evs.nil)))) ca_56 (fun w hs => i_within _ _ _ w)) ?_
  refine Lt.ofWL.step rfl rfl rfl (OpV.move rfl) ?_
  refine Lt.ofWL.and 12 16 15 (p := ?pz1) (rest := ?qz1) (B := ?Bz1) rfl ?Tz1 ?Fz1 ?az1 ?bz1 ?cz1 ?dz1 ?ez1
  case Tz1 =>
    intro hc2 hkz1
    refine Lt.ofWL.step rfl rfl rfl (OpV.fieldAddr rfl fo_26_1) ?_
    refine Lt.ofWL.step rfl rfl rfl (OpV.loadBox rfl pt_3 (.head _) rfl) ?_
    refine Lt.ofWL.step rfl rfl rfl (OpV.call (evs.cons rfl (evs.cons rfl (evs.cons rfl (evs.nil)))) ca_56 (fun w hs => i_within _ _ _ w)) ?_
    refine hkz1 _ ?_ ?_
    exact rfl
    repeat (first | exact Sub.refl _ | refine Sub.skip rfl ?_)
  case Fz1 =>
    intro hc3 hkz1
    refine Lt.ofWL.skip rfl rfl rfl ?_
    refine Lt.ofWL.skip rfl rfl rfl ?_
    refine Lt.ofWL.skip rfl rfl rfl ?_
    refine hkz1 _ ?_
    repeat (first | exact Sub.refl _ | refine Sub.skip rfl ?_)
  case az1 => exact rfl
  case bz1 => exact rfl
  case cz1 => exact rfl
  case dz1 => exact rfl
  refine Lt.ofWL.step rfl rfl rfl (OpV.move rfl) ?_
  refine Lt.ofWL.and 17 36 35 (p := ?pz4) (rest := ?qz4) (B := ?Bz4) rfl ?Tz4 ?Fz4 ?az4 ?bz4 ?cz4 ?dz4 ?ez4
  case Tz4 =>
    intro hc5 hkz4
    refine Lt.ofWL.step rfl rfl rfl (OpV.fieldAddr rfl fo_26_2) ?_
    refine Lt.ofWL.step rfl rfl rfl (OpV.loadBox rfl pt_3 (.head _) rfl) ?_
    refine Lt.ofWL.step rfl rfl rfl (OpV.eql rfl rfl) ?_
    refine Lt.ofWL.step rfl rfl rfl (OpV.move rfl) ?_
    refine Lt.ofWL.or 21 25 24 (p := ?pz6) (rest := ?qz6) (B := ?Bz6) rfl ?Tz6 ?Fz6 ?az6 ?bz6 ?cz6 ?dz6 ?ez6
    case Tz6 =>
      intro hc7 hkz6
      refine Lt.ofWL.skip rfl rfl rfl ?_
      refine Lt.ofWL.skip rfl rfl rfl ?_
      refine Lt.ofWL.skip rfl rfl rfl ?_
      refine hkz6 _ ?_
      repeat (first | exact Sub.refl _ | refine Sub.skip rfl ?_)
    case Fz6 =>
      intro hc8 hkz6
      refine Lt.ofWL.step rfl rfl rfl (OpV.fieldAddr rfl fo_26_2) ?_
      refine Lt.ofWL.step rfl rfl rfl (OpV.loadBox rfl pt_3 (.head _) rfl) ?_
      refine Lt.ofWL.step rfl rfl rfl (OpV.eql rfl rfl) ?_
      refine hkz6 _ ?_ ?_
      exact rfl
      repeat (first | exact Sub.refl _ | refine Sub.skip rfl ?_)
    case az6 => exact rfl
    case bz6 => exact rfl
    case cz6 => exact rfl
    case dz6 => exact rfl
    refine Lt.ofWL.step rfl rfl rfl (OpV.move rfl) ?_
    refine Lt.ofWL.or 26 30 29 (p := ?pz9) (rest := ?qz9) (B := ?Bz9) rfl ?Tz9 ?Fz9 ?az9 ?bz9 ?cz9 ?dz9 ?ez9
    case Tz9 =>
      intro hc10 hkz9
      refine Lt.ofWL.skip rfl rfl rfl ?_
      refine Lt.ofWL.skip rfl rfl rfl ?_
      refine Lt.ofWL.skip rfl rfl rfl ?_
      refine hkz9 _ ?_
      repeat (first | exact Sub.refl _ | refine Sub.skip rfl ?_)
    case Fz9 =>
      intro hc11 hkz9
      refine Lt.ofWL.step rfl rfl rfl (OpV.fieldAddr rfl fo_26_2) ?_
      refine Lt.ofWL.step rfl rfl rfl (OpV.loadBox rfl pt_3 (.head _) rfl) ?_
      refine Lt.ofWL.step rfl rfl rfl (OpV.eql rfl rfl) ?_
      refine hkz9 _ ?_ ?_
      exact rfl
      repeat (first | exact Sub.refl _ | refine Sub.skip rfl ?_)
    case az9 => exact rfl
    case bz9 => exact rfl
    case cz9 => exact rfl
    case dz9 => exact rfl
    refine Lt.ofWL.step rfl rfl rfl (OpV.move rfl) ?_
    refine Lt.ofWL.or 31 35 34 (p := ?pz12) (rest := ?qz12) (B := ?Bz12) rfl ?Tz12 ?Fz12 ?az12 ?bz12 ?cz12 ?dz12 ?ez12
    case Tz12 =>
      intro hc13 hkz12
      refine Lt.ofWL.skip rfl rfl rfl ?_
      refine Lt.ofWL.skip rfl rfl rfl ?_
      refine Lt.ofWL.skip rfl rfl rfl ?_
      refine hkz12 _ ?_
      repeat (first | exact Sub.refl _ | refine Sub.skip rfl ?_)
    case Fz12 =>
      intro hc14 hkz12
      refine Lt.ofWL.step rfl rfl rfl (OpV.fieldAddr rfl fo_26_2) ?_
      refine Lt.ofWL.step rfl rfl rfl (OpV.loadBox rfl pt_3 (.head _) rfl) ?_
      refine Lt.ofWL.step rfl rfl rfl (OpV.eql rfl rfl) ?_
      refine hkz12 _ ?_ ?_
      exact rfl
      repeat (first | exact Sub.refl _ | refine Sub.skip rfl ?_)
    case az12 => exact rfl
    case bz12 => exact rfl
    case cz12 => exact rfl
    case dz12 => exact rfl
    refine hkz4 _ ?_ ?_
    exact rfl
    repeat (first | exact Sub.refl _ | refine Sub.skip rfl ?_)
  case Fz4 =>
    intro hc15 hkz4
    refine Lt.ofWL.skip rfl rfl rfl ?_
    refine Lt.ofWL.skip rfl rfl rfl ?_
    refine Lt.ofWL.skip rfl rfl rfl ?_
    refine Lt.ofWL.skip rfl rfl rfl ?_
    refine Lt.ofWL.skip rfl rfl rfl ?_
    refine Lt.ofWL.skip rfl rfl rfl ?_
    refine Lt.ofWL.skip rfl rfl rfl ?_
    refine Lt.ofWL.skip rfl rfl rfl ?_
    refine Lt.ofWL.skip rfl rfl rfl ?_
    refine Lt.ofWL.skip rfl rfl rfl ?_
    refine Lt.ofWL.skip rfl rfl rfl ?_
    refine Lt.ofWL.skip rfl rfl rfl ?_
    refine Lt.ofWL.skip rfl rfl rfl ?_
    refine Lt.ofWL.skip rfl rfl rfl ?_
    refine Lt.ofWL.skip rfl rfl rfl ?_
    refine Lt.ofWL.skip rfl rfl rfl ?_
    refine Lt.ofWL.skip rfl rfl rfl ?_
    refine Lt.ofWL.skip rfl rfl rfl ?_
    refine hkz4 _ ?_
    repeat (first | exact Sub.refl _ | refine Sub.skip rfl ?_)
  case az4 => exact rfl
  case bz4 => exact rfl
  case cz4 => exact rfl
  case dz4 => exact rfl
  refine Lt.ofWL.step rfl rfl rfl (OpV.move rfl) ?_
  refine Lt.ofWL.and 37 40 39 (p := ?pz16) (rest := ?qz16) (B := ?Bz16) rfl ?Tz16 ?Fz16 ?az16 ?bz16 ?cz16 ?dz16 ?ez16
  case Tz16 =>
    intro hc17 hkz16
    refine Lt.ofWL.step rfl rfl rfl (OpV.move rfl) ?_
    refine Lt.ofWL.step rfl rfl rfl (OpV.call (evs.cons rfl (evs.nil)) ca_55 (fun w hs => i_isClock _ w)) ?_
    refine hkz16 _ ?_ ?_
    exact rfl
    repeat (first | exact Sub.refl _ | refine Sub.skip rfl ?_)
  case Fz16 =>
    intro hc18 hkz16
    refine Lt.ofWL.skip rfl rfl rfl ?_
    refine Lt.ofWL.skip rfl rfl rfl ?_
    refine hkz16 _ ?_
    repeat (first | exact Sub.refl _ | refine Sub.skip rfl ?_)
  case az16 => exact rfl
  case bz16 => exact rfl
  case cz16 => exact rfl
  case dz16 => exact rfl
  refine Lt.ofWL.step rfl rfl rfl (OpV.move rfl) ?_
  refine Lt.ofWL.and 41 44 43 (p := ?pz19) (rest := ?qz19) (B := ?Bz19) rfl ?Tz19 ?Fz19 ?az19 ?bz19 ?cz19 ?dz19 ?ez19
  case Tz19 =>
    intro hc20 hkz19
    refine Lt.ofWL.step rfl rfl rfl (OpV.move rfl) ?_
    refine Lt.ofWL.step rfl rfl rfl (OpV.call (evs.cons rfl (evs.nil)) ca_55 (fun w hs => i_isClock _ w)) ?_
    refine hkz19 _ ?_ ?_
    exact rfl
    repeat (first | exact Sub.refl _ | refine Sub.skip rfl ?_)
  case Fz19 =>
    intro hc21 hkz19
    refine Lt.ofWL.skip rfl rfl rfl ?_
    refine Lt.ofWL.skip rfl rfl rfl ?_
    refine hkz19 _ ?_
    repeat (first | exact Sub.refl _ | refine Sub.skip rfl ?_)
  case az19 => exact rfl
  case bz19 => exact rfl
  case cz19 => exact rfl
  case dz19 => exact rfl
  refine Lt.ofWL.step rfl rfl rfl (OpV.move rfl) ?_
  refine Lt.ofWL.and 45 48 47 (p := ?pz22) (rest := ?qz22) (B := ?Bz22) rfl ?Tz22 ?Fz22 ?az22 ?bz22 ?cz22 ?dz22 ?ez22
  case Tz22 =>
    intro hc23 hkz22
    refine Lt.ofWL.step rfl rfl rfl (OpV.move rfl) ?_
    refine Lt.ofWL.step rfl rfl rfl (OpV.call (evs.cons rfl (evs.nil)) ca_55 (fun w hs => i_isClock _ w)) ?_
    refine hkz22 _ ?_ ?_
    exact rfl
    repeat (first | exact Sub.refl _ | refine Sub.skip rfl ?_)
  case Fz22 =>
    intro hc24 hkz22
    refine Lt.ofWL.skip rfl rfl rfl ?_
    refine Lt.ofWL.skip rfl rfl rfl ?_
    refine hkz22 _ ?_
    repeat (first | exact Sub.refl _ | refine Sub.skip rfl ?_)
  case az22 => exact rfl
  case bz22 => exact rfl
  case cz22 => exact rfl
  case dz22 => exact rfl
  refine Lt.ofWL.step rfl rfl rfl (OpV.move rfl) ?_
  refine Lt.ofWL.and 49 59 58 (p := ?pz25) (rest := ?qz25) (B := ?Bz25) rfl ?Tz25 ?Fz25 ?az25 ?bz25 ?cz25 ?dz25 ?ez25
  case Tz25 =>
    intro hc26 hkz25
    refine Lt.ofWL.step rfl rfl rfl (OpV.move rfl) ?_
    refine Lt.ofWL.step rfl rfl rfl (OpV.fieldAddr rfl fo_26_1) ?_
    refine Lt.ofWL.step rfl rfl rfl (OpV.loadBox rfl pt_3 (.head _) rfl) ?_
    refine Lt.ofWL.step rfl rfl rfl (OpV.mulW rfl rfl) ?_
    refine Lt.ofWL.step rfl rfl rfl (OpV.move rfl) ?_
    refine Lt.ofWL.step rfl rfl rfl (OpV.fieldAddr rfl fo_26_0) ?_
    refine Lt.ofWL.step rfl rfl rfl (OpV.loadBox rfl pt_3 (.head _) rfl) ?_
    refine Lt.ofWL.step rfl rfl rfl (OpV.mulW rfl rfl) ?_
    refine Lt.ofWL.step rfl rfl rfl (OpV.leq rfl rfl) ?_
    refine hkz25 _ ?_ ?_
    exact rfl
    repeat (first | exact Sub.refl _ | refine Sub.skip rfl ?_)
  case Fz25 =>
    intro hc27 hkz25
    refine Lt.ofWL.skip rfl rfl rfl ?_
    refine Lt.ofWL.skip rfl rfl rfl ?_
    refine Lt.ofWL.skip rfl rfl rfl ?_
    refine Lt.ofWL.skip rfl rfl rfl ?_
    refine Lt.ofWL.skip rfl rfl rfl ?_
    refine Lt.ofWL.skip rfl rfl rfl ?_
    refine Lt.ofWL.skip rfl rfl rfl ?_
    refine Lt.ofWL.skip rfl rfl rfl ?_
    refine Lt.ofWL.skip rfl rfl rfl ?_
    refine hkz25 _ ?_
    repeat (first | exact Sub.refl _ | refine Sub.skip rfl ?_)
  case az25 => exact rfl
  case bz25 => exact rfl
  case cz25 => exact rfl
  case dz25 => exact rfl
  refine Lt.ofWL.step rfl rfl rfl (OpV.move rfl) ?_
  refine Lt.ofWL.and 60 70 69 (p := ?pz28) (rest := ?qz28) (B := ?Bz28) rfl ?Tz28 ?Fz28 ?az28 ?bz28 ?cz28 ?dz28 ?ez28
  case Tz28 =>
    intro hc29 hkz28
    refine Lt.ofWL.step rfl rfl rfl (OpV.move rfl) ?_
    refine Lt.ofWL.step rfl rfl rfl (OpV.fieldAddr rfl fo_26_0) ?_
    refine Lt.ofWL.step rfl rfl rfl (OpV.loadBox rfl pt_3 (.head _) rfl) ?_
    refine Lt.ofWL.step rfl rfl rfl (OpV.mulW rfl rfl) ?_
    refine Lt.ofWL.step rfl rfl rfl (OpV.move rfl) ?_
    refine Lt.ofWL.step rfl rfl rfl (OpV.fieldAddr rfl fo_26_1) ?_
    refine Lt.ofWL.step rfl rfl rfl (OpV.loadBox rfl pt_3 (.head _) rfl) ?_
    refine Lt.ofWL.step rfl rfl rfl (OpV.mulW rfl rfl) ?_
    refine Lt.ofWL.step rfl rfl rfl (OpV.leq rfl rfl) ?_
    refine hkz28 _ ?_ ?_
    exact rfl
    repeat (first | exact Sub.refl _ | refine Sub.skip rfl ?_)
  case Fz28 =>
    intro hc30 hkz28
    refine Lt.ofWL.skip rfl rfl rfl ?_
    refine Lt.ofWL.skip rfl rfl rfl ?_
    refine Lt.ofWL.skip rfl rfl rfl ?_
    refine Lt.ofWL.skip rfl rfl rfl ?_
    refine Lt.ofWL.skip rfl rfl rfl ?_
    refine Lt.ofWL.skip rfl rfl rfl ?_
    refine Lt.ofWL.skip rfl rfl rfl ?_
    refine Lt.ofWL.skip rfl rfl rfl ?_
    refine Lt.ofWL.skip rfl rfl rfl ?_
    refine hkz28 _ ?_
    repeat (first | exact Sub.refl _ | refine Sub.skip rfl ?_)
  case az28 => exact rfl
  case bz28 => exact rfl
  case cz28 => exact rfl
  case dz28 => exact rfl
  refine Lt.ofWL.step rfl rfl rfl (OpV.assign rfl) ?_
  refine WL.nil ?_
  refine En.next ?_
  refine WC.ret ?_
  refine En.ret1 rfl (Res.tmp rfl) ?_
  intro w' hs
  exact ⟨rfl, hs.below⟩

theorem s_ErrorOf (n m p r t : Int) (w : World) :
    Calls Try.prog 22 #[.agg #[.int .i64 n, .int .i64 m, .int .i64 p], .int .i64 r, .int .i64 t] w fun en w' => en = .returned (.int .i64 (errOf n m p r t)) ∧ Ext w w' := by
  refine enter (vs := [_, _, _]) Try.func22 rfl rfl rfl rfl ?_
  refine WC.seq ?_
  refine WC.region ?_
  refine WL.heavy rfl rfl rfl (OpH.box rfl rfl ?_)
  intro b0
  refine Lt.ofWL.step rfl rfl rfl (OpV.assign rfl) ?_
  refine WL.nil ?_
  refine En.next ?_
  refine WC.seq ?_
  refine WC.seq ?_
  refine WC.region ?_
  refine Lt.ofWL.step rfl rfl rfl (OpV.fieldAddr rfl fo_26_0) ?_
  refine Lt.ofWL.step rfl rfl rfl (OpV.loadBox rfl pt_3 (.head _) rfl) ?_
  refine Lt.ofWL.step rfl rfl rfl (OpV.call (evs.cons rfl (evs.cons rfl (evs.cons rfl (evs.nil)))) ca_58 (fun w hs => s_in _ _ _ w)) ?_
  refine Lt.ofWL.step rfl rfl rfl (OpV.not rfl) ?_
  refine Lt.ofWL.step rfl rfl rfl (OpV.move rfl) ?_
  refine Lt.ofWL.or 12 17 16 (p := ?pz1) (rest := ?qz1) (B := ?Bz1) rfl ?Tz1 ?Fz1 ?az1 ?bz1 ?cz1 ?dz1 ?ez1
  case Tz1 =>
    intro hc2 hkz1
    refine Lt.ofWL.skip rfl rfl rfl ?_
    refine Lt.ofWL.skip rfl rfl rfl ?_
    refine Lt.ofWL.skip rfl rfl rfl ?_
    refine Lt.ofWL.skip rfl rfl rfl ?_
    refine hkz1 _ ?_
    repeat (first | exact Sub.refl _ | refine Sub.skip rfl ?_)
  case Fz1 =>
    intro hc3 hkz1
    refine Lt.ofWL.step rfl rfl rfl (OpV.fieldAddr rfl fo_26_1) ?_
    refine Lt.ofWL.step rfl rfl rfl (OpV.loadBox rfl pt_3 (.head _) rfl) ?_
    refine Lt.ofWL.step rfl rfl rfl (OpV.call (evs.cons rfl (evs.cons rfl (evs.cons rfl (evs.nil)))) ca_58 (fun w hs => s_in _ _ _ w)) ?_
    refine Lt.ofWL.step rfl rfl rfl (OpV.not rfl) ?_
    refine hkz1 _ ?_ ?_
    exact rfl
    repeat (first | exact Sub.refl _ | refine Sub.skip rfl ?_)
  case az1 => exact rfl
  case bz1 => exact rfl
  case cz1 => exact rfl
  case dz1 => exact rfl
  refine Lt.ofWL.step rfl rfl rfl (OpV.move rfl) ?_
  refine Lt.ofWL.or 18 23 22 (p := ?pz4) (rest := ?qz4) (B := ?Bz4) rfl ?Tz4 ?Fz4 ?az4 ?bz4 ?cz4 ?dz4 ?ez4
  case Tz4 =>
    intro hc5 hkz4
    refine Lt.ofWL.skip rfl rfl rfl ?_
    refine Lt.ofWL.skip rfl rfl rfl ?_
    refine Lt.ofWL.skip rfl rfl rfl ?_
    refine Lt.ofWL.skip rfl rfl rfl ?_
    refine hkz4 _ ?_
    repeat (first | exact Sub.refl _ | refine Sub.skip rfl ?_)
  case Fz4 =>
    intro hc6 hkz4
    refine Lt.ofWL.step rfl rfl rfl (OpV.fieldAddr rfl fo_26_2) ?_
    refine Lt.ofWL.step rfl rfl rfl (OpV.loadBox rfl pt_3 (.head _) rfl) ?_
    refine Lt.ofWL.step rfl rfl rfl (OpV.call (evs.cons rfl (evs.cons rfl (evs.cons rfl (evs.nil)))) ca_58 (fun w hs => s_in _ _ _ w)) ?_
    refine Lt.ofWL.step rfl rfl rfl (OpV.not rfl) ?_
    refine hkz4 _ ?_ ?_
    exact rfl
    repeat (first | exact Sub.refl _ | refine Sub.skip rfl ?_)
  case az4 => exact rfl
  case bz4 => exact rfl
  case cz4 => exact rfl
  case dz4 => exact rfl
  refine Lt.ofWL.step rfl rfl rfl (OpV.move rfl) ?_
  refine Lt.ofWL.or 24 28 27 (p := ?pz7) (rest := ?qz7) (B := ?Bz7) rfl ?Tz7 ?Fz7 ?az7 ?bz7 ?cz7 ?dz7 ?ez7
  case Tz7 =>
    intro hc8 hkz7
    refine Lt.ofWL.skip rfl rfl rfl ?_
    refine Lt.ofWL.skip rfl rfl rfl ?_
    refine Lt.ofWL.skip rfl rfl rfl ?_
    refine hkz7 _ ?_
    repeat (first | exact Sub.refl _ | refine Sub.skip rfl ?_)
  case Fz7 =>
    intro hc9 hkz7
    refine Lt.ofWL.step rfl rfl rfl (OpV.move rfl) ?_
    refine Lt.ofWL.step rfl rfl rfl (OpV.call (evs.cons rfl (evs.cons rfl (evs.cons rfl (evs.nil)))) ca_58 (fun w hs => s_in _ _ _ w)) ?_
    refine Lt.ofWL.step rfl rfl rfl (OpV.not rfl) ?_
    refine hkz7 _ ?_ ?_
    exact rfl
    repeat (first | exact Sub.refl _ | refine Sub.skip rfl ?_)
  case az7 => exact rfl
  case bz7 => exact rfl
  case cz7 => exact rfl
  case dz7 => exact rfl
  refine Lt.ofWL.step rfl rfl rfl (OpV.move rfl) ?_
  refine Lt.ofWL.or 29 33 32 (p := ?pz10) (rest := ?qz10) (B := ?Bz10) rfl ?Tz10 ?Fz10 ?az10 ?bz10 ?cz10 ?dz10 ?ez10
  case Tz10 =>
    intro hc11 hkz10
    refine Lt.ofWL.skip rfl rfl rfl ?_
    refine Lt.ofWL.skip rfl rfl rfl ?_
    refine Lt.ofWL.skip rfl rfl rfl ?_
    refine hkz10 _ ?_
    repeat (first | exact Sub.refl _ | refine Sub.skip rfl ?_)
  case Fz10 =>
    intro hc12 hkz10
    refine Lt.ofWL.step rfl rfl rfl (OpV.move rfl) ?_
    refine Lt.ofWL.step rfl rfl rfl (OpV.call (evs.cons rfl (evs.cons rfl (evs.cons rfl (evs.nil)))) ca_58 (fun w hs => s_in _ _ _ w)) ?_
    refine Lt.ofWL.step rfl rfl rfl (OpV.not rfl) ?_
    refine hkz10 _ ?_ ?_
    exact rfl
    repeat (first | exact Sub.refl _ | refine Sub.skip rfl ?_)
  case az10 => exact rfl
  case bz10 => exact rfl
  case cz10 => exact rfl
  case dz10 => exact rfl
  refine WL.nil ?_
  refine En.next ?_
  refine WC.cond rfl ?_ ?_
  ·
    intro hc13
    refine WC.seq ?_
    refine WC.region ?_
    refine Lt.ofWL.step rfl rfl rfl (OpV.assign rfl) ?_
    refine WL.nil ?_
    refine En.next ?_
    refine WC.ret ?_
    refine En.then_ret ?_
    refine En.ret1 rfl (Res.tmp rfl) ?_
    intro w' hs
    refine ⟨congrArg _ (congrArg _ ?_), hs.below⟩
    unfold errOf
    rw [hc13]
    rfl
  ·
    intro hc13
    refine WC.skip ?_
    refine En.next ?_
    refine WC.seq ?_
    refine WC.region ?_
    refine Lt.ofWL.step rfl rfl rfl (OpV.move rfl) ?_
    refine Lt.ofWL.step rfl rfl rfl (OpV.fieldAddr rfl fo_26_0) ?_
    refine Lt.ofWL.step rfl rfl rfl (OpV.loadBox rfl pt_3 (.head _) rfl) ?_
    refine Lt.ofWL.step rfl rfl rfl (OpV.mulW rfl rfl) ?_
    refine Lt.ofWL.step rfl rfl rfl (OpV.move rfl) ?_
    refine Lt.ofWL.step rfl rfl rfl (OpV.fieldAddr rfl fo_26_1) ?_
    refine Lt.ofWL.step rfl rfl rfl (OpV.loadBox rfl pt_3 (.head _) rfl) ?_
    refine Lt.ofWL.step rfl rfl rfl (OpV.mulW rfl rfl) ?_
    refine Lt.ofWL.step rfl rfl rfl (OpV.fieldAddr rfl fo_26_2) ?_
    refine Lt.ofWL.step rfl rfl rfl (OpV.loadBox rfl pt_3 (.head _) rfl) ?_
    refine Lt.ofWL.step rfl rfl rfl (OpV.mulW rfl rfl) ?_
    refine Lt.ofWL.step rfl rfl rfl (OpV.subW rfl rfl) ?_
    refine Lt.ofWL.step rfl rfl rfl (OpV.assign rfl) ?_
    refine WL.nil ?_
    refine En.next ?_
    refine WC.seq ?_
    refine WC.region ?_
    refine Lt.ofWL.step rfl rfl rfl (OpV.move rfl) ?_
    refine Lt.ofWL.step rfl rfl rfl (OpV.move rfl) ?_
    refine Lt.ofWL.step rfl rfl rfl (OpV.negW rfl) ?_
    refine Lt.ofWL.step rfl rfl rfl (OpV.max2 rfl rfl) ?_
    refine Lt.ofWL.step rfl rfl rfl (OpV.assign rfl) ?_
    refine WL.nil ?_
    refine En.next ?_
    refine WC.ret ?_
    refine En.ret1 rfl (Res.tmp rfl) ?_
    intro w' hs
    refine ⟨congrArg _ (congrArg _ ?_), hs.below⟩
    unfold errOf
    rw [hc13]
    rfl

theorem i_ErrorOf (n m p r t : Int) (w : World) :
    Calls Try.prog 21 #[.agg #[.int .i64 n, .int .i64 m, .int .i64 p], .int .i64 r, .int .i64 t] w fun en w' => en = .returned (.int .i64 (errOf n m p r t)) ∧ Ext w w' := by
  refine enter (vs := [_, _, _]) Try.func21 rfl rfl rfl rfl ?_
  refine WC.seq ?_
  refine WC.region ?_
  refine WL.heavy rfl rfl rfl (OpH.box rfl rfl ?_)
  intro b0
  refine Lt.ofWL.step rfl rfl rfl (OpV.assign rfl) ?_
  refine WL.nil ?_
  refine En.next ?_
  refine WC.seq ?_
  refine WC.seq ?_
  refine WC.region ?_
  refine Lt.ofWL.step rfl rfl rfl (OpV.fieldAddr rfl fo_26_0) ?_
  refine Lt.ofWL.step rfl rfl rfl (OpV.loadBox rfl pt_3 (.head _) rfl) ?_
  refine Lt.ofWL.step rfl rfl rfl (OpV.call (evs.cons rfl (evs.cons rfl (evs.cons rfl (evs.nil)))) ca_56 (fun w hs => i_within _ _ _ w)) ?_
  refine Lt.ofWL.step rfl rfl rfl (OpV.not rfl) ?_
  refine Lt.ofWL.step rfl rfl rfl (OpV.move rfl) ?_
  refine Lt.ofWL.or 12 17 16 (p := ?pz1) (rest := ?qz1) (B := ?Bz1) rfl ?Tz1 ?Fz1 ?az1 ?bz1 ?cz1 ?dz1 ?ez1
  case Tz1 =>
    intro hc2 hkz1
    refine Lt.ofWL.skip rfl rfl rfl ?_
    refine Lt.ofWL.skip rfl rfl rfl ?_
    refine Lt.ofWL.skip rfl rfl rfl ?_
    refine Lt.ofWL.skip rfl rfl rfl ?_
    refine hkz1 _ ?_
    repeat (first | exact Sub.refl _ | refine Sub.skip rfl ?_)
  case Fz1 =>
    intro hc3 hkz1
    refine Lt.ofWL.step rfl rfl rfl (OpV.fieldAddr rfl fo_26_1) ?_
    refine Lt.ofWL.step rfl rfl rfl (OpV.loadBox rfl pt_3 (.head _) rfl) ?_
    refine Lt.ofWL.step rfl rfl rfl (OpV.call (evs.cons rfl (evs.cons rfl (evs.cons rfl (evs.nil)))) ca_56 (fun w hs => i_within _ _ _ w)) ?_
    refine Lt.ofWL.step rfl rfl rfl (OpV.not rfl) ?_
    refine hkz1 _ ?_ ?_
    exact rfl
    repeat (first | exact Sub.refl _ | refine Sub.skip rfl ?_)
  case az1 => exact rfl
  case bz1 => exact rfl
  case cz1 => exact rfl
  case dz1 => exact rfl
  refine Lt.ofWL.step rfl rfl rfl (OpV.move rfl) ?_
  refine Lt.ofWL.or 18 23 22 (p := ?pz4) (rest := ?qz4) (B := ?Bz4) rfl ?Tz4 ?Fz4 ?az4 ?bz4 ?cz4 ?dz4 ?ez4
  case Tz4 =>
    intro hc5 hkz4
    refine Lt.ofWL.skip rfl rfl rfl ?_
    refine Lt.ofWL.skip rfl rfl rfl ?_
    refine Lt.ofWL.skip rfl rfl rfl ?_
    refine Lt.ofWL.skip rfl rfl rfl ?_
    refine hkz4 _ ?_
    repeat (first | exact Sub.refl _ | refine Sub.skip rfl ?_)
  case Fz4 =>
    intro hc6 hkz4
    refine Lt.ofWL.step rfl rfl rfl (OpV.fieldAddr rfl fo_26_2) ?_
    refine Lt.ofWL.step rfl rfl rfl (OpV.loadBox rfl pt_3 (.head _) rfl) ?_
    refine Lt.ofWL.step rfl rfl rfl (OpV.call (evs.cons rfl (evs.cons rfl (evs.cons rfl (evs.nil)))) ca_56 (fun w hs => i_within _ _ _ w)) ?_
    refine Lt.ofWL.step rfl rfl rfl (OpV.not rfl) ?_
    refine hkz4 _ ?_ ?_
    exact rfl
    repeat (first | exact Sub.refl _ | refine Sub.skip rfl ?_)
  case az4 => exact rfl
  case bz4 => exact rfl
  case cz4 => exact rfl
  case dz4 => exact rfl
  refine Lt.ofWL.step rfl rfl rfl (OpV.move rfl) ?_
  refine Lt.ofWL.or 24 28 27 (p := ?pz7) (rest := ?qz7) (B := ?Bz7) rfl ?Tz7 ?Fz7 ?az7 ?bz7 ?cz7 ?dz7 ?ez7
  case Tz7 =>
    intro hc8 hkz7
    refine Lt.ofWL.skip rfl rfl rfl ?_
    refine Lt.ofWL.skip rfl rfl rfl ?_
    refine Lt.ofWL.skip rfl rfl rfl ?_
    refine hkz7 _ ?_
    repeat (first | exact Sub.refl _ | refine Sub.skip rfl ?_)
  case Fz7 =>
    intro hc9 hkz7
    refine Lt.ofWL.step rfl rfl rfl (OpV.move rfl) ?_
    refine Lt.ofWL.step rfl rfl rfl (OpV.call (evs.cons rfl (evs.nil)) ca_55 (fun w hs => i_isClock _ w)) ?_
    refine Lt.ofWL.step rfl rfl rfl (OpV.not rfl) ?_
    refine hkz7 _ ?_ ?_
    exact rfl
    repeat (first | exact Sub.refl _ | refine Sub.skip rfl ?_)
  case az7 => exact rfl
  case bz7 => exact rfl
  case cz7 => exact rfl
  case dz7 => exact rfl
  refine Lt.ofWL.step rfl rfl rfl (OpV.move rfl) ?_
  refine Lt.ofWL.or 29 33 32 (p := ?pz10) (rest := ?qz10) (B := ?Bz10) rfl ?Tz10 ?Fz10 ?az10 ?bz10 ?cz10 ?dz10 ?ez10
  case Tz10 =>
    intro hc11 hkz10
    refine Lt.ofWL.skip rfl rfl rfl ?_
    refine Lt.ofWL.skip rfl rfl rfl ?_
    refine Lt.ofWL.skip rfl rfl rfl ?_
    refine hkz10 _ ?_
    repeat (first | exact Sub.refl _ | refine Sub.skip rfl ?_)
  case Fz10 =>
    intro hc12 hkz10
    refine Lt.ofWL.step rfl rfl rfl (OpV.move rfl) ?_
    refine Lt.ofWL.step rfl rfl rfl (OpV.call (evs.cons rfl (evs.nil)) ca_55 (fun w hs => i_isClock _ w)) ?_
    refine Lt.ofWL.step rfl rfl rfl (OpV.not rfl) ?_
    refine hkz10 _ ?_ ?_
    exact rfl
    repeat (first | exact Sub.refl _ | refine Sub.skip rfl ?_)
  case az10 => exact rfl
  case bz10 => exact rfl
  case cz10 => exact rfl
  case dz10 => exact rfl
  refine WL.nil ?_
  refine En.next ?_
  refine WC.cond rfl ?_ ?_
  ·
    intro hc13
    refine WC.seq ?_
    refine WC.region ?_
    refine Lt.ofWL.step rfl rfl rfl (OpV.assign rfl) ?_
    refine WL.nil ?_
    refine En.next ?_
    refine WC.ret ?_
    refine En.then_ret ?_
    refine En.ret1 rfl (Res.tmp rfl) ?_
    intro w' hs
    refine ⟨congrArg _ (congrArg _ ?_), hs.below⟩
    unfold errOf
    rw [hc13]
    rfl
  ·
    intro hc13
    refine WC.skip ?_
    refine En.next ?_
    refine WC.seq ?_
    refine WC.region ?_
    refine Lt.ofWL.step rfl rfl rfl (OpV.move rfl) ?_
    refine Lt.ofWL.step rfl rfl rfl (OpV.fieldAddr rfl fo_26_0) ?_
    refine Lt.ofWL.step rfl rfl rfl (OpV.loadBox rfl pt_3 (.head _) rfl) ?_
    refine Lt.ofWL.step rfl rfl rfl (OpV.mulW rfl rfl) ?_
    refine Lt.ofWL.step rfl rfl rfl (OpV.move rfl) ?_
    refine Lt.ofWL.step rfl rfl rfl (OpV.fieldAddr rfl fo_26_1) ?_
    refine Lt.ofWL.step rfl rfl rfl (OpV.loadBox rfl pt_3 (.head _) rfl) ?_
    refine Lt.ofWL.step rfl rfl rfl (OpV.mulW rfl rfl) ?_
    refine Lt.ofWL.step rfl rfl rfl (OpV.fieldAddr rfl fo_26_2) ?_
    refine Lt.ofWL.step rfl rfl rfl (OpV.loadBox rfl pt_3 (.head _) rfl) ?_
    refine Lt.ofWL.step rfl rfl rfl (OpV.mulW rfl rfl) ?_
    refine Lt.ofWL.step rfl rfl rfl (OpV.subW rfl rfl) ?_
    refine Lt.ofWL.step rfl rfl rfl (OpV.assign rfl) ?_
    refine WL.nil ?_
    refine En.next ?_
    refine WC.seq ?_
    refine WC.region ?_
    refine Lt.ofWL.step rfl rfl rfl (OpV.move rfl) ?_
    refine Lt.ofWL.step rfl rfl rfl (OpV.move rfl) ?_
    refine Lt.ofWL.step rfl rfl rfl (OpV.negW rfl) ?_
    refine Lt.ofWL.step rfl rfl rfl (OpV.max2 rfl rfl) ?_
    refine Lt.ofWL.step rfl rfl rfl (OpV.assign rfl) ?_
    refine WL.nil ?_
    refine En.next ?_
    refine WC.ret ?_
    refine En.ret1 rfl (Res.tmp rfl) ?_
    intro w' hs
    refine ⟨congrArg _ (congrArg _ ?_), hs.below⟩
    unfold errOf
    rw [hc13]
    rfl

theorem s_Closer (n m p n2 m2 p2 r t : Int) (w : World) :
    Calls Try.prog 59 #[.agg #[.int .i64 n, .int .i64 m, .int .i64 p], .agg #[.int .i64 n2, .int .i64 m2, .int .i64 p2], .int .i64 r, .int .i64 t] w fun en w' => en = .returned (.bool (closer n m p n2 m2 p2 r t)) ∧ Ext w w' := by
  refine enter (vs := [_, _, _, _]) Try.func59 rfl rfl rfl rfl ?_
  refine WC.seq ?_
  refine WC.region ?_
  refine WL.heavy rfl rfl rfl (OpH.box rfl rfl ?_)
  intro b0
  refine WL.heavy rfl rfl rfl (OpH.box rfl rfl ?_)
  intro b1
  refine Lt.ofWL.step rfl rfl rfl (OpV.assign rfl) ?_
  refine WL.nil ?_
  refine En.next ?_
  refine WC.seq ?_
  refine WC.region ?_
  refine Lt.ofWL.step rfl rfl rfl (OpV.loadAll rfl (.tail _ (.head _)) ag_26) ?_
  refine Lt.ofWL.step rfl rfl rfl (OpV.move rfl) ?_
  refine Lt.ofWL.step rfl rfl rfl (OpV.move rfl) ?_
  refine Lt.ofWL.step rfl rfl rfl (OpV.call (evs.cons rfl (evs.cons rfl (evs.cons rfl (evs.nil)))) ca_22 (fun w hs => s_ErrorOf _ _ _ _ _ w)) ?_
  refine Lt.ofWL.step rfl rfl rfl (OpV.assign rfl) ?_
  refine WL.nil ?_
  refine En.next ?_
  refine WC.seq ?_
  refine WC.region ?_
  refine Lt.ofWL.step rfl rfl rfl (OpV.loadAll rfl (.head _) ag_26) ?_
  refine Lt.ofWL.step rfl rfl rfl (OpV.move rfl) ?_
  refine Lt.ofWL.step rfl rfl rfl (OpV.move rfl) ?_
  refine Lt.ofWL.step rfl rfl rfl (OpV.call (evs.cons rfl (evs.cons rfl (evs.cons rfl (evs.nil)))) ca_22 (fun w hs => s_ErrorOf _ _ _ _ _ w)) ?_
  refine Lt.ofWL.step rfl rfl rfl (OpV.assign rfl) ?_
  refine WL.nil ?_
  refine En.next ?_
  refine WC.seq ?_
  refine WC.region ?_
  refine Lt.ofWL.step rfl rfl rfl (OpV.move rfl) ?_
  refine Lt.ofWL.step rfl rfl rfl (OpV.geq rfl rfl) ?_
  refine Lt.ofWL.step rfl rfl rfl (OpV.move rfl) ?_
  refine Lt.ofWL.and 21 24 23 (p := ?pz1) (rest := ?qz1) (B := ?Bz1) rfl ?Tz1 ?Fz1 ?az1 ?bz1 ?cz1 ?dz1 ?ez1
  case Tz1 =>
    intro hc2 hkz1
    refine Lt.ofWL.step rfl rfl rfl (OpV.move rfl) ?_
    refine Lt.ofWL.step rfl rfl rfl (OpV.geq rfl rfl) ?_
    refine hkz1 _ ?_ ?_
    exact rfl
    repeat (first | exact Sub.refl _ | refine Sub.skip rfl ?_)
  case Fz1 =>
    intro hc3 hkz1
    refine Lt.ofWL.skip rfl rfl rfl ?_
    refine Lt.ofWL.skip rfl rfl rfl ?_
    refine hkz1 _ ?_
    repeat (first | exact Sub.refl _ | refine Sub.skip rfl ?_)
  case az1 => exact rfl
  case bz1 => exact rfl
  case cz1 => exact rfl
  case dz1 => exact rfl
  refine Lt.ofWL.step rfl rfl rfl (OpV.move rfl) ?_
  refine Lt.ofWL.and 25 41 40 (p := ?pz4) (rest := ?qz4) (B := ?Bz4) rfl ?Tz4 ?Fz4 ?az4 ?bz4 ?cz4 ?dz4 ?ez4
  case Tz4 =>
    intro hc5 hkz4
    refine Lt.ofWL.step rfl rfl rfl (OpV.move rfl) ?_
    refine Lt.ofWL.step rfl rfl rfl (OpV.fieldAddr rfl fo_26_1) ?_
    refine Lt.ofWL.step rfl rfl rfl (OpV.loadBox rfl pt_3 (.head _) rfl) ?_
    refine Lt.ofWL.step rfl rfl rfl (OpV.mulW rfl rfl) ?_
    refine Lt.ofWL.step rfl rfl rfl (OpV.fieldAddr rfl fo_26_2) ?_
    refine Lt.ofWL.step rfl rfl rfl (OpV.loadBox rfl pt_3 (.head _) rfl) ?_
    refine Lt.ofWL.step rfl rfl rfl (OpV.mulW rfl rfl) ?_
    refine Lt.ofWL.step rfl rfl rfl (OpV.move rfl) ?_
    refine Lt.ofWL.step rfl rfl rfl (OpV.fieldAddr rfl fo_26_1) ?_
    refine Lt.ofWL.step rfl rfl rfl (OpV.loadBox rfl pt_3 (.tail _ (.head _)) rfl) ?_
    refine Lt.ofWL.step rfl rfl rfl (OpV.mulW rfl rfl) ?_
    refine Lt.ofWL.step rfl rfl rfl (OpV.fieldAddr rfl fo_26_2) ?_
    refine Lt.ofWL.step rfl rfl rfl (OpV.loadBox rfl pt_3 (.tail _ (.head _)) rfl) ?_
    refine Lt.ofWL.step rfl rfl rfl (OpV.mulW rfl rfl) ?_
    refine Lt.ofWL.step rfl rfl rfl (OpV.lss rfl rfl) ?_
    refine hkz4 _ ?_ ?_
    exact rfl
    repeat (first | exact Sub.refl _ | refine Sub.skip rfl ?_)
  case Fz4 =>
    intro hc6 hkz4
    refine Lt.ofWL.skip rfl rfl rfl ?_
    refine Lt.ofWL.skip rfl rfl rfl ?_
    refine Lt.ofWL.skip rfl rfl rfl ?_
    refine Lt.ofWL.skip rfl rfl rfl ?_
    refine Lt.ofWL.skip rfl rfl rfl ?_
    refine Lt.ofWL.skip rfl rfl rfl ?_
    refine Lt.ofWL.skip rfl rfl rfl ?_
    refine Lt.ofWL.skip rfl rfl rfl ?_
    refine Lt.ofWL.skip rfl rfl rfl ?_
    refine Lt.ofWL.skip rfl rfl rfl ?_
    refine Lt.ofWL.skip rfl rfl rfl ?_
    refine Lt.ofWL.skip rfl rfl rfl ?_
    refine Lt.ofWL.skip rfl rfl rfl ?_
    refine Lt.ofWL.skip rfl rfl rfl ?_
    refine Lt.ofWL.skip rfl rfl rfl ?_
    refine hkz4 _ ?_
    repeat (first | exact Sub.refl _ | refine Sub.skip rfl ?_)
  case az4 => exact rfl
  case bz4 => exact rfl
  case cz4 => exact rfl
  case dz4 => exact rfl
  refine Lt.ofWL.step rfl rfl rfl (OpV.assign rfl) ?_
  refine WL.nil ?_
  refine En.next ?_
  refine WC.ret ?_
  refine En.ret1 rfl (Res.tmp rfl) ?_
  intro w' hs
  exact ⟨rfl, hs.below⟩

theorem i_Closer (n m p n2 m2 p2 r t : Int) (w : World) :
    Calls Try.prog 19 #[.agg #[.int .i64 n, .int .i64 m, .int .i64 p], .agg #[.int .i64 n2, .int .i64 m2, .int .i64 p2], .int .i64 r, .int .i64 t] w fun en w' => en = .returned (.bool (closer n m p n2 m2 p2 r t)) ∧ Ext w w' := by
  refine enter (vs := [_, _, _, _]) Try.func19 rfl rfl rfl rfl ?_
  refine WC.seq ?_
  refine WC.region ?_
  refine WL.heavy rfl rfl rfl (OpH.box rfl rfl ?_)
  intro b0
  refine WL.heavy rfl rfl rfl (OpH.box rfl rfl ?_)
  intro b1
  refine Lt.ofWL.step rfl rfl rfl (OpV.assign rfl) ?_
  refine WL.nil ?_
  refine En.next ?_
  refine WC.seq ?_
  refine WC.drawn [(0, ?r1v0), (1, ?r1v1), (4, ?r1v4), (5, ?r1v5), (8, ?r1v8), (9, ?r1v9), (10, ?r1v10)] (by kernel_rfl) (by kernel_rfl) ?dH1 ?dK1
  case dH1 =>
    intro W hW hk
    refine hW.step rfl rfl rfl (OpV.loadAll rfl (.tail _ (.head _)) ag_26) ?_
    refine hW.step rfl rfl rfl (OpV.move rfl) ?_
    refine hW.step rfl rfl rfl (OpV.move rfl) ?_
    refine hW.step rfl rfl rfl (OpV.call (evs.cons rfl (evs.cons rfl (evs.cons rfl (evs.nil)))) ca_21 (fun w hs => i_ErrorOf _ _ _ _ _ w)) ?_
    refine hW.step rfl rfl rfl (OpV.loadAll rfl (.head _) ag_26) ?_
    refine hW.step rfl rfl rfl (OpV.move rfl) ?_
    refine hW.step rfl rfl rfl (OpV.move rfl) ?_
    refine hW.step rfl rfl rfl (OpV.call (evs.cons rfl (evs.cons rfl (evs.cons rfl (evs.nil)))) ca_21 (fun w hs => i_ErrorOf _ _ _ _ _ w)) ?_
    refine hW.step rfl rfl rfl (OpV.assign rfl) ?_
    refine hW.step rfl rfl rfl (OpV.assign rfl) ?_
    refine hk _ ?_
    refine Sub.cons ?_ (Sub.cons ?_ (Sub.cons ?_ (Sub.cons ?_ (Sub.cons ?_ (Sub.cons ?_ (Sub.cons ?_ (Sub.nil _)))))))
    all_goals exact rfl
  refine En.next ?_
  refine WC.seq ?_
  refine WC.region ?_
  refine Lt.ofWL.step rfl rfl rfl (OpV.move rfl) ?_
  refine Lt.ofWL.step rfl rfl rfl (OpV.geq rfl rfl) ?_
  refine Lt.ofWL.step rfl rfl rfl (OpV.move rfl) ?_
  refine Lt.ofWL.and 21 24 23 (p := ?pz1) (rest := ?qz1) (B := ?Bz1) rfl ?Tz1 ?Fz1 ?az1 ?bz1 ?cz1 ?dz1 ?ez1
  case Tz1 =>
    intro hc2 hkz1
    refine Lt.ofWL.step rfl rfl rfl (OpV.move rfl) ?_
    refine Lt.ofWL.step rfl rfl rfl (OpV.geq rfl rfl) ?_
    refine hkz1 _ ?_ ?_
    exact rfl
    repeat (first | exact Sub.refl _ | refine Sub.skip rfl ?_)
  case Fz1 =>
    intro hc3 hkz1
    refine Lt.ofWL.skip rfl rfl rfl ?_
    refine Lt.ofWL.skip rfl rfl rfl ?_
    refine hkz1 _ ?_
    repeat (first | exact Sub.refl _ | refine Sub.skip rfl ?_)
  case az1 => exact rfl
  case bz1 => exact rfl
  case cz1 => exact rfl
  case dz1 => exact rfl
  refine Lt.ofWL.step rfl rfl rfl (OpV.move rfl) ?_
  refine Lt.ofWL.and 25 41 40 (p := ?pz4) (rest := ?qz4) (B := ?Bz4) rfl ?Tz4 ?Fz4 ?az4 ?bz4 ?cz4 ?dz4 ?ez4
  case Tz4 =>
    intro hc5 hkz4
    refine Lt.ofWL.step rfl rfl rfl (OpV.move rfl) ?_
    refine Lt.ofWL.step rfl rfl rfl (OpV.fieldAddr rfl fo_26_1) ?_
    refine Lt.ofWL.step rfl rfl rfl (OpV.loadBox rfl pt_3 (.head _) rfl) ?_
    refine Lt.ofWL.step rfl rfl rfl (OpV.mulW rfl rfl) ?_
    refine Lt.ofWL.step rfl rfl rfl (OpV.fieldAddr rfl fo_26_2) ?_
    refine Lt.ofWL.step rfl rfl rfl (OpV.loadBox rfl pt_3 (.head _) rfl) ?_
    refine Lt.ofWL.step rfl rfl rfl (OpV.mulW rfl rfl) ?_
    refine Lt.ofWL.step rfl rfl rfl (OpV.move rfl) ?_
    refine Lt.ofWL.step rfl rfl rfl (OpV.fieldAddr rfl fo_26_1) ?_
    refine Lt.ofWL.step rfl rfl rfl (OpV.loadBox rfl pt_3 (.tail _ (.head _)) rfl) ?_
    refine Lt.ofWL.step rfl rfl rfl (OpV.mulW rfl rfl) ?_
    refine Lt.ofWL.step rfl rfl rfl (OpV.fieldAddr rfl fo_26_2) ?_
    refine Lt.ofWL.step rfl rfl rfl (OpV.loadBox rfl pt_3 (.tail _ (.head _)) rfl) ?_
    refine Lt.ofWL.step rfl rfl rfl (OpV.mulW rfl rfl) ?_
    refine Lt.ofWL.step rfl rfl rfl (OpV.lss rfl rfl) ?_
    refine hkz4 _ ?_ ?_
    exact rfl
    repeat (first | exact Sub.refl _ | refine Sub.skip rfl ?_)
  case Fz4 =>
    intro hc6 hkz4
    refine Lt.ofWL.skip rfl rfl rfl ?_
    refine Lt.ofWL.skip rfl rfl rfl ?_
    refine Lt.ofWL.skip rfl rfl rfl ?_
    refine Lt.ofWL.skip rfl rfl rfl ?_
    refine Lt.ofWL.skip rfl rfl rfl ?_
    refine Lt.ofWL.skip rfl rfl rfl ?_
    refine Lt.ofWL.skip rfl rfl rfl ?_
    refine Lt.ofWL.skip rfl rfl rfl ?_
    refine Lt.ofWL.skip rfl rfl rfl ?_
    refine Lt.ofWL.skip rfl rfl rfl ?_
    refine Lt.ofWL.skip rfl rfl rfl ?_
    refine Lt.ofWL.skip rfl rfl rfl ?_
    refine Lt.ofWL.skip rfl rfl rfl ?_
    refine Lt.ofWL.skip rfl rfl rfl ?_
    refine Lt.ofWL.skip rfl rfl rfl ?_
    refine hkz4 _ ?_
    repeat (first | exact Sub.refl _ | refine Sub.skip rfl ?_)
  case az4 => exact rfl
  case bz4 => exact rfl
  case cz4 => exact rfl
  case dz4 => exact rfl
  refine Lt.ofWL.step rfl rfl rfl (OpV.assign rfl) ?_
  refine WL.nil ?_
  refine En.next ?_
  refine WC.ret ?_
  refine En.ret1 rfl (Res.tmp rfl) ?_
  intro w' hs
  exact ⟨rfl, hs.below⟩

theorem s_BestDivider (r t lo hi : Int) (w : World) :
    Calls Try.prog 20 #[.int .i64 r, .int .i64 t, .int .i64 lo, .int .i64 hi] w fun en w' => en = .returned (.tuple #[.agg #[.int .i64 ((bestD r t lo hi).1.1), .int .i64 ((bestD r t lo hi).1.2.1), .int .i64 ((bestD r t lo hi).1.2.2)], .bool ((bestD r t lo hi).2)]) ∧ Ext w w' := by
  refine enter (vs := [_, _, _, _]) Try.func20 rfl rfl rfl rfl ?_
  refine WC.seq ?_
  refine WC.region ?_
  refine WL.heavy rfl rfl rfl (OpH.alloc zc_26 ?_)
  intro b0
  refine Lt.ofWL.step rfl rfl rfl (OpV.assign rfl) ?_
  refine WL.nil ?_
  refine En.next ?_
  refine WC.seq ?_
  refine WC.region ?_
  refine Lt.ofWL.step rfl rfl rfl (OpV.build (evps.nil) bd_26_) ?_
  refine WL.heavy rfl rfl rfl (OpH.alloc zc_26 ?_)
  intro b1
  refine WL.heavy0 rfl rfl (OpH.store (A := []) rfl rfl rfl ts_26 rfl rfl ?_)
  refine WL.nil ?_
  refine En.next ?_
  refine WC.seq ?_
  refine WC.region ?_
  refine Lt.ofWL.step rfl rfl rfl (OpV.assign rfl) ?_
  refine WL.nil ?_
  refine En.next ?_
  refine WC.seq ?_
  refine WC.seq ?_
  refine WC.region ?_
  refine Lt.ofWL.step rfl rfl rfl (OpV.assign rfl) ?_
  refine WL.nil ?_
  refine En.next ?_
  refine WC.block ?_
  refine WC.loop (EI := fun x : Int × Best => [(0, .int .i64 r), (1, .int .i64 t), (2, .int .i64 lo), (3, .int .i64 hi), (8, .pointer (some ⟨b0, 0, none⟩)), (10, .pointer (some ⟨b1, 0, none⟩)), (11, .bool x.2.2), (12, .int .i64 x.1)]) (FI := fun x : Int × Best => [Chunk.box b1 26 [.int .i64 x.2.1.1, .int .i64 x.2.1.2.1, .int .i64 x.2.1.2.2], Chunk.box b0 26 [.int .i64 0, .int .i64 0, .int .i64 0]]) (PI := InvM r t lo hi) (m := fun x => (9 - x.1).toNat) (1, best0) ⟨by decide, by decide, rfl⟩ (Sub.cons rfl (Sub.cons rfl (Sub.cons rfl (Sub.cons rfl (Sub.cons rfl (Sub.cons rfl (Sub.cons rfl (Sub.cons rfl (Sub.nil _))))))))) (fun _ h => h) ?_
  rintro ⟨m, s⟩ hM
  refine WC.seq ?_
  refine WC.seq ?_
  refine WC.region ?_
  refine Lt.ofWL.step rfl rfl rfl (OpV.move rfl) ?_
  refine Lt.ofWL.step rfl rfl rfl (OpV.leq rfl rfl) ?_
  refine WL.nil ?_
  refine En.next ?_
  refine WC.cond rfl ?_ ?_
  ·
    intro hc1
    have hcM := hc1
    have hm8 := of_decide_eq_true hc1
    have hm1 := hM.1
    dsimp only at hm1
    refine WC.skip ?_
    refine En.next ?_
    refine WC.seq ?_
    refine WC.block ?_
    refine WC.seq ?_
    refine WC.region ?_
    refine Lt.ofWL.step rfl rfl rfl (OpV.assign rfl) ?_
    refine WL.nil ?_
    refine En.next ?_
    refine WC.block ?_
    refine WC.loop (EI := fun x : Nat × Int × Best => [(0, .int .i64 r), (1, .int .i64 t), (2, .int .i64 lo), (3, .int .i64 hi), (8, .pointer (some ⟨b0, 0, none⟩)), (10, .pointer (some ⟨b1, 0, none⟩)), (11, .bool x.2.2.2), (12, .int .i64 m), (13, .int .i64 x.2.1)]) (FI := fun x : Nat × Int × Best => [Chunk.box b1 26 [.int .i64 x.2.2.1.1, .int .i64 x.2.2.1.2.1, .int .i64 x.2.2.1.2.2], Chunk.box b0 26 [.int .i64 0, .int .i64 0, .int .i64 0]]) (PI := InvP r t lo hi m s) (m := fun x => x.1) (4, 1, s) ⟨.inl ⟨rfl, rfl⟩, rfl⟩ (Sub.cons rfl (Sub.cons rfl (Sub.cons rfl (Sub.cons rfl (Sub.cons rfl (Sub.cons rfl (Sub.cons rfl (Sub.cons rfl (Sub.cons rfl (Sub.nil _)))))))))) (fun _ h => h) ?_
    rintro ⟨k, p, s2⟩ hPP
    refine WC.seq ?_
    refine WC.seq ?_
    refine WC.region ?_
    refine Lt.ofWL.step rfl rfl rfl (OpV.move rfl) ?_
    refine Lt.ofWL.step rfl rfl rfl (OpV.leq rfl rfl) ?_
    refine WL.nil ?_
    refine En.next ?_
    refine WC.cond rfl ?_ ?_
    ·
      intro hc2
      have hp := of_decide_eq_true hc2
      have hpp := hPP.1
      dsimp only at hpp
      refine WC.skip ?_
      refine En.next ?_
      refine WC.seq ?_
      refine WC.block ?_
      refine WC.seq ?_
      refine WC.region ?_
      refine Lt.ofWL.step rfl rfl rfl (OpV.assign rfl) ?_
      refine WL.nil ?_
      refine En.next ?_
      refine WC.block ?_
      refine WC.loop (EI := fun x : Int × Best => [(0, .int .i64 r), (1, .int .i64 t), (2, .int .i64 lo), (3, .int .i64 hi), (8, .pointer (some ⟨b0, 0, none⟩)), (10, .pointer (some ⟨b1, 0, none⟩)), (11, .bool x.2.2), (12, .int .i64 m), (13, .int .i64 p), (14, .int .i64 x.1)]) (FI := fun x : Int × Best => [Chunk.box b1 26 [.int .i64 x.2.1.1, .int .i64 x.2.1.2.1, .int .i64 x.2.1.2.2], Chunk.box b0 26 [.int .i64 0, .int .i64 0, .int .i64 0]]) (PI := InvN r t lo hi m p s2) (m := fun x => (65 - x.1).toNat) (4, s2) ⟨by simp, by simp, rfl⟩ (Sub.cons rfl (Sub.cons rfl (Sub.cons rfl (Sub.cons rfl (Sub.cons rfl (Sub.cons rfl (Sub.cons rfl (Sub.cons rfl (Sub.cons rfl (Sub.cons rfl (Sub.nil _))))))))))) (fun _ h => h) ?_
      rintro ⟨n, s3⟩ hN
      refine WC.seq ?_
      refine WC.seq ?_
      refine WC.region ?_
      refine Lt.ofWL.step rfl rfl rfl (OpV.move rfl) ?_
      refine Lt.ofWL.step rfl rfl rfl (OpV.leq rfl rfl) ?_
      refine WL.nil ?_
      refine En.next ?_
      refine WC.cond rfl ?_ ?_
      ·
        intro hc3
        have hn := of_decide_eq_true hc3
        have hn4 := hN.1
        dsimp only at hn4
        refine WC.skip ?_
        refine En.next ?_
        refine WC.seq ?_
        refine WC.block ?_
        refine WC.seq ?_
        refine WC.region ?_
        refine Lt.ofWL.step rfl rfl rfl (OpV.move rfl) ?_
        refine Lt.ofWL.step rfl rfl rfl (OpV.move rfl) ?_
        refine Lt.ofWL.step rfl rfl rfl (OpV.move rfl) ?_
        refine Lt.ofWL.step rfl rfl rfl (OpV.build (evps.cons rfl (evps.cons rfl (evps.cons rfl (evps.nil)))) (bd_26_0_1_2 _ _ _)) ?_
        refine WL.heavy rfl rfl rfl (OpH.alloc zc_26 ?_)
        intro b2
        refine WL.heavy0 rfl rfl (OpH.store (A := []) rfl rfl rfl ts_26 rfl rfl ?_)
        refine WL.nil ?_
        refine En.next ?_
        refine WC.seq ?_
        refine WC.region ?_
        refine Lt.ofWL.step rfl rfl rfl (OpV.loadAll rfl (.head _) ag_26) ?_
        refine Lt.ofWL.step rfl rfl rfl (OpV.move rfl) ?_
        refine Lt.ofWL.step rfl rfl rfl (OpV.move rfl) ?_
        refine Lt.ofWL.step rfl rfl rfl (OpV.move rfl) ?_
        refine Lt.ofWL.step rfl rfl rfl (OpV.call (evs.cons rfl (evs.cons rfl (evs.cons rfl (evs.cons rfl (evs.nil))))) ca_57 (fun w hs => s_DividerOk _ _ _ _ _ _ w)) ?_
        refine Lt.ofWL.step rfl rfl rfl (OpV.move rfl) ?_
        refine Lt.ofWL.and 38 41 40 (p := ?pz4) (rest := ?qz4) (B := ?Bz4) rfl ?Tz4 ?Fz4 ?az4 ?bz4 ?cz4 ?dz4 ?ez4
        case Tz4 =>
          intro hc5 hkz4
          refine Lt.ofWL.step rfl rfl rfl (OpV.move rfl) ?_
          refine Lt.ofWL.step rfl rfl rfl (OpV.call (evs.cons rfl (evs.cons rfl (evs.cons rfl (evs.nil)))) ca_58 (fun w hs => s_in _ _ _ w)) ?_
          refine hkz4 _ ?_ ?_
          exact rfl
          repeat (first | exact Sub.refl _ | refine Sub.skip rfl ?_)
        case Fz4 =>
          intro hc6 hkz4
          refine Lt.ofWL.skip rfl rfl rfl ?_
          refine Lt.ofWL.skip rfl rfl rfl ?_
          refine hkz4 _ ?_
          repeat (first | exact Sub.refl _ | refine Sub.skip rfl ?_)
        case az4 => exact rfl
        case bz4 => exact rfl
        case cz4 => exact rfl
        case dz4 => exact rfl
        refine Lt.ofWL.step rfl rfl rfl (OpV.move rfl) ?_
        refine Lt.ofWL.and 42 52 51 (p := ?pz7) (rest := ?qz7) (B := ?Bz7) rfl ?Tz7 ?Fz7 ?az7 ?bz7 ?cz7 ?dz7 ?ez7
        case Tz7 =>
          intro hc8 hkz7
          refine Lt.ofWL.step rfl rfl rfl (OpV.move rfl) ?_
          refine Lt.ofWL.step rfl rfl rfl (OpV.not rfl) ?_
          refine Lt.ofWL.step rfl rfl rfl (OpV.move rfl) ?_
          refine Lt.ofWL.or 45 51 50 (p := ?pz9) (rest := ?qz9) (B := ?Bz9) rfl ?Tz9 ?Fz9 ?az9 ?bz9 ?cz9 ?dz9 ?ez9
          case Tz9 =>
            intro hc10 hkz9
            refine Lt.ofWL.skip rfl rfl rfl ?_
            refine Lt.ofWL.skip rfl rfl rfl ?_
            refine Lt.ofWL.skip rfl rfl rfl ?_
            refine Lt.ofWL.skip rfl rfl rfl ?_
            refine Lt.ofWL.skip rfl rfl rfl ?_
            refine hkz9 _ ?_
            repeat (first | exact Sub.refl _ | refine Sub.skip rfl ?_)
          case Fz9 =>
            intro hc11 hkz9
            refine Lt.ofWL.step rfl rfl rfl (OpV.loadAll rfl (.head _) ag_26) ?_
            refine Lt.ofWL.step rfl rfl rfl (OpV.loadAll rfl (.tail _ (.head _)) ag_26) ?_
            refine Lt.ofWL.step rfl rfl rfl (OpV.move rfl) ?_
            refine Lt.ofWL.step rfl rfl rfl (OpV.move rfl) ?_
            refine Lt.ofWL.step rfl rfl rfl (OpV.call (evs.cons rfl (evs.cons rfl (evs.cons rfl (evs.cons rfl (evs.nil))))) ca_59 (fun w hs => s_Closer _ _ _ _ _ _ _ _ w)) ?_
            refine hkz9 _ ?_ ?_
            exact rfl
            repeat (first | exact Sub.refl _ | refine Sub.skip rfl ?_)
          case az9 => exact rfl
          case bz9 => exact rfl
          case cz9 => exact rfl
          case dz9 => exact rfl
          refine hkz7 _ ?_ ?_
          exact rfl
          repeat (first | exact Sub.refl _ | refine Sub.skip rfl ?_)
        case Fz7 =>
          intro hc12 hkz7
          refine Lt.ofWL.skip rfl rfl rfl ?_
          refine Lt.ofWL.skip rfl rfl rfl ?_
          refine Lt.ofWL.skip rfl rfl rfl ?_
          refine Lt.ofWL.skip rfl rfl rfl ?_
          refine Lt.ofWL.skip rfl rfl rfl ?_
          refine Lt.ofWL.skip rfl rfl rfl ?_
          refine Lt.ofWL.skip rfl rfl rfl ?_
          refine Lt.ofWL.skip rfl rfl rfl ?_
          refine Lt.ofWL.skip rfl rfl rfl ?_
          refine hkz7 _ ?_
          repeat (first | exact Sub.refl _ | refine Sub.skip rfl ?_)
        case az7 => exact rfl
        case bz7 => exact rfl
        case cz7 => exact rfl
        case dz7 => exact rfl
        refine WL.nil ?_
        refine En.next ?_
        refine WC.cond rfl ?_ ?_
        ·
          intro hc13
          refine WC.seq ?_
          refine WC.region ?_
          refine Lt.ofWL.step rfl rfl rfl (OpV.loadAll rfl (.head _) ag_26) ?_
          refine WL.heavy0 rfl rfl (OpH.store (A := [_]) rfl rfl rfl ts_26 rfl rfl ?_)
          refine WL.nil ?_
          refine En.next ?_
          refine WC.region ?_
          refine Lt.ofWL.step rfl rfl rfl (OpV.assign rfl) ?_
          refine WL.nil ?_
          refine En.block_norm ?_
          refine En.next ?_
          refine WC.region ?_
          refine Lt.ofWL.step rfl rfl rfl (OpV.move rfl) ?_
          refine Lt.ofWL.step rfl rfl rfl (OpV.add rfl rfl ⟨by omega, by omega⟩) ?_
          refine Lt.ofWL.step rfl rfl rfl (OpV.assign rfl) ?_
          refine WL.nil ?_
          refine En.round (n + 1, ((n, m, p), true)) (by dsimp only; have := hN.2.1; dsimp only at this; omega) (hN.next hn (by simp only [bstep, takes, hc13, if_true])) (Sub.cons rfl (Sub.cons rfl (Sub.cons rfl (Sub.cons rfl (Sub.cons rfl (Sub.cons rfl (Sub.cons rfl (Sub.cons rfl (Sub.cons rfl (Sub.cons rfl (Sub.nil _))))))))))) (fun _ h => ?_)
          exact h.drop
        ·
          intro hc13
          refine WC.skip ?_
          refine En.block_norm ?_
          refine En.next ?_
          refine WC.region ?_
          refine Lt.ofWL.step rfl rfl rfl (OpV.move rfl) ?_
          refine Lt.ofWL.step rfl rfl rfl (OpV.add rfl rfl ⟨by omega, by omega⟩) ?_
          refine Lt.ofWL.step rfl rfl rfl (OpV.assign rfl) ?_
          refine WL.nil ?_
          refine En.round (n + 1, s3) (by dsimp only; have := hN.2.1; dsimp only at this; omega) (hN.next hn (by simp only [bstep, takes, hc13, Bool.false_eq_true, if_false])) (Sub.cons rfl (Sub.cons rfl (Sub.cons rfl (Sub.cons rfl (Sub.cons rfl (Sub.cons rfl (Sub.cons rfl (Sub.cons rfl (Sub.cons rfl (Sub.cons rfl (Sub.nil _))))))))))) (fun _ h => ?_)
          exact h.drop
      ·
        intro hc3
        have hNd := hN.done (of_decide_eq_false hc3)
        refine WC.exit ?_
        refine En.then_exit ?_
        refine En.then_exit ?_
        refine En.block_exit ?_
        refine En.block_norm ?_
        refine En.next ?_
        refine WC.region ?_
        refine Lt.ofWL.step rfl rfl rfl (OpV.move rfl) ?_
        refine Lt.ofWL.step rfl rfl rfl (OpV.mul rfl rfl ⟨by omega, by omega⟩) ?_
        refine Lt.ofWL.step rfl rfl rfl (OpV.assign rfl) ?_
        refine WL.nil ?_
        refine En.round (k - 1, p * 2, runN r t lo hi m p 61 4 s2) (hPP.next hp).2 (hPP.next hp).1 (Sub.cons rfl (Sub.cons rfl (Sub.cons rfl (Sub.cons rfl (Sub.cons rfl (Sub.cons rfl (Sub.cons ?_ (Sub.cons rfl (Sub.cons ?_ (Sub.nil _)))))))))) ?_
        · rw [← hNd]; rfl
        · rw [Int.mul_comm p 2]; rfl
        · intro w hs; rw [← hNd]; exact hs
    ·
      intro hc2
      have hPd := hPP.done (of_decide_eq_false hc2)
      refine WC.exit ?_
      refine En.then_exit ?_
      refine En.then_exit ?_
      refine En.block_exit ?_
      refine En.block_norm ?_
      refine En.next ?_
      refine WC.region ?_
      refine Lt.ofWL.step rfl rfl rfl (OpV.move rfl) ?_
      refine Lt.ofWL.step rfl rfl rfl (OpV.add rfl rfl ⟨by omega, by omega⟩) ?_
      refine Lt.ofWL.step rfl rfl rfl (OpV.assign rfl) ?_
      refine WL.nil ?_
      have hm := of_decide_eq_true hcM
      refine En.round (m + 1, runP r t lo hi m 4 1 s) (by dsimp only; have := hM.2.1; dsimp only at this; omega) (hM.next hm) (Sub.cons rfl (Sub.cons rfl (Sub.cons rfl (Sub.cons rfl (Sub.cons rfl (Sub.cons rfl (Sub.cons ?_ (Sub.cons rfl (Sub.nil _))))))))) ?_
      · rw [← hPd]; rfl
      · intro w hs; rw [← hPd]; exact hs
  ·
    intro hc1
    have hMd := hM.done (of_decide_eq_false hc1)
    refine WC.exit ?_
    refine En.then_exit ?_
    refine En.then_exit ?_
    refine En.block_exit ?_
    refine En.next ?_
    refine WC.seq ?_
    refine WC.region ?_
    refine Lt.ofWL.step rfl rfl rfl (OpV.loadAll rfl (.head _) ag_26) ?_
    refine Lt.ofWL.step rfl rfl rfl (OpV.move rfl) ?_
    refine WL.heavy0 rfl rfl (OpH.store (A := [_]) rfl rfl rfl ts_26 rfl rfl ?_)
    refine Lt.ofWL.step rfl rfl rfl (OpV.assign rfl) ?_
    refine WL.nil ?_
    refine En.next ?_
    refine WC.ret ?_
    refine En.ret2 rfl (Res.cell rfl (.tail _ (.head _)) ag_26) (Res.tmp rfl) ?_
    intro w' hs
    rw [← hMd]
    exact ⟨rfl, hs.below⟩

theorem i_BestDivider (r t lo hi : Int) (w : World) :
    Calls Try.prog 17 #[.int .i64 r, .int .i64 t, .int .i64 lo, .int .i64 hi] w fun en w' => en = .returned (.tuple #[.agg #[.int .i64 ((bestD r t lo hi).1.1), .int .i64 ((bestD r t lo hi).1.2.1), .int .i64 ((bestD r t lo hi).1.2.2)], .bool ((bestD r t lo hi).2)]) ∧ Ext w w' := by
  refine enter (vs := [_, _, _, _]) Try.func17 rfl rfl rfl rfl ?_
  refine WC.seq ?_
  refine WC.region ?_
  refine WL.heavy rfl rfl rfl (OpH.alloc zc_26 ?_)
  intro b0
  refine Lt.ofWL.step rfl rfl rfl (OpV.assign rfl) ?_
  refine WL.nil ?_
  refine En.next ?_
  refine WC.seq ?_
  refine WC.region ?_
  refine Lt.ofWL.step rfl rfl rfl (OpV.build (evps.nil) bd_26_) ?_
  refine WL.heavy rfl rfl rfl (OpH.alloc zc_26 ?_)
  intro b1
  refine WL.heavy0 rfl rfl (OpH.store (A := []) rfl rfl rfl ts_26 rfl rfl ?_)
  refine WL.nil ?_
  refine En.next ?_
  refine WC.seq ?_
  refine WC.region ?_
  refine Lt.ofWL.step rfl rfl rfl (OpV.assign rfl) ?_
  refine WL.nil ?_
  refine En.next ?_
  refine WC.seq ?_
  refine WC.seq ?_
  refine WC.region ?_
  refine Lt.ofWL.step rfl rfl rfl (OpV.move rfl) ?_
  refine Lt.ofWL.step rfl rfl rfl (OpV.call (evs.cons rfl (evs.nil)) ca_55 (fun w hs => i_isClock _ w)) ?_
  refine Lt.ofWL.step rfl rfl rfl (OpV.not rfl) ?_
  refine WL.nil ?_
  refine En.next ?_
  refine WC.cond rfl ?_ ?_
  ·
    intro hc1
    refine WC.seq ?_
    refine WC.region ?_
    refine Lt.ofWL.step rfl rfl rfl (OpV.loadAll rfl (.head _) ag_26) ?_
    refine WL.heavy0 rfl rfl (OpH.store (A := [_]) rfl rfl rfl ts_26 rfl rfl ?_)
    refine Lt.ofWL.step rfl rfl rfl (OpV.assign rfl) ?_
    refine WL.nil ?_
    refine En.next ?_
    refine WC.ret ?_
    refine En.then_ret ?_
    refine En.ret2 rfl (Res.cell rfl (.tail _ (.head _)) ag_26) (Res.tmp rfl) ?_
    intro w' hs
    rw [bestD_none r t lo hi (by simpa using hc1)]
    exact ⟨rfl, hs.below⟩
  ·
    intro hc1
    have ht : inR t 1 1000000 = true := by simpa using hc1
    refine WC.skip ?_
    refine En.next ?_
    refine WC.seq ?_
    refine WC.seq ?_
    refine WC.region ?_
    refine Lt.ofWL.step rfl rfl rfl (OpV.assign rfl) ?_
    refine WL.nil ?_
    refine En.next ?_
    refine WC.block ?_
    refine WC.loop (EI := fun x : Int × Best => [(0, .int .i64 r), (1, .int .i64 t), (2, .int .i64 lo), (3, .int .i64 hi), (8, .pointer (some ⟨b0, 0, none⟩)), (10, .pointer (some ⟨b1, 0, none⟩)), (11, .bool x.2.2), (12, .int .i64 x.1)]) (FI := fun x : Int × Best => [Chunk.box b1 26 [.int .i64 x.2.1.1, .int .i64 x.2.1.2.1, .int .i64 x.2.1.2.2], Chunk.box b0 26 [.int .i64 0, .int .i64 0, .int .i64 0]]) (PI := InvM r t lo hi) (m := fun x => (9 - x.1).toNat) (1, best0) ⟨by decide, by decide, rfl⟩ (Sub.cons rfl (Sub.cons rfl (Sub.cons rfl (Sub.cons rfl (Sub.cons rfl (Sub.cons rfl (Sub.cons rfl (Sub.cons rfl (Sub.nil _))))))))) (fun _ h => h) ?_
    rintro ⟨m, s⟩ hM
    refine WC.seq ?_
    refine WC.seq ?_
    refine WC.region ?_
    refine Lt.ofWL.step rfl rfl rfl (OpV.move rfl) ?_
    refine Lt.ofWL.step rfl rfl rfl (OpV.leq rfl rfl) ?_
    refine WL.nil ?_
    refine En.next ?_
    refine WC.cond rfl ?_ ?_
    ·
      intro hc2
      have hcM := hc2
      have hm8 := of_decide_eq_true hc2
      have hm1 := hM.1
      dsimp only at hm1
      refine WC.skip ?_
      refine En.next ?_
      refine WC.seq ?_
      refine WC.block ?_
      refine WC.seq ?_
      refine WC.region ?_
      refine Lt.ofWL.step rfl rfl rfl (OpV.assign rfl) ?_
      refine WL.nil ?_
      refine En.next ?_
      refine WC.block ?_
      refine WC.loop (EI := fun x : Nat × Int × Best => [(0, .int .i64 r), (1, .int .i64 t), (2, .int .i64 lo), (3, .int .i64 hi), (8, .pointer (some ⟨b0, 0, none⟩)), (10, .pointer (some ⟨b1, 0, none⟩)), (11, .bool x.2.2.2), (12, .int .i64 m), (13, .int .i64 x.2.1)]) (FI := fun x : Nat × Int × Best => [Chunk.box b1 26 [.int .i64 x.2.2.1.1, .int .i64 x.2.2.1.2.1, .int .i64 x.2.2.1.2.2], Chunk.box b0 26 [.int .i64 0, .int .i64 0, .int .i64 0]]) (PI := InvP r t lo hi m s) (m := fun x => x.1) (4, 1, s) ⟨.inl ⟨rfl, rfl⟩, rfl⟩ (Sub.cons rfl (Sub.cons rfl (Sub.cons rfl (Sub.cons rfl (Sub.cons rfl (Sub.cons rfl (Sub.cons rfl (Sub.cons rfl (Sub.cons rfl (Sub.nil _)))))))))) (fun _ h => h) ?_
      rintro ⟨k, p, s2⟩ hPP
      refine WC.seq ?_
      refine WC.seq ?_
      refine WC.region ?_
      refine Lt.ofWL.step rfl rfl rfl (OpV.move rfl) ?_
      refine Lt.ofWL.step rfl rfl rfl (OpV.leq rfl rfl) ?_
      refine WL.nil ?_
      refine En.next ?_
      refine WC.cond rfl ?_ ?_
      ·
        intro hc3
        have hp := of_decide_eq_true hc3
        have hpp := hPP.1
        dsimp only at hpp
        refine WC.skip ?_
        refine En.next ?_
        refine WC.seq ?_
        refine WC.block ?_
        refine WC.seq ?_
        refine WC.region ?_
        refine Lt.ofWL.step rfl rfl rfl (OpV.assign rfl) ?_
        refine WL.nil ?_
        refine En.next ?_
        refine WC.block ?_
        refine WC.loop (EI := fun x : Int × Best => [(0, .int .i64 r), (1, .int .i64 t), (2, .int .i64 lo), (3, .int .i64 hi), (8, .pointer (some ⟨b0, 0, none⟩)), (10, .pointer (some ⟨b1, 0, none⟩)), (11, .bool x.2.2), (12, .int .i64 m), (13, .int .i64 p), (14, .int .i64 x.1)]) (FI := fun x : Int × Best => [Chunk.box b1 26 [.int .i64 x.2.1.1, .int .i64 x.2.1.2.1, .int .i64 x.2.1.2.2], Chunk.box b0 26 [.int .i64 0, .int .i64 0, .int .i64 0]]) (PI := InvN r t lo hi m p s2) (m := fun x => (65 - x.1).toNat) (4, s2) ⟨by simp, by simp, rfl⟩ (Sub.cons rfl (Sub.cons rfl (Sub.cons rfl (Sub.cons rfl (Sub.cons rfl (Sub.cons rfl (Sub.cons rfl (Sub.cons rfl (Sub.cons rfl (Sub.cons rfl (Sub.nil _))))))))))) (fun _ h => h) ?_
        rintro ⟨n, s3⟩ hN
        refine WC.seq ?_
        refine WC.seq ?_
        refine WC.region ?_
        refine Lt.ofWL.step rfl rfl rfl (OpV.move rfl) ?_
        refine Lt.ofWL.step rfl rfl rfl (OpV.leq rfl rfl) ?_
        refine WL.nil ?_
        refine En.next ?_
        refine WC.cond rfl ?_ ?_
        ·
          intro hc4
          have hn := of_decide_eq_true hc4
          have hn4 := hN.1
          dsimp only at hn4
          refine WC.skip ?_
          refine En.next ?_
          refine WC.seq ?_
          refine WC.block ?_
          refine WC.seq ?_
          refine WC.region ?_
          refine Lt.ofWL.step rfl rfl rfl (OpV.move rfl) ?_
          refine Lt.ofWL.step rfl rfl rfl (OpV.move rfl) ?_
          refine Lt.ofWL.step rfl rfl rfl (OpV.move rfl) ?_
          refine Lt.ofWL.step rfl rfl rfl (OpV.build (evps.cons rfl (evps.cons rfl (evps.cons rfl (evps.nil)))) (bd_26_0_1_2 _ _ _)) ?_
          refine WL.heavy rfl rfl rfl (OpH.alloc zc_26 ?_)
          intro b2
          refine WL.heavy0 rfl rfl (OpH.store (A := []) rfl rfl rfl ts_26 rfl rfl ?_)
          refine WL.nil ?_
          refine En.next ?_
          refine WC.seq ?_
          refine WC.region ?_
          refine Lt.ofWL.step rfl rfl rfl (OpV.loadAll rfl (.head _) ag_26) ?_
          refine Lt.ofWL.step rfl rfl rfl (OpV.move rfl) ?_
          refine Lt.ofWL.step rfl rfl rfl (OpV.move rfl) ?_
          refine Lt.ofWL.step rfl rfl rfl (OpV.move rfl) ?_
          refine Lt.ofWL.step rfl rfl rfl (OpV.call (evs.cons rfl (evs.cons rfl (evs.cons rfl (evs.cons rfl (evs.nil))))) ca_18 (fun w hs => i_DividerOk _ _ _ _ _ _ w)) ?_
          refine Lt.ofWL.step rfl rfl rfl (OpV.move rfl) ?_
          refine Lt.ofWL.and 42 52 51 (p := ?pz5) (rest := ?qz5) (B := ?Bz5) rfl ?Tz5 ?Fz5 ?az5 ?bz5 ?cz5 ?dz5 ?ez5
          case Tz5 =>
            intro hc6 hkz5
            refine Lt.ofWL.step rfl rfl rfl (OpV.move rfl) ?_
            refine Lt.ofWL.step rfl rfl rfl (OpV.not rfl) ?_
            refine Lt.ofWL.step rfl rfl rfl (OpV.move rfl) ?_
            refine Lt.ofWL.or 45 51 50 (p := ?pz7) (rest := ?qz7) (B := ?Bz7) rfl ?Tz7 ?Fz7 ?az7 ?bz7 ?cz7 ?dz7 ?ez7
            case Tz7 =>
              intro hc8 hkz7
              refine Lt.ofWL.skip rfl rfl rfl ?_
              refine Lt.ofWL.skip rfl rfl rfl ?_
              refine Lt.ofWL.skip rfl rfl rfl ?_
              refine Lt.ofWL.skip rfl rfl rfl ?_
              refine Lt.ofWL.skip rfl rfl rfl ?_
              refine hkz7 _ ?_
              repeat (first | exact Sub.refl _ | refine Sub.skip rfl ?_)
            case Fz7 =>
              intro hc9 hkz7
              refine Lt.ofWL.step rfl rfl rfl (OpV.loadAll rfl (.head _) ag_26) ?_
              refine Lt.ofWL.step rfl rfl rfl (OpV.loadAll rfl (.tail _ (.head _)) ag_26) ?_
              refine Lt.ofWL.step rfl rfl rfl (OpV.move rfl) ?_
              refine Lt.ofWL.step rfl rfl rfl (OpV.move rfl) ?_
              refine Lt.ofWL.step rfl rfl rfl (OpV.call (evs.cons rfl (evs.cons rfl (evs.cons rfl (evs.cons rfl (evs.nil))))) ca_19 (fun w hs => i_Closer _ _ _ _ _ _ _ _ w)) ?_
              refine hkz7 _ ?_ ?_
              exact rfl
              repeat (first | exact Sub.refl _ | refine Sub.skip rfl ?_)
            case az7 => exact rfl
            case bz7 => exact rfl
            case cz7 => exact rfl
            case dz7 => exact rfl
            refine hkz5 _ ?_ ?_
            exact rfl
            repeat (first | exact Sub.refl _ | refine Sub.skip rfl ?_)
          case Fz5 =>
            intro hc10 hkz5
            refine Lt.ofWL.skip rfl rfl rfl ?_
            refine Lt.ofWL.skip rfl rfl rfl ?_
            refine Lt.ofWL.skip rfl rfl rfl ?_
            refine Lt.ofWL.skip rfl rfl rfl ?_
            refine Lt.ofWL.skip rfl rfl rfl ?_
            refine Lt.ofWL.skip rfl rfl rfl ?_
            refine Lt.ofWL.skip rfl rfl rfl ?_
            refine Lt.ofWL.skip rfl rfl rfl ?_
            refine Lt.ofWL.skip rfl rfl rfl ?_
            refine hkz5 _ ?_
            repeat (first | exact Sub.refl _ | refine Sub.skip rfl ?_)
          case az5 => exact rfl
          case bz5 => exact rfl
          case cz5 => exact rfl
          case dz5 => exact rfl
          refine WL.nil ?_
          refine En.next ?_
          refine WC.cond rfl ?_ ?_
          ·
            intro hc11
            refine WC.seq ?_
            refine WC.region ?_
            refine Lt.ofWL.step rfl rfl rfl (OpV.loadAll rfl (.head _) ag_26) ?_
            refine WL.heavy0 rfl rfl (OpH.store (A := [_]) rfl rfl rfl ts_26 rfl rfl ?_)
            refine WL.nil ?_
            refine En.next ?_
            refine WC.region ?_
            refine Lt.ofWL.step rfl rfl rfl (OpV.assign rfl) ?_
            refine WL.nil ?_
            refine En.block_norm ?_
            refine En.next ?_
            refine WC.region ?_
            refine Lt.ofWL.step rfl rfl rfl (OpV.move rfl) ?_
            refine Lt.ofWL.step rfl rfl rfl (OpV.add rfl rfl ⟨by omega, by omega⟩) ?_
            refine Lt.ofWL.step rfl rfl rfl (OpV.assign rfl) ?_
            refine WL.nil ?_
            refine En.round (n + 1, ((n, m, p), true)) (by dsimp only; have := hN.2.1; dsimp only at this; omega) (hN.next hn (by simp only [bstep, takes, ht, Bool.and_true, hc11, if_true])) (Sub.cons rfl (Sub.cons rfl (Sub.cons rfl (Sub.cons rfl (Sub.cons rfl (Sub.cons rfl (Sub.cons rfl (Sub.cons rfl (Sub.cons rfl (Sub.cons rfl (Sub.nil _))))))))))) (fun _ h => ?_)
            exact h.drop
          ·
            intro hc11
            refine WC.skip ?_
            refine En.block_norm ?_
            refine En.next ?_
            refine WC.region ?_
            refine Lt.ofWL.step rfl rfl rfl (OpV.move rfl) ?_
            refine Lt.ofWL.step rfl rfl rfl (OpV.add rfl rfl ⟨by omega, by omega⟩) ?_
            refine Lt.ofWL.step rfl rfl rfl (OpV.assign rfl) ?_
            refine WL.nil ?_
            refine En.round (n + 1, s3) (by dsimp only; have := hN.2.1; dsimp only at this; omega) (hN.next hn (by simp only [bstep, takes, ht, Bool.and_true, hc11, Bool.false_eq_true, if_false])) (Sub.cons rfl (Sub.cons rfl (Sub.cons rfl (Sub.cons rfl (Sub.cons rfl (Sub.cons rfl (Sub.cons rfl (Sub.cons rfl (Sub.cons rfl (Sub.cons rfl (Sub.nil _))))))))))) (fun _ h => ?_)
            exact h.drop
        ·
          intro hc4
          have hNd := hN.done (of_decide_eq_false hc4)
          refine WC.exit ?_
          refine En.then_exit ?_
          refine En.then_exit ?_
          refine En.block_exit ?_
          refine En.block_norm ?_
          refine En.next ?_
          refine WC.region ?_
          refine Lt.ofWL.step rfl rfl rfl (OpV.move rfl) ?_
          refine Lt.ofWL.step rfl rfl rfl (OpV.mul rfl rfl ⟨by omega, by omega⟩) ?_
          refine Lt.ofWL.step rfl rfl rfl (OpV.assign rfl) ?_
          refine WL.nil ?_
          refine En.round (k - 1, p * 2, runN r t lo hi m p 61 4 s2) (hPP.next hp).2 (hPP.next hp).1 (Sub.cons rfl (Sub.cons rfl (Sub.cons rfl (Sub.cons rfl (Sub.cons rfl (Sub.cons rfl (Sub.cons ?_ (Sub.cons rfl (Sub.cons rfl (Sub.nil _)))))))))) ?_
          · rw [← hNd]; rfl
          · intro w hs; rw [← hNd]; exact hs
      ·
        intro hc3
        have hPd := hPP.done (of_decide_eq_false hc3)
        refine WC.exit ?_
        refine En.then_exit ?_
        refine En.then_exit ?_
        refine En.block_exit ?_
        refine En.block_norm ?_
        refine En.next ?_
        refine WC.region ?_
        refine Lt.ofWL.step rfl rfl rfl (OpV.move rfl) ?_
        refine Lt.ofWL.step rfl rfl rfl (OpV.add rfl rfl ⟨by omega, by omega⟩) ?_
        refine Lt.ofWL.step rfl rfl rfl (OpV.assign rfl) ?_
        refine WL.nil ?_
        have hm := of_decide_eq_true hcM
        refine En.round (m + 1, runP r t lo hi m 4 1 s) (by dsimp only; have := hM.2.1; dsimp only at this; omega) (hM.next hm) (Sub.cons rfl (Sub.cons rfl (Sub.cons rfl (Sub.cons rfl (Sub.cons rfl (Sub.cons rfl (Sub.cons ?_ (Sub.cons rfl (Sub.nil _))))))))) ?_
        · rw [← hPd]; rfl
        · intro w hs; rw [← hPd]; exact hs
    ·
      intro hc2
      have hMd := hM.done (of_decide_eq_false hc2)
      refine WC.exit ?_
      refine En.then_exit ?_
      refine En.then_exit ?_
      refine En.block_exit ?_
      refine En.next ?_
      refine WC.seq ?_
      refine WC.region ?_
      refine Lt.ofWL.step rfl rfl rfl (OpV.loadAll rfl (.head _) ag_26) ?_
      refine Lt.ofWL.step rfl rfl rfl (OpV.move rfl) ?_
      refine WL.heavy0 rfl rfl (OpH.store (A := [_]) rfl rfl rfl ts_26 rfl rfl ?_)
      refine Lt.ofWL.step rfl rfl rfl (OpV.assign rfl) ?_
      refine WL.nil ?_
      refine En.next ?_
      refine WC.ret ?_
      refine En.ret2 rfl (Res.cell rfl (.tail _ (.head _)) ag_26) (Res.tmp rfl) ?_
      intro w' hs
      rw [← hMd]
      exact ⟨rfl, hs.below⟩

theorem l_eqDivider (n m p n2 m2 p2 : Int) (w : World) :
    Calls Try.prog 23 #[.agg #[.int .i64 n, .int .i64 m, .int .i64 p], .agg #[.int .i64 n2, .int .i64 m2, .int .i64 p2]] w fun en w' => en = .returned (.bool (eqD n m p n2 m2 p2)) ∧ Ext w w' := by
  refine enter (vs := [_, _]) Try.func23 rfl rfl rfl rfl ?_
  refine WC.seq ?_
  refine WC.region ?_
  refine WL.heavy rfl rfl rfl (OpH.box rfl rfl ?_)
  intro b0
  refine WL.heavy rfl rfl rfl (OpH.box rfl rfl ?_)
  intro b1
  refine Lt.ofWL.step rfl rfl rfl (OpV.assign rfl) ?_
  refine WL.nil ?_
  refine En.next ?_
  refine WC.seq ?_
  refine WC.seq ?_
  refine WC.region ?_
  refine Lt.ofWL.step rfl rfl rfl (OpV.fieldAddr rfl fo_26_0) ?_
  refine Lt.ofWL.step rfl rfl rfl (OpV.loadBox rfl pt_3 (.tail _ (.head _)) rfl) ?_
  refine Lt.ofWL.step rfl rfl rfl (OpV.fieldAddr rfl fo_26_0) ?_
  refine Lt.ofWL.step rfl rfl rfl (OpV.loadBox rfl pt_3 (.head _) rfl) ?_
  refine Lt.ofWL.step rfl rfl rfl (OpV.neq rfl rfl) ?_
  refine WL.nil ?_
  refine En.next ?_
  refine WC.cond rfl ?_ ?_
  ·
    intro hc1
    refine WC.seq ?_
    refine WC.region ?_
    refine Lt.ofWL.step rfl rfl rfl (OpV.assign rfl) ?_
    refine WL.nil ?_
    refine En.next ?_
    refine WC.ret ?_
    refine En.then_ret ?_
    refine En.ret1 rfl (Res.tmp rfl) ?_
    intro w' hs
    refine ⟨congrArg _ (congrArg _ ?_), hs.below⟩
    simp at hc1
    simp [eqD, *]
  ·
    intro hc1
    refine WC.skip ?_
    refine En.next ?_
    refine WC.seq ?_
    refine WC.seq ?_
    refine WC.region ?_
    refine Lt.ofWL.step rfl rfl rfl (OpV.fieldAddr rfl fo_26_1) ?_
    refine Lt.ofWL.step rfl rfl rfl (OpV.loadBox rfl pt_3 (.tail _ (.head _)) rfl) ?_
    refine Lt.ofWL.step rfl rfl rfl (OpV.fieldAddr rfl fo_26_1) ?_
    refine Lt.ofWL.step rfl rfl rfl (OpV.loadBox rfl pt_3 (.head _) rfl) ?_
    refine Lt.ofWL.step rfl rfl rfl (OpV.neq rfl rfl) ?_
    refine WL.nil ?_
    refine En.next ?_
    refine WC.cond rfl ?_ ?_
    ·
      intro hc2
      refine WC.seq ?_
      refine WC.region ?_
      refine Lt.ofWL.step rfl rfl rfl (OpV.assign rfl) ?_
      refine WL.nil ?_
      refine En.next ?_
      refine WC.ret ?_
      refine En.then_ret ?_
      refine En.ret1 rfl (Res.tmp rfl) ?_
      intro w' hs
      refine ⟨congrArg _ (congrArg _ ?_), hs.below⟩
      simp at hc1 hc2
      simp [eqD, *]
    ·
      intro hc2
      refine WC.skip ?_
      refine En.next ?_
      refine WC.seq ?_
      refine WC.seq ?_
      refine WC.region ?_
      refine Lt.ofWL.step rfl rfl rfl (OpV.fieldAddr rfl fo_26_2) ?_
      refine Lt.ofWL.step rfl rfl rfl (OpV.loadBox rfl pt_3 (.tail _ (.head _)) rfl) ?_
      refine Lt.ofWL.step rfl rfl rfl (OpV.fieldAddr rfl fo_26_2) ?_
      refine Lt.ofWL.step rfl rfl rfl (OpV.loadBox rfl pt_3 (.head _) rfl) ?_
      refine Lt.ofWL.step rfl rfl rfl (OpV.neq rfl rfl) ?_
      refine WL.nil ?_
      refine En.next ?_
      refine WC.cond rfl ?_ ?_
      ·
        intro hc3
        refine WC.seq ?_
        refine WC.region ?_
        refine Lt.ofWL.step rfl rfl rfl (OpV.assign rfl) ?_
        refine WL.nil ?_
        refine En.next ?_
        refine WC.ret ?_
        refine En.then_ret ?_
        refine En.ret1 rfl (Res.tmp rfl) ?_
        intro w' hs
        refine ⟨congrArg _ (congrArg _ ?_), hs.below⟩
        simp at hc1 hc2 hc3
        simp [eqD, *]
      ·
        intro hc3
        refine WC.skip ?_
        refine En.next ?_
        refine WC.seq ?_
        refine WC.region ?_
        refine Lt.ofWL.step rfl rfl rfl (OpV.assign rfl) ?_
        refine WL.nil ?_
        refine En.next ?_
        refine WC.ret ?_
        refine En.ret1 rfl (Res.tmp rfl) ?_
        intro w' hs
        refine ⟨congrArg _ (congrArg _ ?_), hs.below⟩
        simp at hc1 hc2 hc3
        simp [eqD, *]

theorem s_ModeOk (m0 m1 m2 m3 m4 m5 m6 m7 m8 : Int) (w : World) :
    Calls Try.prog 60 #[.agg #[.int .i64 m0, .int .i64 m1, .int .i64 m2, .int .i64 m3, .int .i64 m4, .int .i64 m5, .int .i64 m6, .int .i64 m7, .int .i64 m8]] w fun en w' => en = .returned (.bool (modeOk m0 m1 m2 m3 m4 m5 m6 m7 m8)) ∧ Ext w w' := by
  refine enter (vs := [_]) Try.func60 rfl rfl rfl rfl ?_
  refine WC.seq ?_
  refine WC.region ?_
  refine WL.heavy rfl rfl rfl (OpH.box rfl rfl ?_)
  intro b0
  refine Lt.ofWL.step rfl rfl rfl (OpV.assign rfl) ?_
  refine WL.nil ?_
  refine En.next ?_
  refine WC.seq ?_
  refine WC.region ?_
  refine Lt.ofWL.step rfl rfl rfl (OpV.fieldAddr rfl fo_40_0) ?_
  refine Lt.ofWL.step rfl rfl rfl (OpV.loadBox rfl pt_3 (.head _) rfl) ?_
  refine Lt.ofWL.step rfl rfl rfl (OpV.call (evs.cons rfl (evs.cons rfl (evs.cons rfl (evs.nil)))) ca_58 (fun w hs => s_in _ _ _ w)) ?_
  refine Lt.ofWL.step rfl rfl rfl (OpV.move rfl) ?_
  refine Lt.ofWL.and 6 10 9 (p := ?pz1) (rest := ?qz1) (B := ?Bz1) rfl ?Tz1 ?Fz1 ?az1 ?bz1 ?cz1 ?dz1 ?ez1
  case Tz1 =>
    intro hc2 hkz1
    refine Lt.ofWL.step rfl rfl rfl (OpV.fieldAddr rfl fo_40_1) ?_
    refine Lt.ofWL.step rfl rfl rfl (OpV.loadBox rfl pt_3 (.head _) rfl) ?_
    refine Lt.ofWL.step rfl rfl rfl (OpV.call (evs.cons rfl (evs.cons rfl (evs.cons rfl (evs.nil)))) ca_58 (fun w hs => s_in _ _ _ w)) ?_
    refine hkz1 _ ?_ ?_
    exact rfl
    repeat (first | exact Sub.refl _ | refine Sub.skip rfl ?_)
  case Fz1 =>
    intro hc3 hkz1
    refine Lt.ofWL.skip rfl rfl rfl ?_
    refine Lt.ofWL.skip rfl rfl rfl ?_
    refine Lt.ofWL.skip rfl rfl rfl ?_
    refine hkz1 _ ?_
    repeat (first | exact Sub.refl _ | refine Sub.skip rfl ?_)
  case az1 => exact rfl
  case bz1 => exact rfl
  case cz1 => exact rfl
  case dz1 => exact rfl
  refine Lt.ofWL.step rfl rfl rfl (OpV.move rfl) ?_
  refine Lt.ofWL.and 11 15 14 (p := ?pz4) (rest := ?qz4) (B := ?Bz4) rfl ?Tz4 ?Fz4 ?az4 ?bz4 ?cz4 ?dz4 ?ez4
  case Tz4 =>
    intro hc5 hkz4
    refine Lt.ofWL.step rfl rfl rfl (OpV.fieldAddr rfl fo_40_5) ?_
    refine Lt.ofWL.step rfl rfl rfl (OpV.loadBox rfl pt_3 (.head _) rfl) ?_
    refine Lt.ofWL.step rfl rfl rfl (OpV.call (evs.cons rfl (evs.cons rfl (evs.cons rfl (evs.nil)))) ca_58 (fun w hs => s_in _ _ _ w)) ?_
    refine hkz4 _ ?_ ?_
    exact rfl
    repeat (first | exact Sub.refl _ | refine Sub.skip rfl ?_)
  case Fz4 =>
    intro hc6 hkz4
    refine Lt.ofWL.skip rfl rfl rfl ?_
    refine Lt.ofWL.skip rfl rfl rfl ?_
    refine Lt.ofWL.skip rfl rfl rfl ?_
    refine hkz4 _ ?_
    repeat (first | exact Sub.refl _ | refine Sub.skip rfl ?_)
  case az4 => exact rfl
  case bz4 => exact rfl
  case cz4 => exact rfl
  case dz4 => exact rfl
  refine Lt.ofWL.step rfl rfl rfl (OpV.move rfl) ?_
  refine Lt.ofWL.and 16 20 19 (p := ?pz7) (rest := ?qz7) (B := ?Bz7) rfl ?Tz7 ?Fz7 ?az7 ?bz7 ?cz7 ?dz7 ?ez7
  case Tz7 =>
    intro hc8 hkz7
    refine Lt.ofWL.step rfl rfl rfl (OpV.fieldAddr rfl fo_40_3) ?_
    refine Lt.ofWL.step rfl rfl rfl (OpV.loadBox rfl pt_3 (.head _) rfl) ?_
    refine Lt.ofWL.step rfl rfl rfl (OpV.call (evs.cons rfl (evs.cons rfl (evs.cons rfl (evs.nil)))) ca_58 (fun w hs => s_in _ _ _ w)) ?_
    refine hkz7 _ ?_ ?_
    exact rfl
    repeat (first | exact Sub.refl _ | refine Sub.skip rfl ?_)
  case Fz7 =>
    intro hc9 hkz7
    refine Lt.ofWL.skip rfl rfl rfl ?_
    refine Lt.ofWL.skip rfl rfl rfl ?_
    refine Lt.ofWL.skip rfl rfl rfl ?_
    refine hkz7 _ ?_
    repeat (first | exact Sub.refl _ | refine Sub.skip rfl ?_)
  case az7 => exact rfl
  case bz7 => exact rfl
  case cz7 => exact rfl
  case dz7 => exact rfl
  refine Lt.ofWL.step rfl rfl rfl (OpV.move rfl) ?_
  refine Lt.ofWL.and 21 25 24 (p := ?pz10) (rest := ?qz10) (B := ?Bz10) rfl ?Tz10 ?Fz10 ?az10 ?bz10 ?cz10 ?dz10 ?ez10
  case Tz10 =>
    intro hc11 hkz10
    refine Lt.ofWL.step rfl rfl rfl (OpV.fieldAddr rfl fo_40_7) ?_
    refine Lt.ofWL.step rfl rfl rfl (OpV.loadBox rfl pt_3 (.head _) rfl) ?_
    refine Lt.ofWL.step rfl rfl rfl (OpV.call (evs.cons rfl (evs.cons rfl (evs.cons rfl (evs.nil)))) ca_58 (fun w hs => s_in _ _ _ w)) ?_
    refine hkz10 _ ?_ ?_
    exact rfl
    repeat (first | exact Sub.refl _ | refine Sub.skip rfl ?_)
  case Fz10 =>
    intro hc12 hkz10
    refine Lt.ofWL.skip rfl rfl rfl ?_
    refine Lt.ofWL.skip rfl rfl rfl ?_
    refine Lt.ofWL.skip rfl rfl rfl ?_
    refine hkz10 _ ?_
    repeat (first | exact Sub.refl _ | refine Sub.skip rfl ?_)
  case az10 => exact rfl
  case bz10 => exact rfl
  case cz10 => exact rfl
  case dz10 => exact rfl
  refine Lt.ofWL.step rfl rfl rfl (OpV.move rfl) ?_
  refine Lt.ofWL.and 26 30 29 (p := ?pz13) (rest := ?qz13) (B := ?Bz13) rfl ?Tz13 ?Fz13 ?az13 ?bz13 ?cz13 ?dz13 ?ez13
  case Tz13 =>
    intro hc14 hkz13
    refine Lt.ofWL.step rfl rfl rfl (OpV.fieldAddr rfl fo_40_2) ?_
    refine Lt.ofWL.step rfl rfl rfl (OpV.loadBox rfl pt_3 (.head _) rfl) ?_
    refine Lt.ofWL.step rfl rfl rfl (OpV.call (evs.cons rfl (evs.cons rfl (evs.cons rfl (evs.nil)))) ca_58 (fun w hs => s_in _ _ _ w)) ?_
    refine hkz13 _ ?_ ?_
    exact rfl
    repeat (first | exact Sub.refl _ | refine Sub.skip rfl ?_)
  case Fz13 =>
    intro hc15 hkz13
    refine Lt.ofWL.skip rfl rfl rfl ?_
    refine Lt.ofWL.skip rfl rfl rfl ?_
    refine Lt.ofWL.skip rfl rfl rfl ?_
    refine hkz13 _ ?_
    repeat (first | exact Sub.refl _ | refine Sub.skip rfl ?_)
  case az13 => exact rfl
  case bz13 => exact rfl
  case cz13 => exact rfl
  case dz13 => exact rfl
  refine Lt.ofWL.step rfl rfl rfl (OpV.move rfl) ?_
  refine Lt.ofWL.and 31 35 34 (p := ?pz16) (rest := ?qz16) (B := ?Bz16) rfl ?Tz16 ?Fz16 ?az16 ?bz16 ?cz16 ?dz16 ?ez16
  case Tz16 =>
    intro hc17 hkz16
    refine Lt.ofWL.step rfl rfl rfl (OpV.fieldAddr rfl fo_40_4) ?_
    refine Lt.ofWL.step rfl rfl rfl (OpV.loadBox rfl pt_3 (.head _) rfl) ?_
    refine Lt.ofWL.step rfl rfl rfl (OpV.call (evs.cons rfl (evs.cons rfl (evs.cons rfl (evs.nil)))) ca_58 (fun w hs => s_in _ _ _ w)) ?_
    refine hkz16 _ ?_ ?_
    exact rfl
    repeat (first | exact Sub.refl _ | refine Sub.skip rfl ?_)
  case Fz16 =>
    intro hc18 hkz16
    refine Lt.ofWL.skip rfl rfl rfl ?_
    refine Lt.ofWL.skip rfl rfl rfl ?_
    refine Lt.ofWL.skip rfl rfl rfl ?_
    refine hkz16 _ ?_
    repeat (first | exact Sub.refl _ | refine Sub.skip rfl ?_)
  case az16 => exact rfl
  case bz16 => exact rfl
  case cz16 => exact rfl
  case dz16 => exact rfl
  refine Lt.ofWL.step rfl rfl rfl (OpV.move rfl) ?_
  refine Lt.ofWL.and 36 40 39 (p := ?pz19) (rest := ?qz19) (B := ?Bz19) rfl ?Tz19 ?Fz19 ?az19 ?bz19 ?cz19 ?dz19 ?ez19
  case Tz19 =>
    intro hc20 hkz19
    refine Lt.ofWL.step rfl rfl rfl (OpV.fieldAddr rfl fo_40_6) ?_
    refine Lt.ofWL.step rfl rfl rfl (OpV.loadBox rfl pt_3 (.head _) rfl) ?_
    refine Lt.ofWL.step rfl rfl rfl (OpV.call (evs.cons rfl (evs.cons rfl (evs.cons rfl (evs.nil)))) ca_58 (fun w hs => s_in _ _ _ w)) ?_
    refine hkz19 _ ?_ ?_
    exact rfl
    repeat (first | exact Sub.refl _ | refine Sub.skip rfl ?_)
  case Fz19 =>
    intro hc21 hkz19
    refine Lt.ofWL.skip rfl rfl rfl ?_
    refine Lt.ofWL.skip rfl rfl rfl ?_
    refine Lt.ofWL.skip rfl rfl rfl ?_
    refine hkz19 _ ?_
    repeat (first | exact Sub.refl _ | refine Sub.skip rfl ?_)
  case az19 => exact rfl
  case bz19 => exact rfl
  case cz19 => exact rfl
  case dz19 => exact rfl
  refine Lt.ofWL.step rfl rfl rfl (OpV.move rfl) ?_
  refine Lt.ofWL.and 41 45 44 (p := ?pz22) (rest := ?qz22) (B := ?Bz22) rfl ?Tz22 ?Fz22 ?az22 ?bz22 ?cz22 ?dz22 ?ez22
  case Tz22 =>
    intro hc23 hkz22
    refine Lt.ofWL.step rfl rfl rfl (OpV.fieldAddr rfl fo_40_8) ?_
    refine Lt.ofWL.step rfl rfl rfl (OpV.loadBox rfl pt_3 (.head _) rfl) ?_
    refine Lt.ofWL.step rfl rfl rfl (OpV.call (evs.cons rfl (evs.cons rfl (evs.cons rfl (evs.nil)))) ca_58 (fun w hs => s_in _ _ _ w)) ?_
    refine hkz22 _ ?_ ?_
    exact rfl
    repeat (first | exact Sub.refl _ | refine Sub.skip rfl ?_)
  case Fz22 =>
    intro hc24 hkz22
    refine Lt.ofWL.skip rfl rfl rfl ?_
    refine Lt.ofWL.skip rfl rfl rfl ?_
    refine Lt.ofWL.skip rfl rfl rfl ?_
    refine hkz22 _ ?_
    repeat (first | exact Sub.refl _ | refine Sub.skip rfl ?_)
  case az22 => exact rfl
  case bz22 => exact rfl
  case cz22 => exact rfl
  case dz22 => exact rfl
  refine Lt.ofWL.step rfl rfl rfl (OpV.assign rfl) ?_
  refine WL.nil ?_
  refine En.next ?_
  refine WC.ret ?_
  refine En.ret1 rfl (Res.tmp rfl) ?_
  intro w' hs
  exact ⟨rfl, hs.below⟩

theorem i_ModeOk (m0 m1 m2 m3 m4 m5 m6 m7 m8 : Int) (w : World) :
    Calls Try.prog 78 #[.agg #[.int .i64 m0, .int .i64 m1, .int .i64 m2, .int .i64 m3, .int .i64 m4, .int .i64 m5, .int .i64 m6, .int .i64 m7, .int .i64 m8]] w fun en w' => en = .returned (.bool (modeOk m0 m1 m2 m3 m4 m5 m6 m7 m8)) ∧ Ext w w' := by
  refine enter (vs := [_]) Try.func78 rfl rfl rfl rfl ?_
  refine WC.seq ?_
  refine WC.region ?_
  refine WL.heavy rfl rfl rfl (OpH.box rfl rfl ?_)
  intro b0
  refine Lt.ofWL.step rfl rfl rfl (OpV.assign rfl) ?_
  refine WL.nil ?_
  refine En.next ?_
  refine WC.seq ?_
  refine WC.region ?_
  refine Lt.ofWL.step rfl rfl rfl (OpV.fieldAddr rfl fo_40_0) ?_
  refine Lt.ofWL.step rfl rfl rfl (OpV.loadBox rfl pt_3 (.head _) rfl) ?_
  refine Lt.ofWL.step rfl rfl rfl (OpV.call (evs.cons rfl (evs.cons rfl (evs.cons rfl (evs.nil)))) ca_56 (fun w hs => i_within _ _ _ w)) ?_
  refine Lt.ofWL.step rfl rfl rfl (OpV.move rfl) ?_
  refine Lt.ofWL.and 6 10 9 (p := ?pz1) (rest := ?qz1) (B := ?Bz1) rfl ?Tz1 ?Fz1 ?az1 ?bz1 ?cz1 ?dz1 ?ez1
  case Tz1 =>
    intro hc2 hkz1
    refine Lt.ofWL.step rfl rfl rfl (OpV.fieldAddr rfl fo_40_1) ?_
    refine Lt.ofWL.step rfl rfl rfl (OpV.loadBox rfl pt_3 (.head _) rfl) ?_
    refine Lt.ofWL.step rfl rfl rfl (OpV.call (evs.cons rfl (evs.nil)) ca_87 (fun w hs => i_isSide _ w)) ?_
    refine hkz1 _ ?_ ?_
    exact rfl
    repeat (first | exact Sub.refl _ | refine Sub.skip rfl ?_)
  case Fz1 =>
    intro hc3 hkz1
    refine Lt.ofWL.skip rfl rfl rfl ?_
    refine Lt.ofWL.skip rfl rfl rfl ?_
    refine Lt.ofWL.skip rfl rfl rfl ?_
    refine hkz1 _ ?_
    repeat (first | exact Sub.refl _ | refine Sub.skip rfl ?_)
  case az1 => exact rfl
  case bz1 => exact rfl
  case cz1 => exact rfl
  case dz1 => exact rfl
  refine Lt.ofWL.step rfl rfl rfl (OpV.move rfl) ?_
  refine Lt.ofWL.and 11 15 14 (p := ?pz4) (rest := ?qz4) (B := ?Bz4) rfl ?Tz4 ?Fz4 ?az4 ?bz4 ?cz4 ?dz4 ?ez4
  case Tz4 =>
    intro hc5 hkz4
    refine Lt.ofWL.step rfl rfl rfl (OpV.fieldAddr rfl fo_40_5) ?_
    refine Lt.ofWL.step rfl rfl rfl (OpV.loadBox rfl pt_3 (.head _) rfl) ?_
    refine Lt.ofWL.step rfl rfl rfl (OpV.call (evs.cons rfl (evs.nil)) ca_87 (fun w hs => i_isSide _ w)) ?_
    refine hkz4 _ ?_ ?_
    exact rfl
    repeat (first | exact Sub.refl _ | refine Sub.skip rfl ?_)
  case Fz4 =>
    intro hc6 hkz4
    refine Lt.ofWL.skip rfl rfl rfl ?_
    refine Lt.ofWL.skip rfl rfl rfl ?_
    refine Lt.ofWL.skip rfl rfl rfl ?_
    refine hkz4 _ ?_
    repeat (first | exact Sub.refl _ | refine Sub.skip rfl ?_)
  case az4 => exact rfl
  case bz4 => exact rfl
  case cz4 => exact rfl
  case dz4 => exact rfl
  refine Lt.ofWL.step rfl rfl rfl (OpV.move rfl) ?_
  refine Lt.ofWL.and 16 20 19 (p := ?pz7) (rest := ?qz7) (B := ?Bz7) rfl ?Tz7 ?Fz7 ?az7 ?bz7 ?cz7 ?dz7 ?ez7
  case Tz7 =>
    intro hc8 hkz7
    refine Lt.ofWL.step rfl rfl rfl (OpV.fieldAddr rfl fo_40_3) ?_
    refine Lt.ofWL.step rfl rfl rfl (OpV.loadBox rfl pt_3 (.head _) rfl) ?_
    refine Lt.ofWL.step rfl rfl rfl (OpV.call (evs.cons rfl (evs.cons rfl (evs.cons rfl (evs.nil)))) ca_56 (fun w hs => i_within _ _ _ w)) ?_
    refine hkz7 _ ?_ ?_
    exact rfl
    repeat (first | exact Sub.refl _ | refine Sub.skip rfl ?_)
  case Fz7 =>
    intro hc9 hkz7
    refine Lt.ofWL.skip rfl rfl rfl ?_
    refine Lt.ofWL.skip rfl rfl rfl ?_
    refine Lt.ofWL.skip rfl rfl rfl ?_
    refine hkz7 _ ?_
    repeat (first | exact Sub.refl _ | refine Sub.skip rfl ?_)
  case az7 => exact rfl
  case bz7 => exact rfl
  case cz7 => exact rfl
  case dz7 => exact rfl
  refine Lt.ofWL.step rfl rfl rfl (OpV.move rfl) ?_
  refine Lt.ofWL.and 21 25 24 (p := ?pz10) (rest := ?qz10) (B := ?Bz10) rfl ?Tz10 ?Fz10 ?az10 ?bz10 ?cz10 ?dz10 ?ez10
  case Tz10 =>
    intro hc11 hkz10
    refine Lt.ofWL.step rfl rfl rfl (OpV.fieldAddr rfl fo_40_7) ?_
    refine Lt.ofWL.step rfl rfl rfl (OpV.loadBox rfl pt_3 (.head _) rfl) ?_
    refine Lt.ofWL.step rfl rfl rfl (OpV.call (evs.cons rfl (evs.cons rfl (evs.cons rfl (evs.nil)))) ca_56 (fun w hs => i_within _ _ _ w)) ?_
    refine hkz10 _ ?_ ?_
    exact rfl
    repeat (first | exact Sub.refl _ | refine Sub.skip rfl ?_)
  case Fz10 =>
    intro hc12 hkz10
    refine Lt.ofWL.skip rfl rfl rfl ?_
    refine Lt.ofWL.skip rfl rfl rfl ?_
    refine Lt.ofWL.skip rfl rfl rfl ?_
    refine hkz10 _ ?_
    repeat (first | exact Sub.refl _ | refine Sub.skip rfl ?_)
  case az10 => exact rfl
  case bz10 => exact rfl
  case cz10 => exact rfl
  case dz10 => exact rfl
  refine Lt.ofWL.step rfl rfl rfl (OpV.move rfl) ?_
  refine Lt.ofWL.and 26 30 29 (p := ?pz13) (rest := ?qz13) (B := ?Bz13) rfl ?Tz13 ?Fz13 ?az13 ?bz13 ?cz13 ?dz13 ?ez13
  case Tz13 =>
    intro hc14 hkz13
    refine Lt.ofWL.step rfl rfl rfl (OpV.fieldAddr rfl fo_40_2) ?_
    refine Lt.ofWL.step rfl rfl rfl (OpV.loadBox rfl pt_3 (.head _) rfl) ?_
    refine Lt.ofWL.step rfl rfl rfl (OpV.call (evs.cons rfl (evs.cons rfl (evs.cons rfl (evs.nil)))) ca_56 (fun w hs => i_within _ _ _ w)) ?_
    refine hkz13 _ ?_ ?_
    exact rfl
    repeat (first | exact Sub.refl _ | refine Sub.skip rfl ?_)
  case Fz13 =>
    intro hc15 hkz13
    refine Lt.ofWL.skip rfl rfl rfl ?_
    refine Lt.ofWL.skip rfl rfl rfl ?_
    refine Lt.ofWL.skip rfl rfl rfl ?_
    refine hkz13 _ ?_
    repeat (first | exact Sub.refl _ | refine Sub.skip rfl ?_)
  case az13 => exact rfl
  case bz13 => exact rfl
  case cz13 => exact rfl
  case dz13 => exact rfl
  refine Lt.ofWL.step rfl rfl rfl (OpV.move rfl) ?_
  refine Lt.ofWL.and 31 35 34 (p := ?pz16) (rest := ?qz16) (B := ?Bz16) rfl ?Tz16 ?Fz16 ?az16 ?bz16 ?cz16 ?dz16 ?ez16
  case Tz16 =>
    intro hc17 hkz16
    refine Lt.ofWL.step rfl rfl rfl (OpV.fieldAddr rfl fo_40_4) ?_
    refine Lt.ofWL.step rfl rfl rfl (OpV.loadBox rfl pt_3 (.head _) rfl) ?_
    refine Lt.ofWL.step rfl rfl rfl (OpV.call (evs.cons rfl (evs.cons rfl (evs.cons rfl (evs.nil)))) ca_56 (fun w hs => i_within _ _ _ w)) ?_
    refine hkz16 _ ?_ ?_
    exact rfl
    repeat (first | exact Sub.refl _ | refine Sub.skip rfl ?_)
  case Fz16 =>
    intro hc18 hkz16
    refine Lt.ofWL.skip rfl rfl rfl ?_
    refine Lt.ofWL.skip rfl rfl rfl ?_
    refine Lt.ofWL.skip rfl rfl rfl ?_
    refine hkz16 _ ?_
    repeat (first | exact Sub.refl _ | refine Sub.skip rfl ?_)
  case az16 => exact rfl
  case bz16 => exact rfl
  case cz16 => exact rfl
  case dz16 => exact rfl
  refine Lt.ofWL.step rfl rfl rfl (OpV.move rfl) ?_
  refine Lt.ofWL.and 36 40 39 (p := ?pz19) (rest := ?qz19) (B := ?Bz19) rfl ?Tz19 ?Fz19 ?az19 ?bz19 ?cz19 ?dz19 ?ez19
  case Tz19 =>
    intro hc20 hkz19
    refine Lt.ofWL.step rfl rfl rfl (OpV.fieldAddr rfl fo_40_6) ?_
    refine Lt.ofWL.step rfl rfl rfl (OpV.loadBox rfl pt_3 (.head _) rfl) ?_
    refine Lt.ofWL.step rfl rfl rfl (OpV.call (evs.cons rfl (evs.cons rfl (evs.cons rfl (evs.nil)))) ca_56 (fun w hs => i_within _ _ _ w)) ?_
    refine hkz19 _ ?_ ?_
    exact rfl
    repeat (first | exact Sub.refl _ | refine Sub.skip rfl ?_)
  case Fz19 =>
    intro hc21 hkz19
    refine Lt.ofWL.skip rfl rfl rfl ?_
    refine Lt.ofWL.skip rfl rfl rfl ?_
    refine Lt.ofWL.skip rfl rfl rfl ?_
    refine hkz19 _ ?_
    repeat (first | exact Sub.refl _ | refine Sub.skip rfl ?_)
  case az19 => exact rfl
  case bz19 => exact rfl
  case cz19 => exact rfl
  case dz19 => exact rfl
  refine Lt.ofWL.step rfl rfl rfl (OpV.move rfl) ?_
  refine Lt.ofWL.and 41 45 44 (p := ?pz22) (rest := ?qz22) (B := ?Bz22) rfl ?Tz22 ?Fz22 ?az22 ?bz22 ?cz22 ?dz22 ?ez22
  case Tz22 =>
    intro hc23 hkz22
    refine Lt.ofWL.step rfl rfl rfl (OpV.fieldAddr rfl fo_40_8) ?_
    refine Lt.ofWL.step rfl rfl rfl (OpV.loadBox rfl pt_3 (.head _) rfl) ?_
    refine Lt.ofWL.step rfl rfl rfl (OpV.call (evs.cons rfl (evs.cons rfl (evs.cons rfl (evs.nil)))) ca_56 (fun w hs => i_within _ _ _ w)) ?_
    refine hkz22 _ ?_ ?_
    exact rfl
    repeat (first | exact Sub.refl _ | refine Sub.skip rfl ?_)
  case Fz22 =>
    intro hc24 hkz22
    refine Lt.ofWL.skip rfl rfl rfl ?_
    refine Lt.ofWL.skip rfl rfl rfl ?_
    refine Lt.ofWL.skip rfl rfl rfl ?_
    refine hkz22 _ ?_
    repeat (first | exact Sub.refl _ | refine Sub.skip rfl ?_)
  case az22 => exact rfl
  case bz22 => exact rfl
  case cz22 => exact rfl
  case dz22 => exact rfl
  refine Lt.ofWL.step rfl rfl rfl (OpV.assign rfl) ?_
  refine WL.nil ?_
  refine En.next ?_
  refine WC.ret ?_
  refine En.ret1 rfl (Res.tmp rfl) ?_
  intro w' hs
  exact ⟨rfl, hs.below⟩

theorem s_LineTotal (m0 m1 m2 m3 m4 m5 m6 m7 m8 : Int) (w : World) :
    Calls Try.prog 62 #[.agg #[.int .i64 m0, .int .i64 m1, .int .i64 m2, .int .i64 m3, .int .i64 m4, .int .i64 m5, .int .i64 m6, .int .i64 m7, .int .i64 m8]] w fun en w' => en = .returned (.int .i64 (lineTotal m0 m1 m2 m3 m4 m5 m6 m7 m8)) ∧ Ext w w' := by
  refine enter (vs := [_]) Try.func62 rfl rfl rfl rfl ?_
  refine WC.seq ?_
  refine WC.region ?_
  refine WL.heavy rfl rfl rfl (OpH.box rfl rfl ?_)
  intro b0
  refine Lt.ofWL.step rfl rfl rfl (OpV.assign rfl) ?_
  refine WL.nil ?_
  refine En.next ?_
  refine WC.seq ?_
  refine WC.seq ?_
  refine WC.region ?_
  refine Lt.ofWL.step rfl rfl rfl (OpV.loadAll rfl (.head _) ag_40) ?_
  refine Lt.ofWL.step rfl rfl rfl (OpV.call (evs.cons rfl (evs.nil)) ca_60 (fun w hs => s_ModeOk _ _ _ _ _ _ _ _ _ w)) ?_
  refine Lt.ofWL.step rfl rfl rfl (OpV.not rfl) ?_
  refine WL.nil ?_
  refine En.next ?_
  refine WC.cond rfl ?_ ?_
  ·
    intro hc1
    refine WC.seq ?_
    refine WC.region ?_
    refine Lt.ofWL.step rfl rfl rfl (OpV.assign rfl) ?_
    refine WL.nil ?_
    refine En.next ?_
    refine WC.ret ?_
    refine En.then_ret ?_
    refine En.ret1 rfl (Res.tmp rfl) ?_
    intro w' hs
    refine ⟨congrArg _ (congrArg _ ?_), hs.below⟩
    simp at hc1
    simp [lineTotal, hc1]
  ·
    intro hc1
    have hok : modeOk m0 m1 m2 m3 m4 m5 m6 m7 m8 = true := by simpa using hc1
    have hb := modeOk_bounds hok
    refine WC.skip ?_
    refine En.next ?_
    refine WC.seq ?_
    refine WC.region ?_
    refine Lt.ofWL.step rfl rfl rfl (OpV.fieldAddr rfl fo_40_1) ?_
    refine Lt.ofWL.step rfl rfl rfl (OpV.loadBox rfl pt_3 (.head _) rfl) ?_
    refine Lt.ofWL.step rfl rfl rfl (OpV.fieldAddr rfl fo_40_2) ?_
    refine Lt.ofWL.step rfl rfl rfl (OpV.loadBox rfl pt_3 (.head _) rfl) ?_
    refine Lt.ofWL.step rfl rfl rfl (OpV.add rfl rfl ⟨by omega, by omega⟩) ?_
    refine Lt.ofWL.step rfl rfl rfl (OpV.fieldAddr rfl fo_40_3) ?_
    refine Lt.ofWL.step rfl rfl rfl (OpV.loadBox rfl pt_3 (.head _) rfl) ?_
    refine Lt.ofWL.step rfl rfl rfl (OpV.add rfl rfl ⟨by omega, by omega⟩) ?_
    refine Lt.ofWL.step rfl rfl rfl (OpV.fieldAddr rfl fo_40_4) ?_
    refine Lt.ofWL.step rfl rfl rfl (OpV.loadBox rfl pt_3 (.head _) rfl) ?_
    refine Lt.ofWL.step rfl rfl rfl (OpV.add rfl rfl ⟨by omega, by omega⟩) ?_
    refine Lt.ofWL.step rfl rfl rfl (OpV.assign rfl) ?_
    refine WL.nil ?_
    refine En.next ?_
    refine WC.ret ?_
    refine En.ret1 rfl (Res.tmp rfl) ?_
    intro w' hs
    refine ⟨congrArg _ (congrArg _ ?_), hs.below⟩
    simp at hc1
    simp [lineTotal, hc1]

theorem i_LineTotal (m0 m1 m2 m3 m4 m5 m6 m7 m8 : Int) (w : World) :
    Calls Try.prog 64 #[.agg #[.int .i64 m0, .int .i64 m1, .int .i64 m2, .int .i64 m3, .int .i64 m4, .int .i64 m5, .int .i64 m6, .int .i64 m7, .int .i64 m8]] w fun en w' => en = .returned (.int .i64 (lineTotal m0 m1 m2 m3 m4 m5 m6 m7 m8)) ∧ Ext w w' := by
  refine enter (vs := [_]) Try.func64 rfl rfl rfl rfl ?_
  refine WC.seq ?_
  refine WC.region ?_
  refine WL.heavy rfl rfl rfl (OpH.box rfl rfl ?_)
  intro b0
  refine Lt.ofWL.step rfl rfl rfl (OpV.assign rfl) ?_
  refine WL.nil ?_
  refine En.next ?_
  refine WC.seq ?_
  refine WC.seq ?_
  refine WC.region ?_
  refine Lt.ofWL.step rfl rfl rfl (OpV.loadAll rfl (.head _) ag_40) ?_
  refine Lt.ofWL.step rfl rfl rfl (OpV.call (evs.cons rfl (evs.nil)) ca_78 (fun w hs => i_ModeOk _ _ _ _ _ _ _ _ _ w)) ?_
  refine Lt.ofWL.step rfl rfl rfl (OpV.not rfl) ?_
  refine WL.nil ?_
  refine En.next ?_
  refine WC.cond rfl ?_ ?_
  ·
    intro hc1
    refine WC.seq ?_
    refine WC.region ?_
    refine Lt.ofWL.step rfl rfl rfl (OpV.assign rfl) ?_
    refine WL.nil ?_
    refine En.next ?_
    refine WC.ret ?_
    refine En.then_ret ?_
    refine En.ret1 rfl (Res.tmp rfl) ?_
    intro w' hs
    refine ⟨congrArg _ (congrArg _ ?_), hs.below⟩
    simp at hc1
    simp [lineTotal, hc1]
  ·
    intro hc1
    have hok : modeOk m0 m1 m2 m3 m4 m5 m6 m7 m8 = true := by simpa using hc1
    have hb := modeOk_bounds hok
    refine WC.skip ?_
    refine En.next ?_
    refine WC.seq ?_
    refine WC.region ?_
    refine Lt.ofWL.step rfl rfl rfl (OpV.fieldAddr rfl fo_40_1) ?_
    refine Lt.ofWL.step rfl rfl rfl (OpV.loadBox rfl pt_3 (.head _) rfl) ?_
    refine Lt.ofWL.step rfl rfl rfl (OpV.fieldAddr rfl fo_40_2) ?_
    refine Lt.ofWL.step rfl rfl rfl (OpV.loadBox rfl pt_3 (.head _) rfl) ?_
    refine Lt.ofWL.step rfl rfl rfl (OpV.add rfl rfl ⟨by omega, by omega⟩) ?_
    refine Lt.ofWL.step rfl rfl rfl (OpV.fieldAddr rfl fo_40_3) ?_
    refine Lt.ofWL.step rfl rfl rfl (OpV.loadBox rfl pt_3 (.head _) rfl) ?_
    refine Lt.ofWL.step rfl rfl rfl (OpV.add rfl rfl ⟨by omega, by omega⟩) ?_
    refine Lt.ofWL.step rfl rfl rfl (OpV.fieldAddr rfl fo_40_4) ?_
    refine Lt.ofWL.step rfl rfl rfl (OpV.loadBox rfl pt_3 (.head _) rfl) ?_
    refine Lt.ofWL.step rfl rfl rfl (OpV.add rfl rfl ⟨by omega, by omega⟩) ?_
    refine Lt.ofWL.step rfl rfl rfl (OpV.assign rfl) ?_
    refine WL.nil ?_
    refine En.next ?_
    refine WC.ret ?_
    refine En.ret1 rfl (Res.tmp rfl) ?_
    intro w' hs
    refine ⟨congrArg _ (congrArg _ ?_), hs.below⟩
    simp at hc1
    simp [lineTotal, hc1]

theorem s_BlankLines (m0 m1 m2 m3 m4 m5 m6 m7 m8 : Int) (w : World) :
    Calls Try.prog 79 #[.agg #[.int .i64 m0, .int .i64 m1, .int .i64 m2, .int .i64 m3, .int .i64 m4, .int .i64 m5, .int .i64 m6, .int .i64 m7, .int .i64 m8]] w fun en w' => en = .returned (.int .i64 (blankLines m0 m1 m2 m3 m4 m5 m6 m7 m8)) ∧ Ext w w' := by
  refine enter (vs := [_]) Try.func79 rfl rfl rfl rfl ?_
  refine WC.seq ?_
  refine WC.region ?_
  refine WL.heavy rfl rfl rfl (OpH.box rfl rfl ?_)
  intro b0
  refine Lt.ofWL.step rfl rfl rfl (OpV.assign rfl) ?_
  refine WL.nil ?_
  refine En.next ?_
  refine WC.seq ?_
  refine WC.seq ?_
  refine WC.region ?_
  refine Lt.ofWL.step rfl rfl rfl (OpV.loadAll rfl (.head _) ag_40) ?_
  refine Lt.ofWL.step rfl rfl rfl (OpV.call (evs.cons rfl (evs.nil)) ca_60 (fun w hs => s_ModeOk _ _ _ _ _ _ _ _ _ w)) ?_
  refine Lt.ofWL.step rfl rfl rfl (OpV.not rfl) ?_
  refine WL.nil ?_
  refine En.next ?_
  refine WC.cond rfl ?_ ?_
  ·
    intro hc1
    refine WC.seq ?_
    refine WC.region ?_
    refine Lt.ofWL.step rfl rfl rfl (OpV.assign rfl) ?_
    refine WL.nil ?_
    refine En.next ?_
    refine WC.ret ?_
    refine En.then_ret ?_
    refine En.ret1 rfl (Res.tmp rfl) ?_
    intro w' hs
    refine ⟨congrArg _ (congrArg _ ?_), hs.below⟩
    simp at hc1
    simp [blankLines, hc1]
  ·
    intro hc1
    have hok : modeOk m0 m1 m2 m3 m4 m5 m6 m7 m8 = true := by simpa using hc1
    have hb := modeOk_bounds hok
    refine WC.skip ?_
    refine En.next ?_
    refine WC.seq ?_
    refine WC.region ?_
    refine Lt.ofWL.step rfl rfl rfl (OpV.fieldAddr rfl fo_40_6) ?_
    refine Lt.ofWL.step rfl rfl rfl (OpV.loadBox rfl pt_3 (.head _) rfl) ?_
    refine Lt.ofWL.step rfl rfl rfl (OpV.fieldAddr rfl fo_40_7) ?_
    refine Lt.ofWL.step rfl rfl rfl (OpV.loadBox rfl pt_3 (.head _) rfl) ?_
    refine Lt.ofWL.step rfl rfl rfl (OpV.add rfl rfl ⟨by omega, by omega⟩) ?_
    refine Lt.ofWL.step rfl rfl rfl (OpV.fieldAddr rfl fo_40_8) ?_
    refine Lt.ofWL.step rfl rfl rfl (OpV.loadBox rfl pt_3 (.head _) rfl) ?_
    refine Lt.ofWL.step rfl rfl rfl (OpV.add rfl rfl ⟨by omega, by omega⟩) ?_
    refine Lt.ofWL.step rfl rfl rfl (OpV.assign rfl) ?_
    refine WL.nil ?_
    refine En.next ?_
    refine WC.ret ?_
    refine En.ret1 rfl (Res.tmp rfl) ?_
    intro w' hs
    refine ⟨congrArg _ (congrArg _ ?_), hs.below⟩
    simp at hc1
    simp [blankLines, hc1]

theorem i_BlankLines (m0 m1 m2 m3 m4 m5 m6 m7 m8 : Int) (w : World) :
    Calls Try.prog 85 #[.agg #[.int .i64 m0, .int .i64 m1, .int .i64 m2, .int .i64 m3, .int .i64 m4, .int .i64 m5, .int .i64 m6, .int .i64 m7, .int .i64 m8]] w fun en w' => en = .returned (.int .i64 (blankLines m0 m1 m2 m3 m4 m5 m6 m7 m8)) ∧ Ext w w' := by
  refine enter (vs := [_]) Try.func85 rfl rfl rfl rfl ?_
  refine WC.seq ?_
  refine WC.region ?_
  refine WL.heavy rfl rfl rfl (OpH.box rfl rfl ?_)
  intro b0
  refine Lt.ofWL.step rfl rfl rfl (OpV.assign rfl) ?_
  refine WL.nil ?_
  refine En.next ?_
  refine WC.seq ?_
  refine WC.seq ?_
  refine WC.region ?_
  refine Lt.ofWL.step rfl rfl rfl (OpV.loadAll rfl (.head _) ag_40) ?_
  refine Lt.ofWL.step rfl rfl rfl (OpV.call (evs.cons rfl (evs.nil)) ca_78 (fun w hs => i_ModeOk _ _ _ _ _ _ _ _ _ w)) ?_
  refine Lt.ofWL.step rfl rfl rfl (OpV.not rfl) ?_
  refine WL.nil ?_
  refine En.next ?_
  refine WC.cond rfl ?_ ?_
  ·
    intro hc1
    refine WC.seq ?_
    refine WC.region ?_
    refine Lt.ofWL.step rfl rfl rfl (OpV.assign rfl) ?_
    refine WL.nil ?_
    refine En.next ?_
    refine WC.ret ?_
    refine En.then_ret ?_
    refine En.ret1 rfl (Res.tmp rfl) ?_
    intro w' hs
    refine ⟨congrArg _ (congrArg _ ?_), hs.below⟩
    simp at hc1
    simp [blankLines, hc1]
  ·
    intro hc1
    have hok : modeOk m0 m1 m2 m3 m4 m5 m6 m7 m8 = true := by simpa using hc1
    have hb := modeOk_bounds hok
    refine WC.skip ?_
    refine En.next ?_
    refine WC.seq ?_
    refine WC.region ?_
    refine Lt.ofWL.step rfl rfl rfl (OpV.fieldAddr rfl fo_40_6) ?_
    refine Lt.ofWL.step rfl rfl rfl (OpV.loadBox rfl pt_3 (.head _) rfl) ?_
    refine Lt.ofWL.step rfl rfl rfl (OpV.fieldAddr rfl fo_40_7) ?_
    refine Lt.ofWL.step rfl rfl rfl (OpV.loadBox rfl pt_3 (.head _) rfl) ?_
    refine Lt.ofWL.step rfl rfl rfl (OpV.add rfl rfl ⟨by omega, by omega⟩) ?_
    refine Lt.ofWL.step rfl rfl rfl (OpV.fieldAddr rfl fo_40_8) ?_
    refine Lt.ofWL.step rfl rfl rfl (OpV.loadBox rfl pt_3 (.head _) rfl) ?_
    refine Lt.ofWL.step rfl rfl rfl (OpV.add rfl rfl ⟨by omega, by omega⟩) ?_
    refine Lt.ofWL.step rfl rfl rfl (OpV.assign rfl) ?_
    refine WL.nil ?_
    refine En.next ?_
    refine WC.ret ?_
    refine En.ret1 rfl (Res.tmp rfl) ?_
    intro w' hs
    refine ⟨congrArg _ (congrArg _ ?_), hs.below⟩
    simp at hc1
    simp [blankLines, hc1]

theorem s_FrameTotal (m0 m1 m2 m3 m4 m5 m6 m7 m8 : Int) (w : World) :
    Calls Try.prog 61 #[.agg #[.int .i64 m0, .int .i64 m1, .int .i64 m2, .int .i64 m3, .int .i64 m4, .int .i64 m5, .int .i64 m6, .int .i64 m7, .int .i64 m8]] w fun en w' => en = .returned (.int .i64 (frameTotal m0 m1 m2 m3 m4 m5 m6 m7 m8)) ∧ Ext w w' := by
  refine enter (vs := [_]) Try.func61 rfl rfl rfl rfl ?_
  refine WC.seq ?_
  refine WC.region ?_
  refine WL.heavy rfl rfl rfl (OpH.box rfl rfl ?_)
  intro b0
  refine Lt.ofWL.step rfl rfl rfl (OpV.assign rfl) ?_
  refine WL.nil ?_
  refine En.next ?_
  refine WC.seq ?_
  refine WC.seq ?_
  refine WC.region ?_
  refine Lt.ofWL.step rfl rfl rfl (OpV.loadAll rfl (.head _) ag_40) ?_
  refine Lt.ofWL.step rfl rfl rfl (OpV.call (evs.cons rfl (evs.nil)) ca_60 (fun w hs => s_ModeOk _ _ _ _ _ _ _ _ _ w)) ?_
  refine Lt.ofWL.step rfl rfl rfl (OpV.not rfl) ?_
  refine WL.nil ?_
  refine En.next ?_
  refine WC.cond rfl ?_ ?_
  ·
    intro hc1
    refine WC.seq ?_
    refine WC.region ?_
    refine Lt.ofWL.step rfl rfl rfl (OpV.assign rfl) ?_
    refine WL.nil ?_
    refine En.next ?_
    refine WC.ret ?_
    refine En.then_ret ?_
    refine En.ret1 rfl (Res.tmp rfl) ?_
    intro w' hs
    refine ⟨congrArg _ (congrArg _ ?_), hs.below⟩
    simp at hc1
    simp [frameTotal, hc1]
  ·
    intro hc1
    refine WC.skip ?_
    refine En.next ?_
    refine WC.seq ?_
    refine WC.drawn [(0, ?r3v0), (1, ?r3v1), (2, ?r3v2), (3, ?r3v3), (4, ?r3v4), (5, ?r3v5)] (by kernel_rfl) (by kernel_rfl) ?dH3 ?dK3
    case dH3 =>
      intro W hW hk
      refine hW.step rfl rfl rfl (OpV.loadAll rfl (.head _) ag_40) ?_
      refine hW.step rfl rfl rfl (OpV.call (evs.cons rfl (evs.nil)) ca_62 (fun w hs => s_LineTotal _ _ _ _ _ _ _ _ _ w)) ?_
      refine hW.step rfl rfl rfl (OpV.fieldAddr rfl fo_40_5) ?_
      refine hW.step rfl rfl rfl (OpV.loadBox rfl pt_3 (.head _) rfl) ?_
      refine hW.step rfl rfl rfl (OpV.loadAll rfl (.head _) ag_40) ?_
      refine hW.step rfl rfl rfl (OpV.call (evs.cons rfl (evs.nil)) ca_79 (fun w hs => s_BlankLines _ _ _ _ _ _ _ _ _ w)) ?_
      refine hW.step rfl rfl rfl (OpV.addW rfl rfl) ?_
      refine hW.step rfl rfl rfl (OpV.mulW rfl rfl) ?_
      refine hW.step rfl rfl rfl (OpV.assign rfl) ?_
      refine hk _ ?_
      refine Sub.cons ?_ (Sub.cons ?_ (Sub.cons ?_ (Sub.cons ?_ (Sub.cons ?_ (Sub.cons ?_ (Sub.nil _))))))
      all_goals exact rfl
    refine En.next ?_
    refine WC.ret ?_
    refine En.ret1 rfl (Res.tmp rfl) ?_
    intro w' hs
    rw [← frame_wrap m0 m1 m2 m3 m4 m5 m6 m7 m8]
    exact ⟨rfl, hs.below⟩

theorem i_FrameTotal (m0 m1 m2 m3 m4 m5 m6 m7 m8 : Int) (w : World) :
    Calls Try.prog 63 #[.agg #[.int .i64 m0, .int .i64 m1, .int .i64 m2, .int .i64 m3, .int .i64 m4, .int .i64 m5, .int .i64 m6, .int .i64 m7, .int .i64 m8]] w fun en w' => en = .returned (.int .i64 (frameTotal m0 m1 m2 m3 m4 m5 m6 m7 m8)) ∧ Ext w w' := by
  refine enter (vs := [_]) Try.func63 rfl rfl rfl rfl ?_
  refine WC.seq ?_
  refine WC.region ?_
  refine WL.heavy rfl rfl rfl (OpH.box rfl rfl ?_)
  intro b0
  refine Lt.ofWL.step rfl rfl rfl (OpV.assign rfl) ?_
  refine WL.nil ?_
  refine En.next ?_
  refine WC.seq ?_
  refine WC.drawn [(0, ?r1v0), (2, ?r1v2)] (by kernel_rfl) (by kernel_rfl) ?dH1 ?dK1
  case dH1 =>
    intro W hW hk
    refine hW.step rfl rfl rfl (OpV.loadAll rfl (.head _) ag_40) ?_
    refine hW.step rfl rfl rfl (OpV.call (evs.cons rfl (evs.nil)) ca_64 (fun w hs => i_LineTotal _ _ _ _ _ _ _ _ _ w)) ?_
    refine hW.step rfl rfl rfl (OpV.fieldAddr rfl fo_40_5) ?_
    refine hW.step rfl rfl rfl (OpV.loadBox rfl pt_3 (.head _) rfl) ?_
    refine hW.step rfl rfl rfl (OpV.loadAll rfl (.head _) ag_40) ?_
    refine hW.step rfl rfl rfl (OpV.call (evs.cons rfl (evs.nil)) ca_85 (fun w hs => i_BlankLines _ _ _ _ _ _ _ _ _ w)) ?_
    refine hW.step rfl rfl rfl (OpV.addW rfl rfl) ?_
    refine hW.step rfl rfl rfl (OpV.mulW rfl rfl) ?_
    refine hW.step rfl rfl rfl (OpV.assign rfl) ?_
    refine hk _ ?_
    refine Sub.cons ?_ (Sub.cons ?_ (Sub.nil _))
    all_goals exact rfl
  refine En.next ?_
  refine WC.ret ?_
  refine En.ret1 rfl (Res.tmp rfl) ?_
  intro w' hs
  rw [← frame_wrap m0 m1 m2 m3 m4 m5 m6 m7 m8]
  exact ⟨rfl, hs.below⟩

theorem s_BeamAt (m0 m1 m2 m3 m4 m5 m6 m7 m8 n : Int) (w : World) :
    Calls Try.prog 24 #[.agg #[.int .i64 m0, .int .i64 m1, .int .i64 m2, .int .i64 m3, .int .i64 m4, .int .i64 m5, .int .i64 m6, .int .i64 m7, .int .i64 m8], .int .i64 n] w fun en w' => en = .returned (.tuple #[.agg #[.int .i64 ((beam m0 m1 m2 m3 m4 m5 m6 m7 m8 n).1), .int .i64 ((beam m0 m1 m2 m3 m4 m5 m6 m7 m8 n).2.1), .bool ((beam m0 m1 m2 m3 m4 m5 m6 m7 m8 n).2.2.1), .bool ((beam m0 m1 m2 m3 m4 m5 m6 m7 m8 n).2.2.2.1), .bool ((beam m0 m1 m2 m3 m4 m5 m6 m7 m8 n).2.2.2.2.1)], .bool ((beam m0 m1 m2 m3 m4 m5 m6 m7 m8 n).2.2.2.2.2)]) ∧ Ext w w' := by
  have hft := frame_bounds m0 m1 m2 m3 m4 m5 m6 m7 m8
  refine enter (vs := [_, _]) Try.func24 rfl rfl rfl rfl ?_
  refine WC.seq ?_
  refine WC.region ?_
  refine WL.heavy rfl rfl rfl (OpH.box rfl rfl ?_)
  intro b0
  refine WL.heavy rfl rfl rfl (OpH.alloc zc_37 ?_)
  intro b1
  refine Lt.ofWL.step rfl rfl rfl (OpV.assign rfl) ?_
  refine WL.nil ?_
  refine En.next ?_
  refine WC.seq ?_
  refine WC.seq ?_
  refine WC.region ?_
  refine Lt.ofWL.step rfl rfl rfl (OpV.loadAll rfl (.tail _ (.head _)) ag_40) ?_
  refine Lt.ofWL.step rfl rfl rfl (OpV.call (evs.cons rfl (evs.nil)) ca_60 (fun w hs => s_ModeOk _ _ _ _ _ _ _ _ _ w)) ?_
  refine Lt.ofWL.step rfl rfl rfl (OpV.not rfl) ?_
  refine Lt.ofWL.step rfl rfl rfl (OpV.move rfl) ?_
  refine Lt.ofWL.or 10 17 16 (p := ?pz1) (rest := ?qz1) (B := ?Bz1) rfl ?Tz1 ?Fz1 ?az1 ?bz1 ?cz1 ?dz1 ?ez1
  case Tz1 =>
    intro hc2 hkz1
    refine Lt.ofWL.skip rfl rfl rfl ?_
    refine Lt.ofWL.skip rfl rfl rfl ?_
    refine Lt.ofWL.skip rfl rfl rfl ?_
    refine Lt.ofWL.skip rfl rfl rfl ?_
    refine Lt.ofWL.skip rfl rfl rfl ?_
    refine Lt.ofWL.skip rfl rfl rfl ?_
    refine hkz1 _ ?_
    repeat (first | exact Sub.refl _ | refine Sub.skip rfl ?_)
  case Fz1 =>
    intro hc3 hkz1
    refine Lt.ofWL.step rfl rfl rfl (OpV.move rfl) ?_
    refine Lt.ofWL.step rfl rfl rfl (OpV.loadAll rfl (.tail _ (.head _)) ag_40) ?_
    refine Lt.ofWL.step rfl rfl rfl (OpV.call (evs.cons rfl (evs.nil)) ca_61 (fun w hs => s_FrameTotal _ _ _ _ _ _ _ _ _ w)) ?_
    refine Lt.ofWL.step rfl rfl rfl (OpV.sub rfl rfl ⟨by omega, by omega⟩) ?_
    refine Lt.ofWL.step rfl rfl rfl (OpV.call (evs.cons rfl (evs.cons rfl (evs.cons rfl (evs.nil)))) ca_58 (fun w hs => s_in _ _ _ w)) ?_
    refine Lt.ofWL.step rfl rfl rfl (OpV.not rfl) ?_
    refine hkz1 _ ?_ ?_
    exact rfl
    repeat (first | exact Sub.refl _ | refine Sub.skip rfl ?_)
  case az1 => exact rfl
  case bz1 => exact rfl
  case cz1 => exact rfl
  case dz1 => exact rfl
  refine WL.nil ?_
  refine En.next ?_
  refine WC.cond rfl ?_ ?_
  ·
    intro hc4
    refine WC.seq ?_
    refine WC.region ?_
    refine Lt.ofWL.step rfl rfl rfl (OpV.build (evps.nil) bd_37_) ?_
    refine WL.heavy0 rfl rfl (OpH.store (A := []) rfl rfl rfl ts_37 rfl rfl ?_)
    refine Lt.ofWL.step rfl rfl rfl (OpV.assign rfl) ?_
    refine WL.nil ?_
    refine En.next ?_
    refine WC.ret ?_
    refine En.then_ret ?_
    refine En.ret2 rfl (Res.cell rfl (.head _) ag_37) (Res.tmp rfl) ?_
    intro w' hs
    have e : beam m0 m1 m2 m3 m4 m5 m6 m7 m8 n = (0, 0, false, false, false, false) := by
      unfold beam
      rw [if_neg]
      intro hx
      simp [beamOk] at hx hc4
      try (have hy := beamOk_mode hx; simp_all)
      try simp_all
    rw [e]
    exact ⟨rfl, hs.below⟩
  ·
    intro hc4
    have hin : inR n 0 (frameTotal m0 m1 m2 m3 m4 m5 m6 m7 m8 - 1) = true := by simp at hc4; exact hc4.2
    obtain ⟨hok, hn0, hn1, hn2⟩ := beamOk_mode hin
    have hb := modeOk_bounds hok
    have hd : 0 < m1 + m2 + m3 + m4 := by omega
    have hmod := Int.emod_lt_of_pos n hd
    have hmod0 := Int.emod_nonneg n (b := m1 + m2 + m3 + m4) (by omega)
    have hq0 : 0 ≤ n / (m1 + m2 + m3 + m4) := Int.ediv_nonneg hn0 (by omega)
    have hq1 : n / (m1 + m2 + m3 + m4) ≤ n := Int.ediv_le_self _ hn0
    have hlt := lineTotal_of hok
    refine WC.skip ?_
    refine En.next ?_
    refine WC.seq ?_
    refine WC.drawnH [] ([_, _]) (fun _ h => h) (by kernel_rfl) ?_
    refine WAE.take (i := 0) rfl (by kernel_rfl) (by kernel_rfl) (by kernel_rfl) rfl rfl rfl (OpV.move rfl) ?_
    refine WAE.take (i := 1) rfl (by kernel_rfl) (by kernel_rfl) (by kernel_rfl) rfl rfl rfl (OpV.loadAll rfl (.tail _ (.head _)) ag_40) ?_
    refine WAE.take (i := 2) rfl (by kernel_rfl) (by kernel_rfl) (by kernel_rfl) rfl rfl rfl (OpV.call (evs.cons rfl (evs.nil)) ca_62 (fun w hs => hlt ▸ s_LineTotal _ _ _ _ _ _ _ _ _ w)) ?_
    refine WAE.take (i := 3) rfl (by kernel_rfl) (by kernel_rfl) (by kernel_rfl) rfl rfl rfl (OpV.rem rfl rfl (by omega) (by omega)) ?_
    refine WAE.take (i := 4) rfl (by kernel_rfl) (by kernel_rfl) (by kernel_rfl) rfl rfl rfl (OpV.move rfl) ?_
    refine WAE.take (i := 5) rfl (by kernel_rfl) (by kernel_rfl) (by kernel_rfl) rfl rfl rfl (OpV.loadAll rfl (.tail _ (.head _)) ag_40) ?_
    refine WAE.take (i := 6) rfl (by kernel_rfl) (by kernel_rfl) (by kernel_rfl) rfl rfl rfl (OpV.call (evs.cons rfl (evs.nil)) ca_62 (fun w hs => hlt ▸ s_LineTotal _ _ _ _ _ _ _ _ _ w)) ?_
    refine WAE.take (i := 7) rfl (by kernel_rfl) (by kernel_rfl) (by kernel_rfl) rfl rfl rfl (OpV.quo rfl rfl (by omega) (by omega) (by omega)) ?_
    refine WAE.take (i := 8) rfl (by kernel_rfl) (by kernel_rfl) (by kernel_rfl) rfl rfl rfl (OpV.build (evps.cons rfl (evps.cons rfl (evps.nil))) (bd_37_0_1 _ _)) ?_
    refine WAE.all (rs := [9]) (by kernel_rfl) rfl (AllR.cons rfl rfl rfl rfl ?_ AllR.nil)
    refine OpH.alloc zc_37 ?_
    intro b2
    refine ⟨[_], rfl, ?_⟩
    refine WAE.all (rs := [10]) (by kernel_rfl) rfl (AllR.cons0 rfl rfl rfl ?_ AllR.nil)
    refine OpH.store (A := []) rfl rfl rfl ts_37 rfl rfl ?_
    refine ⟨[_], rfl, ?_⟩
    refine WAE.rebase (H := []) ?_
    refine WAE.done (by kernel_rfl) ?_ _
    refine En.next ?_
    refine WC.seq ?_
    refine WC.region ?_
    refine Lt.ofWL.step rfl rfl rfl (OpV.fieldAddr rfl fo_37_0) ?_
    refine Lt.ofWL.step rfl rfl rfl (OpV.loadBox rfl pt_3 (.head _) rfl) ?_
    refine Lt.ofWL.step rfl rfl rfl (OpV.fieldAddr rfl fo_40_1) ?_
    refine Lt.ofWL.step rfl rfl rfl (OpV.loadBox rfl pt_3 (.tail _ (.tail _ (.head _))) rfl) ?_
    refine Lt.ofWL.step rfl rfl rfl (OpV.lss rfl rfl) ?_
    refine Lt.ofWL.step rfl rfl rfl (OpV.move rfl) ?_
    refine Lt.ofWL.and 33 39 38 (p := ?pz5) (rest := ?qz5) (B := ?Bz5) rfl ?Tz5 ?Fz5 ?az5 ?bz5 ?cz5 ?dz5 ?ez5
    case Tz5 =>
      intro hc6 hkz5
      refine Lt.ofWL.step rfl rfl rfl (OpV.fieldAddr rfl fo_37_1) ?_
      refine Lt.ofWL.step rfl rfl rfl (OpV.loadBox rfl pt_3 (.head _) rfl) ?_
      refine Lt.ofWL.step rfl rfl rfl (OpV.fieldAddr rfl fo_40_5) ?_
      refine Lt.ofWL.step rfl rfl rfl (OpV.loadBox rfl pt_3 (.tail _ (.tail _ (.head _))) rfl) ?_
      refine Lt.ofWL.step rfl rfl rfl (OpV.lss rfl rfl) ?_
      refine hkz5 _ ?_ ?_
      exact rfl
      repeat (first | exact Sub.refl _ | refine Sub.skip rfl ?_)
    case Fz5 =>
      intro hc7 hkz5
      refine Lt.ofWL.skip rfl rfl rfl ?_
      refine Lt.ofWL.skip rfl rfl rfl ?_
      refine Lt.ofWL.skip rfl rfl rfl ?_
      refine Lt.ofWL.skip rfl rfl rfl ?_
      refine Lt.ofWL.skip rfl rfl rfl ?_
      refine hkz5 _ ?_
      repeat (first | exact Sub.refl _ | refine Sub.skip rfl ?_)
    case az5 => exact rfl
    case bz5 => exact rfl
    case cz5 => exact rfl
    case dz5 => exact rfl
    refine Lt.ofWL.step rfl rfl rfl (OpV.fieldAddr rfl fo_37_2) ?_
    refine WL.heavy0 rfl rfl (OpH.store (A := []) rfl rfl rfl ts_4 rfl rfl ?_)
    refine WL.nil ?_
    refine En.next ?_
    refine WC.seq ?_
    refine WC.region ?_
    refine Lt.ofWL.step rfl rfl rfl (OpV.fieldAddr rfl fo_37_0) ?_
    refine Lt.ofWL.step rfl rfl rfl (OpV.loadBox rfl pt_3 (.head _) rfl) ?_
    refine Lt.ofWL.step rfl rfl rfl (OpV.fieldAddr rfl fo_40_1) ?_
    refine Lt.ofWL.step rfl rfl rfl (OpV.loadBox rfl pt_3 (.tail _ (.tail _ (.head _))) rfl) ?_
    refine Lt.ofWL.step rfl rfl rfl (OpV.fieldAddr rfl fo_40_2) ?_
    refine Lt.ofWL.step rfl rfl rfl (OpV.loadBox rfl pt_3 (.tail _ (.tail _ (.head _))) rfl) ?_
    refine Lt.ofWL.step rfl rfl rfl (OpV.add rfl rfl ⟨by omega, by omega⟩) ?_
    refine Lt.ofWL.step rfl rfl rfl (OpV.fieldAddr rfl fo_40_1) ?_
    refine Lt.ofWL.step rfl rfl rfl (OpV.loadBox rfl pt_3 (.tail _ (.tail _ (.head _))) rfl) ?_
    refine Lt.ofWL.step rfl rfl rfl (OpV.fieldAddr rfl fo_40_2) ?_
    refine Lt.ofWL.step rfl rfl rfl (OpV.loadBox rfl pt_3 (.tail _ (.tail _ (.head _))) rfl) ?_
    refine Lt.ofWL.step rfl rfl rfl (OpV.add rfl rfl ⟨by omega, by omega⟩) ?_
    refine Lt.ofWL.step rfl rfl rfl (OpV.fieldAddr rfl fo_40_3) ?_
    refine Lt.ofWL.step rfl rfl rfl (OpV.loadBox rfl pt_3 (.tail _ (.tail _ (.head _))) rfl) ?_
    refine Lt.ofWL.step rfl rfl rfl (OpV.add rfl rfl ⟨by omega, by omega⟩) ?_
    refine Lt.ofWL.step rfl rfl rfl (OpV.sub rfl rfl ⟨by omega, by omega⟩) ?_
    refine Lt.ofWL.step rfl rfl rfl (OpV.call (evs.cons rfl (evs.cons rfl (evs.cons rfl (evs.nil)))) ca_58 (fun w hs => s_in _ _ _ w)) ?_
    refine Lt.ofWL.step rfl rfl rfl (OpV.fieldAddr rfl fo_37_3) ?_
    refine WL.heavy0 rfl rfl (OpH.store (A := []) rfl rfl rfl ts_4 rfl rfl ?_)
    refine WL.nil ?_
    refine En.next ?_
    refine WC.seq ?_
    refine WC.region ?_
    refine Lt.ofWL.step rfl rfl rfl (OpV.fieldAddr rfl fo_37_1) ?_
    refine Lt.ofWL.step rfl rfl rfl (OpV.loadBox rfl pt_3 (.head _) rfl) ?_
    refine Lt.ofWL.step rfl rfl rfl (OpV.fieldAddr rfl fo_40_5) ?_
    refine Lt.ofWL.step rfl rfl rfl (OpV.loadBox rfl pt_3 (.tail _ (.tail _ (.head _))) rfl) ?_
    refine Lt.ofWL.step rfl rfl rfl (OpV.fieldAddr rfl fo_40_6) ?_
    refine Lt.ofWL.step rfl rfl rfl (OpV.loadBox rfl pt_3 (.tail _ (.tail _ (.head _))) rfl) ?_
    refine Lt.ofWL.step rfl rfl rfl (OpV.add rfl rfl ⟨by omega, by omega⟩) ?_
    refine Lt.ofWL.step rfl rfl rfl (OpV.fieldAddr rfl fo_40_5) ?_
    refine Lt.ofWL.step rfl rfl rfl (OpV.loadBox rfl pt_3 (.tail _ (.tail _ (.head _))) rfl) ?_
    refine Lt.ofWL.step rfl rfl rfl (OpV.fieldAddr rfl fo_40_6) ?_
    refine Lt.ofWL.step rfl rfl rfl (OpV.loadBox rfl pt_3 (.tail _ (.tail _ (.head _))) rfl) ?_
    refine Lt.ofWL.step rfl rfl rfl (OpV.add rfl rfl ⟨by omega, by omega⟩) ?_
    refine Lt.ofWL.step rfl rfl rfl (OpV.fieldAddr rfl fo_40_7) ?_
    refine Lt.ofWL.step rfl rfl rfl (OpV.loadBox rfl pt_3 (.tail _ (.tail _ (.head _))) rfl) ?_
    refine Lt.ofWL.step rfl rfl rfl (OpV.add rfl rfl ⟨by omega, by omega⟩) ?_
    refine Lt.ofWL.step rfl rfl rfl (OpV.sub rfl rfl ⟨by omega, by omega⟩) ?_
    refine Lt.ofWL.step rfl rfl rfl (OpV.call (evs.cons rfl (evs.cons rfl (evs.cons rfl (evs.nil)))) ca_58 (fun w hs => s_in _ _ _ w)) ?_
    refine Lt.ofWL.step rfl rfl rfl (OpV.fieldAddr rfl fo_37_4) ?_
    refine WL.heavy0 rfl rfl (OpH.store (A := []) rfl rfl rfl ts_4 rfl rfl ?_)
    refine WL.nil ?_
    refine En.next ?_
    refine WC.seq ?_
    refine WC.region ?_
    refine Lt.ofWL.step rfl rfl rfl (OpV.loadAll rfl (.head _) ag_37) ?_
    refine WL.heavy0 rfl rfl (OpH.store (A := [_]) rfl rfl rfl ts_37 rfl rfl ?_)
    refine Lt.ofWL.step rfl rfl rfl (OpV.assign rfl) ?_
    refine WL.nil ?_
    refine En.next ?_
    refine WC.ret ?_
    refine En.ret2 rfl (Res.cell rfl (.tail _ (.head _)) ag_37) (Res.tmp rfl) ?_
    intro w' hs
    rw [beam_eq hin]
    exact ⟨rfl, hs.below⟩

theorem i_BeamAt (m0 m1 m2 m3 m4 m5 m6 m7 m8 n : Int) (w : World) :
    Calls Try.prog 26 #[.agg #[.int .i64 m0, .int .i64 m1, .int .i64 m2, .int .i64 m3, .int .i64 m4, .int .i64 m5, .int .i64 m6, .int .i64 m7, .int .i64 m8], .int .i64 n] w fun en w' => en = .returned (.tuple #[.agg #[.int .i64 ((beam m0 m1 m2 m3 m4 m5 m6 m7 m8 n).1), .int .i64 ((beam m0 m1 m2 m3 m4 m5 m6 m7 m8 n).2.1), .bool ((beam m0 m1 m2 m3 m4 m5 m6 m7 m8 n).2.2.1), .bool ((beam m0 m1 m2 m3 m4 m5 m6 m7 m8 n).2.2.2.1), .bool ((beam m0 m1 m2 m3 m4 m5 m6 m7 m8 n).2.2.2.2.1)], .bool ((beam m0 m1 m2 m3 m4 m5 m6 m7 m8 n).2.2.2.2.2)]) ∧ Ext w w' := by
  have hft := frame_bounds m0 m1 m2 m3 m4 m5 m6 m7 m8
  refine enter (vs := [_, _]) Try.func26 rfl rfl rfl rfl ?_
  refine WC.seq ?_
  refine WC.region ?_
  refine WL.heavy rfl rfl rfl (OpH.box rfl rfl ?_)
  intro b0
  refine WL.heavy rfl rfl rfl (OpH.alloc zc_37 ?_)
  intro b1
  refine Lt.ofWL.step rfl rfl rfl (OpV.assign rfl) ?_
  refine WL.nil ?_
  refine En.next ?_
  refine WC.seq ?_
  refine WC.seq ?_
  refine WC.region ?_
  refine Lt.ofWL.step rfl rfl rfl (OpV.move rfl) ?_
  refine Lt.ofWL.step rfl rfl rfl (OpV.loadAll rfl (.tail _ (.head _)) ag_40) ?_
  refine Lt.ofWL.step rfl rfl rfl (OpV.call (evs.cons rfl (evs.nil)) ca_63 (fun w hs => i_FrameTotal _ _ _ _ _ _ _ _ _ w)) ?_
  refine Lt.ofWL.step rfl rfl rfl (OpV.sub rfl rfl ⟨by omega, by omega⟩) ?_
  refine Lt.ofWL.step rfl rfl rfl (OpV.call (evs.cons rfl (evs.cons rfl (evs.cons rfl (evs.nil)))) ca_56 (fun w hs => i_within _ _ _ w)) ?_
  refine Lt.ofWL.step rfl rfl rfl (OpV.not rfl) ?_
  refine WL.nil ?_
  refine En.next ?_
  refine WC.cond rfl ?_ ?_
  ·
    intro hc1
    refine WC.seq ?_
    refine WC.region ?_
    refine Lt.ofWL.step rfl rfl rfl (OpV.build (evps.nil) bd_37_) ?_
    refine WL.heavy0 rfl rfl (OpH.store (A := []) rfl rfl rfl ts_37 rfl rfl ?_)
    refine Lt.ofWL.step rfl rfl rfl (OpV.assign rfl) ?_
    refine WL.nil ?_
    refine En.next ?_
    refine WC.ret ?_
    refine En.then_ret ?_
    refine En.ret2 rfl (Res.cell rfl (.head _) ag_37) (Res.tmp rfl) ?_
    intro w' hs
    have e : beam m0 m1 m2 m3 m4 m5 m6 m7 m8 n = (0, 0, false, false, false, false) := by
      unfold beam
      rw [if_neg]
      intro hx
      simp [beamOk] at hx hc1
      try (have hy := beamOk_mode hx; simp_all)
      try simp_all
    rw [e]
    exact ⟨rfl, hs.below⟩
  ·
    intro hc1
    have hin : inR n 0 (frameTotal m0 m1 m2 m3 m4 m5 m6 m7 m8 - 1) = true := by simpa using hc1
    obtain ⟨hok, hn0, hn1, hn2⟩ := beamOk_mode hin
    have hb := modeOk_bounds hok
    have hd : 0 < m1 + m2 + m3 + m4 := by omega
    have hmod := Int.emod_lt_of_pos n hd
    have hmod0 := Int.emod_nonneg n (b := m1 + m2 + m3 + m4) (by omega)
    have hq0 : 0 ≤ n / (m1 + m2 + m3 + m4) := Int.ediv_nonneg hn0 (by omega)
    have hq1 : n / (m1 + m2 + m3 + m4) ≤ n := Int.ediv_le_self _ hn0
    have hlt := lineTotal_of hok
    refine WC.skip ?_
    refine En.next ?_
    refine WC.seq ?_
    refine WC.drawn [(0, ?r3v0), (1, ?r3v1), (2, ?r3v2), (4, ?r3v4), (5, ?r3v5), (6, ?r3v6), (7, ?r3v7), (8, ?r3v8), (9, ?r3v9), (10, ?r3v10), (11, ?r3v11), (12, ?r3v12), (13, ?r3v13)] (by kernel_rfl) (by kernel_rfl) ?dH3 ?dK3
    case dH3 =>
      intro W hW hk
      refine hW.step rfl rfl rfl (OpV.move rfl) ?_
      refine hW.step rfl rfl rfl (OpV.loadAll rfl (.tail _ (.head _)) ag_40) ?_
      refine hW.step rfl rfl rfl (OpV.call (evs.cons rfl (evs.nil)) ca_64 (fun w hs => hlt ▸ i_LineTotal _ _ _ _ _ _ _ _ _ w)) ?_
      refine hW.step rfl rfl rfl (OpV.rem rfl rfl (by omega) (by omega)) ?_
      refine hW.step rfl rfl rfl (OpV.move rfl) ?_
      refine hW.step rfl rfl rfl (OpV.loadAll rfl (.tail _ (.head _)) ag_40) ?_
      refine hW.step rfl rfl rfl (OpV.call (evs.cons rfl (evs.nil)) ca_64 (fun w hs => hlt ▸ i_LineTotal _ _ _ _ _ _ _ _ _ w)) ?_
      refine hW.step rfl rfl rfl (OpV.quo rfl rfl (by omega) (by omega) (by omega)) ?_
      refine hW.step rfl rfl rfl (OpV.assign rfl) ?_
      refine hW.step rfl rfl rfl (OpV.assign rfl) ?_
      refine hk _ ?_
      refine Sub.cons ?_ (Sub.cons ?_ (Sub.cons ?_ (Sub.cons ?_ (Sub.cons ?_ (Sub.cons ?_ (Sub.cons ?_ (Sub.cons ?_ (Sub.cons ?_ (Sub.cons ?_ (Sub.cons ?_ (Sub.cons ?_ (Sub.cons ?_ (Sub.nil _)))))))))))))
      all_goals exact rfl
    refine En.next ?_
    refine WC.seq ?_
    refine WC.drawnH [_] ([_]) (fun _ h => h) (by kernel_rfl) ?_
    refine WAE.take (i := 0) rfl (by kernel_rfl) (by kernel_rfl) (by kernel_rfl) rfl rfl rfl (OpV.move rfl) ?_
    refine WAE.take (i := 1) rfl (by kernel_rfl) (by kernel_rfl) (by kernel_rfl) rfl rfl rfl (OpV.move rfl) ?_
    refine WAE.take (i := 2) rfl (by kernel_rfl) (by kernel_rfl) (by kernel_rfl) rfl rfl rfl (OpV.move rfl) ?_
    refine WAE.take (i := 3) rfl (by kernel_rfl) (by kernel_rfl) (by kernel_rfl) rfl rfl rfl (OpV.fieldAddr rfl fo_40_1) ?_
    refine WAE.take (i := 4) rfl (by kernel_rfl) (by kernel_rfl) (by kernel_rfl) rfl rfl rfl (OpV.loadBox rfl pt_3 (.head _) rfl) ?_
    refine WAE.take (i := 5) rfl (by kernel_rfl) (by kernel_rfl) (by kernel_rfl) rfl rfl rfl (OpV.lss rfl rfl) ?_
    refine WAE.take (i := 6) rfl (by kernel_rfl) (by kernel_rfl) (by kernel_rfl) rfl rfl rfl (OpV.move rfl) ?_
    refine WAE.split (t := 29) rfl ?_ ?_
    ·
      intro hc2
      refine WAE.take (i := 7) rfl (by kernel_rfl) (by kernel_rfl) (by kernel_rfl) rfl rfl rfl (OpV.move rfl) ?_
      refine WAE.take (i := 8) rfl (by kernel_rfl) (by kernel_rfl) (by kernel_rfl) rfl rfl rfl (OpV.fieldAddr rfl fo_40_5) ?_
      refine WAE.take (i := 9) rfl (by kernel_rfl) (by kernel_rfl) (by kernel_rfl) rfl rfl rfl (OpV.loadBox rfl pt_3 (.head _) rfl) ?_
      refine WAE.take (i := 10) rfl (by kernel_rfl) (by kernel_rfl) (by kernel_rfl) rfl rfl rfl (OpV.lss rfl rfl) ?_
      refine WAE.take (i := 11) rfl (by kernel_rfl) (by kernel_rfl) (by kernel_rfl) rfl rfl rfl (OpV.pickT rfl rfl) ?_
      refine WAE.take (i := 12) rfl (by kernel_rfl) (by kernel_rfl) (by kernel_rfl) rfl rfl rfl (OpV.move rfl) ?_
      refine WAE.take (i := 13) rfl (by kernel_rfl) (by kernel_rfl) (by kernel_rfl) rfl rfl rfl (OpV.fieldAddr rfl fo_40_1) ?_
      refine WAE.take (i := 14) rfl (by kernel_rfl) (by kernel_rfl) (by kernel_rfl) rfl rfl rfl (OpV.loadBox rfl pt_3 (.head _) rfl) ?_
      refine WAE.take (i := 15) rfl (by kernel_rfl) (by kernel_rfl) (by kernel_rfl) rfl rfl rfl (OpV.sub rfl rfl ⟨by omega, by omega⟩) ?_
      refine WAE.take (i := 16) rfl (by kernel_rfl) (by kernel_rfl) (by kernel_rfl) rfl rfl rfl (OpV.fieldAddr rfl fo_40_2) ?_
      refine WAE.take (i := 17) rfl (by kernel_rfl) (by kernel_rfl) (by kernel_rfl) rfl rfl rfl (OpV.loadBox rfl pt_3 (.head _) rfl) ?_
      refine WAE.take (i := 18) rfl (by kernel_rfl) (by kernel_rfl) (by kernel_rfl) rfl rfl rfl (OpV.sub rfl rfl ⟨by omega, by omega⟩) ?_
      refine WAE.take (i := 19) rfl (by kernel_rfl) (by kernel_rfl) (by kernel_rfl) rfl rfl rfl (OpV.fieldAddr rfl fo_40_3) ?_
      refine WAE.take (i := 20) rfl (by kernel_rfl) (by kernel_rfl) (by kernel_rfl) rfl rfl rfl (OpV.loadBox rfl pt_3 (.head _) rfl) ?_
      refine WAE.take (i := 21) rfl (by kernel_rfl) (by kernel_rfl) (by kernel_rfl) rfl rfl rfl (OpV.sub rfl rfl ⟨by omega, by omega⟩) ?_
      refine WAE.take (i := 22) rfl (by kernel_rfl) (by kernel_rfl) (by kernel_rfl) rfl rfl rfl (OpV.call (evs.cons rfl (evs.cons rfl (evs.cons rfl (evs.nil)))) ca_56 (fun w hs => i_within _ _ _ w)) ?_
      refine WAE.take (i := 23) rfl (by kernel_rfl) (by kernel_rfl) (by kernel_rfl) rfl rfl rfl (OpV.move rfl) ?_
      refine WAE.take (i := 24) rfl (by kernel_rfl) (by kernel_rfl) (by kernel_rfl) rfl rfl rfl (OpV.fieldAddr rfl fo_40_5) ?_
      refine WAE.take (i := 25) rfl (by kernel_rfl) (by kernel_rfl) (by kernel_rfl) rfl rfl rfl (OpV.loadBox rfl pt_3 (.head _) rfl) ?_
      refine WAE.take (i := 26) rfl (by kernel_rfl) (by kernel_rfl) (by kernel_rfl) rfl rfl rfl (OpV.sub rfl rfl ⟨by omega, by omega⟩) ?_
      refine WAE.take (i := 27) rfl (by kernel_rfl) (by kernel_rfl) (by kernel_rfl) rfl rfl rfl (OpV.fieldAddr rfl fo_40_6) ?_
      refine WAE.take (i := 28) rfl (by kernel_rfl) (by kernel_rfl) (by kernel_rfl) rfl rfl rfl (OpV.loadBox rfl pt_3 (.head _) rfl) ?_
      refine WAE.take (i := 29) rfl (by kernel_rfl) (by kernel_rfl) (by kernel_rfl) rfl rfl rfl (OpV.sub rfl rfl ⟨by omega, by omega⟩) ?_
      refine WAE.take (i := 30) rfl (by kernel_rfl) (by kernel_rfl) (by kernel_rfl) rfl rfl rfl (OpV.fieldAddr rfl fo_40_7) ?_
      refine WAE.take (i := 31) rfl (by kernel_rfl) (by kernel_rfl) (by kernel_rfl) rfl rfl rfl (OpV.loadBox rfl pt_3 (.head _) rfl) ?_
      refine WAE.take (i := 32) rfl (by kernel_rfl) (by kernel_rfl) (by kernel_rfl) rfl rfl rfl (OpV.sub rfl rfl ⟨by omega, by omega⟩) ?_
      refine WAE.take (i := 33) rfl (by kernel_rfl) (by kernel_rfl) (by kernel_rfl) rfl rfl rfl (OpV.call (evs.cons rfl (evs.cons rfl (evs.cons rfl (evs.nil)))) ca_56 (fun w hs => i_within _ _ _ w)) ?_
      refine WAE.take (i := 34) rfl (by kernel_rfl) (by kernel_rfl) (by kernel_rfl) rfl rfl rfl (OpV.build (evps.cons rfl (evps.cons rfl (evps.cons rfl (evps.cons rfl (evps.cons rfl (evps.nil)))))) (bd_37_0_1_2_3_4 _ _ _ _ _)) ?_
      refine WAE.all (rs := [35]) (by kernel_rfl) rfl (AllR.cons0 rfl rfl rfl ?_ AllR.nil)
      refine OpH.store (A := []) rfl rfl rfl ts_37 rfl rfl ?_
      refine ⟨[_], rfl, ?_⟩
      refine WAE.rebase (H := []) ?_
      refine WAE.take (i := 36) rfl (by kernel_rfl) (by kernel_rfl) (by kernel_rfl) rfl rfl rfl (OpV.assign rfl) ?_
      refine WAE.done (by kernel_rfl) ?_ _
      refine En.next ?_
      refine WC.ret ?_
      refine En.ret2 rfl (Res.cell rfl (.head _) ag_37) (Res.tmp rfl) ?_
      intro w' hs
      rw [beam_eq hin]
      refine ⟨?_, hs.below⟩
      rw [inR_shift (n % (m1 + m2 + m3 + m4)), inR_shift (n / (m1 + m2 + m3 + m4)), hc2]
      rfl
    ·
      intro hc2
      refine WAE.skip (i := 7) rfl (by kernel_rfl) (by kernel_rfl) (by kernel_rfl) rfl rfl rfl ?_
      refine WAE.skip (i := 8) rfl (by kernel_rfl) (by kernel_rfl) (by kernel_rfl) rfl rfl rfl ?_
      refine WAE.skip (i := 9) rfl (by kernel_rfl) (by kernel_rfl) (by kernel_rfl) rfl rfl rfl ?_
      refine WAE.skip (i := 10) rfl (by kernel_rfl) (by kernel_rfl) (by kernel_rfl) rfl rfl rfl ?_
      refine WAE.take (i := 11) rfl (by kernel_rfl) (by kernel_rfl) (by kernel_rfl) rfl rfl rfl (OpV.pickF rfl rfl) ?_
      refine WAE.take (i := 12) rfl (by kernel_rfl) (by kernel_rfl) (by kernel_rfl) rfl rfl rfl (OpV.move rfl) ?_
      refine WAE.take (i := 13) rfl (by kernel_rfl) (by kernel_rfl) (by kernel_rfl) rfl rfl rfl (OpV.fieldAddr rfl fo_40_1) ?_
      refine WAE.take (i := 14) rfl (by kernel_rfl) (by kernel_rfl) (by kernel_rfl) rfl rfl rfl (OpV.loadBox rfl pt_3 (.head _) rfl) ?_
      refine WAE.take (i := 15) rfl (by kernel_rfl) (by kernel_rfl) (by kernel_rfl) rfl rfl rfl (OpV.sub rfl rfl ⟨by omega, by omega⟩) ?_
      refine WAE.take (i := 16) rfl (by kernel_rfl) (by kernel_rfl) (by kernel_rfl) rfl rfl rfl (OpV.fieldAddr rfl fo_40_2) ?_
      refine WAE.take (i := 17) rfl (by kernel_rfl) (by kernel_rfl) (by kernel_rfl) rfl rfl rfl (OpV.loadBox rfl pt_3 (.head _) rfl) ?_
      refine WAE.take (i := 18) rfl (by kernel_rfl) (by kernel_rfl) (by kernel_rfl) rfl rfl rfl (OpV.sub rfl rfl ⟨by omega, by omega⟩) ?_
      refine WAE.take (i := 19) rfl (by kernel_rfl) (by kernel_rfl) (by kernel_rfl) rfl rfl rfl (OpV.fieldAddr rfl fo_40_3) ?_
      refine WAE.take (i := 20) rfl (by kernel_rfl) (by kernel_rfl) (by kernel_rfl) rfl rfl rfl (OpV.loadBox rfl pt_3 (.head _) rfl) ?_
      refine WAE.take (i := 21) rfl (by kernel_rfl) (by kernel_rfl) (by kernel_rfl) rfl rfl rfl (OpV.sub rfl rfl ⟨by omega, by omega⟩) ?_
      refine WAE.take (i := 22) rfl (by kernel_rfl) (by kernel_rfl) (by kernel_rfl) rfl rfl rfl (OpV.call (evs.cons rfl (evs.cons rfl (evs.cons rfl (evs.nil)))) ca_56 (fun w hs => i_within _ _ _ w)) ?_
      refine WAE.take (i := 23) rfl (by kernel_rfl) (by kernel_rfl) (by kernel_rfl) rfl rfl rfl (OpV.move rfl) ?_
      refine WAE.take (i := 24) rfl (by kernel_rfl) (by kernel_rfl) (by kernel_rfl) rfl rfl rfl (OpV.fieldAddr rfl fo_40_5) ?_
      refine WAE.take (i := 25) rfl (by kernel_rfl) (by kernel_rfl) (by kernel_rfl) rfl rfl rfl (OpV.loadBox rfl pt_3 (.head _) rfl) ?_
      refine WAE.take (i := 26) rfl (by kernel_rfl) (by kernel_rfl) (by kernel_rfl) rfl rfl rfl (OpV.sub rfl rfl ⟨by omega, by omega⟩) ?_
      refine WAE.take (i := 27) rfl (by kernel_rfl) (by kernel_rfl) (by kernel_rfl) rfl rfl rfl (OpV.fieldAddr rfl fo_40_6) ?_
      refine WAE.take (i := 28) rfl (by kernel_rfl) (by kernel_rfl) (by kernel_rfl) rfl rfl rfl (OpV.loadBox rfl pt_3 (.head _) rfl) ?_
      refine WAE.take (i := 29) rfl (by kernel_rfl) (by kernel_rfl) (by kernel_rfl) rfl rfl rfl (OpV.sub rfl rfl ⟨by omega, by omega⟩) ?_
      refine WAE.take (i := 30) rfl (by kernel_rfl) (by kernel_rfl) (by kernel_rfl) rfl rfl rfl (OpV.fieldAddr rfl fo_40_7) ?_
      refine WAE.take (i := 31) rfl (by kernel_rfl) (by kernel_rfl) (by kernel_rfl) rfl rfl rfl (OpV.loadBox rfl pt_3 (.head _) rfl) ?_
      refine WAE.take (i := 32) rfl (by kernel_rfl) (by kernel_rfl) (by kernel_rfl) rfl rfl rfl (OpV.sub rfl rfl ⟨by omega, by omega⟩) ?_
      refine WAE.take (i := 33) rfl (by kernel_rfl) (by kernel_rfl) (by kernel_rfl) rfl rfl rfl (OpV.call (evs.cons rfl (evs.cons rfl (evs.cons rfl (evs.nil)))) ca_56 (fun w hs => i_within _ _ _ w)) ?_
      refine WAE.take (i := 34) rfl (by kernel_rfl) (by kernel_rfl) (by kernel_rfl) rfl rfl rfl (OpV.build (evps.cons rfl (evps.cons rfl (evps.cons rfl (evps.cons rfl (evps.cons rfl (evps.nil)))))) (bd_37_0_1_2_3_4 _ _ _ _ _)) ?_
      refine WAE.all (rs := [35]) (by kernel_rfl) rfl (AllR.cons0 rfl rfl rfl ?_ AllR.nil)
      refine OpH.store (A := []) rfl rfl rfl ts_37 rfl rfl ?_
      refine ⟨[_], rfl, ?_⟩
      refine WAE.rebase (H := []) ?_
      refine WAE.take (i := 36) rfl (by kernel_rfl) (by kernel_rfl) (by kernel_rfl) rfl rfl rfl (OpV.assign rfl) ?_
      refine WAE.done (by kernel_rfl) ?_ _
      refine En.next ?_
      refine WC.ret ?_
      refine En.ret2 rfl (Res.cell rfl (.head _) ag_37) (Res.tmp rfl) ?_
      intro w' hs
      rw [beam_eq hin]
      refine ⟨?_, hs.below⟩
      rw [inR_shift (n % (m1 + m2 + m3 + m4)), inR_shift (n / (m1 + m2 + m3 + m4)), hc2]
      rfl

theorem l_toMode (m0 m1 m2 m3 m4 m5 m6 m7 m8 : Int) (w : World) :
    Calls Try.prog 25 #[.agg #[.int .i64 m0, .int .i64 m1, .int .i64 m2, .int .i64 m3, .int .i64 m4, .int .i64 m5, .int .i64 m6, .int .i64 m7, .int .i64 m8]] w fun en w' => en = .returned (.agg #[.int .i64 m0, .int .i64 m1, .int .i64 m2, .int .i64 m3, .int .i64 m4, .int .i64 m5, .int .i64 m6, .int .i64 m7, .int .i64 m8]) ∧ Ext w w' := by
  refine enter (vs := [_]) Try.func25 rfl rfl rfl rfl ?_
  refine WC.seq ?_
  refine WC.region ?_
  refine WL.heavy rfl rfl rfl (OpH.box rfl rfl ?_)
  intro b0
  refine WL.heavy rfl rfl rfl (OpH.alloc zc_40 ?_)
  intro b1
  refine WL.nil ?_
  refine En.next ?_
  refine WC.seq ?_
  refine WC.region ?_
  refine WL.heavy rfl rfl rfl (OpH.alloc zc_40 ?_)
  intro b2
  refine WL.nil ?_
  refine En.next ?_
  refine WC.seq ?_
  refine WC.region ?_
  refine Lt.ofWL.step rfl rfl rfl (OpV.fieldAddr rfl fo_35_0) ?_
  refine Lt.ofWL.step rfl rfl rfl (OpV.loadBox rfl pt_3 (.tail _ (.tail _ (.head _))) rfl) ?_
  refine Lt.ofWL.step rfl rfl rfl (OpV.fieldAddr rfl fo_40_0) ?_
  refine WL.heavy0 rfl rfl (OpH.store (A := []) rfl rfl rfl ts_3 rfl rfl ?_)
  refine WL.nil ?_
  refine En.next ?_
  refine WC.seq ?_
  refine WC.region ?_
  refine Lt.ofWL.step rfl rfl rfl (OpV.fieldAddr rfl fo_35_1) ?_
  refine Lt.ofWL.step rfl rfl rfl (OpV.loadBox rfl pt_3 (.tail _ (.tail _ (.head _))) rfl) ?_
  refine Lt.ofWL.step rfl rfl rfl (OpV.fieldAddr rfl fo_40_1) ?_
  refine WL.heavy0 rfl rfl (OpH.store (A := []) rfl rfl rfl ts_3 rfl rfl ?_)
  refine WL.nil ?_
  refine En.next ?_
  refine WC.seq ?_
  refine WC.region ?_
  refine Lt.ofWL.step rfl rfl rfl (OpV.fieldAddr rfl fo_35_2) ?_
  refine Lt.ofWL.step rfl rfl rfl (OpV.loadBox rfl pt_3 (.tail _ (.tail _ (.head _))) rfl) ?_
  refine Lt.ofWL.step rfl rfl rfl (OpV.fieldAddr rfl fo_40_2) ?_
  refine WL.heavy0 rfl rfl (OpH.store (A := []) rfl rfl rfl ts_3 rfl rfl ?_)
  refine WL.nil ?_
  refine En.next ?_
  refine WC.seq ?_
  refine WC.region ?_
  refine Lt.ofWL.step rfl rfl rfl (OpV.fieldAddr rfl fo_35_3) ?_
  refine Lt.ofWL.step rfl rfl rfl (OpV.loadBox rfl pt_3 (.tail _ (.tail _ (.head _))) rfl) ?_
  refine Lt.ofWL.step rfl rfl rfl (OpV.fieldAddr rfl fo_40_3) ?_
  refine WL.heavy0 rfl rfl (OpH.store (A := []) rfl rfl rfl ts_3 rfl rfl ?_)
  refine WL.nil ?_
  refine En.next ?_
  refine WC.seq ?_
  refine WC.region ?_
  refine Lt.ofWL.step rfl rfl rfl (OpV.fieldAddr rfl fo_35_4) ?_
  refine Lt.ofWL.step rfl rfl rfl (OpV.loadBox rfl pt_3 (.tail _ (.tail _ (.head _))) rfl) ?_
  refine Lt.ofWL.step rfl rfl rfl (OpV.fieldAddr rfl fo_40_4) ?_
  refine WL.heavy0 rfl rfl (OpH.store (A := []) rfl rfl rfl ts_3 rfl rfl ?_)
  refine WL.nil ?_
  refine En.next ?_
  refine WC.seq ?_
  refine WC.region ?_
  refine Lt.ofWL.step rfl rfl rfl (OpV.fieldAddr rfl fo_35_5) ?_
  refine Lt.ofWL.step rfl rfl rfl (OpV.loadBox rfl pt_3 (.tail _ (.tail _ (.head _))) rfl) ?_
  refine Lt.ofWL.step rfl rfl rfl (OpV.fieldAddr rfl fo_40_5) ?_
  refine WL.heavy0 rfl rfl (OpH.store (A := []) rfl rfl rfl ts_3 rfl rfl ?_)
  refine WL.nil ?_
  refine En.next ?_
  refine WC.seq ?_
  refine WC.region ?_
  refine Lt.ofWL.step rfl rfl rfl (OpV.fieldAddr rfl fo_35_6) ?_
  refine Lt.ofWL.step rfl rfl rfl (OpV.loadBox rfl pt_3 (.tail _ (.tail _ (.head _))) rfl) ?_
  refine Lt.ofWL.step rfl rfl rfl (OpV.fieldAddr rfl fo_40_6) ?_
  refine WL.heavy0 rfl rfl (OpH.store (A := []) rfl rfl rfl ts_3 rfl rfl ?_)
  refine WL.nil ?_
  refine En.next ?_
  refine WC.seq ?_
  refine WC.region ?_
  refine Lt.ofWL.step rfl rfl rfl (OpV.fieldAddr rfl fo_35_7) ?_
  refine Lt.ofWL.step rfl rfl rfl (OpV.loadBox rfl pt_3 (.tail _ (.tail _ (.head _))) rfl) ?_
  refine Lt.ofWL.step rfl rfl rfl (OpV.fieldAddr rfl fo_40_7) ?_
  refine WL.heavy0 rfl rfl (OpH.store (A := []) rfl rfl rfl ts_3 rfl rfl ?_)
  refine WL.nil ?_
  refine En.next ?_
  refine WC.seq ?_
  refine WC.region ?_
  refine Lt.ofWL.step rfl rfl rfl (OpV.fieldAddr rfl fo_35_8) ?_
  refine Lt.ofWL.step rfl rfl rfl (OpV.loadBox rfl pt_3 (.tail _ (.tail _ (.head _))) rfl) ?_
  refine Lt.ofWL.step rfl rfl rfl (OpV.fieldAddr rfl fo_40_8) ?_
  refine WL.heavy0 rfl rfl (OpH.store (A := []) rfl rfl rfl ts_3 rfl rfl ?_)
  refine WL.nil ?_
  refine En.next ?_
  refine WC.seq ?_
  refine WC.region ?_
  refine Lt.ofWL.step rfl rfl rfl (OpV.loadAll rfl (.head _) ag_40) ?_
  refine WL.heavy0 rfl rfl (OpH.store (A := [_]) rfl rfl rfl ts_40 rfl rfl ?_)
  refine WL.nil ?_
  refine En.next ?_
  refine WC.ret ?_
  refine En.ret1 rfl (Res.cell rfl (.tail _ (.head _)) ag_40) ?_
  intro w' hs
  exact ⟨rfl, hs.below⟩

theorem l_eqBeam (x y : Int) (a b c : Bool) (x2 y2 : Int) (a2 b2 c2 : Bool) (w : World) :
    Calls Try.prog 27 #[.agg #[.int .i64 x, .int .i64 y, .bool a, .bool b, .bool c], .agg #[.int .i64 x2, .int .i64 y2, .bool a2, .bool b2, .bool c2]] w fun en w' => en = .returned (.bool (eqBm x y a b c x2 y2 a2 b2 c2)) ∧ Ext w w' := by
  refine enter (vs := [_, _]) Try.func27 rfl rfl rfl rfl ?_
  refine WC.seq ?_
  refine WC.region ?_
  refine WL.heavy rfl rfl rfl (OpH.box rfl rfl ?_)
  intro b0
  refine WL.heavy rfl rfl rfl (OpH.box rfl rfl ?_)
  intro b1
  refine Lt.ofWL.step rfl rfl rfl (OpV.assign rfl) ?_
  refine WL.nil ?_
  refine En.next ?_
  refine WC.seq ?_
  refine WC.seq ?_
  refine WC.region ?_
  refine Lt.ofWL.step rfl rfl rfl (OpV.fieldAddr rfl fo_37_0) ?_
  refine Lt.ofWL.step rfl rfl rfl (OpV.loadBox rfl pt_3 (.tail _ (.head _)) rfl) ?_
  refine Lt.ofWL.step rfl rfl rfl (OpV.fieldAddr rfl fo_37_0) ?_
  refine Lt.ofWL.step rfl rfl rfl (OpV.loadBox rfl pt_3 (.head _) rfl) ?_
  refine Lt.ofWL.step rfl rfl rfl (OpV.neq rfl rfl) ?_
  refine WL.nil ?_
  refine En.next ?_
  refine WC.cond rfl ?_ ?_
  ·
    intro hc1
    refine WC.seq ?_
    refine WC.region ?_
    refine Lt.ofWL.step rfl rfl rfl (OpV.assign rfl) ?_
    refine WL.nil ?_
    refine En.next ?_
    refine WC.ret ?_
    refine En.then_ret ?_
    refine En.ret1 rfl (Res.tmp rfl) ?_
    intro w' hs
    refine ⟨congrArg _ (congrArg _ ?_), hs.below⟩
    simp at hc1
    simp [eqBm, *]
  ·
    intro hc1
    refine WC.skip ?_
    refine En.next ?_
    refine WC.seq ?_
    refine WC.seq ?_
    refine WC.region ?_
    refine Lt.ofWL.step rfl rfl rfl (OpV.fieldAddr rfl fo_37_1) ?_
    refine Lt.ofWL.step rfl rfl rfl (OpV.loadBox rfl pt_3 (.tail _ (.head _)) rfl) ?_
    refine Lt.ofWL.step rfl rfl rfl (OpV.fieldAddr rfl fo_37_1) ?_
    refine Lt.ofWL.step rfl rfl rfl (OpV.loadBox rfl pt_3 (.head _) rfl) ?_
    refine Lt.ofWL.step rfl rfl rfl (OpV.neq rfl rfl) ?_
    refine WL.nil ?_
    refine En.next ?_
    refine WC.cond rfl ?_ ?_
    ·
      intro hc2
      refine WC.seq ?_
      refine WC.region ?_
      refine Lt.ofWL.step rfl rfl rfl (OpV.assign rfl) ?_
      refine WL.nil ?_
      refine En.next ?_
      refine WC.ret ?_
      refine En.then_ret ?_
      refine En.ret1 rfl (Res.tmp rfl) ?_
      intro w' hs
      refine ⟨congrArg _ (congrArg _ ?_), hs.below⟩
      simp at hc1 hc2
      simp [eqBm, *]
    ·
      intro hc2
      refine WC.skip ?_
      refine En.next ?_
      refine WC.seq ?_
      refine WC.seq ?_
      refine WC.region ?_
      refine Lt.ofWL.step rfl rfl rfl (OpV.fieldAddr rfl fo_37_2) ?_
      refine Lt.ofWL.step rfl rfl rfl (OpV.loadBox rfl pt_4 (.tail _ (.head _)) rfl) ?_
      refine Lt.ofWL.step rfl rfl rfl (OpV.fieldAddr rfl fo_37_2) ?_
      refine Lt.ofWL.step rfl rfl rfl (OpV.loadBox rfl pt_4 (.head _) rfl) ?_
      refine Lt.ofWL.step rfl rfl rfl (OpV.bneq rfl rfl ub_4) ?_
      refine WL.nil ?_
      refine En.next ?_
      refine WC.cond rfl ?_ ?_
      ·
        intro hc3
        refine WC.seq ?_
        refine WC.region ?_
        refine Lt.ofWL.step rfl rfl rfl (OpV.assign rfl) ?_
        refine WL.nil ?_
        refine En.next ?_
        refine WC.ret ?_
        refine En.then_ret ?_
        refine En.ret1 rfl (Res.tmp rfl) ?_
        intro w' hs
        refine ⟨congrArg _ (congrArg _ ?_), hs.below⟩
        simp at hc1 hc2 hc3
        simp [eqBm, *]
      ·
        intro hc3
        refine WC.skip ?_
        refine En.next ?_
        refine WC.seq ?_
        refine WC.seq ?_
        refine WC.region ?_
        refine Lt.ofWL.step rfl rfl rfl (OpV.fieldAddr rfl fo_37_3) ?_
        refine Lt.ofWL.step rfl rfl rfl (OpV.loadBox rfl pt_4 (.tail _ (.head _)) rfl) ?_
        refine Lt.ofWL.step rfl rfl rfl (OpV.fieldAddr rfl fo_37_3) ?_
        refine Lt.ofWL.step rfl rfl rfl (OpV.loadBox rfl pt_4 (.head _) rfl) ?_
        refine Lt.ofWL.step rfl rfl rfl (OpV.bneq rfl rfl ub_4) ?_
        refine WL.nil ?_
        refine En.next ?_
        refine WC.cond rfl ?_ ?_
        ·
          intro hc4
          refine WC.seq ?_
          refine WC.region ?_
          refine Lt.ofWL.step rfl rfl rfl (OpV.assign rfl) ?_
          refine WL.nil ?_
          refine En.next ?_
          refine WC.ret ?_
          refine En.then_ret ?_
          refine En.ret1 rfl (Res.tmp rfl) ?_
          intro w' hs
          refine ⟨congrArg _ (congrArg _ ?_), hs.below⟩
          simp at hc1 hc2 hc3 hc4
          simp [eqBm, *]
        ·
          intro hc4
          refine WC.skip ?_
          refine En.next ?_
          refine WC.seq ?_
          refine WC.seq ?_
          refine WC.region ?_
          refine Lt.ofWL.step rfl rfl rfl (OpV.fieldAddr rfl fo_37_4) ?_
          refine Lt.ofWL.step rfl rfl rfl (OpV.loadBox rfl pt_4 (.tail _ (.head _)) rfl) ?_
          refine Lt.ofWL.step rfl rfl rfl (OpV.fieldAddr rfl fo_37_4) ?_
          refine Lt.ofWL.step rfl rfl rfl (OpV.loadBox rfl pt_4 (.head _) rfl) ?_
          refine Lt.ofWL.step rfl rfl rfl (OpV.bneq rfl rfl ub_4) ?_
          refine WL.nil ?_
          refine En.next ?_
          refine WC.cond rfl ?_ ?_
          ·
            intro hc5
            refine WC.seq ?_
            refine WC.region ?_
            refine Lt.ofWL.step rfl rfl rfl (OpV.assign rfl) ?_
            refine WL.nil ?_
            refine En.next ?_
            refine WC.ret ?_
            refine En.then_ret ?_
            refine En.ret1 rfl (Res.tmp rfl) ?_
            intro w' hs
            refine ⟨congrArg _ (congrArg _ ?_), hs.below⟩
            simp at hc1 hc2 hc3 hc4 hc5
            simp [eqBm, *]
          ·
            intro hc5
            refine WC.skip ?_
            refine En.next ?_
            refine WC.seq ?_
            refine WC.region ?_
            refine Lt.ofWL.step rfl rfl rfl (OpV.assign rfl) ?_
            refine WL.nil ?_
            refine En.next ?_
            refine WC.ret ?_
            refine En.ret1 rfl (Res.tmp rfl) ?_
            intro w' hs
            refine ⟨congrArg _ (congrArg _ ?_), hs.below⟩
            simp at hc1 hc2 hc3 hc4 hc5
            simp [eqBm, *]

theorem w_BestDivider (r t lo hi : Int) (w : World) :
    Calls Try.prog 4 #[.int .i64 r, .int .i64 t, .int .i64 lo, .int .i64 hi] w fun en w' => en = .returned (.bool true) ∧ Ext w w' := by
  refine enter (vs := [_, _, _, _]) Try.func4 rfl rfl rfl rfl ?_
  refine WC.seq ?_
  refine WC.region ?_
  refine Lt.ofWL.step rfl rfl rfl (OpV.assign rfl) ?_
  refine WL.nil ?_
  refine En.next ?_
  refine WC.seq ?_
  refine WC.region ?_
  refine Lt.ofWL.step rfl rfl rfl (OpV.move rfl) ?_
  refine Lt.ofWL.step rfl rfl rfl (OpV.move rfl) ?_
  refine Lt.ofWL.step rfl rfl rfl (OpV.move rfl) ?_
  refine Lt.ofWL.step rfl rfl rfl (OpV.move rfl) ?_
  refine Lt.ofWL.step rfl rfl rfl (OpV.call (evs.cons rfl (evs.cons rfl (evs.cons rfl (evs.cons rfl (evs.nil))))) ca_20 (fun w hs => s_BestDivider _ _ _ _ w)) ?_
  refine Lt.ofWL.step rfl rfl rfl (OpV.move rfl) ?_
  refine Lt.ofWL.step rfl rfl rfl (OpV.extract rfl rfl) ?_
  refine Lt.ofWL.step rfl rfl rfl (OpV.extract rfl rfl) ?_
  refine WL.heavy rfl rfl rfl (OpH.alloc zc_26 ?_)
  intro b0
  refine WL.heavy0 rfl rfl (OpH.store (A := []) rfl rfl rfl ts_26 rfl rfl ?_)
  refine Lt.ofWL.step rfl rfl rfl (OpV.assign rfl) ?_
  refine WL.nil ?_
  refine En.next ?_
  refine WC.seq ?_
  refine WC.region ?_
  refine Lt.ofWL.step rfl rfl rfl (OpV.move rfl) ?_
  refine Lt.ofWL.step rfl rfl rfl (OpV.move rfl) ?_
  refine Lt.ofWL.step rfl rfl rfl (OpV.move rfl) ?_
  refine Lt.ofWL.step rfl rfl rfl (OpV.move rfl) ?_
  refine Lt.ofWL.step rfl rfl rfl (OpV.call (evs.cons rfl (evs.cons rfl (evs.cons rfl (evs.cons rfl (evs.nil))))) ca_17 (fun w hs => i_BestDivider _ _ _ _ w)) ?_
  refine Lt.ofWL.step rfl rfl rfl (OpV.move rfl) ?_
  refine Lt.ofWL.step rfl rfl rfl (OpV.extract rfl rfl) ?_
  refine Lt.ofWL.step rfl rfl rfl (OpV.extract rfl rfl) ?_
  refine WL.heavy rfl rfl rfl (OpH.alloc zc_26 ?_)
  intro b1
  refine WL.heavy0 rfl rfl (OpH.store (A := []) rfl rfl rfl ts_26 rfl rfl ?_)
  refine Lt.ofWL.step rfl rfl rfl (OpV.assign rfl) ?_
  refine WL.nil ?_
  refine En.next ?_
  refine WC.seq ?_
  refine WC.seq ?_
  refine WC.region ?_
  refine Lt.ofWL.step rfl rfl rfl (OpV.loadAll rfl (.head _) ag_26) ?_
  refine Lt.ofWL.step rfl rfl rfl (OpV.loadAll rfl (.tail _ (.head _)) ag_26) ?_
  refine Lt.ofWL.step rfl rfl rfl (OpV.call (evs.cons rfl (evs.cons rfl (evs.nil))) ca_23 (fun w hs => l_eqDivider _ _ _ _ _ _ w)) ?_
  refine Lt.ofWL.step rfl rfl rfl (OpV.not rfl) ?_
  refine Lt.ofWL.step rfl rfl rfl (OpV.move rfl) ?_
  refine Lt.ofWL.or 33 37 36 (p := ?pz1) (rest := ?qz1) (B := ?Bz1) rfl ?Tz1 ?Fz1 ?az1 ?bz1 ?cz1 ?dz1 ?ez1
  case Tz1 =>
    intro hc2 hkz1
    refine Lt.ofWL.skip rfl rfl rfl ?_
    refine Lt.ofWL.skip rfl rfl rfl ?_
    refine Lt.ofWL.skip rfl rfl rfl ?_
    refine hkz1 _ ?_
    repeat (first | exact Sub.refl _ | refine Sub.skip rfl ?_)
  case Fz1 =>
    intro hc3 hkz1
    refine Lt.ofWL.step rfl rfl rfl (OpV.move rfl) ?_
    refine Lt.ofWL.step rfl rfl rfl (OpV.move rfl) ?_
    refine Lt.ofWL.step rfl rfl rfl (OpV.bneq rfl rfl ub_4) ?_
    refine hkz1 _ ?_ ?_
    exact rfl
    repeat (first | exact Sub.refl _ | refine Sub.skip rfl ?_)
  case az1 => exact rfl
  case bz1 => exact rfl
  case cz1 => exact rfl
  case dz1 => exact rfl
  refine WL.nil ?_
  refine En.next ?_
  refine WC.cond rfl ?_ ?_
  ·
    intro hc4
    refine WC.seq ?_
    refine WC.region ?_
    refine Lt.ofWL.step rfl rfl rfl (OpV.assign rfl) ?_
    refine WL.nil ?_
    refine En.next ?_
    refine WC.ret ?_
    refine En.then_ret ?_
    refine En.ret1 rfl (Res.tmp rfl) ?_
    intro w' hs
    first | exact ⟨rfl, hs.below⟩ | (exfalso; simp [eqD_self] at hc4)
  ·
    intro hc4
    refine WC.skip ?_
    refine En.next ?_
    refine WC.seq ?_
    refine WC.region ?_
    refine Lt.ofWL.step rfl rfl rfl (OpV.assign rfl) ?_
    refine WL.nil ?_
    refine En.next ?_
    refine WC.ret ?_
    refine En.ret1 rfl (Res.tmp rfl) ?_
    intro w' hs
    first | exact ⟨rfl, hs.below⟩ | (exfalso; simp [eqD_self] at hc4)

theorem w_BeamAt (m0 m1 m2 m3 m4 m5 m6 m7 m8 n : Int) (w : World) :
    Calls Try.prog 5 #[.agg #[.int .i64 m0, .int .i64 m1, .int .i64 m2, .int .i64 m3, .int .i64 m4, .int .i64 m5, .int .i64 m6, .int .i64 m7, .int .i64 m8], .int .i64 n] w fun en w' => en = .returned (.bool true) ∧ Ext w w' := by
  refine enter (vs := [_, _]) Try.func5 rfl rfl rfl rfl ?_
  refine WC.seq ?_
  refine WC.region ?_
  refine WL.heavy rfl rfl rfl (OpH.box rfl rfl ?_)
  intro b0
  refine Lt.ofWL.step rfl rfl rfl (OpV.assign rfl) ?_
  refine WL.nil ?_
  refine En.next ?_
  refine WC.seq ?_
  refine WC.region ?_
  refine Lt.ofWL.step rfl rfl rfl (OpV.loadAll rfl (.head _) ag_35) ?_
  refine Lt.ofWL.step rfl rfl rfl (OpV.call (evs.cons rfl (evs.nil)) ca_25 (fun w hs => l_toMode _ _ _ _ _ _ _ _ _ w)) ?_
  refine Lt.ofWL.step rfl rfl rfl (OpV.move rfl) ?_
  refine Lt.ofWL.step rfl rfl rfl (OpV.call (evs.cons rfl (evs.cons rfl (evs.nil))) ca_24 (fun w hs => s_BeamAt _ _ _ _ _ _ _ _ _ _ w)) ?_
  refine Lt.ofWL.step rfl rfl rfl (OpV.move rfl) ?_
  refine Lt.ofWL.step rfl rfl rfl (OpV.extract rfl rfl) ?_
  refine Lt.ofWL.step rfl rfl rfl (OpV.extract rfl rfl) ?_
  refine WL.heavy rfl rfl rfl (OpH.alloc zc_37 ?_)
  intro b1
  refine WL.heavy0 rfl rfl (OpH.store (A := []) rfl rfl rfl ts_37 rfl rfl ?_)
  refine Lt.ofWL.step rfl rfl rfl (OpV.assign rfl) ?_
  refine WL.nil ?_
  refine En.next ?_
  refine WC.seq ?_
  refine WC.region ?_
  refine Lt.ofWL.step rfl rfl rfl (OpV.loadAll rfl (.tail _ (.head _)) ag_35) ?_
  refine Lt.ofWL.step rfl rfl rfl (OpV.call (evs.cons rfl (evs.nil)) ca_25 (fun w hs => l_toMode _ _ _ _ _ _ _ _ _ w)) ?_
  refine Lt.ofWL.step rfl rfl rfl (OpV.move rfl) ?_
  refine Lt.ofWL.step rfl rfl rfl (OpV.call (evs.cons rfl (evs.cons rfl (evs.nil))) ca_26 (fun w hs => i_BeamAt _ _ _ _ _ _ _ _ _ _ w)) ?_
  refine Lt.ofWL.step rfl rfl rfl (OpV.move rfl) ?_
  refine Lt.ofWL.step rfl rfl rfl (OpV.extract rfl rfl) ?_
  refine Lt.ofWL.step rfl rfl rfl (OpV.extract rfl rfl) ?_
  refine WL.heavy rfl rfl rfl (OpH.alloc zc_37 ?_)
  intro b2
  refine WL.heavy0 rfl rfl (OpH.store (A := []) rfl rfl rfl ts_37 rfl rfl ?_)
  refine Lt.ofWL.step rfl rfl rfl (OpV.assign rfl) ?_
  refine WL.nil ?_
  refine En.next ?_
  refine WC.seq ?_
  refine WC.seq ?_
  refine WC.region ?_
  refine Lt.ofWL.step rfl rfl rfl (OpV.loadAll rfl (.head _) ag_37) ?_
  refine Lt.ofWL.step rfl rfl rfl (OpV.loadAll rfl (.tail _ (.head _)) ag_37) ?_
  refine Lt.ofWL.step rfl rfl rfl (OpV.call (evs.cons rfl (evs.cons rfl (evs.nil))) ca_27 (fun w hs => l_eqBeam _ _ _ _ _ _ _ _ _ _ w)) ?_
  refine Lt.ofWL.step rfl rfl rfl (OpV.not rfl) ?_
  refine Lt.ofWL.step rfl rfl rfl (OpV.move rfl) ?_
  refine Lt.ofWL.or 27 31 30 (p := ?pz1) (rest := ?qz1) (B := ?Bz1) rfl ?Tz1 ?Fz1 ?az1 ?bz1 ?cz1 ?dz1 ?ez1
  case Tz1 =>
    intro hc2 hkz1
    refine Lt.ofWL.skip rfl rfl rfl ?_
    refine Lt.ofWL.skip rfl rfl rfl ?_
    refine Lt.ofWL.skip rfl rfl rfl ?_
    refine hkz1 _ ?_
    repeat (first | exact Sub.refl _ | refine Sub.skip rfl ?_)
  case Fz1 =>
    intro hc3 hkz1
    refine Lt.ofWL.step rfl rfl rfl (OpV.move rfl) ?_
    refine Lt.ofWL.step rfl rfl rfl (OpV.move rfl) ?_
    refine Lt.ofWL.step rfl rfl rfl (OpV.bneq rfl rfl ub_4) ?_
    refine hkz1 _ ?_ ?_
    exact rfl
    repeat (first | exact Sub.refl _ | refine Sub.skip rfl ?_)
  case az1 => exact rfl
  case bz1 => exact rfl
  case cz1 => exact rfl
  case dz1 => exact rfl
  refine WL.nil ?_
  refine En.next ?_
  refine WC.cond rfl ?_ ?_
  ·
    intro hc4
    refine WC.seq ?_
    refine WC.region ?_
    refine Lt.ofWL.step rfl rfl rfl (OpV.assign rfl) ?_
    refine WL.nil ?_
    refine En.next ?_
    refine WC.ret ?_
    refine En.then_ret ?_
    refine En.ret1 rfl (Res.tmp rfl) ?_
    intro w' hs
    first | exact ⟨rfl, hs.below⟩ | (exfalso; simp [eqBm_self] at hc4)
  ·
    intro hc4
    refine WC.skip ?_
    refine En.next ?_
    refine WC.seq ?_
    refine WC.region ?_
    refine Lt.ofWL.step rfl rfl rfl (OpV.assign rfl) ?_
    refine WL.nil ?_
    refine En.next ?_
    refine WC.ret ?_
    refine En.ret1 rfl (Res.tmp rfl) ?_
    intro w' hs
    first | exact ⟨rfl, hs.below⟩ | (exfalso; simp [eqBm_self] at hc4)

end Go.Proofs.Ytbcaoilghmcaeaa
