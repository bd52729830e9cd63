/- The small functions of this seat: each call returns what a plain function computes. -/
import Derived.Test.YtjlknbeebneelaaCore
import Derived.Test.YtjlknbeebneelaaRows
import Derived.KernelRfl
namespace Go.Proofs.Ytjlknbeebneelaa
open Go.RowKit K

def inR (n lo hi : Int) : Bool := decide (lo ≤ n) && decide (n ≤ hi)
def pow8 (p : Int) : Bool := ((decide (p = 1) || decide (p = 2)) || decide (p = 4)) || decide (p = 8)
def w64 (n : Int) : Int := IntKind.i64.wrap n
def divOk (n m p r lo hi : Int) : Bool :=
  inR n 4 64 && inR m 1 8 && pow8 p && inR r 1 1000000 && inR lo 1 1000000 && inR hi 1 1000000 && decide (w64 (lo * m) ≤ w64 (r * n)) && decide (w64 (r * n) ≤ w64 (hi * m))
def errOf (n m p r t : Int) : Int :=
  if (!inR n 4 64 || !inR m 1 8 || !inR p 1 8 || !inR r 1 1000000 || !inR t 1 1000000) = true then -1
  else max (w64 (w64 (r * n) - w64 (w64 (t * m) * p))) (w64 (0 - w64 (w64 (r * n) - w64 (w64 (t * m) * p))))
def closer (n m p n2 m2 p2 r t : Int) : Bool :=
  decide (0 ≤ errOf n m p r t) && decide (0 ≤ errOf n2 m2 p2 r t) && decide (w64 (w64 (errOf n m p r t * m2) * p2) < w64 (w64 (errOf n2 m2 p2 r t * m) * p))
def pktLen (kind dots : Int) : Int :=
  if kind = 0 ∧ 1 ≤ dots ∧ dots ≤ 16 then 7 + 5 * dots else if (kind = 1 ∨ kind = 2) ∧ dots = 0 then 7 else -1

/-- The sum of the first bytes. -/
def bsum (s : ByteArray) : Nat → Int
  | 0 => 0
  | k + 1 => bsum s k + (s[k]!).toNat
theorem u8_lt (c : UInt8) : c.toNat < 256 := c.toNat_lt
theorem bsum_nonneg (s : ByteArray) : ∀ k, 0 ≤ bsum s k
  | 0 => by simp [bsum]
  | k + 1 => by have := bsum_nonneg s k; simp only [bsum]; omega
theorem bsum_le (s : ByteArray) : ∀ k, bsum s k ≤ 256 * k
  | 0 => by simp [bsum]
  | k + 1 => by have := bsum_le s k; have := u8_lt s[k]!; simp only [bsum]; omega
theorem bsum_mod (s : ByteArray) (k : Nat) : bsum s (k + 1) % 256 = (bsum s k % 256 + (s[k]!).toNat) % 256 := by simp only [bsum]; omega

theorem ca_24 : callable Try.prog 24 = true := by kernel_rfl
theorem zc_27 : zeroCells Try.prog 27 = some [.int .i64 0, .bool false, .int .i64 0, .bool false, .bool false, .bool false] := by kernel_rfl
theorem fo_25_0 : fieldOff Try.prog 25 0 = some 0 := by kernel_rfl
theorem pt_3 : plainTy Try.prog 3 = true := by kernel_rfl
theorem fo_27_0 : fieldOff Try.prog 27 0 = some 0 := by kernel_rfl
theorem ts_3 : tySize Try.prog 3 = some 1 := by kernel_rfl
theorem fo_25_1 : fieldOff Try.prog 25 1 = some 1 := by kernel_rfl
theorem pt_4 : plainTy Try.prog 4 = true := by kernel_rfl
theorem fo_27_1 : fieldOff Try.prog 27 1 = some 1 := by kernel_rfl
theorem ts_4 : tySize Try.prog 4 = some 1 := by kernel_rfl
theorem fo_25_2 : fieldOff Try.prog 25 2 = some 2 := by kernel_rfl
theorem fo_27_2 : fieldOff Try.prog 27 2 = some 2 := by kernel_rfl
theorem fo_25_3 : fieldOff Try.prog 25 3 = some 3 := by kernel_rfl
theorem fo_27_3 : fieldOff Try.prog 27 3 = some 3 := by kernel_rfl
theorem fo_25_4 : fieldOff Try.prog 25 4 = some 4 := by kernel_rfl
theorem fo_27_4 : fieldOff Try.prog 27 4 = some 4 := by kernel_rfl
theorem fo_25_5 : fieldOff Try.prog 25 5 = some 5 := by kernel_rfl
theorem fo_27_5 : fieldOff Try.prog 27 5 = some 5 := by kernel_rfl
theorem ag_27 : aggTy Try.prog 27 = some 6 := by kernel_rfl
theorem ts_27 : tySize Try.prog 27 = some 6 := by kernel_rfl
theorem ca_23 : callable Try.prog 23 = true := by kernel_rfl
theorem zc_35 : zeroCells Try.prog 35 = some [.int .i64 0, .int .i64 0, .int .i64 0] := by kernel_rfl
theorem fo_33_0 : fieldOff Try.prog 33 0 = some 0 := by kernel_rfl
theorem fo_35_0 : fieldOff Try.prog 35 0 = some 0 := by kernel_rfl
theorem fo_33_1 : fieldOff Try.prog 33 1 = some 1 := by kernel_rfl
theorem fo_35_1 : fieldOff Try.prog 35 1 = some 1 := by kernel_rfl
theorem fo_33_2 : fieldOff Try.prog 33 2 = some 2 := by kernel_rfl
theorem fo_35_2 : fieldOff Try.prog 35 2 = some 2 := by kernel_rfl
theorem ag_35 : aggTy Try.prog 35 = some 3 := by kernel_rfl
theorem ts_35 : tySize Try.prog 35 = some 3 := by kernel_rfl
theorem ca_25 : callable Try.prog 25 = true := by kernel_rfl
theorem ca_26 : callable Try.prog 26 = true := by kernel_rfl
theorem ca_27 : callable Try.prog 27 = true := by kernel_rfl
theorem ca_19 : callable Try.prog 19 = true := by kernel_rfl
theorem ca_20 : callable Try.prog 20 = true := by kernel_rfl
theorem us_9 : Try.prog.underlying 9 = some .string := by kernel_rfl
theorem uS_5 : (Try.prog.underlying 5).isSome = true := by kernel_rfl
theorem ui_3_i64 : Try.prog.underlying 3 = some (.int .i64) := by kernel_rfl
theorem ag_25 : aggTy Try.prog 25 = some 6 := by kernel_rfl
theorem ca_12 : callable Try.prog 12 = true := by kernel_rfl
theorem ca_11 : callable Try.prog 11 = true := by kernel_rfl
theorem ca_13 : callable Try.prog 13 = true := by kernel_rfl
theorem ub_4 : Try.prog.underlying 4 = some .bool := by kernel_rfl
theorem ca_14 : callable Try.prog 14 = true := by kernel_rfl
theorem ca_15 : callable Try.prog 15 = true := by kernel_rfl
theorem ag_33 : aggTy Try.prog 33 = some 3 := by kernel_rfl
theorem ca_17 : callable Try.prog 17 = true := by kernel_rfl
theorem ca_16 : callable Try.prog 16 = true := by kernel_rfl
theorem ca_18 : callable Try.prog 18 = true := by kernel_rfl
theorem ca_21 : callable Try.prog 21 = true := by kernel_rfl
theorem ca_22 : callable Try.prog 22 = true := by kernel_rfl
theorem ca_9 : callable Try.prog 9 = true := by kernel_rfl
theorem ca_10 : callable Try.prog 10 = true := by kernel_rfl

theorem s_in (n lo hi : Int) (w : World) :
    Calls Try.prog 23 #[.int .i64 n, .int .i64 lo, .int .i64 hi] w fun e w' => e = .returned (.bool (inR n lo hi)) ∧ Ext w w' := by
  refine enter (vs := [_, _, _]) Try.func23 rfl rfl rfl rfl ?_
  refine WC.seq ?_
  refine WC.region ?_
  refine Lt.ofWL.step rfl rfl rfl (OpV.assign rfl) ?_
  refine WL.nil ?_
  refine En.next ?_
  refine WC.seq ?_
  refine WC.region ?_
  refine Lt.ofWL.step rfl rfl rfl (OpV.move rfl) ?_
  refine Lt.ofWL.step rfl rfl rfl (OpV.move rfl) ?_
  refine Lt.ofWL.step rfl rfl rfl (OpV.geq rfl rfl) ?_
  refine Lt.ofWL.step rfl rfl rfl (OpV.move rfl) ?_
  refine Lt.ofWL.and 10 14 13 (p := ?pz1) (rest := ?qz1) (B := ?Bz1) rfl ?Tz1 ?Fz1 ?az1 ?bz1 ?cz1 ?dz1 ?ez1
  case Tz1 =>
    intro hc2 hkz1
    refine Lt.ofWL.step rfl rfl rfl (OpV.move rfl) ?_
    refine Lt.ofWL.step rfl rfl rfl (OpV.move rfl) ?_
    refine Lt.ofWL.step rfl rfl rfl (OpV.leq rfl rfl) ?_
    refine hkz1 _ ?_ ?_
    exact rfl
    repeat (first | exact Sub.refl _ | refine Sub.skip rfl ?_)
  case Fz1 =>
    intro hc3 hkz1
    refine Lt.ofWL.skip rfl rfl rfl ?_
    refine Lt.ofWL.skip rfl rfl rfl ?_
    refine Lt.ofWL.skip rfl rfl rfl ?_
    refine hkz1 _ ?_
    repeat (first | exact Sub.refl _ | refine Sub.skip rfl ?_)
  case az1 => exact rfl
  case bz1 => exact rfl
  case cz1 => exact rfl
  case dz1 => exact rfl
  refine Lt.ofWL.step rfl rfl rfl (OpV.assign rfl) ?_
  refine WL.nil ?_
  refine En.next ?_
  refine WC.ret ?_
  refine En.ret1 rfl (Res.tmp rfl) ?_
  intro w' hs
  exact ⟨rfl, hs.below⟩

theorem i_within (n lo hi : Int) (w : World) :
    Calls Try.prog 24 #[.int .i64 n, .int .i64 lo, .int .i64 hi] w fun e w' => e = .returned (.bool (inR n lo hi)) ∧ Ext w w' := by
  refine enter (vs := [_, _, _]) Try.func24 rfl rfl rfl rfl ?_
  refine WC.seq ?_
  refine WC.region ?_
  refine Lt.ofWL.step rfl rfl rfl (OpV.assign rfl) ?_
  refine WL.nil ?_
  refine En.next ?_
  refine WC.seq ?_
  refine WC.region ?_
  refine Lt.ofWL.step rfl rfl rfl (OpV.move rfl) ?_
  refine Lt.ofWL.step rfl rfl rfl (OpV.move rfl) ?_
  refine Lt.ofWL.step rfl rfl rfl (OpV.leq rfl rfl) ?_
  refine Lt.ofWL.step rfl rfl rfl (OpV.move rfl) ?_
  refine Lt.ofWL.and 10 14 13 (p := ?pz1) (rest := ?qz1) (B := ?Bz1) rfl ?Tz1 ?Fz1 ?az1 ?bz1 ?cz1 ?dz1 ?ez1
  case Tz1 =>
    intro hc2 hkz1
    refine Lt.ofWL.step rfl rfl rfl (OpV.move rfl) ?_
    refine Lt.ofWL.step rfl rfl rfl (OpV.move rfl) ?_
    refine Lt.ofWL.step rfl rfl rfl (OpV.leq rfl rfl) ?_
    refine hkz1 _ ?_ ?_
    exact rfl
    repeat (first | exact Sub.refl _ | refine Sub.skip rfl ?_)
  case Fz1 =>
    intro hc3 hkz1
    refine Lt.ofWL.skip rfl rfl rfl ?_
    refine Lt.ofWL.skip rfl rfl rfl ?_
    refine Lt.ofWL.skip rfl rfl rfl ?_
    refine hkz1 _ ?_
    repeat (first | exact Sub.refl _ | refine Sub.skip rfl ?_)
  case az1 => exact rfl
  case bz1 => exact rfl
  case cz1 => exact rfl
  case dz1 => exact rfl
  refine Lt.ofWL.step rfl rfl rfl (OpV.assign rfl) ?_
  refine WL.nil ?_
  refine En.next ?_
  refine WC.ret ?_
  refine En.ret1 rfl (Res.tmp rfl) ?_
  intro w' hs
  exact ⟨rfl, hs.below⟩

theorem i_isSide (n : Int) (w : World) :
    Calls Try.prog 25 #[.int .i64 n] w fun e w' => e = .returned (.bool (inR n 1 16)) ∧ Ext w w' := by
  refine enter (vs := [_]) Try.func25 rfl rfl rfl rfl ?_
  refine WC.seq ?_
  refine WC.region ?_
  refine Lt.ofWL.step rfl rfl rfl (OpV.assign rfl) ?_
  refine WL.nil ?_
  refine En.next ?_
  refine WC.seq ?_
  refine WC.region ?_
  refine Lt.ofWL.step rfl rfl rfl (OpV.move rfl) ?_
  refine Lt.ofWL.step rfl rfl rfl (OpV.call (evs.cons rfl (evs.cons rfl (evs.cons rfl (evs.nil)))) ca_24 (fun w hs => i_within _ _ _ w)) ?_
  refine Lt.ofWL.step rfl rfl rfl (OpV.assign rfl) ?_
  refine WL.nil ?_
  refine En.next ?_
  refine WC.ret ?_
  refine En.ret1 rfl (Res.tmp rfl) ?_
  intro w' hs
  exact ⟨rfl, hs.below⟩

theorem i_isClock (n : Int) (w : World) :
    Calls Try.prog 27 #[.int .i64 n] w fun e w' => e = .returned (.bool (inR n 1 1000000)) ∧ Ext w w' := by
  refine enter (vs := [_]) Try.func27 rfl rfl rfl rfl ?_
  refine WC.seq ?_
  refine WC.region ?_
  refine Lt.ofWL.step rfl rfl rfl (OpV.assign rfl) ?_
  refine WL.nil ?_
  refine En.next ?_
  refine WC.seq ?_
  refine WC.region ?_
  refine Lt.ofWL.step rfl rfl rfl (OpV.move rfl) ?_
  refine Lt.ofWL.step rfl rfl rfl (OpV.call (evs.cons rfl (evs.cons rfl (evs.cons rfl (evs.nil)))) ca_24 (fun w hs => i_within _ _ _ w)) ?_
  refine Lt.ofWL.step rfl rfl rfl (OpV.assign rfl) ?_
  refine WL.nil ?_
  refine En.next ?_
  refine WC.ret ?_
  refine En.ret1 rfl (Res.tmp rfl) ?_
  intro w' hs
  exact ⟨rfl, hs.below⟩

theorem s_power (p : Int) (w : World) :
    Calls Try.prog 26 #[.int .i64 p] w fun e w' => e = .returned (.bool (pow8 p)) ∧ Ext w w' := by
  refine enter (vs := [_]) Try.func26 rfl rfl rfl rfl ?_
  refine WC.seq ?_
  refine WC.region ?_
  refine Lt.ofWL.step rfl rfl rfl (OpV.assign rfl) ?_
  refine WL.nil ?_
  refine En.next ?_
  refine WC.seq ?_
  refine WC.region ?_
  refine Lt.ofWL.step rfl rfl rfl (OpV.move rfl) ?_
  refine Lt.ofWL.step rfl rfl rfl (OpV.eql rfl rfl) ?_
  refine Lt.ofWL.step rfl rfl rfl (OpV.move rfl) ?_
  refine Lt.ofWL.or 5 8 7 (p := ?pz1) (rest := ?qz1) (B := ?Bz1) rfl ?Tz1 ?Fz1 ?az1 ?bz1 ?cz1 ?dz1 ?ez1
  case Tz1 =>
    intro hc2 hkz1
    refine Lt.ofWL.skip rfl rfl rfl ?_
    refine Lt.ofWL.skip rfl rfl rfl ?_
    refine hkz1 _ ?_
    repeat (first | exact Sub.refl _ | refine Sub.skip rfl ?_)
  case Fz1 =>
    intro hc3 hkz1
    refine Lt.ofWL.step rfl rfl rfl (OpV.move rfl) ?_
    refine Lt.ofWL.step rfl rfl rfl (OpV.eql rfl rfl) ?_
    refine hkz1 _ ?_ ?_
    exact rfl
    repeat (first | exact Sub.refl _ | refine Sub.skip rfl ?_)
  case az1 => exact rfl
  case bz1 => exact rfl
  case cz1 => exact rfl
  case dz1 => exact rfl
  refine Lt.ofWL.step rfl rfl rfl (OpV.move rfl) ?_
  refine Lt.ofWL.or 9 12 11 (p := ?pz4) (rest := ?qz4) (B := ?Bz4) rfl ?Tz4 ?Fz4 ?az4 ?bz4 ?cz4 ?dz4 ?ez4
  case Tz4 =>
    intro hc5 hkz4
    refine Lt.ofWL.skip rfl rfl rfl ?_
    refine Lt.ofWL.skip rfl rfl rfl ?_
    refine hkz4 _ ?_
    repeat (first | exact Sub.refl _ | refine Sub.skip rfl ?_)
  case Fz4 =>
    intro hc6 hkz4
    refine Lt.ofWL.step rfl rfl rfl (OpV.move rfl) ?_
    refine Lt.ofWL.step rfl rfl rfl (OpV.eql rfl rfl) ?_
    refine hkz4 _ ?_ ?_
    exact rfl
    repeat (first | exact Sub.refl _ | refine Sub.skip rfl ?_)
  case az4 => exact rfl
  case bz4 => exact rfl
  case cz4 => exact rfl
  case dz4 => exact rfl
  refine Lt.ofWL.step rfl rfl rfl (OpV.move rfl) ?_
  refine Lt.ofWL.or 13 16 15 (p := ?pz7) (rest := ?qz7) (B := ?Bz7) rfl ?Tz7 ?Fz7 ?az7 ?bz7 ?cz7 ?dz7 ?ez7
  case Tz7 =>
    intro hc8 hkz7
    refine Lt.ofWL.skip rfl rfl rfl ?_
    refine Lt.ofWL.skip rfl rfl rfl ?_
    refine hkz7 _ ?_
    repeat (first | exact Sub.refl _ | refine Sub.skip rfl ?_)
  case Fz7 =>
    intro hc9 hkz7
    refine Lt.ofWL.step rfl rfl rfl (OpV.move rfl) ?_
    refine Lt.ofWL.step rfl rfl rfl (OpV.eql rfl rfl) ?_
    refine hkz7 _ ?_ ?_
    exact rfl
    repeat (first | exact Sub.refl _ | refine Sub.skip rfl ?_)
  case az7 => exact rfl
  case bz7 => exact rfl
  case cz7 => exact rfl
  case dz7 => exact rfl
  refine Lt.ofWL.step rfl rfl rfl (OpV.assign rfl) ?_
  refine WL.nil ?_
  refine En.next ?_
  refine WC.ret ?_
  refine En.ret1 rfl (Res.tmp rfl) ?_
  intro w' hs
  exact ⟨rfl, hs.below⟩

theorem l_toOptions (ov la : Int) (cu pa sl se : Bool) (w : World) :
    Calls Try.prog 12 #[.agg #[.int .i64 ov, .bool cu, .int .i64 la, .bool pa, .bool sl, .bool se]] w fun e w' => e = .returned (.agg #[.int .i64 ov, .bool cu, .int .i64 la, .bool pa, .bool sl, .bool se]) ∧ Ext w w' := by
  refine enter (vs := [_]) Try.func12 rfl rfl rfl rfl ?_
  refine WC.seq ?_
  refine WC.region ?_
  refine WL.heavy rfl rfl rfl (OpH.box rfl rfl ?_)
  intro b0
  refine WL.heavy rfl rfl rfl (OpH.alloc zc_27 ?_)
  intro b1
  refine WL.nil ?_
  refine En.next ?_
  refine WC.seq ?_
  refine WC.region ?_
  refine WL.heavy rfl rfl rfl (OpH.alloc zc_27 ?_)
  intro b2
  refine WL.nil ?_
  refine En.next ?_
  refine WC.seq ?_
  refine WC.region ?_
  refine Lt.ofWL.step rfl rfl rfl (OpV.fieldAddr rfl fo_25_0) ?_
  refine Lt.ofWL.step rfl rfl rfl (OpV.loadBox rfl pt_3 (.tail _ (.tail _ (.head _))) rfl) ?_
  refine Lt.ofWL.step rfl rfl rfl (OpV.fieldAddr rfl fo_27_0) ?_
  refine WL.heavy0 rfl rfl (OpH.store (A := []) rfl rfl rfl ts_3 rfl rfl ?_)
  refine WL.nil ?_
  refine En.next ?_
  refine WC.seq ?_
  refine WC.region ?_
  refine Lt.ofWL.step rfl rfl rfl (OpV.fieldAddr rfl fo_25_1) ?_
  refine Lt.ofWL.step rfl rfl rfl (OpV.loadBox rfl pt_4 (.tail _ (.tail _ (.head _))) rfl) ?_
  refine Lt.ofWL.step rfl rfl rfl (OpV.fieldAddr rfl fo_27_1) ?_
  refine WL.heavy0 rfl rfl (OpH.store (A := []) rfl rfl rfl ts_4 rfl rfl ?_)
  refine WL.nil ?_
  refine En.next ?_
  refine WC.seq ?_
  refine WC.region ?_
  refine Lt.ofWL.step rfl rfl rfl (OpV.fieldAddr rfl fo_25_2) ?_
  refine Lt.ofWL.step rfl rfl rfl (OpV.loadBox rfl pt_3 (.tail _ (.tail _ (.head _))) rfl) ?_
  refine Lt.ofWL.step rfl rfl rfl (OpV.fieldAddr rfl fo_27_2) ?_
  refine WL.heavy0 rfl rfl (OpH.store (A := []) rfl rfl rfl ts_3 rfl rfl ?_)
  refine WL.nil ?_
  refine En.next ?_
  refine WC.seq ?_
  refine WC.region ?_
  refine Lt.ofWL.step rfl rfl rfl (OpV.fieldAddr rfl fo_25_3) ?_
  refine Lt.ofWL.step rfl rfl rfl (OpV.loadBox rfl pt_4 (.tail _ (.tail _ (.head _))) rfl) ?_
  refine Lt.ofWL.step rfl rfl rfl (OpV.fieldAddr rfl fo_27_3) ?_
  refine WL.heavy0 rfl rfl (OpH.store (A := []) rfl rfl rfl ts_4 rfl rfl ?_)
  refine WL.nil ?_
  refine En.next ?_
  refine WC.seq ?_
  refine WC.region ?_
  refine Lt.ofWL.step rfl rfl rfl (OpV.fieldAddr rfl fo_25_4) ?_
  refine Lt.ofWL.step rfl rfl rfl (OpV.loadBox rfl pt_4 (.tail _ (.tail _ (.head _))) rfl) ?_
  refine Lt.ofWL.step rfl rfl rfl (OpV.fieldAddr rfl fo_27_4) ?_
  refine WL.heavy0 rfl rfl (OpH.store (A := []) rfl rfl rfl ts_4 rfl rfl ?_)
  refine WL.nil ?_
  refine En.next ?_
  refine WC.seq ?_
  refine WC.region ?_
  refine Lt.ofWL.step rfl rfl rfl (OpV.fieldAddr rfl fo_25_5) ?_
  refine Lt.ofWL.step rfl rfl rfl (OpV.loadBox rfl pt_4 (.tail _ (.tail _ (.head _))) rfl) ?_
  refine Lt.ofWL.step rfl rfl rfl (OpV.fieldAddr rfl fo_27_5) ?_
  refine WL.heavy0 rfl rfl (OpH.store (A := []) rfl rfl rfl ts_4 rfl rfl ?_)
  refine WL.nil ?_
  refine En.next ?_
  refine WC.seq ?_
  refine WC.region ?_
  refine Lt.ofWL.step rfl rfl rfl (OpV.loadAll rfl (.head _) ag_27) ?_
  refine WL.heavy0 rfl rfl (OpH.store (A := [_]) rfl rfl rfl ts_27 rfl rfl ?_)
  refine WL.nil ?_
  refine En.next ?_
  refine WC.ret ?_
  refine En.ret1 rfl (Res.cell rfl (.tail _ (.head _)) ag_27) ?_
  intro w' hs
  exact ⟨rfl, hs.below⟩

theorem s_OptionsOk (ov la : Int) (cu pa sl se : Bool) (w : World) :
    Calls Try.prog 11 #[.agg #[.int .i64 ov, .bool cu, .int .i64 la, .bool pa, .bool sl, .bool se]] w fun e w' => e = .returned (.bool (inR ov 0 2 && inR la 0 2)) ∧ Ext w w' := by
  refine enter (vs := [_]) Try.func11 rfl rfl rfl rfl ?_
  refine WC.seq ?_
  refine WC.region ?_
  refine WL.heavy rfl rfl rfl (OpH.box rfl rfl ?_)
  intro b0
  refine Lt.ofWL.step rfl rfl rfl (OpV.assign rfl) ?_
  refine WL.nil ?_
  refine En.next ?_
  refine WC.seq ?_
  refine WC.region ?_
  refine Lt.ofWL.step rfl rfl rfl (OpV.fieldAddr rfl fo_27_0) ?_
  refine Lt.ofWL.step rfl rfl rfl (OpV.loadBox rfl pt_3 (.head _) rfl) ?_
  refine Lt.ofWL.step rfl rfl rfl (OpV.call (evs.cons rfl (evs.cons rfl (evs.cons rfl (evs.nil)))) ca_23 (fun w hs => s_in _ _ _ w)) ?_
  refine Lt.ofWL.step rfl rfl rfl (OpV.move rfl) ?_
  refine Lt.ofWL.and 6 10 9 (p := ?pz1) (rest := ?qz1) (B := ?Bz1) rfl ?Tz1 ?Fz1 ?az1 ?bz1 ?cz1 ?dz1 ?ez1
  case Tz1 =>
    intro hc2 hkz1
    refine Lt.ofWL.step rfl rfl rfl (OpV.fieldAddr rfl fo_27_2) ?_
    refine Lt.ofWL.step rfl rfl rfl (OpV.loadBox rfl pt_3 (.head _) rfl) ?_
    refine Lt.ofWL.step rfl rfl rfl (OpV.call (evs.cons rfl (evs.cons rfl (evs.cons rfl (evs.nil)))) ca_23 (fun w hs => s_in _ _ _ w)) ?_
    refine hkz1 _ ?_ ?_
    exact rfl
    repeat (first | exact Sub.refl _ | refine Sub.skip rfl ?_)
  case Fz1 =>
    intro hc3 hkz1
    refine Lt.ofWL.skip rfl rfl rfl ?_
    refine Lt.ofWL.skip rfl rfl rfl ?_
    refine Lt.ofWL.skip rfl rfl rfl ?_
    refine hkz1 _ ?_
    repeat (first | exact Sub.refl _ | refine Sub.skip rfl ?_)
  case az1 => exact rfl
  case bz1 => exact rfl
  case cz1 => exact rfl
  case dz1 => exact rfl
  refine Lt.ofWL.step rfl rfl rfl (OpV.assign rfl) ?_
  refine WL.nil ?_
  refine En.next ?_
  refine WC.ret ?_
  refine En.ret1 rfl (Res.tmp rfl) ?_
  intro w' hs
  exact ⟨rfl, hs.below⟩

theorem i_OptionsOk (ov la : Int) (cu pa sl se : Bool) (w : World) :
    Calls Try.prog 13 #[.agg #[.int .i64 ov, .bool cu, .int .i64 la, .bool pa, .bool sl, .bool se]] w fun e w' => e = .returned (.bool (inR ov 0 2 && inR la 0 2)) ∧ Ext w w' := by
  refine enter (vs := [_]) Try.func13 rfl rfl rfl rfl ?_
  refine WC.seq ?_
  refine WC.region ?_
  refine WL.heavy rfl rfl rfl (OpH.box rfl rfl ?_)
  intro b0
  refine Lt.ofWL.step rfl rfl rfl (OpV.assign rfl) ?_
  refine WL.nil ?_
  refine En.next ?_
  refine WC.seq ?_
  refine WC.region ?_
  refine Lt.ofWL.step rfl rfl rfl (OpV.fieldAddr rfl fo_27_0) ?_
  refine Lt.ofWL.step rfl rfl rfl (OpV.loadBox rfl pt_3 (.head _) rfl) ?_
  refine Lt.ofWL.step rfl rfl rfl (OpV.call (evs.cons rfl (evs.cons rfl (evs.cons rfl (evs.nil)))) ca_24 (fun w hs => i_within _ _ _ w)) ?_
  refine Lt.ofWL.step rfl rfl rfl (OpV.move rfl) ?_
  refine Lt.ofWL.and 6 10 9 (p := ?pz1) (rest := ?qz1) (B := ?Bz1) rfl ?Tz1 ?Fz1 ?az1 ?bz1 ?cz1 ?dz1 ?ez1
  case Tz1 =>
    intro hc2 hkz1
    refine Lt.ofWL.step rfl rfl rfl (OpV.fieldAddr rfl fo_27_2) ?_
    refine Lt.ofWL.step rfl rfl rfl (OpV.loadBox rfl pt_3 (.head _) rfl) ?_
    refine Lt.ofWL.step rfl rfl rfl (OpV.call (evs.cons rfl (evs.cons rfl (evs.cons rfl (evs.nil)))) ca_24 (fun w hs => i_within _ _ _ w)) ?_
    refine hkz1 _ ?_ ?_
    exact rfl
    repeat (first | exact Sub.refl _ | refine Sub.skip rfl ?_)
  case Fz1 =>
    intro hc3 hkz1
    refine Lt.ofWL.skip rfl rfl rfl ?_
    refine Lt.ofWL.skip rfl rfl rfl ?_
    refine Lt.ofWL.skip rfl rfl rfl ?_
    refine hkz1 _ ?_
    repeat (first | exact Sub.refl _ | refine Sub.skip rfl ?_)
  case az1 => exact rfl
  case bz1 => exact rfl
  case cz1 => exact rfl
  case dz1 => exact rfl
  refine Lt.ofWL.step rfl rfl rfl (OpV.assign rfl) ?_
  refine WL.nil ?_
  refine En.next ?_
  refine WC.ret ?_
  refine En.ret1 rfl (Res.tmp rfl) ?_
  intro w' hs
  exact ⟨rfl, hs.below⟩

theorem l_toDivider (n m p : Int) (w : World) :
    Calls Try.prog 17 #[.agg #[.int .i64 n, .int .i64 m, .int .i64 p]] w fun e w' => e = .returned (.agg #[.int .i64 n, .int .i64 m, .int .i64 p]) ∧ Ext w w' := by
  refine enter (vs := [_]) Try.func17 rfl rfl rfl rfl ?_
  refine WC.seq ?_
  refine WC.region ?_
  refine WL.heavy rfl rfl rfl (OpH.box rfl rfl ?_)
  intro b0
  refine WL.heavy rfl rfl rfl (OpH.alloc zc_35 ?_)
  intro b1
  refine WL.nil ?_
  refine En.next ?_
  refine WC.seq ?_
  refine WC.region ?_
  refine WL.heavy rfl rfl rfl (OpH.alloc zc_35 ?_)
  intro b2
  refine WL.nil ?_
  refine En.next ?_
  refine WC.seq ?_
  refine WC.region ?_
  refine Lt.ofWL.step rfl rfl rfl (OpV.fieldAddr rfl fo_33_0) ?_
  refine Lt.ofWL.step rfl rfl rfl (OpV.loadBox rfl pt_3 (.tail _ (.tail _ (.head _))) rfl) ?_
  refine Lt.ofWL.step rfl rfl rfl (OpV.fieldAddr rfl fo_35_0) ?_
  refine WL.heavy0 rfl rfl (OpH.store (A := []) rfl rfl rfl ts_3 rfl rfl ?_)
  refine WL.nil ?_
  refine En.next ?_
  refine WC.seq ?_
  refine WC.region ?_
  refine Lt.ofWL.step rfl rfl rfl (OpV.fieldAddr rfl fo_33_1) ?_
  refine Lt.ofWL.step rfl rfl rfl (OpV.loadBox rfl pt_3 (.tail _ (.tail _ (.head _))) rfl) ?_
  refine Lt.ofWL.step rfl rfl rfl (OpV.fieldAddr rfl fo_35_1) ?_
  refine WL.heavy0 rfl rfl (OpH.store (A := []) rfl rfl rfl ts_3 rfl rfl ?_)
  refine WL.nil ?_
  refine En.next ?_
  refine WC.seq ?_
  refine WC.region ?_
  refine Lt.ofWL.step rfl rfl rfl (OpV.fieldAddr rfl fo_33_2) ?_
  refine Lt.ofWL.step rfl rfl rfl (OpV.loadBox rfl pt_3 (.tail _ (.tail _ (.head _))) rfl) ?_
  refine Lt.ofWL.step rfl rfl rfl (OpV.fieldAddr rfl fo_35_2) ?_
  refine WL.heavy0 rfl rfl (OpH.store (A := []) rfl rfl rfl ts_3 rfl rfl ?_)
  refine WL.nil ?_
  refine En.next ?_
  refine WC.seq ?_
  refine WC.region ?_
  refine Lt.ofWL.step rfl rfl rfl (OpV.loadAll rfl (.head _) ag_35) ?_
  refine WL.heavy0 rfl rfl (OpH.store (A := [_]) rfl rfl rfl ts_35 rfl rfl ?_)
  refine WL.nil ?_
  refine En.next ?_
  refine WC.ret ?_
  refine En.ret1 rfl (Res.cell rfl (.tail _ (.head _)) ag_35) ?_
  intro w' hs
  exact ⟨rfl, hs.below⟩

theorem s_PacketLength (kind dots : Int) (w : World) :
    Calls Try.prog 14 #[.int .i64 kind, .int .i64 dots] w fun e w' => e = .returned (.int .i64 (pktLen kind dots)) ∧ Ext w w' := by
  refine enter (vs := [_, _]) Try.func14 rfl rfl rfl rfl ?_
  refine WC.seq ?_
  refine WC.region ?_
  refine Lt.ofWL.step rfl rfl rfl (OpV.assign rfl) ?_
  refine WL.nil ?_
  refine En.next ?_
  refine WC.seq ?_
  refine WC.seq ?_
  refine WC.region ?_
  refine Lt.ofWL.step rfl rfl rfl (OpV.move rfl) ?_
  refine Lt.ofWL.step rfl rfl rfl (OpV.eql rfl rfl) ?_
  refine Lt.ofWL.step rfl rfl rfl (OpV.move rfl) ?_
  refine Lt.ofWL.and 7 10 9 (p := ?pz1) (rest := ?qz1) (B := ?Bz1) rfl ?Tz1 ?Fz1 ?az1 ?bz1 ?cz1 ?dz1 ?ez1
  case Tz1 =>
    intro hc2 hkz1
    refine Lt.ofWL.step rfl rfl rfl (OpV.move rfl) ?_
    refine Lt.ofWL.step rfl rfl rfl (OpV.call (evs.cons rfl (evs.cons rfl (evs.cons rfl (evs.nil)))) ca_23 (fun w hs => s_in _ _ _ w)) ?_
    refine hkz1 _ ?_ ?_
    exact rfl
    repeat (first | exact Sub.refl _ | refine Sub.skip rfl ?_)
  case Fz1 =>
    intro hc3 hkz1
    refine Lt.ofWL.skip rfl rfl rfl ?_
    refine Lt.ofWL.skip rfl rfl rfl ?_
    refine hkz1 _ ?_
    repeat (first | exact Sub.refl _ | refine Sub.skip rfl ?_)
  case az1 => exact rfl
  case bz1 => exact rfl
  case cz1 => exact rfl
  case dz1 => exact rfl
  refine Lt.ofWL.step rfl rfl rfl (OpV.move rfl) ?_
  refine Lt.ofWL.or 11 22 21 (p := ?pz4) (rest := ?qz4) (B := ?Bz4) rfl ?Tz4 ?Fz4 ?az4 ?bz4 ?cz4 ?dz4 ?ez4
  case Tz4 =>
    intro hc5 hkz4
    refine Lt.ofWL.skip rfl rfl rfl ?_
    refine Lt.ofWL.skip rfl rfl rfl ?_
    refine Lt.ofWL.skip rfl rfl rfl ?_
    refine Lt.ofWL.skip rfl rfl rfl ?_
    refine Lt.ofWL.skip rfl rfl rfl ?_
    refine Lt.ofWL.skip rfl rfl rfl ?_
    refine Lt.ofWL.skip rfl rfl rfl ?_
    refine Lt.ofWL.skip rfl rfl rfl ?_
    refine Lt.ofWL.skip rfl rfl rfl ?_
    refine Lt.ofWL.skip rfl rfl rfl ?_
    refine hkz4 _ ?_
    repeat (first | exact Sub.refl _ | refine Sub.skip rfl ?_)
  case Fz4 =>
    intro hc6 hkz4
    refine Lt.ofWL.step rfl rfl rfl (OpV.move rfl) ?_
    refine Lt.ofWL.step rfl rfl rfl (OpV.eql rfl rfl) ?_
    refine Lt.ofWL.step rfl rfl rfl (OpV.move rfl) ?_
    refine Lt.ofWL.or 14 17 16 (p := ?pz7) (rest := ?qz7) (B := ?Bz7) rfl ?Tz7 ?Fz7 ?az7 ?bz7 ?cz7 ?dz7 ?ez7
    case Tz7 =>
      intro hc8 hkz7
      refine Lt.ofWL.skip rfl rfl rfl ?_
      refine Lt.ofWL.skip rfl rfl rfl ?_
      refine hkz7 _ ?_
      repeat (first | exact Sub.refl _ | refine Sub.skip rfl ?_)
    case Fz7 =>
      intro hc9 hkz7
      refine Lt.ofWL.step rfl rfl rfl (OpV.move rfl) ?_
      refine Lt.ofWL.step rfl rfl rfl (OpV.eql rfl rfl) ?_
      refine hkz7 _ ?_ ?_
      exact rfl
      repeat (first | exact Sub.refl _ | refine Sub.skip rfl ?_)
    case az7 => exact rfl
    case bz7 => exact rfl
    case cz7 => exact rfl
    case dz7 => exact rfl
    refine Lt.ofWL.step rfl rfl rfl (OpV.move rfl) ?_
    refine Lt.ofWL.and 18 21 20 (p := ?pz10) (rest := ?qz10) (B := ?Bz10) rfl ?Tz10 ?Fz10 ?az10 ?bz10 ?cz10 ?dz10 ?ez10
    case Tz10 =>
      intro hc11 hkz10
      refine Lt.ofWL.step rfl rfl rfl (OpV.move rfl) ?_
      refine Lt.ofWL.step rfl rfl rfl (OpV.eql rfl rfl) ?_
      refine hkz10 _ ?_ ?_
      exact rfl
      repeat (first | exact Sub.refl _ | refine Sub.skip rfl ?_)
    case Fz10 =>
      intro hc12 hkz10
      refine Lt.ofWL.skip rfl rfl rfl ?_
      refine Lt.ofWL.skip rfl rfl rfl ?_
      refine hkz10 _ ?_
      repeat (first | exact Sub.refl _ | refine Sub.skip rfl ?_)
    case az10 => exact rfl
    case bz10 => exact rfl
    case cz10 => exact rfl
    case dz10 => exact rfl
    refine hkz4 _ ?_ ?_
    exact rfl
    repeat (first | exact Sub.refl _ | refine Sub.skip rfl ?_)
  case az4 => exact rfl
  case bz4 => exact rfl
  case cz4 => exact rfl
  case dz4 => exact rfl
  refine WL.nil ?_
  refine En.next ?_
  refine WC.cond rfl ?_ ?_
  ·
    intro hc13
    refine WC.seq ?_
    refine WC.region ?_
    refine Lt.ofWL.step rfl rfl rfl (OpV.move rfl) ?_
    refine Lt.ofWL.step rfl rfl rfl (OpV.mulW rfl rfl) ?_
    refine Lt.ofWL.step rfl rfl rfl (OpV.addW rfl rfl) ?_
    refine Lt.ofWL.step rfl rfl rfl (OpV.assign rfl) ?_
    refine WL.nil ?_
    refine En.next ?_
    refine WC.ret ?_
    refine En.then_ret ?_
    refine En.ret1 rfl (Res.tmp rfl) ?_
    intro w' hs
    refine ⟨congrArg _ (congrArg _ ?_), hs.below⟩
    unfold pktLen
    simp [inR] at *
    first
      | (have e1 : IntKind.i64.wrap (5 * dots) = 5 * dots := I64.wrap ⟨by omega, by omega⟩
         rw [e1, I64.wrap ⟨by omega, by omega⟩]; (repeat' split) <;> omega)
      | ((repeat' split) <;> omega)
  ·
    intro hc13
    refine WC.skip ?_
    refine En.next ?_
    refine WC.seq ?_
    refine WC.region ?_
    refine Lt.ofWL.step rfl rfl rfl (OpV.assign rfl) ?_
    refine WL.nil ?_
    refine En.next ?_
    refine WC.ret ?_
    refine En.ret1 rfl (Res.tmp rfl) ?_
    intro w' hs
    refine ⟨congrArg _ (congrArg _ ?_), hs.below⟩
    unfold pktLen
    simp [inR] at *
    first
      | (have e1 : IntKind.i64.wrap (5 * dots) = 5 * dots := I64.wrap ⟨by omega, by omega⟩
         rw [e1, I64.wrap ⟨by omega, by omega⟩]; (repeat' split) <;> omega)
      | ((repeat' split) <;> omega)

theorem i_PacketLength (kind dots : Int) (w : World) :
    Calls Try.prog 15 #[.int .i64 kind, .int .i64 dots] w fun e w' => e = .returned (.int .i64 (pktLen kind dots)) ∧ Ext w w' := by
  refine enter (vs := [_, _]) Try.func15 rfl rfl rfl rfl ?_
  refine WC.seq ?_
  refine WC.region ?_
  refine Lt.ofWL.step rfl rfl rfl (OpV.assign rfl) ?_
  refine WL.nil ?_
  refine En.next ?_
  refine WC.seq ?_
  refine WC.block ?_
  refine WC.seq ?_
  refine WC.region ?_
  refine Lt.ofWL.step rfl rfl rfl (OpV.move rfl) ?_
  refine Lt.ofWL.step rfl rfl rfl (OpV.eql rfl rfl) ?_
  refine Lt.ofWL.step rfl rfl rfl (OpV.move rfl) ?_
  refine Lt.ofWL.and 8 11 10 (p := ?pz1) (rest := ?qz1) (B := ?Bz1) rfl ?Tz1 ?Fz1 ?az1 ?bz1 ?cz1 ?dz1 ?ez1
  case Tz1 =>
    intro hc2 hkz1
    refine Lt.ofWL.step rfl rfl rfl (OpV.move rfl) ?_
    refine Lt.ofWL.step rfl rfl rfl (OpV.call (evs.cons rfl (evs.nil)) ca_25 (fun w hs => i_isSide _ w)) ?_
    refine hkz1 _ ?_ ?_
    exact rfl
    repeat (first | exact Sub.refl _ | refine Sub.skip rfl ?_)
  case Fz1 =>
    intro hc3 hkz1
    refine Lt.ofWL.skip rfl rfl rfl ?_
    refine Lt.ofWL.skip rfl rfl rfl ?_
    refine hkz1 _ ?_
    repeat (first | exact Sub.refl _ | refine Sub.skip rfl ?_)
  case az1 => exact rfl
  case bz1 => exact rfl
  case cz1 => exact rfl
  case dz1 => exact rfl
  refine Lt.ofWL.step rfl rfl rfl (OpV.assign rfl) ?_
  refine WL.nil ?_
  refine En.next ?_
  refine WC.cond rfl ?_ ?_
  ·
    intro hc4
    refine WC.seq ?_
    refine WC.region ?_
    refine Lt.ofWL.step rfl rfl rfl (OpV.move rfl) ?_
    refine Lt.ofWL.step rfl rfl rfl (OpV.mulW rfl rfl) ?_
    refine Lt.ofWL.step rfl rfl rfl (OpV.addW rfl rfl) ?_
    refine Lt.ofWL.step rfl rfl rfl (OpV.assign rfl) ?_
    refine WL.nil ?_
    refine En.next ?_
    refine WC.ret ?_
    refine En.block_ret ?_
    refine En.then_ret ?_
    refine En.ret1 rfl (Res.tmp rfl) ?_
    intro w' hs
    refine ⟨congrArg _ (congrArg _ ?_), hs.below⟩
    unfold pktLen
    simp [inR] at *
    first
      | (have e1 : IntKind.i64.wrap (5 * dots) = 5 * dots := I64.wrap ⟨by omega, by omega⟩
         rw [e1, I64.wrap ⟨by omega, by omega⟩]; (repeat' split) <;> omega)
      | ((repeat' split) <;> omega)
  ·
    intro hc4
    refine WC.seq ?_
    refine WC.region ?_
    refine Lt.ofWL.step rfl rfl rfl (OpV.move rfl) ?_
    refine Lt.ofWL.step rfl rfl rfl (OpV.eql rfl rfl) ?_
    refine Lt.ofWL.step rfl rfl rfl (OpV.move rfl) ?_
    refine Lt.ofWL.or 18 21 20 (p := ?pz5) (rest := ?qz5) (B := ?Bz5) rfl ?Tz5 ?Fz5 ?az5 ?bz5 ?cz5 ?dz5 ?ez5
    case Tz5 =>
      intro hc6 hkz5
      refine Lt.ofWL.skip rfl rfl rfl ?_
      refine Lt.ofWL.skip rfl rfl rfl ?_
      refine hkz5 _ ?_
      repeat (first | exact Sub.refl _ | refine Sub.skip rfl ?_)
    case Fz5 =>
      intro hc7 hkz5
      refine Lt.ofWL.step rfl rfl rfl (OpV.move rfl) ?_
      refine Lt.ofWL.step rfl rfl rfl (OpV.eql rfl rfl) ?_
      refine hkz5 _ ?_ ?_
      exact rfl
      repeat (first | exact Sub.refl _ | refine Sub.skip rfl ?_)
    case az5 => exact rfl
    case bz5 => exact rfl
    case cz5 => exact rfl
    case dz5 => exact rfl
    refine Lt.ofWL.step rfl rfl rfl (OpV.move rfl) ?_
    refine Lt.ofWL.and 22 25 24 (p := ?pz8) (rest := ?qz8) (B := ?Bz8) rfl ?Tz8 ?Fz8 ?az8 ?bz8 ?cz8 ?dz8 ?ez8
    case Tz8 =>
      intro hc9 hkz8
      refine Lt.ofWL.step rfl rfl rfl (OpV.move rfl) ?_
      refine Lt.ofWL.step rfl rfl rfl (OpV.eql rfl rfl) ?_
      refine hkz8 _ ?_ ?_
      exact rfl
      repeat (first | exact Sub.refl _ | refine Sub.skip rfl ?_)
    case Fz8 =>
      intro hc10 hkz8
      refine Lt.ofWL.skip rfl rfl rfl ?_
      refine Lt.ofWL.skip rfl rfl rfl ?_
      refine hkz8 _ ?_
      repeat (first | exact Sub.refl _ | refine Sub.skip rfl ?_)
    case az8 => exact rfl
    case bz8 => exact rfl
    case cz8 => exact rfl
    case dz8 => exact rfl
    refine Lt.ofWL.step rfl rfl rfl (OpV.assign rfl) ?_
    refine WL.nil ?_
    refine En.next ?_
    refine WC.cond rfl ?_ ?_
    ·
      intro hc11
      refine WC.seq ?_
      refine WC.region ?_
      refine Lt.ofWL.step rfl rfl rfl (OpV.assign rfl) ?_
      refine WL.nil ?_
      refine En.next ?_
      refine WC.ret ?_
      refine En.block_ret ?_
      refine En.then_ret ?_
      refine En.ret1 rfl (Res.tmp rfl) ?_
      intro w' hs
      refine ⟨congrArg _ (congrArg _ ?_), hs.below⟩
      unfold pktLen
      simp [inR] at *
      first
        | (have e1 : IntKind.i64.wrap (5 * dots) = 5 * dots := I64.wrap ⟨by omega, by omega⟩
           rw [e1, I64.wrap ⟨by omega, by omega⟩]; (repeat' split) <;> omega)
        | ((repeat' split) <;> omega)
    ·
      intro hc11
      refine WC.skip ?_
      refine En.block_norm ?_
      refine En.next ?_
      refine WC.seq ?_
      refine WC.region ?_
      refine Lt.ofWL.step rfl rfl rfl (OpV.assign rfl) ?_
      refine WL.nil ?_
      refine En.next ?_
      refine WC.ret ?_
      refine En.ret1 rfl (Res.tmp rfl) ?_
      intro w' hs
      refine ⟨congrArg _ (congrArg _ ?_), hs.below⟩
      unfold pktLen
      simp [inR] at *
      first
        | (have e1 : IntKind.i64.wrap (5 * dots) = 5 * dots := I64.wrap ⟨by omega, by omega⟩
           rw [e1, I64.wrap ⟨by omega, by omega⟩]; (repeat' split) <;> omega)
        | ((repeat' split) <;> omega)

theorem s_DividerOk (n m p r lo hi : Int) (w : World) :
    Calls Try.prog 16 #[.agg #[.int .i64 n, .int .i64 m, .int .i64 p], .int .i64 r, .int .i64 lo, .int .i64 hi] w fun e w' => e = .returned (.bool (divOk n m p r lo hi)) ∧ Ext w w' := by
  refine enter (vs := [_, _, _, _]) Try.func16 rfl rfl rfl rfl ?_
  refine WC.seq ?_
  refine WC.region ?_
  refine WL.heavy rfl rfl rfl (OpH.box rfl rfl ?_)
  intro b0
  refine Lt.ofWL.step rfl rfl rfl (OpV.assign rfl) ?_
  refine WL.nil ?_
  refine En.next ?_
  refine WC.seq ?_
  refine WC.seq ?_
  refine WC.region ?_
  refine Lt.ofWL.step rfl rfl rfl (OpV.fieldAddr rfl fo_35_0) ?_
  refine Lt.ofWL.step rfl rfl rfl (OpV.loadBox rfl pt_3 (.head _) rfl) ?_
  refine Lt.ofWL.step rfl rfl rfl (OpV.call (evs.cons rfl (evs.cons rfl (evs.cons rfl (evs.nil)))) ca_23 (fun w hs => s_in _ _ _ w)) ?_
  refine Lt.ofWL.step rfl rfl rfl (OpV.not rfl) ?_
  refine Lt.ofWL.step rfl rfl rfl (OpV.move rfl) ?_
  refine Lt.ofWL.or 13 18 17 (p := ?pz1) (rest := ?qz1) (B := ?Bz1) rfl ?Tz1 ?Fz1 ?az1 ?bz1 ?cz1 ?dz1 ?ez1
  case Tz1 =>
    intro hc2 hkz1
    refine Lt.ofWL.skip rfl rfl rfl ?_
    refine Lt.ofWL.skip rfl rfl rfl ?_
    refine Lt.ofWL.skip rfl rfl rfl ?_
    refine Lt.ofWL.skip rfl rfl rfl ?_
    refine hkz1 _ ?_
    repeat (first | exact Sub.refl _ | refine Sub.skip rfl ?_)
  case Fz1 =>
    intro hc3 hkz1
    refine Lt.ofWL.step rfl rfl rfl (OpV.fieldAddr rfl fo_35_1) ?_
    refine Lt.ofWL.step rfl rfl rfl (OpV.loadBox rfl pt_3 (.head _) rfl) ?_
    refine Lt.ofWL.step rfl rfl rfl (OpV.call (evs.cons rfl (evs.cons rfl (evs.cons rfl (evs.nil)))) ca_23 (fun w hs => s_in _ _ _ w)) ?_
    refine Lt.ofWL.step rfl rfl rfl (OpV.not rfl) ?_
    refine hkz1 _ ?_ ?_
    exact rfl
    repeat (first | exact Sub.refl _ | refine Sub.skip rfl ?_)
  case az1 => exact rfl
  case bz1 => exact rfl
  case cz1 => exact rfl
  case dz1 => exact rfl
  refine Lt.ofWL.step rfl rfl rfl (OpV.move rfl) ?_
  refine Lt.ofWL.or 19 24 23 (p := ?pz4) (rest := ?qz4) (B := ?Bz4) rfl ?Tz4 ?Fz4 ?az4 ?bz4 ?cz4 ?dz4 ?ez4
  case Tz4 =>
    intro hc5 hkz4
    refine Lt.ofWL.skip rfl rfl rfl ?_
    refine Lt.ofWL.skip rfl rfl rfl ?_
    refine Lt.ofWL.skip rfl rfl rfl ?_
    refine Lt.ofWL.skip rfl rfl rfl ?_
    refine hkz4 _ ?_
    repeat (first | exact Sub.refl _ | refine Sub.skip rfl ?_)
  case Fz4 =>
    intro hc6 hkz4
    refine Lt.ofWL.step rfl rfl rfl (OpV.fieldAddr rfl fo_35_2) ?_
    refine Lt.ofWL.step rfl rfl rfl (OpV.loadBox rfl pt_3 (.head _) rfl) ?_
    refine Lt.ofWL.step rfl rfl rfl (OpV.call (evs.cons rfl (evs.nil)) ca_26 (fun w hs => s_power _ w)) ?_
    refine Lt.ofWL.step rfl rfl rfl (OpV.not rfl) ?_
    refine hkz4 _ ?_ ?_
    exact rfl
    repeat (first | exact Sub.refl _ | refine Sub.skip rfl ?_)
  case az4 => exact rfl
  case bz4 => exact rfl
  case cz4 => exact rfl
  case dz4 => exact rfl
  refine Lt.ofWL.step rfl rfl rfl (OpV.move rfl) ?_
  refine Lt.ofWL.or 25 29 28 (p := ?pz7) (rest := ?qz7) (B := ?Bz7) rfl ?Tz7 ?Fz7 ?az7 ?bz7 ?cz7 ?dz7 ?ez7
  case Tz7 =>
    intro hc8 hkz7
    refine Lt.ofWL.skip rfl rfl rfl ?_
    refine Lt.ofWL.skip rfl rfl rfl ?_
    refine Lt.ofWL.skip rfl rfl rfl ?_
    refine hkz7 _ ?_
    repeat (first | exact Sub.refl _ | refine Sub.skip rfl ?_)
  case Fz7 =>
    intro hc9 hkz7
    refine Lt.ofWL.step rfl rfl rfl (OpV.move rfl) ?_
    refine Lt.ofWL.step rfl rfl rfl (OpV.call (evs.cons rfl (evs.cons rfl (evs.cons rfl (evs.nil)))) ca_23 (fun w hs => s_in _ _ _ w)) ?_
    refine Lt.ofWL.step rfl rfl rfl (OpV.not rfl) ?_
    refine hkz7 _ ?_ ?_
    exact rfl
    repeat (first | exact Sub.refl _ | refine Sub.skip rfl ?_)
  case az7 => exact rfl
  case bz7 => exact rfl
  case cz7 => exact rfl
  case dz7 => exact rfl
  refine Lt.ofWL.step rfl rfl rfl (OpV.move rfl) ?_
  refine Lt.ofWL.or 30 34 33 (p := ?pz10) (rest := ?qz10) (B := ?Bz10) rfl ?Tz10 ?Fz10 ?az10 ?bz10 ?cz10 ?dz10 ?ez10
  case Tz10 =>
    intro hc11 hkz10
    refine Lt.ofWL.skip rfl rfl rfl ?_
    refine Lt.ofWL.skip rfl rfl rfl ?_
    refine Lt.ofWL.skip rfl rfl rfl ?_
    refine hkz10 _ ?_
    repeat (first | exact Sub.refl _ | refine Sub.skip rfl ?_)
  case Fz10 =>
    intro hc12 hkz10
    refine Lt.ofWL.step rfl rfl rfl (OpV.move rfl) ?_
    refine Lt.ofWL.step rfl rfl rfl (OpV.call (evs.cons rfl (evs.cons rfl (evs.cons rfl (evs.nil)))) ca_23 (fun w hs => s_in _ _ _ w)) ?_
    refine Lt.ofWL.step rfl rfl rfl (OpV.not rfl) ?_
    refine hkz10 _ ?_ ?_
    exact rfl
    repeat (first | exact Sub.refl _ | refine Sub.skip rfl ?_)
  case az10 => exact rfl
  case bz10 => exact rfl
  case cz10 => exact rfl
  case dz10 => exact rfl
  refine Lt.ofWL.step rfl rfl rfl (OpV.move rfl) ?_
  refine Lt.ofWL.or 35 39 38 (p := ?pz13) (rest := ?qz13) (B := ?Bz13) rfl ?Tz13 ?Fz13 ?az13 ?bz13 ?cz13 ?dz13 ?ez13
  case Tz13 =>
    intro hc14 hkz13
    refine Lt.ofWL.skip rfl rfl rfl ?_
    refine Lt.ofWL.skip rfl rfl rfl ?_
    refine Lt.ofWL.skip rfl rfl rfl ?_
    refine hkz13 _ ?_
    repeat (first | exact Sub.refl _ | refine Sub.skip rfl ?_)
  case Fz13 =>
    intro hc15 hkz13
    refine Lt.ofWL.step rfl rfl rfl (OpV.move rfl) ?_
    refine Lt.ofWL.step rfl rfl rfl (OpV.call (evs.cons rfl (evs.cons rfl (evs.cons rfl (evs.nil)))) ca_23 (fun w hs => s_in _ _ _ w)) ?_
    refine Lt.ofWL.step rfl rfl rfl (OpV.not rfl) ?_
    refine hkz13 _ ?_ ?_
    exact rfl
    repeat (first | exact Sub.refl _ | refine Sub.skip rfl ?_)
  case az13 => exact rfl
  case bz13 => exact rfl
  case cz13 => exact rfl
  case dz13 => exact rfl
  refine WL.nil ?_
  refine En.next ?_
  refine WC.cond rfl ?_ ?_
  ·
    intro hc16
    refine WC.seq ?_
    refine WC.region ?_
    refine Lt.ofWL.step rfl rfl rfl (OpV.assign rfl) ?_
    refine WL.nil ?_
    refine En.next ?_
    refine WC.ret ?_
    refine En.then_ret ?_
    refine En.ret1 rfl (Res.tmp rfl) ?_
    intro w' hs
    refine ⟨congrArg _ (congrArg _ ?_), hs.below⟩
    unfold divOk w64
    revert hc16
    generalize inR n 4 64 = a1
    generalize inR m 1 8 = a2
    generalize pow8 p = a3
    generalize inR r 1 1000000 = a4
    generalize inR lo 1 1000000 = a5
    generalize inR hi 1 1000000 = a6
    cases a1 <;> cases a2 <;> cases a3 <;> cases a4 <;> cases a5 <;> cases a6 <;> simp
  ·
    intro hc16
    refine WC.skip ?_
    refine En.next ?_
    refine WC.seq ?_
    refine WC.region ?_
    refine Lt.ofWL.step rfl rfl rfl (OpV.move rfl) ?_
    refine Lt.ofWL.step rfl rfl rfl (OpV.fieldAddr rfl fo_35_1) ?_
    refine Lt.ofWL.step rfl rfl rfl (OpV.loadBox rfl pt_3 (.head _) rfl) ?_
    refine Lt.ofWL.step rfl rfl rfl (OpV.mulW rfl rfl) ?_
    refine Lt.ofWL.step rfl rfl rfl (OpV.move rfl) ?_
    refine Lt.ofWL.step rfl rfl rfl (OpV.fieldAddr rfl fo_35_0) ?_
    refine Lt.ofWL.step rfl rfl rfl (OpV.loadBox rfl pt_3 (.head _) rfl) ?_
    refine Lt.ofWL.step rfl rfl rfl (OpV.mulW rfl rfl) ?_
    refine Lt.ofWL.step rfl rfl rfl (OpV.leq rfl rfl) ?_
    refine Lt.ofWL.step rfl rfl rfl (OpV.move rfl) ?_
    refine Lt.ofWL.and 49 59 58 (p := ?pz17) (rest := ?qz17) (B := ?Bz17) rfl ?Tz17 ?Fz17 ?az17 ?bz17 ?cz17 ?dz17 ?ez17
    case Tz17 =>
      intro hc18 hkz17
      refine Lt.ofWL.step rfl rfl rfl (OpV.move rfl) ?_
      refine Lt.ofWL.step rfl rfl rfl (OpV.fieldAddr rfl fo_35_0) ?_
      refine Lt.ofWL.step rfl rfl rfl (OpV.loadBox rfl pt_3 (.head _) rfl) ?_
      refine Lt.ofWL.step rfl rfl rfl (OpV.mulW rfl rfl) ?_
      refine Lt.ofWL.step rfl rfl rfl (OpV.move rfl) ?_
      refine Lt.ofWL.step rfl rfl rfl (OpV.fieldAddr rfl fo_35_1) ?_
      refine Lt.ofWL.step rfl rfl rfl (OpV.loadBox rfl pt_3 (.head _) rfl) ?_
      refine Lt.ofWL.step rfl rfl rfl (OpV.mulW rfl rfl) ?_
      refine Lt.ofWL.step rfl rfl rfl (OpV.leq rfl rfl) ?_
      refine hkz17 _ ?_ ?_
      exact rfl
      repeat (first | exact Sub.refl _ | refine Sub.skip rfl ?_)
    case Fz17 =>
      intro hc19 hkz17
      refine Lt.ofWL.skip rfl rfl rfl ?_
      refine Lt.ofWL.skip rfl rfl rfl ?_
      refine Lt.ofWL.skip rfl rfl rfl ?_
      refine Lt.ofWL.skip rfl rfl rfl ?_
      refine Lt.ofWL.skip rfl rfl rfl ?_
      refine Lt.ofWL.skip rfl rfl rfl ?_
      refine Lt.ofWL.skip rfl rfl rfl ?_
      refine Lt.ofWL.skip rfl rfl rfl ?_
      refine Lt.ofWL.skip rfl rfl rfl ?_
      refine hkz17 _ ?_
      repeat (first | exact Sub.refl _ | refine Sub.skip rfl ?_)
    case az17 => exact rfl
    case bz17 => exact rfl
    case cz17 => exact rfl
    case dz17 => exact rfl
    refine Lt.ofWL.step rfl rfl rfl (OpV.assign rfl) ?_
    refine WL.nil ?_
    refine En.next ?_
    refine WC.ret ?_
    refine En.ret1 rfl (Res.tmp rfl) ?_
    intro w' hs
    refine ⟨congrArg _ (congrArg _ ?_), hs.below⟩
    unfold divOk w64
    revert hc16
    generalize inR n 4 64 = a1
    generalize inR m 1 8 = a2
    generalize pow8 p = a3
    generalize inR r 1 1000000 = a4
    generalize inR lo 1 1000000 = a5
    generalize inR hi 1 1000000 = a6
    cases a1 <;> cases a2 <;> cases a3 <;> cases a4 <;> cases a5 <;> cases a6 <;> simp

theorem i_DividerOk (n m p r lo hi : Int) (w : World) :
    Calls Try.prog 18 #[.agg #[.int .i64 n, .int .i64 m, .int .i64 p], .int .i64 r, .int .i64 lo, .int .i64 hi] w fun e w' => e = .returned (.bool (divOk n m p r lo hi)) ∧ Ext w w' := by
  refine enter (vs := [_, _, _, _]) Try.func18 rfl rfl rfl rfl ?_
  refine WC.seq ?_
  refine WC.region ?_
  refine WL.heavy rfl rfl rfl (OpH.box rfl rfl ?_)
  intro b0
  refine Lt.ofWL.step rfl rfl rfl (OpV.assign rfl) ?_
  refine WL.nil ?_
  refine En.next ?_
  refine WC.seq ?_
  refine WC.region ?_
  refine Lt.ofWL.step rfl rfl rfl (OpV.fieldAddr rfl fo_35_0) ?_
  refine Lt.ofWL.step rfl rfl rfl (OpV.loadBox rfl pt_3 (.head _) rfl) ?_
  refine Lt.ofWL.step rfl rfl rfl (OpV.call (evs.cons rfl (evs.cons rfl (evs.cons rfl (evs.nil)))) ca_24 (fun w hs => i_within _ _ _ w)) ?_
  refine Lt.ofWL.step rfl rfl rfl (OpV.move rfl) ?_
  refine Lt.ofWL.and 12 16 15 (p := ?pz1) (rest := ?qz1) (B := ?Bz1) rfl ?Tz1 ?Fz1 ?az1 ?bz1 ?cz1 ?dz1 ?ez1
  case Tz1 =>
    intro hc2 hkz1
    refine Lt.ofWL.step rfl rfl rfl (OpV.fieldAddr rfl fo_35_1) ?_
    refine Lt.ofWL.step rfl rfl rfl (OpV.loadBox rfl pt_3 (.head _) rfl) ?_
    refine Lt.ofWL.step rfl rfl rfl (OpV.call (evs.cons rfl (evs.cons rfl (evs.cons rfl (evs.nil)))) ca_24 (fun w hs => i_within _ _ _ w)) ?_
    refine hkz1 _ ?_ ?_
    exact rfl
    repeat (first | exact Sub.refl _ | refine Sub.skip rfl ?_)
  case Fz1 =>
    intro hc3 hkz1
    refine Lt.ofWL.skip rfl rfl rfl ?_
    refine Lt.ofWL.skip rfl rfl rfl ?_
    refine Lt.ofWL.skip rfl rfl rfl ?_
    refine hkz1 _ ?_
    repeat (first | exact Sub.refl _ | refine Sub.skip rfl ?_)
  case az1 => exact rfl
  case bz1 => exact rfl
  case cz1 => exact rfl
  case dz1 => exact rfl
  refine Lt.ofWL.step rfl rfl rfl (OpV.move rfl) ?_
  refine Lt.ofWL.and 17 36 35 (p := ?pz4) (rest := ?qz4) (B := ?Bz4) rfl ?Tz4 ?Fz4 ?az4 ?bz4 ?cz4 ?dz4 ?ez4
  case Tz4 =>
    intro hc5 hkz4
    refine Lt.ofWL.step rfl rfl rfl (OpV.fieldAddr rfl fo_35_2) ?_
    refine Lt.ofWL.step rfl rfl rfl (OpV.loadBox rfl pt_3 (.head _) rfl) ?_
    refine Lt.ofWL.step rfl rfl rfl (OpV.eql rfl rfl) ?_
    refine Lt.ofWL.step rfl rfl rfl (OpV.move rfl) ?_
    refine Lt.ofWL.or 21 25 24 (p := ?pz6) (rest := ?qz6) (B := ?Bz6) rfl ?Tz6 ?Fz6 ?az6 ?bz6 ?cz6 ?dz6 ?ez6
    case Tz6 =>
      intro hc7 hkz6
      refine Lt.ofWL.skip rfl rfl rfl ?_
      refine Lt.ofWL.skip rfl rfl rfl ?_
      refine Lt.ofWL.skip rfl rfl rfl ?_
      refine hkz6 _ ?_
      repeat (first | exact Sub.refl _ | refine Sub.skip rfl ?_)
    case Fz6 =>
      intro hc8 hkz6
      refine Lt.ofWL.step rfl rfl rfl (OpV.fieldAddr rfl fo_35_2) ?_
      refine Lt.ofWL.step rfl rfl rfl (OpV.loadBox rfl pt_3 (.head _) rfl) ?_
      refine Lt.ofWL.step rfl rfl rfl (OpV.eql rfl rfl) ?_
      refine hkz6 _ ?_ ?_
      exact rfl
      repeat (first | exact Sub.refl _ | refine Sub.skip rfl ?_)
    case az6 => exact rfl
    case bz6 => exact rfl
    case cz6 => exact rfl
    case dz6 => exact rfl
    refine Lt.ofWL.step rfl rfl rfl (OpV.move rfl) ?_
    refine Lt.ofWL.or 26 30 29 (p := ?pz9) (rest := ?qz9) (B := ?Bz9) rfl ?Tz9 ?Fz9 ?az9 ?bz9 ?cz9 ?dz9 ?ez9
    case Tz9 =>
      intro hc10 hkz9
      refine Lt.ofWL.skip rfl rfl rfl ?_
      refine Lt.ofWL.skip rfl rfl rfl ?_
      refine Lt.ofWL.skip rfl rfl rfl ?_
      refine hkz9 _ ?_
      repeat (first | exact Sub.refl _ | refine Sub.skip rfl ?_)
    case Fz9 =>
      intro hc11 hkz9
      refine Lt.ofWL.step rfl rfl rfl (OpV.fieldAddr rfl fo_35_2) ?_
      refine Lt.ofWL.step rfl rfl rfl (OpV.loadBox rfl pt_3 (.head _) rfl) ?_
      refine Lt.ofWL.step rfl rfl rfl (OpV.eql rfl rfl) ?_
      refine hkz9 _ ?_ ?_
      exact rfl
      repeat (first | exact Sub.refl _ | refine Sub.skip rfl ?_)
    case az9 => exact rfl
    case bz9 => exact rfl
    case cz9 => exact rfl
    case dz9 => exact rfl
    refine Lt.ofWL.step rfl rfl rfl (OpV.move rfl) ?_
    refine Lt.ofWL.or 31 35 34 (p := ?pz12) (rest := ?qz12) (B := ?Bz12) rfl ?Tz12 ?Fz12 ?az12 ?bz12 ?cz12 ?dz12 ?ez12
    case Tz12 =>
      intro hc13 hkz12
      refine Lt.ofWL.skip rfl rfl rfl ?_
      refine Lt.ofWL.skip rfl rfl rfl ?_
      refine Lt.ofWL.skip rfl rfl rfl ?_
      refine hkz12 _ ?_
      repeat (first | exact Sub.refl _ | refine Sub.skip rfl ?_)
    case Fz12 =>
      intro hc14 hkz12
      refine Lt.ofWL.step rfl rfl rfl (OpV.fieldAddr rfl fo_35_2) ?_
      refine Lt.ofWL.step rfl rfl rfl (OpV.loadBox rfl pt_3 (.head _) rfl) ?_
      refine Lt.ofWL.step rfl rfl rfl (OpV.eql rfl rfl) ?_
      refine hkz12 _ ?_ ?_
      exact rfl
      repeat (first | exact Sub.refl _ | refine Sub.skip rfl ?_)
    case az12 => exact rfl
    case bz12 => exact rfl
    case cz12 => exact rfl
    case dz12 => exact rfl
    refine hkz4 _ ?_ ?_
    exact rfl
    repeat (first | exact Sub.refl _ | refine Sub.skip rfl ?_)
  case Fz4 =>
    intro hc15 hkz4
    refine Lt.ofWL.skip rfl rfl rfl ?_
    refine Lt.ofWL.skip rfl rfl rfl ?_
    refine Lt.ofWL.skip rfl rfl rfl ?_
    refine Lt.ofWL.skip rfl rfl rfl ?_
    refine Lt.ofWL.skip rfl rfl rfl ?_
    refine Lt.ofWL.skip rfl rfl rfl ?_
    refine Lt.ofWL.skip rfl rfl rfl ?_
    refine Lt.ofWL.skip rfl rfl rfl ?_
    refine Lt.ofWL.skip rfl rfl rfl ?_
    refine Lt.ofWL.skip rfl rfl rfl ?_
    refine Lt.ofWL.skip rfl rfl rfl ?_
    refine Lt.ofWL.skip rfl rfl rfl ?_
    refine Lt.ofWL.skip rfl rfl rfl ?_
    refine Lt.ofWL.skip rfl rfl rfl ?_
    refine Lt.ofWL.skip rfl rfl rfl ?_
    refine Lt.ofWL.skip rfl rfl rfl ?_
    refine Lt.ofWL.skip rfl rfl rfl ?_
    refine Lt.ofWL.skip rfl rfl rfl ?_
    refine hkz4 _ ?_
    repeat (first | exact Sub.refl _ | refine Sub.skip rfl ?_)
  case az4 => exact rfl
  case bz4 => exact rfl
  case cz4 => exact rfl
  case dz4 => exact rfl
  refine Lt.ofWL.step rfl rfl rfl (OpV.move rfl) ?_
  refine Lt.ofWL.and 37 40 39 (p := ?pz16) (rest := ?qz16) (B := ?Bz16) rfl ?Tz16 ?Fz16 ?az16 ?bz16 ?cz16 ?dz16 ?ez16
  case Tz16 =>
    intro hc17 hkz16
    refine Lt.ofWL.step rfl rfl rfl (OpV.move rfl) ?_
    refine Lt.ofWL.step rfl rfl rfl (OpV.call (evs.cons rfl (evs.nil)) ca_27 (fun w hs => i_isClock _ w)) ?_
    refine hkz16 _ ?_ ?_
    exact rfl
    repeat (first | exact Sub.refl _ | refine Sub.skip rfl ?_)
  case Fz16 =>
    intro hc18 hkz16
    refine Lt.ofWL.skip rfl rfl rfl ?_
    refine Lt.ofWL.skip rfl rfl rfl ?_
    refine hkz16 _ ?_
    repeat (first | exact Sub.refl _ | refine Sub.skip rfl ?_)
  case az16 => exact rfl
  case bz16 => exact rfl
  case cz16 => exact rfl
  case dz16 => exact rfl
  refine Lt.ofWL.step rfl rfl rfl (OpV.move rfl) ?_
  refine Lt.ofWL.and 41 44 43 (p := ?pz19) (rest := ?qz19) (B := ?Bz19) rfl ?Tz19 ?Fz19 ?az19 ?bz19 ?cz19 ?dz19 ?ez19
  case Tz19 =>
    intro hc20 hkz19
    refine Lt.ofWL.step rfl rfl rfl (OpV.move rfl) ?_
    refine Lt.ofWL.step rfl rfl rfl (OpV.call (evs.cons rfl (evs.nil)) ca_27 (fun w hs => i_isClock _ w)) ?_
    refine hkz19 _ ?_ ?_
    exact rfl
    repeat (first | exact Sub.refl _ | refine Sub.skip rfl ?_)
  case Fz19 =>
    intro hc21 hkz19
    refine Lt.ofWL.skip rfl rfl rfl ?_
    refine Lt.ofWL.skip rfl rfl rfl ?_
    refine hkz19 _ ?_
    repeat (first | exact Sub.refl _ | refine Sub.skip rfl ?_)
  case az19 => exact rfl
  case bz19 => exact rfl
  case cz19 => exact rfl
  case dz19 => exact rfl
  refine Lt.ofWL.step rfl rfl rfl (OpV.move rfl) ?_
  refine Lt.ofWL.and 45 48 47 (p := ?pz22) (rest := ?qz22) (B := ?Bz22) rfl ?Tz22 ?Fz22 ?az22 ?bz22 ?cz22 ?dz22 ?ez22
  case Tz22 =>
    intro hc23 hkz22
    refine Lt.ofWL.step rfl rfl rfl (OpV.move rfl) ?_
    refine Lt.ofWL.step rfl rfl rfl (OpV.call (evs.cons rfl (evs.nil)) ca_27 (fun w hs => i_isClock _ w)) ?_
    refine hkz22 _ ?_ ?_
    exact rfl
    repeat (first | exact Sub.refl _ | refine Sub.skip rfl ?_)
  case Fz22 =>
    intro hc24 hkz22
    refine Lt.ofWL.skip rfl rfl rfl ?_
    refine Lt.ofWL.skip rfl rfl rfl ?_
    refine hkz22 _ ?_
    repeat (first | exact Sub.refl _ | refine Sub.skip rfl ?_)
  case az22 => exact rfl
  case bz22 => exact rfl
  case cz22 => exact rfl
  case dz22 => exact rfl
  refine Lt.ofWL.step rfl rfl rfl (OpV.move rfl) ?_
  refine Lt.ofWL.and 49 59 58 (p := ?pz25) (rest := ?qz25) (B := ?Bz25) rfl ?Tz25 ?Fz25 ?az25 ?bz25 ?cz25 ?dz25 ?ez25
  case Tz25 =>
    intro hc26 hkz25
    refine Lt.ofWL.step rfl rfl rfl (OpV.move rfl) ?_
    refine Lt.ofWL.step rfl rfl rfl (OpV.fieldAddr rfl fo_35_1) ?_
    refine Lt.ofWL.step rfl rfl rfl (OpV.loadBox rfl pt_3 (.head _) rfl) ?_
    refine Lt.ofWL.step rfl rfl rfl (OpV.mulW rfl rfl) ?_
    refine Lt.ofWL.step rfl rfl rfl (OpV.move rfl) ?_
    refine Lt.ofWL.step rfl rfl rfl (OpV.fieldAddr rfl fo_35_0) ?_
    refine Lt.ofWL.step rfl rfl rfl (OpV.loadBox rfl pt_3 (.head _) rfl) ?_
    refine Lt.ofWL.step rfl rfl rfl (OpV.mulW rfl rfl) ?_
    refine Lt.ofWL.step rfl rfl rfl (OpV.leq rfl rfl) ?_
    refine hkz25 _ ?_ ?_
    exact rfl
    repeat (first | exact Sub.refl _ | refine Sub.skip rfl ?_)
  case Fz25 =>
    intro hc27 hkz25
    refine Lt.ofWL.skip rfl rfl rfl ?_
    refine Lt.ofWL.skip rfl rfl rfl ?_
    refine Lt.ofWL.skip rfl rfl rfl ?_
    refine Lt.ofWL.skip rfl rfl rfl ?_
    refine Lt.ofWL.skip rfl rfl rfl ?_
    refine Lt.ofWL.skip rfl rfl rfl ?_
    refine Lt.ofWL.skip rfl rfl rfl ?_
    refine Lt.ofWL.skip rfl rfl rfl ?_
    refine Lt.ofWL.skip rfl rfl rfl ?_
    refine hkz25 _ ?_
    repeat (first | exact Sub.refl _ | refine Sub.skip rfl ?_)
  case az25 => exact rfl
  case bz25 => exact rfl
  case cz25 => exact rfl
  case dz25 => exact rfl
  refine Lt.ofWL.step rfl rfl rfl (OpV.move rfl) ?_
  refine Lt.ofWL.and 60 70 69 (p := ?pz28) (rest := ?qz28) (B := ?Bz28) rfl ?Tz28 ?Fz28 ?az28 ?bz28 ?cz28 ?dz28 ?ez28
  case Tz28 =>
    intro hc29 hkz28
    refine Lt.ofWL.step rfl rfl rfl (OpV.move rfl) ?_
    refine Lt.ofWL.step rfl rfl rfl (OpV.fieldAddr rfl fo_35_0) ?_
    refine Lt.ofWL.step rfl rfl rfl (OpV.loadBox rfl pt_3 (.head _) rfl) ?_
    refine Lt.ofWL.step rfl rfl rfl (OpV.mulW rfl rfl) ?_
    refine Lt.ofWL.step rfl rfl rfl (OpV.move rfl) ?_
    refine Lt.ofWL.step rfl rfl rfl (OpV.fieldAddr rfl fo_35_1) ?_
    refine Lt.ofWL.step rfl rfl rfl (OpV.loadBox rfl pt_3 (.head _) rfl) ?_
    refine Lt.ofWL.step rfl rfl rfl (OpV.mulW rfl rfl) ?_
    refine Lt.ofWL.step rfl rfl rfl (OpV.leq rfl rfl) ?_
    refine hkz28 _ ?_ ?_
    exact rfl
    repeat (first | exact Sub.refl _ | refine Sub.skip rfl ?_)
  case Fz28 =>
    intro hc30 hkz28
    refine Lt.ofWL.skip rfl rfl rfl ?_
    refine Lt.ofWL.skip rfl rfl rfl ?_
    refine Lt.ofWL.skip rfl rfl rfl ?_
    refine Lt.ofWL.skip rfl rfl rfl ?_
    refine Lt.ofWL.skip rfl rfl rfl ?_
    refine Lt.ofWL.skip rfl rfl rfl ?_
    refine Lt.ofWL.skip rfl rfl rfl ?_
    refine Lt.ofWL.skip rfl rfl rfl ?_
    refine Lt.ofWL.skip rfl rfl rfl ?_
    refine hkz28 _ ?_
    repeat (first | exact Sub.refl _ | refine Sub.skip rfl ?_)
  case az28 => exact rfl
  case bz28 => exact rfl
  case cz28 => exact rfl
  case dz28 => exact rfl
  refine Lt.ofWL.step rfl rfl rfl (OpV.assign rfl) ?_
  refine WL.nil ?_
  refine En.next ?_
  refine WC.ret ?_
  refine En.ret1 rfl (Res.tmp rfl) ?_
  intro w' hs
  exact ⟨rfl, hs.below⟩

theorem s_ErrorOf (n m p r t : Int) (w : World) :
    Calls Try.prog 19 #[.agg #[.int .i64 n, .int .i64 m, .int .i64 p], .int .i64 r, .int .i64 t] w fun e w' => e = .returned (.int .i64 (errOf n m p r t)) ∧ Ext w w' := by
  refine enter (vs := [_, _, _]) Try.func19 rfl rfl rfl rfl ?_
  refine WC.seq ?_
  refine WC.region ?_
  refine WL.heavy rfl rfl rfl (OpH.box rfl rfl ?_)
  intro b0
  refine Lt.ofWL.step rfl rfl rfl (OpV.assign rfl) ?_
  refine WL.nil ?_
  refine En.next ?_
  refine WC.seq ?_
  refine WC.seq ?_
  refine WC.region ?_
  refine Lt.ofWL.step rfl rfl rfl (OpV.fieldAddr rfl fo_35_0) ?_
  refine Lt.ofWL.step rfl rfl rfl (OpV.loadBox rfl pt_3 (.head _) rfl) ?_
  refine Lt.ofWL.step rfl rfl rfl (OpV.call (evs.cons rfl (evs.cons rfl (evs.cons rfl (evs.nil)))) ca_23 (fun w hs => s_in _ _ _ w)) ?_
  refine Lt.ofWL.step rfl rfl rfl (OpV.not rfl) ?_
  refine Lt.ofWL.step rfl rfl rfl (OpV.move rfl) ?_
  refine Lt.ofWL.or 12 17 16 (p := ?pz1) (rest := ?qz1) (B := ?Bz1) rfl ?Tz1 ?Fz1 ?az1 ?bz1 ?cz1 ?dz1 ?ez1
  case Tz1 =>
    intro hc2 hkz1
    refine Lt.ofWL.skip rfl rfl rfl ?_
    refine Lt.ofWL.skip rfl rfl rfl ?_
    refine Lt.ofWL.skip rfl rfl rfl ?_
    refine Lt.ofWL.skip rfl rfl rfl ?_
    refine hkz1 _ ?_
    repeat (first | exact Sub.refl _ | refine Sub.skip rfl ?_)
  case Fz1 =>
    intro hc3 hkz1
    refine Lt.ofWL.step rfl rfl rfl (OpV.fieldAddr rfl fo_35_1) ?_
    refine Lt.ofWL.step rfl rfl rfl (OpV.loadBox rfl pt_3 (.head _) rfl) ?_
    refine Lt.ofWL.step rfl rfl rfl (OpV.call (evs.cons rfl (evs.cons rfl (evs.cons rfl (evs.nil)))) ca_23 (fun w hs => s_in _ _ _ w)) ?_
    refine Lt.ofWL.step rfl rfl rfl (OpV.not rfl) ?_
    refine hkz1 _ ?_ ?_
    exact rfl
    repeat (first | exact Sub.refl _ | refine Sub.skip rfl ?_)
  case az1 => exact rfl
  case bz1 => exact rfl
  case cz1 => exact rfl
  case dz1 => exact rfl
  refine Lt.ofWL.step rfl rfl rfl (OpV.move rfl) ?_
  refine Lt.ofWL.or 18 23 22 (p := ?pz4) (rest := ?qz4) (B := ?Bz4) rfl ?Tz4 ?Fz4 ?az4 ?bz4 ?cz4 ?dz4 ?ez4
  case Tz4 =>
    intro hc5 hkz4
    refine Lt.ofWL.skip rfl rfl rfl ?_
    refine Lt.ofWL.skip rfl rfl rfl ?_
    refine Lt.ofWL.skip rfl rfl rfl ?_
    refine Lt.ofWL.skip rfl rfl rfl ?_
    refine hkz4 _ ?_
    repeat (first | exact Sub.refl _ | refine Sub.skip rfl ?_)
  case Fz4 =>
    intro hc6 hkz4
    refine Lt.ofWL.step rfl rfl rfl (OpV.fieldAddr rfl fo_35_2) ?_
    refine Lt.ofWL.step rfl rfl rfl (OpV.loadBox rfl pt_3 (.head _) rfl) ?_
    refine Lt.ofWL.step rfl rfl rfl (OpV.call (evs.cons rfl (evs.cons rfl (evs.cons rfl (evs.nil)))) ca_23 (fun w hs => s_in _ _ _ w)) ?_
    refine Lt.ofWL.step rfl rfl rfl (OpV.not rfl) ?_
    refine hkz4 _ ?_ ?_
    exact rfl
    repeat (first | exact Sub.refl _ | refine Sub.skip rfl ?_)
  case az4 => exact rfl
  case bz4 => exact rfl
  case cz4 => exact rfl
  case dz4 => exact rfl
  refine Lt.ofWL.step rfl rfl rfl (OpV.move rfl) ?_
  refine Lt.ofWL.or 24 28 27 (p := ?pz7) (rest := ?qz7) (B := ?Bz7) rfl ?Tz7 ?Fz7 ?az7 ?bz7 ?cz7 ?dz7 ?ez7
  case Tz7 =>
    intro hc8 hkz7
    refine Lt.ofWL.skip rfl rfl rfl ?_
    refine Lt.ofWL.skip rfl rfl rfl ?_
    refine Lt.ofWL.skip rfl rfl rfl ?_
    refine hkz7 _ ?_
    repeat (first | exact Sub.refl _ | refine Sub.skip rfl ?_)
  case Fz7 =>
    intro hc9 hkz7
    refine Lt.ofWL.step rfl rfl rfl (OpV.move rfl) ?_
    refine Lt.ofWL.step rfl rfl rfl (OpV.call (evs.cons rfl (evs.cons rfl (evs.cons rfl (evs.nil)))) ca_23 (fun w hs => s_in _ _ _ w)) ?_
    refine Lt.ofWL.step rfl rfl rfl (OpV.not rfl) ?_
    refine hkz7 _ ?_ ?_
    exact rfl
    repeat (first | exact Sub.refl _ | refine Sub.skip rfl ?_)
  case az7 => exact rfl
  case bz7 => exact rfl
  case cz7 => exact rfl
  case dz7 => exact rfl
  refine Lt.ofWL.step rfl rfl rfl (OpV.move rfl) ?_
  refine Lt.ofWL.or 29 33 32 (p := ?pz10) (rest := ?qz10) (B := ?Bz10) rfl ?Tz10 ?Fz10 ?az10 ?bz10 ?cz10 ?dz10 ?ez10
  case Tz10 =>
    intro hc11 hkz10
    refine Lt.ofWL.skip rfl rfl rfl ?_
    refine Lt.ofWL.skip rfl rfl rfl ?_
    refine Lt.ofWL.skip rfl rfl rfl ?_
    refine hkz10 _ ?_
    repeat (first | exact Sub.refl _ | refine Sub.skip rfl ?_)
  case Fz10 =>
    intro hc12 hkz10
    refine Lt.ofWL.step rfl rfl rfl (OpV.move rfl) ?_
    refine Lt.ofWL.step rfl rfl rfl (OpV.call (evs.cons rfl (evs.cons rfl (evs.cons rfl (evs.nil)))) ca_23 (fun w hs => s_in _ _ _ w)) ?_
    refine Lt.ofWL.step rfl rfl rfl (OpV.not rfl) ?_
    refine hkz10 _ ?_ ?_
    exact rfl
    repeat (first | exact Sub.refl _ | refine Sub.skip rfl ?_)
  case az10 => exact rfl
  case bz10 => exact rfl
  case cz10 => exact rfl
  case dz10 => exact rfl
  refine WL.nil ?_
  refine En.next ?_
  refine WC.cond rfl ?_ ?_
  ·
    intro hc13
    refine WC.seq ?_
    refine WC.region ?_
    refine Lt.ofWL.step rfl rfl rfl (OpV.assign rfl) ?_
    refine WL.nil ?_
    refine En.next ?_
    refine WC.ret ?_
    refine En.then_ret ?_
    refine En.ret1 rfl (Res.tmp rfl) ?_
    intro w' hs
    refine ⟨congrArg _ (congrArg _ ?_), hs.below⟩
    unfold errOf
    rw [hc13]
    rfl
  ·
    intro hc13
    refine WC.skip ?_
    refine En.next ?_
    refine WC.seq ?_
    refine WC.region ?_
    refine Lt.ofWL.step rfl rfl rfl (OpV.move rfl) ?_
    refine Lt.ofWL.step rfl rfl rfl (OpV.fieldAddr rfl fo_35_0) ?_
    refine Lt.ofWL.step rfl rfl rfl (OpV.loadBox rfl pt_3 (.head _) rfl) ?_
    refine Lt.ofWL.step rfl rfl rfl (OpV.mulW rfl rfl) ?_
    refine Lt.ofWL.step rfl rfl rfl (OpV.move rfl) ?_
    refine Lt.ofWL.step rfl rfl rfl (OpV.fieldAddr rfl fo_35_1) ?_
    refine Lt.ofWL.step rfl rfl rfl (OpV.loadBox rfl pt_3 (.head _) rfl) ?_
    refine Lt.ofWL.step rfl rfl rfl (OpV.mulW rfl rfl) ?_
    refine Lt.ofWL.step rfl rfl rfl (OpV.fieldAddr rfl fo_35_2) ?_
    refine Lt.ofWL.step rfl rfl rfl (OpV.loadBox rfl pt_3 (.head _) rfl) ?_
    refine Lt.ofWL.step rfl rfl rfl (OpV.mulW rfl rfl) ?_
    refine Lt.ofWL.step rfl rfl rfl (OpV.subW rfl rfl) ?_
    refine Lt.ofWL.step rfl rfl rfl (OpV.assign rfl) ?_
    refine WL.nil ?_
    refine En.next ?_
    refine WC.seq ?_
    refine WC.region ?_
    refine Lt.ofWL.step rfl rfl rfl (OpV.move rfl) ?_
    refine Lt.ofWL.step rfl rfl rfl (OpV.move rfl) ?_
    refine Lt.ofWL.step rfl rfl rfl (OpV.negW rfl) ?_
    refine Lt.ofWL.step rfl rfl rfl (OpV.max2 rfl rfl) ?_
    refine Lt.ofWL.step rfl rfl rfl (OpV.assign rfl) ?_
    refine WL.nil ?_
    refine En.next ?_
    refine WC.ret ?_
    refine En.ret1 rfl (Res.tmp rfl) ?_
    intro w' hs
    refine ⟨congrArg _ (congrArg _ ?_), hs.below⟩
    unfold errOf
    rw [hc13]
    rfl

theorem i_ErrorOf (n m p r t : Int) (w : World) :
    Calls Try.prog 20 #[.agg #[.int .i64 n, .int .i64 m, .int .i64 p], .int .i64 r, .int .i64 t] w fun e w' => e = .returned (.int .i64 (errOf n m p r t)) ∧ Ext w w' := by
  refine enter (vs := [_, _, _]) Try.func20 rfl rfl rfl rfl ?_
  refine WC.seq ?_
  refine WC.region ?_
  refine WL.heavy rfl rfl rfl (OpH.box rfl rfl ?_)
  intro b0
  refine Lt.ofWL.step rfl rfl rfl (OpV.assign rfl) ?_
  refine WL.nil ?_
  refine En.next ?_
  refine WC.seq ?_
  refine WC.seq ?_
  refine WC.region ?_
  refine Lt.ofWL.step rfl rfl rfl (OpV.fieldAddr rfl fo_35_0) ?_
  refine Lt.ofWL.step rfl rfl rfl (OpV.loadBox rfl pt_3 (.head _) rfl) ?_
  refine Lt.ofWL.step rfl rfl rfl (OpV.call (evs.cons rfl (evs.cons rfl (evs.cons rfl (evs.nil)))) ca_24 (fun w hs => i_within _ _ _ w)) ?_
  refine Lt.ofWL.step rfl rfl rfl (OpV.not rfl) ?_
  refine Lt.ofWL.step rfl rfl rfl (OpV.move rfl) ?_
  refine Lt.ofWL.or 12 17 16 (p := ?pz1) (rest := ?qz1) (B := ?Bz1) rfl ?Tz1 ?Fz1 ?az1 ?bz1 ?cz1 ?dz1 ?ez1
  case Tz1 =>
    intro hc2 hkz1
    refine Lt.ofWL.skip rfl rfl rfl ?_
    refine Lt.ofWL.skip rfl rfl rfl ?_
    refine Lt.ofWL.skip rfl rfl rfl ?_
    refine Lt.ofWL.skip rfl rfl rfl ?_
    refine hkz1 _ ?_
    repeat (first | exact Sub.refl _ | refine Sub.skip rfl ?_)
  case Fz1 =>
    intro hc3 hkz1
    refine Lt.ofWL.step rfl rfl rfl (OpV.fieldAddr rfl fo_35_1) ?_
    refine Lt.ofWL.step rfl rfl rfl (OpV.loadBox rfl pt_3 (.head _) rfl) ?_
    refine Lt.ofWL.step rfl rfl rfl (OpV.call (evs.cons rfl (evs.cons rfl (evs.cons rfl (evs.nil)))) ca_24 (fun w hs => i_within _ _ _ w)) ?_
    refine Lt.ofWL.step rfl rfl rfl (OpV.not rfl) ?_
    refine hkz1 _ ?_ ?_
    exact rfl
    repeat (first | exact Sub.refl _ | refine Sub.skip rfl ?_)
  case az1 => exact rfl
  case bz1 => exact rfl
  case cz1 => exact rfl
  case dz1 => exact rfl
  refine Lt.ofWL.step rfl rfl rfl (OpV.move rfl) ?_
  refine Lt.ofWL.or 18 23 22 (p := ?pz4) (rest := ?qz4) (B := ?Bz4) rfl ?Tz4 ?Fz4 ?az4 ?bz4 ?cz4 ?dz4 ?ez4
  case Tz4 =>
    intro hc5 hkz4
    refine Lt.ofWL.skip rfl rfl rfl ?_
    refine Lt.ofWL.skip rfl rfl rfl ?_
    refine Lt.ofWL.skip rfl rfl rfl ?_
    refine Lt.ofWL.skip rfl rfl rfl ?_
    refine hkz4 _ ?_
    repeat (first | exact Sub.refl _ | refine Sub.skip rfl ?_)
  case Fz4 =>
    intro hc6 hkz4
    refine Lt.ofWL.step rfl rfl rfl (OpV.fieldAddr rfl fo_35_2) ?_
    refine Lt.ofWL.step rfl rfl rfl (OpV.loadBox rfl pt_3 (.head _) rfl) ?_
    refine Lt.ofWL.step rfl rfl rfl (OpV.call (evs.cons rfl (evs.cons rfl (evs.cons rfl (evs.nil)))) ca_24 (fun w hs => i_within _ _ _ w)) ?_
    refine Lt.ofWL.step rfl rfl rfl (OpV.not rfl) ?_
    refine hkz4 _ ?_ ?_
    exact rfl
    repeat (first | exact Sub.refl _ | refine Sub.skip rfl ?_)
  case az4 => exact rfl
  case bz4 => exact rfl
  case cz4 => exact rfl
  case dz4 => exact rfl
  refine Lt.ofWL.step rfl rfl rfl (OpV.move rfl) ?_
  refine Lt.ofWL.or 24 28 27 (p := ?pz7) (rest := ?qz7) (B := ?Bz7) rfl ?Tz7 ?Fz7 ?az7 ?bz7 ?cz7 ?dz7 ?ez7
  case Tz7 =>
    intro hc8 hkz7
    refine Lt.ofWL.skip rfl rfl rfl ?_
    refine Lt.ofWL.skip rfl rfl rfl ?_
    refine Lt.ofWL.skip rfl rfl rfl ?_
    refine hkz7 _ ?_
    repeat (first | exact Sub.refl _ | refine Sub.skip rfl ?_)
  case Fz7 =>
    intro hc9 hkz7
    refine Lt.ofWL.step rfl rfl rfl (OpV.move rfl) ?_
    refine Lt.ofWL.step rfl rfl rfl (OpV.call (evs.cons rfl (evs.nil)) ca_27 (fun w hs => i_isClock _ w)) ?_
    refine Lt.ofWL.step rfl rfl rfl (OpV.not rfl) ?_
    refine hkz7 _ ?_ ?_
    exact rfl
    repeat (first | exact Sub.refl _ | refine Sub.skip rfl ?_)
  case az7 => exact rfl
  case bz7 => exact rfl
  case cz7 => exact rfl
  case dz7 => exact rfl
  refine Lt.ofWL.step rfl rfl rfl (OpV.move rfl) ?_
  refine Lt.ofWL.or 29 33 32 (p := ?pz10) (rest := ?qz10) (B := ?Bz10) rfl ?Tz10 ?Fz10 ?az10 ?bz10 ?cz10 ?dz10 ?ez10
  case Tz10 =>
    intro hc11 hkz10
    refine Lt.ofWL.skip rfl rfl rfl ?_
    refine Lt.ofWL.skip rfl rfl rfl ?_
    refine Lt.ofWL.skip rfl rfl rfl ?_
    refine hkz10 _ ?_
    repeat (first | exact Sub.refl _ | refine Sub.skip rfl ?_)
  case Fz10 =>
    intro hc12 hkz10
    refine Lt.ofWL.step rfl rfl rfl (OpV.move rfl) ?_
    refine Lt.ofWL.step rfl rfl rfl (OpV.call (evs.cons rfl (evs.nil)) ca_27 (fun w hs => i_isClock _ w)) ?_
    refine Lt.ofWL.step rfl rfl rfl (OpV.not rfl) ?_
    refine hkz10 _ ?_ ?_
    exact rfl
    repeat (first | exact Sub.refl _ | refine Sub.skip rfl ?_)
  case az10 => exact rfl
  case bz10 => exact rfl
  case cz10 => exact rfl
  case dz10 => exact rfl
  refine WL.nil ?_
  refine En.next ?_
  refine WC.cond rfl ?_ ?_
  ·
    intro hc13
    refine WC.seq ?_
    refine WC.region ?_
    refine Lt.ofWL.step rfl rfl rfl (OpV.assign rfl) ?_
    refine WL.nil ?_
    refine En.next ?_
    refine WC.ret ?_
    refine En.then_ret ?_
    refine En.ret1 rfl (Res.tmp rfl) ?_
    intro w' hs
    refine ⟨congrArg _ (congrArg _ ?_), hs.below⟩
    unfold errOf
    rw [hc13]
    rfl
  ·
    intro hc13
    refine WC.skip ?_
    refine En.next ?_
    refine WC.seq ?_
    refine WC.region ?_
    refine Lt.ofWL.step rfl rfl rfl (OpV.move rfl) ?_
    refine Lt.ofWL.step rfl rfl rfl (OpV.fieldAddr rfl fo_35_0) ?_
    refine Lt.ofWL.step rfl rfl rfl (OpV.loadBox rfl pt_3 (.head _) rfl) ?_
    refine Lt.ofWL.step rfl rfl rfl (OpV.mulW rfl rfl) ?_
    refine Lt.ofWL.step rfl rfl rfl (OpV.move rfl) ?_
    refine Lt.ofWL.step rfl rfl rfl (OpV.fieldAddr rfl fo_35_1) ?_
    refine Lt.ofWL.step rfl rfl rfl (OpV.loadBox rfl pt_3 (.head _) rfl) ?_
    refine Lt.ofWL.step rfl rfl rfl (OpV.mulW rfl rfl) ?_
    refine Lt.ofWL.step rfl rfl rfl (OpV.fieldAddr rfl fo_35_2) ?_
    refine Lt.ofWL.step rfl rfl rfl (OpV.loadBox rfl pt_3 (.head _) rfl) ?_
    refine Lt.ofWL.step rfl rfl rfl (OpV.mulW rfl rfl) ?_
    refine Lt.ofWL.step rfl rfl rfl (OpV.subW rfl rfl) ?_
    refine Lt.ofWL.step rfl rfl rfl (OpV.assign rfl) ?_
    refine WL.nil ?_
    refine En.next ?_
    refine WC.seq ?_
    refine WC.region ?_
    refine Lt.ofWL.step rfl rfl rfl (OpV.move rfl) ?_
    refine Lt.ofWL.step rfl rfl rfl (OpV.move rfl) ?_
    refine Lt.ofWL.step rfl rfl rfl (OpV.negW rfl) ?_
    refine Lt.ofWL.step rfl rfl rfl (OpV.max2 rfl rfl) ?_
    refine Lt.ofWL.step rfl rfl rfl (OpV.assign rfl) ?_
    refine WL.nil ?_
    refine En.next ?_
    refine WC.ret ?_
    refine En.ret1 rfl (Res.tmp rfl) ?_
    intro w' hs
    refine ⟨congrArg _ (congrArg _ ?_), hs.below⟩
    unfold errOf
    rw [hc13]
    rfl

theorem s_Closer (n m p n2 m2 p2 r t : Int) (w : World) :
    Calls Try.prog 21 #[.agg #[.int .i64 n, .int .i64 m, .int .i64 p], .agg #[.int .i64 n2, .int .i64 m2, .int .i64 p2], .int .i64 r, .int .i64 t] w fun e w' => e = .returned (.bool (closer n m p n2 m2 p2 r t)) ∧ Ext w w' := by
  refine enter (vs := [_, _, _, _]) Try.func21 rfl rfl rfl rfl ?_
  refine WC.seq ?_
  refine WC.region ?_
  refine WL.heavy rfl rfl rfl (OpH.box rfl rfl ?_)
  intro b0
  refine WL.heavy rfl rfl rfl (OpH.box rfl rfl ?_)
  intro b1
  refine Lt.ofWL.step rfl rfl rfl (OpV.assign rfl) ?_
  refine WL.nil ?_
  refine En.next ?_
  refine WC.seq ?_
  refine WC.region ?_
  refine Lt.ofWL.step rfl rfl rfl (OpV.loadAll rfl (.tail _ (.head _)) ag_35) ?_
  refine Lt.ofWL.step rfl rfl rfl (OpV.move rfl) ?_
  refine Lt.ofWL.step rfl rfl rfl (OpV.move rfl) ?_
  refine Lt.ofWL.step rfl rfl rfl (OpV.call (evs.cons rfl (evs.cons rfl (evs.cons rfl (evs.nil)))) ca_19 (fun w hs => s_ErrorOf _ _ _ _ _ w)) ?_
  refine Lt.ofWL.step rfl rfl rfl (OpV.assign rfl) ?_
  refine WL.nil ?_
  refine En.next ?_
  refine WC.seq ?_
  refine WC.region ?_
  refine Lt.ofWL.step rfl rfl rfl (OpV.loadAll rfl (.head _) ag_35) ?_
  refine Lt.ofWL.step rfl rfl rfl (OpV.move rfl) ?_
  refine Lt.ofWL.step rfl rfl rfl (OpV.move rfl) ?_
  refine Lt.ofWL.step rfl rfl rfl (OpV.call (evs.cons rfl (evs.cons rfl (evs.cons rfl (evs.nil)))) ca_19 (fun w hs => s_ErrorOf _ _ _ _ _ w)) ?_
  refine Lt.ofWL.step rfl rfl rfl (OpV.assign rfl) ?_
  refine WL.nil ?_
  refine En.next ?_
  refine WC.seq ?_
  refine WC.region ?_
  refine Lt.ofWL.step rfl rfl rfl (OpV.move rfl) ?_
  refine Lt.ofWL.step rfl rfl rfl (OpV.geq rfl rfl) ?_
  refine Lt.ofWL.step rfl rfl rfl (OpV.move rfl) ?_
  refine Lt.ofWL.and 21 24 23 (p := ?pz1) (rest := ?qz1) (B := ?Bz1) rfl ?Tz1 ?Fz1 ?az1 ?bz1 ?cz1 ?dz1 ?ez1
  case Tz1 =>
    intro hc2 hkz1
    refine Lt.ofWL.step rfl rfl rfl (OpV.move rfl) ?_
    refine Lt.ofWL.step rfl rfl rfl (OpV.geq rfl rfl) ?_
    refine hkz1 _ ?_ ?_
    exact rfl
    repeat (first | exact Sub.refl _ | refine Sub.skip rfl ?_)
  case Fz1 =>
    intro hc3 hkz1
    refine Lt.ofWL.skip rfl rfl rfl ?_
    refine Lt.ofWL.skip rfl rfl rfl ?_
    refine hkz1 _ ?_
    repeat (first | exact Sub.refl _ | refine Sub.skip rfl ?_)
  case az1 => exact rfl
  case bz1 => exact rfl
  case cz1 => exact rfl
  case dz1 => exact rfl
  refine Lt.ofWL.step rfl rfl rfl (OpV.move rfl) ?_
  refine Lt.ofWL.and 25 41 40 (p := ?pz4) (rest := ?qz4) (B := ?Bz4) rfl ?Tz4 ?Fz4 ?az4 ?bz4 ?cz4 ?dz4 ?ez4
  case Tz4 =>
    intro hc5 hkz4
    refine Lt.ofWL.step rfl rfl rfl (OpV.move rfl) ?_
    refine Lt.ofWL.step rfl rfl rfl (OpV.fieldAddr rfl fo_35_1) ?_
    refine Lt.ofWL.step rfl rfl rfl (OpV.loadBox rfl pt_3 (.head _) rfl) ?_
    refine Lt.ofWL.step rfl rfl rfl (OpV.mulW rfl rfl) ?_
    refine Lt.ofWL.step rfl rfl rfl (OpV.fieldAddr rfl fo_35_2) ?_
    refine Lt.ofWL.step rfl rfl rfl (OpV.loadBox rfl pt_3 (.head _) rfl) ?_
    refine Lt.ofWL.step rfl rfl rfl (OpV.mulW rfl rfl) ?_
    refine Lt.ofWL.step rfl rfl rfl (OpV.move rfl) ?_
    refine Lt.ofWL.step rfl rfl rfl (OpV.fieldAddr rfl fo_35_1) ?_
    refine Lt.ofWL.step rfl rfl rfl (OpV.loadBox rfl pt_3 (.tail _ (.head _)) rfl) ?_
    refine Lt.ofWL.step rfl rfl rfl (OpV.mulW rfl rfl) ?_
    refine Lt.ofWL.step rfl rfl rfl (OpV.fieldAddr rfl fo_35_2) ?_
    refine Lt.ofWL.step rfl rfl rfl (OpV.loadBox rfl pt_3 (.tail _ (.head _)) rfl) ?_
    refine Lt.ofWL.step rfl rfl rfl (OpV.mulW rfl rfl) ?_
    refine Lt.ofWL.step rfl rfl rfl (OpV.lss rfl rfl) ?_
    refine hkz4 _ ?_ ?_
    exact rfl
    repeat (first | exact Sub.refl _ | refine Sub.skip rfl ?_)
  case Fz4 =>
    intro hc6 hkz4
    refine Lt.ofWL.skip rfl rfl rfl ?_
    refine Lt.ofWL.skip rfl rfl rfl ?_
    refine Lt.ofWL.skip rfl rfl rfl ?_
    refine Lt.ofWL.skip rfl rfl rfl ?_
    refine Lt.ofWL.skip rfl rfl rfl ?_
    refine Lt.ofWL.skip rfl rfl rfl ?_
    refine Lt.ofWL.skip rfl rfl rfl ?_
    refine Lt.ofWL.skip rfl rfl rfl ?_
    refine Lt.ofWL.skip rfl rfl rfl ?_
    refine Lt.ofWL.skip rfl rfl rfl ?_
    refine Lt.ofWL.skip rfl rfl rfl ?_
    refine Lt.ofWL.skip rfl rfl rfl ?_
    refine Lt.ofWL.skip rfl rfl rfl ?_
    refine Lt.ofWL.skip rfl rfl rfl ?_
    refine Lt.ofWL.skip rfl rfl rfl ?_
    refine hkz4 _ ?_
    repeat (first | exact Sub.refl _ | refine Sub.skip rfl ?_)
  case az4 => exact rfl
  case bz4 => exact rfl
  case cz4 => exact rfl
  case dz4 => exact rfl
  refine Lt.ofWL.step rfl rfl rfl (OpV.assign rfl) ?_
  refine WL.nil ?_
  refine En.next ?_
  refine WC.ret ?_
  refine En.ret1 rfl (Res.tmp rfl) ?_
  intro w' hs
  exact ⟨rfl, hs.below⟩

theorem i_Closer (n m p n2 m2 p2 r t : Int) (w : World) :
    Calls Try.prog 22 #[.agg #[.int .i64 n, .int .i64 m, .int .i64 p], .agg #[.int .i64 n2, .int .i64 m2, .int .i64 p2], .int .i64 r, .int .i64 t] w fun e w' => e = .returned (.bool (closer n m p n2 m2 p2 r t)) ∧ Ext w w' := by
  refine enter (vs := [_, _, _, _]) Try.func22 rfl rfl rfl rfl ?_
  refine WC.seq ?_
  refine WC.region ?_
  refine WL.heavy rfl rfl rfl (OpH.box rfl rfl ?_)
  intro b0
  refine WL.heavy rfl rfl rfl (OpH.box rfl rfl ?_)
  intro b1
  refine Lt.ofWL.step rfl rfl rfl (OpV.assign rfl) ?_
  refine WL.nil ?_
  refine En.next ?_
  refine WC.seq ?_
  refine WC.drawn [(0, ?r1v0), (1, ?r1v1), (4, ?r1v4), (5, ?r1v5), (8, ?r1v8), (9, ?r1v9), (10, ?r1v10)] (by kernel_rfl) (by kernel_rfl) ?dH1 ?dK1
  case dH1 =>
    intro W hW hk
    refine hW.step rfl rfl rfl (OpV.loadAll rfl (.tail _ (.head _)) ag_35) ?_
    refine hW.step rfl rfl rfl (OpV.move rfl) ?_
    refine hW.step rfl rfl rfl (OpV.move rfl) ?_
    refine hW.step rfl rfl rfl (OpV.call (evs.cons rfl (evs.cons rfl (evs.cons rfl (evs.nil)))) ca_20 (fun w hs => i_ErrorOf _ _ _ _ _ w)) ?_
    refine hW.step rfl rfl rfl (OpV.loadAll rfl (.head _) ag_35) ?_
    refine hW.step rfl rfl rfl (OpV.move rfl) ?_
    refine hW.step rfl rfl rfl (OpV.move rfl) ?_
    refine hW.step rfl rfl rfl (OpV.call (evs.cons rfl (evs.cons rfl (evs.cons rfl (evs.nil)))) ca_20 (fun w hs => i_ErrorOf _ _ _ _ _ w)) ?_
    refine hW.step rfl rfl rfl (OpV.assign rfl) ?_
    refine hW.step rfl rfl rfl (OpV.assign rfl) ?_
    refine hk _ ?_
    refine Sub.cons ?_ (Sub.cons ?_ (Sub.cons ?_ (Sub.cons ?_ (Sub.cons ?_ (Sub.cons ?_ (Sub.cons ?_ (Sub.nil _)))))))
    all_goals exact rfl
  refine En.next ?_
  refine WC.seq ?_
  refine WC.region ?_
  refine Lt.ofWL.step rfl rfl rfl (OpV.move rfl) ?_
  refine Lt.ofWL.step rfl rfl rfl (OpV.geq rfl rfl) ?_
  refine Lt.ofWL.step rfl rfl rfl (OpV.move rfl) ?_
  refine Lt.ofWL.and 21 24 23 (p := ?pz1) (rest := ?qz1) (B := ?Bz1) rfl ?Tz1 ?Fz1 ?az1 ?bz1 ?cz1 ?dz1 ?ez1
  case Tz1 =>
    intro hc2 hkz1
    refine Lt.ofWL.step rfl rfl rfl (OpV.move rfl) ?_
    refine Lt.ofWL.step rfl rfl rfl (OpV.geq rfl rfl) ?_
    refine hkz1 _ ?_ ?_
    exact rfl
    repeat (first | exact Sub.refl _ | refine Sub.skip rfl ?_)
  case Fz1 =>
    intro hc3 hkz1
    refine Lt.ofWL.skip rfl rfl rfl ?_
    refine Lt.ofWL.skip rfl rfl rfl ?_
    refine hkz1 _ ?_
    repeat (first | exact Sub.refl _ | refine Sub.skip rfl ?_)
  case az1 => exact rfl
  case bz1 => exact rfl
  case cz1 => exact rfl
  case dz1 => exact rfl
  refine Lt.ofWL.step rfl rfl rfl (OpV.move rfl) ?_
  refine Lt.ofWL.and 25 41 40 (p := ?pz4) (rest := ?qz4) (B := ?Bz4) rfl ?Tz4 ?Fz4 ?az4 ?bz4 ?cz4 ?dz4 ?ez4
  case Tz4 =>
    intro hc5 hkz4
    refine Lt.ofWL.step rfl rfl rfl (OpV.move rfl) ?_
    refine Lt.ofWL.step rfl rfl rfl (OpV.fieldAddr rfl fo_35_1) ?_
    refine Lt.ofWL.step rfl rfl rfl (OpV.loadBox rfl pt_3 (.head _) rfl) ?_
    refine Lt.ofWL.step rfl rfl rfl (OpV.mulW rfl rfl) ?_
    refine Lt.ofWL.step rfl rfl rfl (OpV.fieldAddr rfl fo_35_2) ?_
    refine Lt.ofWL.step rfl rfl rfl (OpV.loadBox rfl pt_3 (.head _) rfl) ?_
    refine Lt.ofWL.step rfl rfl rfl (OpV.mulW rfl rfl) ?_
    refine Lt.ofWL.step rfl rfl rfl (OpV.move rfl) ?_
    refine Lt.ofWL.step rfl rfl rfl (OpV.fieldAddr rfl fo_35_1) ?_
    refine Lt.ofWL.step rfl rfl rfl (OpV.loadBox rfl pt_3 (.tail _ (.head _)) rfl) ?_
    refine Lt.ofWL.step rfl rfl rfl (OpV.mulW rfl rfl) ?_
    refine Lt.ofWL.step rfl rfl rfl (OpV.fieldAddr rfl fo_35_2) ?_
    refine Lt.ofWL.step rfl rfl rfl (OpV.loadBox rfl pt_3 (.tail _ (.head _)) rfl) ?_
    refine Lt.ofWL.step rfl rfl rfl (OpV.mulW rfl rfl) ?_
    refine Lt.ofWL.step rfl rfl rfl (OpV.lss rfl rfl) ?_
    refine hkz4 _ ?_ ?_
    exact rfl
    repeat (first | exact Sub.refl _ | refine Sub.skip rfl ?_)
  case Fz4 =>
    intro hc6 hkz4
    refine Lt.ofWL.skip rfl rfl rfl ?_
    refine Lt.ofWL.skip rfl rfl rfl ?_
    refine Lt.ofWL.skip rfl rfl rfl ?_
    refine Lt.ofWL.skip rfl rfl rfl ?_
    refine Lt.ofWL.skip rfl rfl rfl ?_
    refine Lt.ofWL.skip rfl rfl rfl ?_
    refine Lt.ofWL.skip rfl rfl rfl ?_
    refine Lt.ofWL.skip rfl rfl rfl ?_
    refine Lt.ofWL.skip rfl rfl rfl ?_
    refine Lt.ofWL.skip rfl rfl rfl ?_
    refine Lt.ofWL.skip rfl rfl rfl ?_
    refine Lt.ofWL.skip rfl rfl rfl ?_
    refine Lt.ofWL.skip rfl rfl rfl ?_
    refine Lt.ofWL.skip rfl rfl rfl ?_
    refine Lt.ofWL.skip rfl rfl rfl ?_
    refine hkz4 _ ?_
    repeat (first | exact Sub.refl _ | refine Sub.skip rfl ?_)
  case az4 => exact rfl
  case bz4 => exact rfl
  case cz4 => exact rfl
  case dz4 => exact rfl
  refine Lt.ofWL.step rfl rfl rfl (OpV.assign rfl) ?_
  refine WL.nil ?_
  refine En.next ?_
  refine WC.ret ?_
  refine En.ret1 rfl (Res.tmp rfl) ?_
  intro w' hs
  exact ⟨rfl, hs.below⟩

theorem s_ByteSum (s : ByteArray) (hs0 : s.size ≤ 1099511627776) (w : World) :
    Calls Try.prog 9 #[.string s] w fun e w' => e = .returned (.int .i64 (bsum s s.size % 256)) ∧ Ext w w' := by
  refine enter (vs := [_]) Try.func9 rfl rfl rfl rfl ?_
  refine WC.seq ?_
  refine WC.region ?_
  refine Lt.ofWL.step rfl rfl rfl (OpV.assign rfl) ?_
  refine WL.nil ?_
  refine En.next ?_
  refine WC.seq ?_
  refine WC.region ?_
  refine Lt.ofWL.step rfl rfl rfl (OpV.assign rfl) ?_
  refine WL.nil ?_
  refine En.next ?_
  refine WC.seq ?_
  refine WC.seq ?_
  refine WC.region ?_
  refine Lt.ofWL.step rfl rfl rfl (OpV.assign rfl) ?_
  refine WL.nil ?_
  refine En.next ?_
  refine WC.block ?_
  refine WC.loop (EI := fun k => [(0, .string s), (3, .int .i64 (bsum s k % 256)), (4, .int .i64 k)]) (FI := fun _ => []) (PI := fun k => k ≤ s.size) (m := fun k => s.size - k) 0 (Nat.zero_le _) (Sub.cons rfl (Sub.cons rfl (Sub.cons rfl (Sub.nil _)))) (fun _ h => h) ?_
  intro k hP
  refine WC.seq ?_
  refine WC.seq ?_
  refine WC.region ?_
  refine Lt.ofWL.step rfl rfl rfl (OpV.move rfl) ?_
  refine Lt.ofWL.step rfl rfl rfl (OpV.move rfl) ?_
  refine Lt.ofWL.step rfl rfl rfl (OpV.lenS rfl us_9 rfl) ?_
  refine Lt.ofWL.step rfl rfl rfl (OpV.lss rfl rfl) ?_
  refine WL.nil ?_
  refine En.next ?_
  refine WC.cond rfl ?_ ?_
  ·
    intro hc1
    have hlt := of_decide_eq_true hc1
    have hb := bsum_nonneg s k
    have hu := u8_lt s[(k : Int).toNat]!
    refine WC.skip ?_
    refine En.next ?_
    refine WC.seq ?_
    refine WC.block ?_
    refine WC.region ?_
    refine Lt.ofWL.step rfl rfl rfl (OpV.move rfl) ?_
    refine Lt.ofWL.step rfl rfl rfl (OpV.move rfl) ?_
    refine Lt.ofWL.step rfl rfl rfl (OpV.move rfl) ?_
    refine Lt.ofWL.step rfl rfl rfl (OpV.indexS rfl rfl us_9 (by omega) (by omega)) ?_
    refine Lt.ofWL.step rfl rfl rfl (OpV.toInt rfl uS_5 ui_3_i64 ⟨by omega, by omega⟩) ?_
    refine Lt.ofWL.step rfl rfl rfl (OpV.add rfl rfl ⟨by omega, by omega⟩) ?_
    refine Lt.ofWL.step rfl rfl rfl (OpV.rem rfl rfl (by omega) (by omega)) ?_
    refine Lt.ofWL.step rfl rfl rfl (OpV.assign rfl) ?_
    refine WL.nil ?_
    refine En.block_norm ?_
    refine En.next ?_
    refine WC.region ?_
    refine Lt.ofWL.step rfl rfl rfl (OpV.move rfl) ?_
    refine Lt.ofWL.step rfl rfl rfl (OpV.add rfl rfl ⟨by omega, by omega⟩) ?_
    refine Lt.ofWL.step rfl rfl rfl (OpV.assign rfl) ?_
    refine WL.nil ?_
    refine En.round (k + 1) (by omega) (by omega) (Sub.cons rfl (Sub.cons ?_ (Sub.cons rfl (Sub.nil _)))) (fun _ h => h)
    rw [bsum_mod s k]; rfl
  ·
    intro hc1
    have hge := of_decide_eq_false hc1
    have hk : k = s.size := by omega
    subst hk
    refine WC.exit ?_
    refine En.then_exit ?_
    refine En.then_exit ?_
    refine En.block_exit ?_
    refine En.next ?_
    refine WC.seq ?_
    refine WC.region ?_
    refine Lt.ofWL.step rfl rfl rfl (OpV.move rfl) ?_
    refine Lt.ofWL.step rfl rfl rfl (OpV.assign rfl) ?_
    refine WL.nil ?_
    refine En.next ?_
    refine WC.ret ?_
    refine En.ret1 rfl (Res.tmp rfl) ?_
    intro w' hs
    exact ⟨rfl, hs.below⟩

theorem i_ByteSum (s : ByteArray) (hs0 : s.size ≤ 1099511627776) (w : World) :
    Calls Try.prog 10 #[.string s] w fun e w' => e = .returned (.int .i64 (bsum s s.size % 256)) ∧ Ext w w' := by
  refine enter (vs := [_]) Try.func10 rfl rfl rfl rfl ?_
  refine WC.seq ?_
  refine WC.region ?_
  refine Lt.ofWL.step rfl rfl rfl (OpV.assign rfl) ?_
  refine WL.nil ?_
  refine En.next ?_
  refine WC.seq ?_
  refine WC.region ?_
  refine Lt.ofWL.step rfl rfl rfl (OpV.assign rfl) ?_
  refine WL.nil ?_
  refine En.next ?_
  refine WC.seq ?_
  refine WC.seq ?_
  refine WC.region ?_
  refine Lt.ofWL.step rfl rfl rfl (OpV.move rfl) ?_
  refine Lt.ofWL.step rfl rfl rfl (OpV.lenS rfl us_9 rfl) ?_
  refine Lt.ofWL.step rfl rfl rfl (OpV.move rfl) ?_
  refine WL.nil ?_
  refine En.next ?_
  refine WC.block ?_
  refine WC.loop (EI := fun k => [(0, .string s), (3, .int .i64 (bsum s k)), (7, .int .i64 k), (6, .int .i64 s.size)]) (FI := fun _ => []) (PI := fun k => k ≤ s.size) (m := fun k => s.size - k) 0 (Nat.zero_le _) (Sub.cons rfl (Sub.cons rfl (Sub.cons rfl (Sub.cons rfl (Sub.nil _))))) (fun _ h => h) ?_
  intro k hP
  refine WC.seq ?_
  refine WC.region ?_
  refine Lt.ofWL.step rfl rfl rfl (OpV.lss rfl rfl) ?_
  refine WL.nil ?_
  refine En.next ?_
  refine WC.seq ?_
  refine WC.cond rfl ?_ ?_
  ·
    intro hc1
    have hlt := of_decide_eq_true hc1
    have hb := bsum_nonneg s k
    have hb2 := bsum_le s k
    have hu := u8_lt s[(k : Int).toNat]!
    refine WC.skip ?_
    refine En.next ?_
    refine WC.seq ?_
    refine WC.block ?_
    refine WC.seq ?_
    refine WC.region ?_
    refine Lt.ofWL.step rfl rfl rfl (OpV.move rfl) ?_
    refine Lt.ofWL.step rfl rfl rfl (OpV.assign rfl) ?_
    refine WL.nil ?_
    refine En.next ?_
    refine WC.region ?_
    refine Lt.ofWL.step rfl rfl rfl (OpV.move rfl) ?_
    refine Lt.ofWL.step rfl rfl rfl (OpV.move rfl) ?_
    refine Lt.ofWL.step rfl rfl rfl (OpV.move rfl) ?_
    refine Lt.ofWL.step rfl rfl rfl (OpV.indexS rfl rfl us_9 (by omega) (by omega)) ?_
    refine Lt.ofWL.step rfl rfl rfl (OpV.toInt rfl uS_5 ui_3_i64 ⟨by omega, by omega⟩) ?_
    refine Lt.ofWL.step rfl rfl rfl (OpV.add rfl rfl ⟨by omega, by omega⟩) ?_
    refine Lt.ofWL.step rfl rfl rfl (OpV.assign rfl) ?_
    refine WL.nil ?_
    refine En.block_norm ?_
    refine En.next ?_
    refine WC.region ?_
    refine Lt.ofWL.step rfl rfl rfl (OpV.add rfl rfl ⟨by omega, by omega⟩) ?_
    refine Lt.ofWL.step rfl rfl rfl (OpV.move rfl) ?_
    refine WL.nil ?_
    refine En.round (k + 1) (by omega) (by omega) (Sub.cons rfl (Sub.cons rfl (Sub.cons rfl (Sub.cons rfl (Sub.nil _))))) (fun _ h => h)
  ·
    intro hc1
    have hge := of_decide_eq_false hc1
    have hk : k = s.size := by omega
    subst hk
    have hb := bsum_nonneg s s.size
    refine WC.exit ?_
    refine En.then_exit ?_
    refine En.then_exit ?_
    refine En.block_exit ?_
    refine En.next ?_
    refine WC.seq ?_
    refine WC.region ?_
    refine Lt.ofWL.step rfl rfl rfl (OpV.move rfl) ?_
    refine Lt.ofWL.step rfl rfl rfl (OpV.rem rfl rfl (by omega) (by omega)) ?_
    refine Lt.ofWL.step rfl rfl rfl (OpV.assign rfl) ?_
    refine WL.nil ?_
    refine En.next ?_
    refine WC.ret ?_
    refine En.ret1 rfl (Res.tmp rfl) ?_
    intro w' hs
    exact ⟨rfl, hs.below⟩

theorem w_OptionsOk (ov la : Int) (cu pa sl se : Bool) (w : World) :
    Calls Try.prog 4 #[.agg #[.int .i64 ov, .bool cu, .int .i64 la, .bool pa, .bool sl, .bool se]] w fun e w' => e = .returned (.bool true) ∧ Ext w w' := by
  refine enter (vs := [_]) Try.func4 rfl rfl rfl rfl ?_
  refine WC.seq ?_
  refine WC.region ?_
  refine WL.heavy rfl rfl rfl (OpH.box rfl rfl ?_)
  intro b0
  refine Lt.ofWL.step rfl rfl rfl (OpV.assign rfl) ?_
  refine WL.nil ?_
  refine En.next ?_
  refine WC.seq ?_
  refine WC.region ?_
  refine Lt.ofWL.step rfl rfl rfl (OpV.loadAll rfl (.head _) ag_25) ?_
  refine Lt.ofWL.step rfl rfl rfl (OpV.call (evs.cons rfl (evs.nil)) ca_12 (fun w hs => l_toOptions _ _ _ _ _ _ w)) ?_
  refine Lt.ofWL.step rfl rfl rfl (OpV.call (evs.cons rfl (evs.nil)) ca_11 (fun w hs => s_OptionsOk _ _ _ _ _ _ w)) ?_
  refine Lt.ofWL.step rfl rfl rfl (OpV.assign rfl) ?_
  refine WL.nil ?_
  refine En.next ?_
  refine WC.seq ?_
  refine WC.region ?_
  refine Lt.ofWL.step rfl rfl rfl (OpV.loadAll rfl (.head _) ag_25) ?_
  refine Lt.ofWL.step rfl rfl rfl (OpV.call (evs.cons rfl (evs.nil)) ca_12 (fun w hs => l_toOptions _ _ _ _ _ _ w)) ?_
  refine Lt.ofWL.step rfl rfl rfl (OpV.call (evs.cons rfl (evs.nil)) ca_13 (fun w hs => i_OptionsOk _ _ _ _ _ _ w)) ?_
  refine Lt.ofWL.step rfl rfl rfl (OpV.assign rfl) ?_
  refine WL.nil ?_
  refine En.next ?_
  refine WC.seq ?_
  refine WC.seq ?_
  refine WC.region ?_
  refine Lt.ofWL.step rfl rfl rfl (OpV.move rfl) ?_
  refine Lt.ofWL.step rfl rfl rfl (OpV.move rfl) ?_
  refine Lt.ofWL.step rfl rfl rfl (OpV.bneq rfl rfl ub_4) ?_
  refine WL.nil ?_
  refine En.next ?_
  refine WC.cond rfl ?_ ?_
  ·
    intro hc1
    refine WC.seq ?_
    refine WC.region ?_
    refine Lt.ofWL.step rfl rfl rfl (OpV.assign rfl) ?_
    refine WL.nil ?_
    refine En.next ?_
    refine WC.ret ?_
    refine En.then_ret ?_
    refine En.ret1 rfl (Res.tmp rfl) ?_
    intro w' hs
    first | exact ⟨rfl, hs.below⟩ | (exfalso; simp at hc1)
  ·
    intro hc1
    refine WC.skip ?_
    refine En.next ?_
    refine WC.seq ?_
    refine WC.region ?_
    refine Lt.ofWL.step rfl rfl rfl (OpV.assign rfl) ?_
    refine WL.nil ?_
    refine En.next ?_
    refine WC.ret ?_
    refine En.ret1 rfl (Res.tmp rfl) ?_
    intro w' hs
    first | exact ⟨rfl, hs.below⟩ | (exfalso; simp at hc1)

theorem w_PacketLength (kind dots : Int) (w : World) :
    Calls Try.prog 5 #[.int .i64 kind, .int .i64 dots] w fun e w' => e = .returned (.bool true) ∧ Ext w w' := by
  refine enter (vs := [_, _]) Try.func5 rfl rfl rfl rfl ?_
  refine WC.seq ?_
  refine WC.region ?_
  refine Lt.ofWL.step rfl rfl rfl (OpV.assign rfl) ?_
  refine WL.nil ?_
  refine En.next ?_
  refine WC.seq ?_
  refine WC.region ?_
  refine Lt.ofWL.step rfl rfl rfl (OpV.move rfl) ?_
  refine Lt.ofWL.step rfl rfl rfl (OpV.move rfl) ?_
  refine Lt.ofWL.step rfl rfl rfl (OpV.call (evs.cons rfl (evs.cons rfl (evs.nil))) ca_14 (fun w hs => s_PacketLength _ _ w)) ?_
  refine Lt.ofWL.step rfl rfl rfl (OpV.assign rfl) ?_
  refine WL.nil ?_
  refine En.next ?_
  refine WC.seq ?_
  refine WC.region ?_
  refine Lt.ofWL.step rfl rfl rfl (OpV.move rfl) ?_
  refine Lt.ofWL.step rfl rfl rfl (OpV.move rfl) ?_
  refine Lt.ofWL.step rfl rfl rfl (OpV.call (evs.cons rfl (evs.cons rfl (evs.nil))) ca_15 (fun w hs => i_PacketLength _ _ w)) ?_
  refine Lt.ofWL.step rfl rfl rfl (OpV.assign rfl) ?_
  refine WL.nil ?_
  refine En.next ?_
  refine WC.seq ?_
  refine WC.seq ?_
  refine WC.region ?_
  refine Lt.ofWL.step rfl rfl rfl (OpV.move rfl) ?_
  refine Lt.ofWL.step rfl rfl rfl (OpV.move rfl) ?_
  refine Lt.ofWL.step rfl rfl rfl (OpV.neq rfl rfl) ?_
  refine WL.nil ?_
  refine En.next ?_
  refine WC.cond rfl ?_ ?_
  ·
    intro hc1
    refine WC.seq ?_
    refine WC.region ?_
    refine Lt.ofWL.step rfl rfl rfl (OpV.assign rfl) ?_
    refine WL.nil ?_
    refine En.next ?_
    refine WC.ret ?_
    refine En.then_ret ?_
    refine En.ret1 rfl (Res.tmp rfl) ?_
    intro w' hs
    first | exact ⟨rfl, hs.below⟩ | (exfalso; simp at hc1)
  ·
    intro hc1
    refine WC.skip ?_
    refine En.next ?_
    refine WC.seq ?_
    refine WC.region ?_
    refine Lt.ofWL.step rfl rfl rfl (OpV.assign rfl) ?_
    refine WL.nil ?_
    refine En.next ?_
    refine WC.ret ?_
    refine En.ret1 rfl (Res.tmp rfl) ?_
    intro w' hs
    first | exact ⟨rfl, hs.below⟩ | (exfalso; simp at hc1)

theorem w_DividerOk (n m p r lo hi : Int) (w : World) :
    Calls Try.prog 6 #[.agg #[.int .i64 n, .int .i64 m, .int .i64 p], .int .i64 r, .int .i64 lo, .int .i64 hi] w fun e w' => e = .returned (.bool true) ∧ Ext w w' := by
  refine enter (vs := [_, _, _, _]) Try.func6 rfl rfl rfl rfl ?_
  refine WC.seq ?_
  refine WC.region ?_
  refine WL.heavy rfl rfl rfl (OpH.box rfl rfl ?_)
  intro b0
  refine Lt.ofWL.step rfl rfl rfl (OpV.assign rfl) ?_
  refine WL.nil ?_
  refine En.next ?_
  refine WC.seq ?_
  refine WC.region ?_
  refine Lt.ofWL.step rfl rfl rfl (OpV.loadAll rfl (.head _) ag_33) ?_
  refine Lt.ofWL.step rfl rfl rfl (OpV.call (evs.cons rfl (evs.nil)) ca_17 (fun w hs => l_toDivider _ _ _ w)) ?_
  refine Lt.ofWL.step rfl rfl rfl (OpV.move rfl) ?_
  refine Lt.ofWL.step rfl rfl rfl (OpV.move rfl) ?_
  refine Lt.ofWL.step rfl rfl rfl (OpV.move rfl) ?_
  refine Lt.ofWL.step rfl rfl rfl (OpV.call (evs.cons rfl (evs.cons rfl (evs.cons rfl (evs.cons rfl (evs.nil))))) ca_16 (fun w hs => s_DividerOk _ _ _ _ _ _ w)) ?_
  refine Lt.ofWL.step rfl rfl rfl (OpV.assign rfl) ?_
  refine WL.nil ?_
  refine En.next ?_
  refine WC.seq ?_
  refine WC.region ?_
  refine Lt.ofWL.step rfl rfl rfl (OpV.loadAll rfl (.head _) ag_33) ?_
  refine Lt.ofWL.step rfl rfl rfl (OpV.call (evs.cons rfl (evs.nil)) ca_17 (fun w hs => l_toDivider _ _ _ w)) ?_
  refine Lt.ofWL.step rfl rfl rfl (OpV.move rfl) ?_
  refine Lt.ofWL.step rfl rfl rfl (OpV.move rfl) ?_
  refine Lt.ofWL.step rfl rfl rfl (OpV.move rfl) ?_
  refine Lt.ofWL.step rfl rfl rfl (OpV.call (evs.cons rfl (evs.cons rfl (evs.cons rfl (evs.cons rfl (evs.nil))))) ca_18 (fun w hs => i_DividerOk _ _ _ _ _ _ w)) ?_
  refine Lt.ofWL.step rfl rfl rfl (OpV.assign rfl) ?_
  refine WL.nil ?_
  refine En.next ?_
  refine WC.seq ?_
  refine WC.seq ?_
  refine WC.region ?_
  refine Lt.ofWL.step rfl rfl rfl (OpV.move rfl) ?_
  refine Lt.ofWL.step rfl rfl rfl (OpV.move rfl) ?_
  refine Lt.ofWL.step rfl rfl rfl (OpV.bneq rfl rfl ub_4) ?_
  refine WL.nil ?_
  refine En.next ?_
  refine WC.cond rfl ?_ ?_
  ·
    intro hc1
    refine WC.seq ?_
    refine WC.region ?_
    refine Lt.ofWL.step rfl rfl rfl (OpV.assign rfl) ?_
    refine WL.nil ?_
    refine En.next ?_
    refine WC.ret ?_
    refine En.then_ret ?_
    refine En.ret1 rfl (Res.tmp rfl) ?_
    intro w' hs
    first | exact ⟨rfl, hs.below⟩ | (exfalso; simp at hc1)
  ·
    intro hc1
    refine WC.skip ?_
    refine En.next ?_
    refine WC.seq ?_
    refine WC.region ?_
    refine Lt.ofWL.step rfl rfl rfl (OpV.assign rfl) ?_
    refine WL.nil ?_
    refine En.next ?_
    refine WC.ret ?_
    refine En.ret1 rfl (Res.tmp rfl) ?_
    intro w' hs
    first | exact ⟨rfl, hs.below⟩ | (exfalso; simp at hc1)

theorem w_ErrorOf (n m p r t : Int) (w : World) :
    Calls Try.prog 7 #[.agg #[.int .i64 n, .int .i64 m, .int .i64 p], .int .i64 r, .int .i64 t] w fun e w' => e = .returned (.bool true) ∧ Ext w w' := by
  refine enter (vs := [_, _, _]) Try.func7 rfl rfl rfl rfl ?_
  refine WC.seq ?_
  refine WC.region ?_
  refine WL.heavy rfl rfl rfl (OpH.box rfl rfl ?_)
  intro b0
  refine Lt.ofWL.step rfl rfl rfl (OpV.assign rfl) ?_
  refine WL.nil ?_
  refine En.next ?_
  refine WC.seq ?_
  refine WC.region ?_
  refine Lt.ofWL.step rfl rfl rfl (OpV.loadAll rfl (.head _) ag_33) ?_
  refine Lt.ofWL.step rfl rfl rfl (OpV.call (evs.cons rfl (evs.nil)) ca_17 (fun w hs => l_toDivider _ _ _ w)) ?_
  refine Lt.ofWL.step rfl rfl rfl (OpV.move rfl) ?_
  refine Lt.ofWL.step rfl rfl rfl (OpV.move rfl) ?_
  refine Lt.ofWL.step rfl rfl rfl (OpV.call (evs.cons rfl (evs.cons rfl (evs.cons rfl (evs.nil)))) ca_19 (fun w hs => s_ErrorOf _ _ _ _ _ w)) ?_
  refine Lt.ofWL.step rfl rfl rfl (OpV.assign rfl) ?_
  refine WL.nil ?_
  refine En.next ?_
  refine WC.seq ?_
  refine WC.region ?_
  refine Lt.ofWL.step rfl rfl rfl (OpV.loadAll rfl (.head _) ag_33) ?_
  refine Lt.ofWL.step rfl rfl rfl (OpV.call (evs.cons rfl (evs.nil)) ca_17 (fun w hs => l_toDivider _ _ _ w)) ?_
  refine Lt.ofWL.step rfl rfl rfl (OpV.move rfl) ?_
  refine Lt.ofWL.step rfl rfl rfl (OpV.move rfl) ?_
  refine Lt.ofWL.step rfl rfl rfl (OpV.call (evs.cons rfl (evs.cons rfl (evs.cons rfl (evs.nil)))) ca_20 (fun w hs => i_ErrorOf _ _ _ _ _ w)) ?_
  refine Lt.ofWL.step rfl rfl rfl (OpV.assign rfl) ?_
  refine WL.nil ?_
  refine En.next ?_
  refine WC.seq ?_
  refine WC.seq ?_
  refine WC.region ?_
  refine Lt.ofWL.step rfl rfl rfl (OpV.move rfl) ?_
  refine Lt.ofWL.step rfl rfl rfl (OpV.move rfl) ?_
  refine Lt.ofWL.step rfl rfl rfl (OpV.neq rfl rfl) ?_
  refine WL.nil ?_
  refine En.next ?_
  refine WC.cond rfl ?_ ?_
  ·
    intro hc1
    refine WC.seq ?_
    refine WC.region ?_
    refine Lt.ofWL.step rfl rfl rfl (OpV.assign rfl) ?_
    refine WL.nil ?_
    refine En.next ?_
    refine WC.ret ?_
    refine En.then_ret ?_
    refine En.ret1 rfl (Res.tmp rfl) ?_
    intro w' hs
    first | exact ⟨rfl, hs.below⟩ | (exfalso; simp at hc1)
  ·
    intro hc1
    refine WC.skip ?_
    refine En.next ?_
    refine WC.seq ?_
    refine WC.region ?_
    refine Lt.ofWL.step rfl rfl rfl (OpV.assign rfl) ?_
    refine WL.nil ?_
    refine En.next ?_
    refine WC.ret ?_
    refine En.ret1 rfl (Res.tmp rfl) ?_
    intro w' hs
    first | exact ⟨rfl, hs.below⟩ | (exfalso; simp at hc1)

theorem w_Closer (n m p n2 m2 p2 r t : Int) (w : World) :
    Calls Try.prog 8 #[.agg #[.int .i64 n, .int .i64 m, .int .i64 p], .agg #[.int .i64 n2, .int .i64 m2, .int .i64 p2], .int .i64 r, .int .i64 t] w fun e w' => e = .returned (.bool true) ∧ Ext w w' := by
  refine enter (vs := [_, _, _, _]) Try.func8 rfl rfl rfl rfl ?_
  refine WC.seq ?_
  refine WC.region ?_
  refine WL.heavy rfl rfl rfl (OpH.box rfl rfl ?_)
  intro b0
  refine WL.heavy rfl rfl rfl (OpH.box rfl rfl ?_)
  intro b1
  refine Lt.ofWL.step rfl rfl rfl (OpV.assign rfl) ?_
  refine WL.nil ?_
  refine En.next ?_
  refine WC.seq ?_
  refine WC.drawn [(0, ?r1v0), (1, ?r1v1), (2, ?r1v2), (3, ?r1v3), (4, ?r1v4), (5, ?r1v5), (8, ?r1v8), (9, ?r1v9)] (by kernel_rfl) (by kernel_rfl) ?dH1 ?dK1
  case dH1 =>
    intro W hW hk
    refine hW.step rfl rfl rfl (OpV.loadAll rfl (.tail _ (.head _)) ag_33) ?_
    refine hW.step rfl rfl rfl (OpV.call (evs.cons rfl (evs.nil)) ca_17 (fun w hs => l_toDivider _ _ _ w)) ?_
    refine hW.step rfl rfl rfl (OpV.loadAll rfl (.head _) ag_33) ?_
    refine hW.step rfl rfl rfl (OpV.call (evs.cons rfl (evs.nil)) ca_17 (fun w hs => l_toDivider _ _ _ w)) ?_
    refine hW.step rfl rfl rfl (OpV.move rfl) ?_
    refine hW.step rfl rfl rfl (OpV.move rfl) ?_
    refine hW.step rfl rfl rfl (OpV.call (evs.cons rfl (evs.cons rfl (evs.cons rfl (evs.cons rfl (evs.nil))))) ca_21 (fun w hs => s_Closer _ _ _ _ _ _ _ _ w)) ?_
    refine hW.step rfl rfl rfl (OpV.assign rfl) ?_
    refine hk _ ?_
    refine Sub.cons ?_ (Sub.cons ?_ (Sub.cons ?_ (Sub.cons ?_ (Sub.cons ?_ (Sub.cons ?_ (Sub.cons ?_ (Sub.cons ?_ (Sub.nil _))))))))
    all_goals exact rfl
  refine En.next ?_
  refine WC.seq ?_
  refine WC.drawn [(0, ?r2v0), (1, ?r2v1), (2, ?r2v2), (3, ?r2v3), (4, ?r2v4), (5, ?r2v5), (8, ?r2v8), (9, ?r2v9), (10, ?r2v10)] (by kernel_rfl) (by kernel_rfl) ?dH2 ?dK2
  case dH2 =>
    intro W hW hk
    refine hW.step rfl rfl rfl (OpV.loadAll rfl (.tail _ (.head _)) ag_33) ?_
    refine hW.step rfl rfl rfl (OpV.call (evs.cons rfl (evs.nil)) ca_17 (fun w hs => l_toDivider _ _ _ w)) ?_
    refine hW.step rfl rfl rfl (OpV.loadAll rfl (.head _) ag_33) ?_
    refine hW.step rfl rfl rfl (OpV.call (evs.cons rfl (evs.nil)) ca_17 (fun w hs => l_toDivider _ _ _ w)) ?_
    refine hW.step rfl rfl rfl (OpV.move rfl) ?_
    refine hW.step rfl rfl rfl (OpV.move rfl) ?_
    refine hW.step rfl rfl rfl (OpV.call (evs.cons rfl (evs.cons rfl (evs.cons rfl (evs.cons rfl (evs.nil))))) ca_22 (fun w hs => i_Closer _ _ _ _ _ _ _ _ w)) ?_
    refine hW.step rfl rfl rfl (OpV.assign rfl) ?_
    refine hk _ ?_
    refine Sub.cons ?_ (Sub.cons ?_ (Sub.cons ?_ (Sub.cons ?_ (Sub.cons ?_ (Sub.cons ?_ (Sub.cons ?_ (Sub.cons ?_ (Sub.cons ?_ (Sub.nil _)))))))))
    all_goals exact rfl
  refine En.next ?_
  refine WC.seq ?_
  refine WC.seq ?_
  refine WC.region ?_
  refine Lt.ofWL.step rfl rfl rfl (OpV.move rfl) ?_
  refine Lt.ofWL.step rfl rfl rfl (OpV.move rfl) ?_
  refine Lt.ofWL.step rfl rfl rfl (OpV.bneq rfl rfl ub_4) ?_
  refine WL.nil ?_
  refine En.next ?_
  refine WC.cond rfl ?_ ?_
  ·
    intro hc1
    refine WC.seq ?_
    refine WC.region ?_
    refine Lt.ofWL.step rfl rfl rfl (OpV.assign rfl) ?_
    refine WL.nil ?_
    refine En.next ?_
    refine WC.ret ?_
    refine En.then_ret ?_
    refine En.ret1 rfl (Res.tmp rfl) ?_
    intro w' hs
    first | exact ⟨rfl, hs.below⟩ | (exfalso; simp at hc1)
  ·
    intro hc1
    refine WC.skip ?_
    refine En.next ?_
    refine WC.seq ?_
    refine WC.region ?_
    refine Lt.ofWL.step rfl rfl rfl (OpV.assign rfl) ?_
    refine WL.nil ?_
    refine En.next ?_
    refine WC.ret ?_
    refine En.ret1 rfl (Res.tmp rfl) ?_
    intro w' hs
    first | exact ⟨rfl, hs.below⟩ | (exfalso; simp at hc1)

theorem w_ByteSum (s : ByteArray) (w : World) :
    Calls Try.prog 3 #[.string s] w fun e w' => e = .returned (.bool true) ∧ Ext w w' := by
  refine enter (vs := [_]) Try.func3 rfl rfl rfl rfl ?_
  refine WC.seq ?_
  refine WC.region ?_
  refine Lt.ofWL.step rfl rfl rfl (OpV.assign rfl) ?_
  refine WL.nil ?_
  refine En.next ?_
  refine WC.seq ?_
  refine WC.seq ?_
  refine WC.region ?_
  refine Lt.ofWL.step rfl rfl rfl (OpV.move rfl) ?_
  refine Lt.ofWL.step rfl rfl rfl (OpV.lenS rfl us_9 rfl) ?_
  refine Lt.ofWL.step rfl rfl rfl (OpV.gtr rfl rfl) ?_
  refine WL.nil ?_
  refine En.next ?_
  refine WC.cond rfl ?_ ?_
  ·
    intro hc1
    refine WC.seq ?_
    refine WC.region ?_
    refine Lt.ofWL.step rfl rfl rfl (OpV.assign rfl) ?_
    refine WL.nil ?_
    refine En.next ?_
    refine WC.ret ?_
    refine En.then_ret ?_
    refine En.ret1 rfl (Res.tmp rfl) ?_
    intro w' hs
    first | exact ⟨rfl, hs.below⟩ | (exfalso; simp at hc1)
  ·
    intro hc1
    have hle := of_decide_eq_false hc1
    refine WC.skip ?_
    refine En.next ?_
    refine WC.seq ?_
    refine WC.region ?_
    refine Lt.ofWL.step rfl rfl rfl (OpV.move rfl) ?_
    refine Lt.ofWL.step rfl rfl rfl (OpV.call (evs.cons rfl (evs.nil)) ca_9 (fun w hs => s_ByteSum _ (by omega) w)) ?_
    refine Lt.ofWL.step rfl rfl rfl (OpV.assign rfl) ?_
    refine WL.nil ?_
    refine En.next ?_
    refine WC.seq ?_
    refine WC.region ?_
    refine Lt.ofWL.step rfl rfl rfl (OpV.move rfl) ?_
    refine Lt.ofWL.step rfl rfl rfl (OpV.call (evs.cons rfl (evs.nil)) ca_10 (fun w hs => i_ByteSum _ (by omega) w)) ?_
    refine Lt.ofWL.step rfl rfl rfl (OpV.assign rfl) ?_
    refine WL.nil ?_
    refine En.next ?_
    refine WC.seq ?_
    refine WC.seq ?_
    refine WC.region ?_
    refine Lt.ofWL.step rfl rfl rfl (OpV.move rfl) ?_
    refine Lt.ofWL.step rfl rfl rfl (OpV.move rfl) ?_
    refine Lt.ofWL.step rfl rfl rfl (OpV.neq rfl rfl) ?_
    refine WL.nil ?_
    refine En.next ?_
    refine WC.cond rfl ?_ ?_
    ·
      intro hc2
      refine WC.seq ?_
      refine WC.region ?_
      refine Lt.ofWL.step rfl rfl rfl (OpV.assign rfl) ?_
      refine WL.nil ?_
      refine En.next ?_
      refine WC.ret ?_
      refine En.then_ret ?_
      refine En.ret1 rfl (Res.tmp rfl) ?_
      intro w' hs
      first | exact ⟨rfl, hs.below⟩ | (exfalso; simp at hc2)
    ·
      intro hc2
      refine WC.skip ?_
      refine En.next ?_
      refine WC.seq ?_
      refine WC.region ?_
      refine Lt.ofWL.step rfl rfl rfl (OpV.assign rfl) ?_
      refine WL.nil ?_
      refine En.next ?_
      refine WC.ret ?_
      refine En.ret1 rfl (Res.tmp rfl) ?_
      intro w' hs
      first | exact ⟨rfl, hs.below⟩ | (exfalso; simp at hc2)

end Go.Proofs.Ytjlknbeebneelaa
