/- Facts about the program: types, offsets, callable functions. -/
import Derived.Test.YtmhalmnbgkpmnaaTypes
import Derived.Test.YtmhalmnbgkpmnaaChecked
namespace Go.Proofs.Ytmhalmnbgkpmnaa
open Go.RowKit K
set_option maxRecDepth 100000
set_option maxHeartbeats 4000000

theorem ag_27 : aggTy Try.prog 27 = some 5 := by kernel_rfl
theorem fo_27_2 : fieldOff Try.prog 27 2 = some 2 := by kernel_rfl
theorem pt_22 : plainTy Try.prog 22 = true := by kernel_rfl
theorem si_22 : (sliceElem Try.prog 22).isSome = true := by kernel_rfl
theorem se_22 : sliceElem Try.prog 22 = some 11 := by kernel_rfl
theorem ag_99 : aggTy Try.prog 99 = some 11 := by kernel_rfl
theorem fo_99_6 : fieldOff Try.prog 99 6 = some 6 := by kernel_rfl
theorem pt_23 : plainTy Try.prog 23 = true := by kernel_rfl
theorem si_23 : (sliceElem Try.prog 23).isSome = true := by kernel_rfl
theorem ca_53 : callable Try.prog 53 = true := by kernel_rfl
theorem ca_52 : callable Try.prog 52 = true := by kernel_rfl
theorem ca_10 : callable Try.prog 10 = true := by kernel_rfl
theorem fo_27_3 : fieldOff Try.prog 27 3 = some 3 := by kernel_rfl
theorem ag_25 : aggTy Try.prog 25 = some 2 := by kernel_rfl
theorem fo_25_0 : fieldOff Try.prog 25 0 = some 0 := by kernel_rfl
theorem fo_25_1 : fieldOff Try.prog 25 1 = some 1 := by kernel_rfl
theorem ca_11 : callable Try.prog 11 = true := by kernel_rfl
theorem ca_9 : callable Try.prog 9 = true := by kernel_rfl
theorem zc_36 : zeroCells Try.prog 36 = some [.int .i64 0, .int .i64 0, .slice none 0 0, .slice none 0 0, .slice none 0 0] := by kernel_rfl
theorem fo_27_0 : fieldOff Try.prog 27 0 = some 0 := by kernel_rfl
theorem pt_3 : plainTy Try.prog 3 = true := by kernel_rfl
theorem fo_36_0 : fieldOff Try.prog 36 0 = some 0 := by kernel_rfl
theorem ts_3 : tySize Try.prog 3 = some 1 := by kernel_rfl
theorem fo_27_1 : fieldOff Try.prog 27 1 = some 1 := by kernel_rfl
theorem fo_36_1 : fieldOff Try.prog 36 1 = some 1 := by kernel_rfl
theorem mi_33 : makeInfo Try.prog 33 = some (56, 104, [.bool false, .int .i64 0, .int .i64 0, .int .i64 0, .int .i64 0, .int .i64 0, .slice none 0 0, .int .i64 0, .int .i64 0, .int .i64 0, .int .i64 0]) := by kernel_rfl
theorem zc_56 : zeroCells Try.prog 56 = some [.bool false, .int .i64 0, .int .i64 0, .int .i64 0, .int .i64 0, .int .i64 0, .slice none 0 0, .int .i64 0, .int .i64 0, .int .i64 0, .int .i64 0] := by kernel_rfl
theorem fo_99_0 : fieldOff Try.prog 99 0 = some 0 := by kernel_rfl
theorem pt_4 : plainTy Try.prog 4 = true := by kernel_rfl
theorem fo_56_0 : fieldOff Try.prog 56 0 = some 0 := by kernel_rfl
theorem ts_4 : tySize Try.prog 4 = some 1 := by kernel_rfl
theorem fo_99_1 : fieldOff Try.prog 99 1 = some 1 := by kernel_rfl
theorem fo_56_1 : fieldOff Try.prog 56 1 = some 1 := by kernel_rfl
theorem fo_99_2 : fieldOff Try.prog 99 2 = some 2 := by kernel_rfl
theorem fo_56_2 : fieldOff Try.prog 56 2 = some 2 := by kernel_rfl
theorem fo_99_3 : fieldOff Try.prog 99 3 = some 3 := by kernel_rfl
theorem fo_56_3 : fieldOff Try.prog 56 3 = some 3 := by kernel_rfl
theorem fo_99_4 : fieldOff Try.prog 99 4 = some 4 := by kernel_rfl
theorem fo_56_4 : fieldOff Try.prog 56 4 = some 4 := by kernel_rfl
theorem fo_99_5 : fieldOff Try.prog 99 5 = some 5 := by kernel_rfl
theorem fo_56_5 : fieldOff Try.prog 56 5 = some 5 := by kernel_rfl
theorem mi_23 : makeInfo Try.prog 23 = some (3, 8, [.int .i64 0]) := by kernel_rfl
theorem se_23 : sliceElem Try.prog 23 = some 1 := by kernel_rfl
theorem ca_59 : callable Try.prog 59 = true := by kernel_rfl
theorem fo_56_6 : fieldOff Try.prog 56 6 = some 6 := by kernel_rfl
theorem ts_23 : tySize Try.prog 23 = some 1 := by kernel_rfl
theorem fo_99_7 : fieldOff Try.prog 99 7 = some 7 := by kernel_rfl
theorem fo_56_7 : fieldOff Try.prog 56 7 = some 7 := by kernel_rfl
theorem fo_99_8 : fieldOff Try.prog 99 8 = some 8 := by kernel_rfl
theorem fo_56_8 : fieldOff Try.prog 56 8 = some 8 := by kernel_rfl
theorem fo_99_9 : fieldOff Try.prog 99 9 = some 9 := by kernel_rfl
theorem fo_56_9 : fieldOff Try.prog 56 9 = some 9 := by kernel_rfl
theorem fo_99_10 : fieldOff Try.prog 99 10 = some 10 := by kernel_rfl
theorem fo_56_10 : fieldOff Try.prog 56 10 = some 10 := by kernel_rfl
theorem ag_56 : aggTy Try.prog 56 = some 11 := by kernel_rfl
theorem ts_56 : tySize Try.prog 56 = some 11 := by kernel_rfl
theorem ca_58 : callable Try.prog 58 = true := by kernel_rfl
theorem se_33 : sliceElem Try.prog 33 = some 11 := by kernel_rfl
theorem ca_14 : callable Try.prog 14 = true := by kernel_rfl
theorem fo_36_2 : fieldOff Try.prog 36 2 = some 2 := by kernel_rfl
theorem ts_33 : tySize Try.prog 33 = some 1 := by kernel_rfl
theorem zc_34 : zeroCells Try.prog 34 = some [.slice none 0 0, .slice none 0 0] := by kernel_rfl
theorem fo_34_0 : fieldOff Try.prog 34 0 = some 0 := by kernel_rfl
theorem fo_34_1 : fieldOff Try.prog 34 1 = some 1 := by kernel_rfl
theorem ag_34 : aggTy Try.prog 34 = some 2 := by kernel_rfl
theorem ts_34 : tySize Try.prog 34 = some 2 := by kernel_rfl
theorem ca_15 : callable Try.prog 15 = true := by kernel_rfl
theorem fo_36_3 : fieldOff Try.prog 36 3 = some 3 := by kernel_rfl
theorem ag_36 : aggTy Try.prog 36 = some 5 := by kernel_rfl
theorem ts_36 : tySize Try.prog 36 = some 5 := by kernel_rfl
theorem ca_13 : callable Try.prog 13 = true := by kernel_rfl
theorem bs_31_0_ : builtSlice Try.prog 31 0 [] = some (58, []) := by kernel_rfl
theorem pt_33 : plainTy Try.prog 33 = true := by kernel_rfl
theorem si_33 : (sliceElem Try.prog 33).isSome = true := by kernel_rfl
theorem ub_4 : Try.prog.underlying 4 = some .bool := by kernel_rfl
theorem ca_108 : callable Try.prog 108 = true := by kernel_rfl
theorem ca_54 : callable Try.prog 54 = true := by kernel_rfl
theorem bs_23_0_ : builtSlice Try.prog 23 0 [] = some (3, []) := by kernel_rfl
theorem ca_55 : callable Try.prog 55 = true := by kernel_rfl
theorem bd_58_0_1 : ∀ (x0 : Int) (x2 : Bool) (x3 : Int) (x4 : Int) (x5 : Int) (x6 : Int) (x7 : Int) (x8 : Option Addr) (y8 z8 : Nat) (x9 : Int) (x10 : Int) (x11 : Int) (x12 : Int), Try.prog.built 58 [(0, .int .i64 x0), (1, .agg #[.bool x2, .int .i64 x3, .int .i64 x4, .int .i64 x5, .int .i64 x6, .int .i64 x7, .slice x8 y8 z8, .int .i64 x9, .int .i64 x10, .int .i64 x11, .int .i64 x12])] = some #[.int .i64 x0, .bool x2, .int .i64 x3, .int .i64 x4, .int .i64 x5, .int .i64 x6, .int .i64 x7, .slice x8 y8 z8, .int .i64 x9, .int .i64 x10, .int .i64 x11, .int .i64 x12, .slice none 0 0, .slice none 0 0] := fun _ _ _ _ _ _ _ _ _ _ _ _ _ _ => by kernel_rfl
theorem bs_31_1_0 : ∀ (x1 : Int) (x3 : Bool) (x4 : Int) (x5 : Int) (x6 : Int) (x7 : Int) (x8 : Int) (x9 : Option Addr) (y9 z9 : Nat) (x10 : Int) (x11 : Int) (x12 : Int) (x13 : Int) (x15 : Option Addr) (y15 z15 : Nat) (x16 : Option Addr) (y16 z16 : Nat), builtSlice Try.prog 31 1 [(0, .agg #[.int .i64 x1, .bool x3, .int .i64 x4, .int .i64 x5, .int .i64 x6, .int .i64 x7, .int .i64 x8, .slice x9 y9 z9, .int .i64 x10, .int .i64 x11, .int .i64 x12, .int .i64 x13, .slice x15 y15 z15, .slice x16 y16 z16])] = some (58, [.int .i64 x1, .bool x3, .int .i64 x4, .int .i64 x5, .int .i64 x6, .int .i64 x7, .int .i64 x8, .slice x9 y9 z9, .int .i64 x10, .int .i64 x11, .int .i64 x12, .int .i64 x13, .slice x15 y15 z15, .slice x16 y16 z16]) := fun _ _ _ _ _ _ _ _ _ _ _ _ _ _ _ _ _ _ _ _ => by kernel_rfl
theorem mi_31 : makeInfo Try.prog 31 = some (58, 160, [.int .i64 0, .bool false, .int .i64 0, .int .i64 0, .int .i64 0, .int .i64 0, .int .i64 0, .slice none 0 0, .int .i64 0, .int .i64 0, .int .i64 0, .int .i64 0, .slice none 0 0, .slice none 0 0]) := by kernel_rfl
theorem ca_56 : callable Try.prog 56 = true := by kernel_rfl
theorem bd_34_0_1 : ∀ (x0 : Option Addr) (y0 z0 : Nat) (x1 : Option Addr) (y1 z1 : Nat), Try.prog.built 34 [(0, .slice x0 y0 z0), (1, .slice x1 y1 z1)] = some #[.slice x0 y0 z0, .slice x1 y1 z1] := fun _ _ _ _ _ _ => by kernel_rfl
theorem ca_57 : callable Try.prog 57 = true := by kernel_rfl
theorem bd_58_0_2 : ∀ (x0 : Int) (x2 : Option Addr) (y2 z2 : Nat) (x3 : Option Addr) (y3 z3 : Nat), Try.prog.built 58 [(0, .int .i64 x0), (2, .agg #[.slice x2 y2 z2, .slice x3 y3 z3])] = some #[.int .i64 x0, .bool false, .int .i64 0, .int .i64 0, .int .i64 0, .int .i64 0, .int .i64 0, .slice none 0 0, .int .i64 0, .int .i64 0, .int .i64 0, .int .i64 0, .slice x2 y2 z2, .slice x3 y3 z3] := fun _ _ _ _ _ _ _ => by kernel_rfl
theorem ca_12 : callable Try.prog 12 = true := by kernel_rfl
theorem ca_60 : callable Try.prog 60 = true := by kernel_rfl
theorem ca_111 : callable Try.prog 111 = true := by kernel_rfl
theorem ca_61 : callable Try.prog 61 = true := by kernel_rfl
theorem ca_62 : callable Try.prog 62 = true := by kernel_rfl
theorem ca_110 : callable Try.prog 110 = true := by kernel_rfl
theorem ca_63 : callable Try.prog 63 = true := by kernel_rfl
theorem ca_16 : callable Try.prog 16 = true := by kernel_rfl
theorem si_31 : (sliceElem Try.prog 31).isSome = true := by kernel_rfl
theorem fo_58_0 : fieldOff Try.prog 58 0 = some 0 := by kernel_rfl
theorem fo_58_1 : fieldOff Try.prog 58 1 = some 1 := by kernel_rfl
theorem ca_66 : callable Try.prog 66 = true := by kernel_rfl
theorem ca_65 : callable Try.prog 65 = true := by kernel_rfl
theorem fo_58_2 : fieldOff Try.prog 58 2 = some 12 := by kernel_rfl
theorem ca_20 : callable Try.prog 20 = true := by kernel_rfl
theorem se_31 : sliceElem Try.prog 31 = some 14 := by kernel_rfl
theorem ag_58 : aggTy Try.prog 58 = some 14 := by kernel_rfl
theorem ca_64 : callable Try.prog 64 = true := by kernel_rfl
theorem ca_17 : callable Try.prog 17 = true := by kernel_rfl
theorem ca_19 : callable Try.prog 19 = true := by kernel_rfl
theorem ca_18 : callable Try.prog 18 = true := by kernel_rfl
theorem ca_67 : callable Try.prog 67 = true := by kernel_rfl
theorem ca_22 : callable Try.prog 22 = true := by kernel_rfl
theorem ca_23 : callable Try.prog 23 = true := by kernel_rfl
theorem ca_21 : callable Try.prog 21 = true := by kernel_rfl
theorem ca_24 : callable Try.prog 24 = true := by kernel_rfl
theorem ca_68 : callable Try.prog 68 = true := by kernel_rfl
theorem ca_25 : callable Try.prog 25 = true := by kernel_rfl
end Go.Proofs.Ytmhalmnbgkpmnaa
