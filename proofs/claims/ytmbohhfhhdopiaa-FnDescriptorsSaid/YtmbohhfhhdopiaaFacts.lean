/- Facts about the program: types, offsets, callable functions. -/
import Derived.Test.YtmbohhfhhdopiaaTypes
import Derived.Test.YtmbohhfhhdopiaaChecked
namespace Go.Proofs.Ytmbohhfhhdopiaa
open Go.RowKit K
set_option maxRecDepth 100000
set_option maxHeartbeats 4000000

theorem si_22 : (sliceElem Try.prog 22).isSome = true := by kernel_rfl
theorem ca_10 : callable Try.prog 10 = true := by kernel_rfl
theorem zc_47 : zeroCells Try.prog 47 = some [.string ⟨#[]⟩, .slice none 0 0, .int .i64 0] := by kernel_rfl
theorem se_22 : sliceElem Try.prog 22 = some 1 := by kernel_rfl
theorem pt_5 : plainTy Try.prog 5 = true := by kernel_rfl
theorem uS_5 : (Try.prog.underlying 5).isSome = true := by kernel_rfl
theorem ui_3_i64 : Try.prog.underlying 3 = some (.int .i64) := by kernel_rfl
theorem bd_88_0_2 : ∀ (x0 : Option Addr) (y0 z0 : Nat) (x1 : Int), Try.prog.built 88 [(0, .slice x0 y0 z0), (2, .int .i64 x1)] = some #[.slice x0 y0 z0, .int .i64 0, .int .i64 x1] := fun _ _ _ _ => by kernel_rfl
theorem ca_43 : callable Try.prog 43 = true := by kernel_rfl
theorem bs_95_4_0_1_2_3 : ∀ (x0 : ByteArray) (x1 : ByteArray) (x2 : ByteArray) (x3 : ByteArray), builtSlice Try.prog 95 4 [(0, .string x0), (1, .string x1), (2, .string x2), (3, .string x3)] = some (9, [.string x0, .string x1, .string x2, .string x3]) := fun _ _ _ _ => by kernel_rfl
theorem si_95 : (sliceElem Try.prog 95).isSome = true := by kernel_rfl
theorem fo_88_2 : fieldOff Try.prog 88 2 = some 2 := by kernel_rfl
theorem pt_3 : plainTy Try.prog 3 = true := by kernel_rfl
theorem ts_3 : tySize Try.prog 3 = some 1 := by kernel_rfl
theorem fo_88_1 : fieldOff Try.prog 88 1 = some 1 := by kernel_rfl
theorem fo_88_0 : fieldOff Try.prog 88 0 = some 0 := by kernel_rfl
theorem pt_22 : plainTy Try.prog 22 = true := by kernel_rfl
theorem ca_71 : callable Try.prog 71 = true := by kernel_rfl
theorem ca_62 : callable Try.prog 62 = true := by kernel_rfl
theorem se_95 : sliceElem Try.prog 95 = some 1 := by kernel_rfl
theorem pt_9 : plainTy Try.prog 9 = true := by kernel_rfl
theorem ca_67 : callable Try.prog 67 = true := by kernel_rfl
theorem bs_34_3_0_1_2 : ∀ (x0 : Int) (x1 : Int) (x2 : Int), builtSlice Try.prog 34 3 [(0, .int .i64 x0), (1, .int .i64 x1), (2, .int .i64 x2)] = some (3, [.int .i64 x0, .int .i64 x1, .int .i64 x2]) := fun _ _ _ => by kernel_rfl
theorem si_34 : (sliceElem Try.prog 34).isSome = true := by kernel_rfl
theorem se_34 : sliceElem Try.prog 34 = some 1 := by kernel_rfl
theorem ca_45 : callable Try.prog 45 = true := by kernel_rfl
theorem bd_47_0_2 : ∀ (x0 : ByteArray) (x1 : Int), Try.prog.built 47 [(0, .string x0), (2, .int .i64 x1)] = some #[.string x0, .slice none 0 0, .int .i64 x1] := fun _ _ => by kernel_rfl
theorem ts_47 : tySize Try.prog 47 = some 3 := by kernel_rfl
theorem zc_33 : zeroCells Try.prog 33 = some [.int .i64 0, .int .i64 0, .int .i64 0, .int .i64 0, .int .i64 0, .int .i64 0, .int .i64 0, .int .i64 0, .int .i64 0] := by kernel_rfl
theorem bs_34_4_0_1_2_3 : ∀ (x0 : Int) (x1 : Int) (x2 : Int) (x3 : Int), builtSlice Try.prog 34 4 [(0, .int .i64 x0), (1, .int .i64 x1), (2, .int .i64 x2), (3, .int .i64 x3)] = some (3, [.int .i64 x0, .int .i64 x1, .int .i64 x2, .int .i64 x3]) := fun _ _ _ _ => by kernel_rfl
theorem bd_33_0_1_2_3_4_5_6_7_8 : ∀ (x0 : Int) (x1 : Int) (x2 : Int) (x3 : Int) (x4 : Int) (x5 : Int) (x6 : Int) (x7 : Int) (x8 : Int), Try.prog.built 33 [(0, .int .i64 x0), (1, .int .i64 x1), (2, .int .i64 x2), (3, .int .i64 x3), (4, .int .i64 x4), (5, .int .i64 x5), (6, .int .i64 x6), (7, .int .i64 x7), (8, .int .i64 x8)] = some #[.int .i64 x0, .int .i64 x1, .int .i64 x2, .int .i64 x3, .int .i64 x4, .int .i64 x5, .int .i64 x6, .int .i64 x7, .int .i64 x8] := fun _ _ _ _ _ _ _ _ _ => by kernel_rfl
theorem ts_33 : tySize Try.prog 33 = some 9 := by kernel_rfl
theorem ag_33 : aggTy Try.prog 33 = some 9 := by kernel_rfl
theorem fo_47_1 : fieldOff Try.prog 47 1 = some 1 := by kernel_rfl
theorem pt_45 : plainTy Try.prog 45 = true := by kernel_rfl
theorem ca_44 : callable Try.prog 44 = true := by kernel_rfl
theorem bs_45_1_0 : ∀ (x1 : Int) (x2 : Int) (x3 : Int) (x4 : Int) (x5 : Int) (x6 : Int) (x7 : Int) (x8 : Int) (x9 : Int), builtSlice Try.prog 45 1 [(0, .agg #[.int .i64 x1, .int .i64 x2, .int .i64 x3, .int .i64 x4, .int .i64 x5, .int .i64 x6, .int .i64 x7, .int .i64 x8, .int .i64 x9])] = some (33, [.int .i64 x1, .int .i64 x2, .int .i64 x3, .int .i64 x4, .int .i64 x5, .int .i64 x6, .int .i64 x7, .int .i64 x8, .int .i64 x9]) := fun _ _ _ _ _ _ _ _ _ => by kernel_rfl
theorem mi_45 : makeInfo Try.prog 45 = some (33, 72, [.int .i64 0, .int .i64 0, .int .i64 0, .int .i64 0, .int .i64 0, .int .i64 0, .int .i64 0, .int .i64 0, .int .i64 0]) := by kernel_rfl
theorem ts_45 : tySize Try.prog 45 = some 1 := by kernel_rfl
theorem ag_47 : aggTy Try.prog 47 = some 3 := by kernel_rfl
theorem ca_51 : callable Try.prog 51 = true := by kernel_rfl
theorem ca_25 : callable Try.prog 25 = true := by kernel_rfl
theorem ca_11 : callable Try.prog 11 = true := by kernel_rfl
theorem fo_47_0 : fieldOff Try.prog 47 0 = some 0 := by kernel_rfl
theorem us_9 : Try.prog.underlying 9 = some .string := by kernel_rfl
theorem ca_39 : callable Try.prog 39 = true := by kernel_rfl
theorem si_45 : (sliceElem Try.prog 45).isSome = true := by kernel_rfl
theorem fo_47_2 : fieldOff Try.prog 47 2 = some 2 := by kernel_rfl
theorem se_45 : sliceElem Try.prog 45 = some 9 := by kernel_rfl
theorem fo_33_0 : fieldOff Try.prog 33 0 = some 0 := by kernel_rfl
theorem fo_33_1 : fieldOff Try.prog 33 1 = some 1 := by kernel_rfl
theorem ca_66 : callable Try.prog 66 = true := by kernel_rfl
theorem fo_33_5 : fieldOff Try.prog 33 5 = some 5 := by kernel_rfl
theorem fo_33_3 : fieldOff Try.prog 33 3 = some 3 := by kernel_rfl
theorem fo_33_7 : fieldOff Try.prog 33 7 = some 7 := by kernel_rfl
theorem fo_33_2 : fieldOff Try.prog 33 2 = some 2 := by kernel_rfl
theorem fo_33_4 : fieldOff Try.prog 33 4 = some 4 := by kernel_rfl
theorem fo_33_6 : fieldOff Try.prog 33 6 = some 6 := by kernel_rfl
theorem fo_33_8 : fieldOff Try.prog 33 8 = some 8 := by kernel_rfl
theorem ca_50 : callable Try.prog 50 = true := by kernel_rfl
theorem ca_30 : callable Try.prog 30 = true := by kernel_rfl
theorem bd_33_ : Try.prog.built 33 [] = some #[.int .i64 0, .int .i64 0, .int .i64 0, .int .i64 0, .int .i64 0, .int .i64 0, .int .i64 0, .int .i64 0, .int .i64 0] := by kernel_rfl
theorem ca_26 : callable Try.prog 26 = true := by kernel_rfl
theorem eg_33 : Try.prog.eqGuardType Try.prog.depth 33 = false := by kernel_rfl
theorem aeq_33 {a0 b0 : Int} {a1 b1 : Int} {a2 b2 : Int} {a3 b3 : Int} {a4 b4 : Int} {a5 b5 : Int} {a6 b6 : Int} {a7 b7 : Int} {a8 b8 : Int} (w : World) : (Op.equalIn 10000 33 (.agg #[.int .i64 a0, .int .i64 a1, .int .i64 a2, .int .i64 a3, .int .i64 a4, .int .i64 a5, .int .i64 a6, .int .i64 a7, .int .i64 a8]) (.agg #[.int .i64 b0, .int .i64 b1, .int .i64 b2, .int .i64 b3, .int .i64 b4, .int .i64 b5, .int .i64 b6, .int .i64 b7, .int .i64 b8])).run Try.prog w = .ok (decide (a0 = b0) && decide (a1 = b1) && decide (a2 = b2) && decide (a3 = b3) && decide (a4 = b4) && decide (a5 = b5) && decide (a6 = b6) && decide (a7 = b7) && decide (a8 = b8)) w := by
  have ug3 := Try.underlying3; have ag3 := Try.isAgg3; have zg3 := Try.sizeOf3;
  have hS : Try.prog.underlying 33 = some (.struct (Try.prog.fieldsOf 33)) := by kernel_rfl
  have hp : Try.prog.stoodInHeld 33 = false := by kernel_rfl
  rw [show (10000 : Nat) = 9999 + 1 from rfl, run_equalIn_agg w 9999 33 _ _ hS hp]
  simp only [Program.fieldsOf, Try.underlying33]
  go_simp
  by_cases h0 : a0 = b0 <;> by_cases h1 : a1 = b1 <;> by_cases h2 : a2 = b2 <;> by_cases h3 : a3 = b3 <;> by_cases h4 : a4 = b4 <;> by_cases h5 : a5 = b5 <;> by_cases h6 : a6 = b6 <;> by_cases h7 : a7 = b7 <;> by_cases h8 : a8 = b8 <;> simp [h0, h1, h2, h3, h4, h5, h6, h7, h8]
theorem ub_4 : Try.prog.underlying 4 = some .bool := by kernel_rfl
theorem zc_26 : zeroCells Try.prog 26 = some [.int .i64 0, .int .i64 0, .int .i64 0] := by kernel_rfl
theorem bd_26_ : Try.prog.built 26 [] = some #[.int .i64 0, .int .i64 0, .int .i64 0] := by kernel_rfl
theorem ts_26 : tySize Try.prog 26 = some 3 := by kernel_rfl
theorem ca_38 : callable Try.prog 38 = true := by kernel_rfl
theorem ag_26 : aggTy Try.prog 26 = some 3 := by kernel_rfl
theorem bd_26_0_1_2 : ∀ (x0 : Int) (x1 : Int) (x2 : Int), Try.prog.built 26 [(0, .int .i64 x0), (1, .int .i64 x1), (2, .int .i64 x2)] = some #[.int .i64 x0, .int .i64 x1, .int .i64 x2] := fun _ _ _ => by kernel_rfl
theorem fo_26_0 : fieldOff Try.prog 26 0 = some 0 := by kernel_rfl
theorem fo_26_1 : fieldOff Try.prog 26 1 = some 1 := by kernel_rfl
theorem fo_26_2 : fieldOff Try.prog 26 2 = some 2 := by kernel_rfl
theorem ca_13 : callable Try.prog 13 = true := by kernel_rfl
theorem ca_16 : callable Try.prog 16 = true := by kernel_rfl
theorem ca_14 : callable Try.prog 14 = true := by kernel_rfl
theorem ca_12 : callable Try.prog 12 = true := by kernel_rfl
theorem ca_41 : callable Try.prog 41 = true := by kernel_rfl
theorem ca_61 : callable Try.prog 61 = true := by kernel_rfl
theorem ca_40 : callable Try.prog 40 = true := by kernel_rfl
theorem ca_17 : callable Try.prog 17 = true := by kernel_rfl
theorem ca_42 : callable Try.prog 42 = true := by kernel_rfl
theorem ca_15 : callable Try.prog 15 = true := by kernel_rfl
theorem eg_26 : Try.prog.eqGuardType Try.prog.depth 26 = false := by kernel_rfl
theorem aeq_26 {a0 b0 : Int} {a1 b1 : Int} {a2 b2 : Int} (w : World) : (Op.equalIn 10000 26 (.agg #[.int .i64 a0, .int .i64 a1, .int .i64 a2]) (.agg #[.int .i64 b0, .int .i64 b1, .int .i64 b2])).run Try.prog w = .ok (decide (a0 = b0) && decide (a1 = b1) && decide (a2 = b2)) w := by
  have ug3 := Try.underlying3; have ag3 := Try.isAgg3; have zg3 := Try.sizeOf3;
  have hS : Try.prog.underlying 26 = some (.struct (Try.prog.fieldsOf 26)) := by kernel_rfl
  have hp : Try.prog.stoodInHeld 26 = false := by kernel_rfl
  rw [show (10000 : Nat) = 9999 + 1 from rfl, run_equalIn_agg w 9999 26 _ _ hS hp]
  simp only [Program.fieldsOf, Try.underlying26]
  go_simp
  by_cases h0 : a0 = b0 <;> by_cases h1 : a1 = b1 <;> by_cases h2 : a2 = b2 <;> simp [h0, h1, h2]
theorem zc_36 : zeroCells Try.prog 36 = some [.int .i64 0, .int .i64 0, .int .i64 0, .int .i64 0, .int .i64 0, .int .i64 0, .int .i64 0, .int .i64 0, .int .i64 0, .int .i64 0, .int .i64 0, .slice none 0 0] := by kernel_rfl
theorem bd_36_0_1 : ∀ (x1 : Int) (x2 : Int) (x3 : Int) (x4 : Int) (x5 : Int) (x6 : Int) (x7 : Int) (x8 : Int) (x9 : Int) (x10 : Int), Try.prog.built 36 [(0, .agg #[.int .i64 x1, .int .i64 x2, .int .i64 x3, .int .i64 x4, .int .i64 x5, .int .i64 x6, .int .i64 x7, .int .i64 x8, .int .i64 x9]), (1, .int .i64 x10)] = some #[.int .i64 x1, .int .i64 x2, .int .i64 x3, .int .i64 x4, .int .i64 x5, .int .i64 x6, .int .i64 x7, .int .i64 x8, .int .i64 x9, .int .i64 x10, .int .i64 0, .slice none 0 0] := fun _ _ _ _ _ _ _ _ _ _ => by kernel_rfl
theorem ts_36 : tySize Try.prog 36 = some 12 := by kernel_rfl
theorem bs_37_0_ : builtSlice Try.prog 37 0 [] = some (4, []) := by kernel_rfl
theorem ca_63 : callable Try.prog 63 = true := by kernel_rfl
theorem bs_37_1_0 : ∀ (x0 : Bool), builtSlice Try.prog 37 1 [(0, .bool x0)] = some (4, [.bool x0]) := fun _ => by kernel_rfl
theorem mi_37 : makeInfo Try.prog 37 = some (4, 1, [.bool false]) := by kernel_rfl
theorem ca_46 : callable Try.prog 46 = true := by kernel_rfl
theorem ag_36 : aggTy Try.prog 36 = some 12 := by kernel_rfl
theorem ca_18 : callable Try.prog 18 = true := by kernel_rfl
theorem fo_36_3 : fieldOff Try.prog 36 3 = some 11 := by kernel_rfl
theorem pt_34 : plainTy Try.prog 34 = true := by kernel_rfl
theorem bs_34_0_ : builtSlice Try.prog 34 0 [] = some (3, []) := by kernel_rfl
theorem mi_34 : makeInfo Try.prog 34 = some (3, 8, [.int .i64 0]) := by kernel_rfl
theorem ca_65 : callable Try.prog 65 = true := by kernel_rfl
theorem ts_34 : tySize Try.prog 34 = some 1 := by kernel_rfl
theorem ca_48 : callable Try.prog 48 = true := by kernel_rfl
theorem si_37 : (sliceElem Try.prog 37).isSome = true := by kernel_rfl
theorem fo_36_0 : fieldOff Try.prog 36 0 = some 0 := by kernel_rfl
theorem ca_64 : callable Try.prog 64 = true := by kernel_rfl
theorem fo_36_1 : fieldOff Try.prog 36 1 = some 9 := by kernel_rfl
theorem fo_36_2 : fieldOff Try.prog 36 2 = some 10 := by kernel_rfl
theorem ca_47 : callable Try.prog 47 = true := by kernel_rfl
theorem ca_24 : callable Try.prog 24 = true := by kernel_rfl
theorem bs_34_1_0 : ∀ (x0 : Int), builtSlice Try.prog 34 1 [(0, .int .i64 x0)] = some (3, [.int .i64 x0]) := fun _ => by kernel_rfl
theorem se_37 : sliceElem Try.prog 37 = some 1 := by kernel_rfl
theorem pt_4 : plainTy Try.prog 4 = true := by kernel_rfl
theorem ca_49 : callable Try.prog 49 = true := by kernel_rfl
theorem ca_20 : callable Try.prog 20 = true := by kernel_rfl
theorem ca_21 : callable Try.prog 21 = true := by kernel_rfl
theorem ca_19 : callable Try.prog 19 = true := by kernel_rfl
theorem ca_23 : callable Try.prog 23 = true := by kernel_rfl
theorem ca_22 : callable Try.prog 22 = true := by kernel_rfl
theorem ag_59 : aggTy Try.prog 59 = some 3 := by kernel_rfl
theorem fo_59_0 : fieldOff Try.prog 59 0 = some 0 := by kernel_rfl
theorem fo_59_1 : fieldOff Try.prog 59 1 = some 1 := by kernel_rfl
theorem pt_57 : plainTy Try.prog 57 = true := by kernel_rfl
theorem si_57 : (sliceElem Try.prog 57).isSome = true := by kernel_rfl
theorem ca_54 : callable Try.prog 54 = true := by kernel_rfl
theorem ca_31 : callable Try.prog 31 = true := by kernel_rfl
theorem ts_9 : tySize Try.prog 9 = some 1 := by kernel_rfl
theorem se_57 : sliceElem Try.prog 57 = some 9 := by kernel_rfl
theorem ag_97 : aggTy Try.prog 97 = some 9 := by kernel_rfl
theorem fo_97_0 : fieldOff Try.prog 97 0 = some 0 := by kernel_rfl
theorem fo_97_1 : fieldOff Try.prog 97 1 = some 1 := by kernel_rfl
theorem fo_97_2 : fieldOff Try.prog 97 2 = some 2 := by kernel_rfl
theorem fo_97_3 : fieldOff Try.prog 97 3 = some 3 := by kernel_rfl
theorem fo_97_4 : fieldOff Try.prog 97 4 = some 4 := by kernel_rfl
theorem fo_97_5 : fieldOff Try.prog 97 5 = some 5 := by kernel_rfl
theorem fo_97_6 : fieldOff Try.prog 97 6 = some 6 := by kernel_rfl
theorem fo_97_7 : fieldOff Try.prog 97 7 = some 7 := by kernel_rfl
theorem fo_97_8 : fieldOff Try.prog 97 8 = some 8 := by kernel_rfl
theorem ca_69 : callable Try.prog 69 = true := by kernel_rfl
theorem ca_57 : callable Try.prog 57 = true := by kernel_rfl
theorem fo_59_2 : fieldOff Try.prog 59 2 = some 2 := by kernel_rfl
theorem ca_33 : callable Try.prog 33 = true := by kernel_rfl
theorem ca_68 : callable Try.prog 68 = true := by kernel_rfl
theorem ca_55 : callable Try.prog 55 = true := by kernel_rfl
theorem uS_3 : (Try.prog.underlying 3).isSome = true := by kernel_rfl
theorem ui_5_u8 : Try.prog.underlying 5 = some (.int .u8) := by kernel_rfl
theorem bs_22_5_0_1_2_3_4 : ∀ (x0 : Int) (x1 : Int) (x2 : Int) (x3 : Int) (x4 : Int), builtSlice Try.prog 22 5 [(0, .int .u8 x0), (1, .int .u8 x1), (2, .int .u8 x2), (3, .int .u8 x3), (4, .int .u8 x4)] = some (5, [.int .u8 x0, .int .u8 x1, .int .u8 x2, .int .u8 x3, .int .u8 x4]) := fun _ _ _ _ _ => by kernel_rfl
theorem sl_22 : Try.prog.underlying 22 = some (.slice 5) := by kernel_rfl
theorem mi_22 : makeInfo Try.prog 22 = some (5, 1, [.int .u8 0]) := by kernel_rfl
theorem bs_22_2_0_1 : ∀ (x0 : Int) (x1 : Int), builtSlice Try.prog 22 2 [(0, .int .u8 x0), (1, .int .u8 x1)] = some (5, [.int .u8 x0, .int .u8 x1]) := fun _ _ => by kernel_rfl
theorem bs_22_11_0_1_2_3_4_5_6_7_8_9_10 : ∀ (x0 : Int) (x1 : Int) (x2 : Int) (x3 : Int) (x4 : Int) (x5 : Int) (x6 : Int) (x7 : Int) (x8 : Int) (x9 : Int) (x10 : Int), builtSlice Try.prog 22 11 [(0, .int .u8 x0), (1, .int .u8 x1), (2, .int .u8 x2), (3, .int .u8 x3), (4, .int .u8 x4), (5, .int .u8 x5), (6, .int .u8 x6), (7, .int .u8 x7), (8, .int .u8 x8), (9, .int .u8 x9), (10, .int .u8 x10)] = some (5, [.int .u8 x0, .int .u8 x1, .int .u8 x2, .int .u8 x3, .int .u8 x4, .int .u8 x5, .int .u8 x6, .int .u8 x7, .int .u8 x8, .int .u8 x9, .int .u8 x10]) := fun _ _ _ _ _ _ _ _ _ _ _ => by kernel_rfl
theorem ca_56 : callable Try.prog 56 = true := by kernel_rfl
theorem bs_22_1_0 : ∀ (x0 : Int), builtSlice Try.prog 22 1 [(0, .int .u8 x0)] = some (5, [.int .u8 x0]) := fun _ => by kernel_rfl
theorem ca_32 : callable Try.prog 32 = true := by kernel_rfl
theorem bs_22_3_0_1_2 : ∀ (x0 : Int) (x1 : Int) (x2 : Int), builtSlice Try.prog 22 3 [(0, .int .u8 x0), (1, .int .u8 x1), (2, .int .u8 x2)] = some (5, [.int .u8 x0, .int .u8 x1, .int .u8 x2]) := fun _ _ _ => by kernel_rfl
theorem bs_79_8_0_1_2_3_4_5_6_7 : ∀ (x0 : Option Addr) (x1 : Option Addr) (x2 : Option Addr) (x3 : Option Addr) (x4 : Option Addr) (x5 : Option Addr) (x6 : Option Addr) (x7 : Option Addr), builtSlice Try.prog 79 8 [(0, .pointer x0), (1, .pointer x1), (2, .pointer x2), (3, .pointer x3), (4, .pointer x4), (5, .pointer x5), (6, .pointer x6), (7, .pointer x7)] = some (82, [.pointer x0, .pointer x1, .pointer x2, .pointer x3, .pointer x4, .pointer x5, .pointer x6, .pointer x7]) := fun _ _ _ _ _ _ _ _ => by kernel_rfl
theorem ca_52 : callable Try.prog 52 = true := by kernel_rfl
theorem si_79 : (sliceElem Try.prog 79).isSome = true := by kernel_rfl
theorem se_79 : sliceElem Try.prog 79 = some 1 := by kernel_rfl
theorem pt_82 : plainTy Try.prog 82 = true := by kernel_rfl
theorem ca_29 : callable Try.prog 29 = true := by kernel_rfl
theorem ca_27 : callable Try.prog 27 = true := by kernel_rfl
theorem ca_70 : callable Try.prog 70 = true := by kernel_rfl
theorem ca_58 : callable Try.prog 58 = true := by kernel_rfl
theorem ca_34 : callable Try.prog 34 = true := by kernel_rfl
theorem bd_47_ : Try.prog.built 47 [] = some #[.string ⟨#[]⟩, .slice none 0 0, .int .i64 0] := by kernel_rfl
theorem ca_35 : callable Try.prog 35 = true := by kernel_rfl
theorem bd_33_0 : ∀ (x0 : Int), Try.prog.built 33 [(0, .int .i64 x0)] = some #[.int .i64 x0, .int .i64 0, .int .i64 0, .int .i64 0, .int .i64 0, .int .i64 0, .int .i64 0, .int .i64 0, .int .i64 0] := fun _ => by kernel_rfl
theorem ca_53 : callable Try.prog 53 = true := by kernel_rfl
theorem ca_28 : callable Try.prog 28 = true := by kernel_rfl
theorem ca_59 : callable Try.prog 59 = true := by kernel_rfl
theorem ca_36 : callable Try.prog 36 = true := by kernel_rfl
theorem ca_60 : callable Try.prog 60 = true := by kernel_rfl
theorem ca_37 : callable Try.prog 37 = true := by kernel_rfl
end Go.Proofs.Ytmbohhfhhdopiaa
