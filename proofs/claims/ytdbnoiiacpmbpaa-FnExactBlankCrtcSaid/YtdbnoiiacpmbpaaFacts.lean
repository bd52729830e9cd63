/- Facts about the program: types, offsets, callable functions. -/
import Derived.Test.YtdbnoiiacpmbpaaTypes
import Derived.Test.YtdbnoiiacpmbpaaChecked
namespace Go.Proofs.Ytdbnoiiacpmbpaa
open Go.RowKit K
set_option maxRecDepth 100000
set_option maxHeartbeats 4000000

theorem ag_27 : aggTy Try.prog 27 = some 5 := by kernel_rfl
theorem fo_27_2 : fieldOff Try.prog 27 2 = some 2 := by kernel_rfl
theorem pt_22 : plainTy Try.prog 22 = true := by kernel_rfl
theorem si_22 : (sliceElem Try.prog 22).isSome = true := by kernel_rfl
theorem se_22 : sliceElem Try.prog 22 = some 11 := by kernel_rfl
theorem ag_98 : aggTy Try.prog 98 = some 11 := by kernel_rfl
theorem fo_98_6 : fieldOff Try.prog 98 6 = some 6 := by kernel_rfl
theorem pt_23 : plainTy Try.prog 23 = true := by kernel_rfl
theorem si_23 : (sliceElem Try.prog 23).isSome = true := by kernel_rfl
theorem ca_49 : callable Try.prog 49 = true := by kernel_rfl
theorem ca_69 : callable Try.prog 69 = true := by kernel_rfl
theorem ca_28 : callable Try.prog 28 = true := by kernel_rfl
theorem fo_27_3 : fieldOff Try.prog 27 3 = some 3 := by kernel_rfl
theorem ag_25 : aggTy Try.prog 25 = some 2 := by kernel_rfl
theorem fo_25_0 : fieldOff Try.prog 25 0 = some 0 := by kernel_rfl
theorem fo_25_1 : fieldOff Try.prog 25 1 = some 1 := by kernel_rfl
theorem ca_29 : callable Try.prog 29 = true := by kernel_rfl
theorem ca_8 : callable Try.prog 8 = true := by kernel_rfl
theorem zc_33 : zeroCells Try.prog 33 = some [.int .i64 0, .int .i64 0, .slice none 0 0, .slice none 0 0, .slice none 0 0] := by kernel_rfl
theorem fo_27_0 : fieldOff Try.prog 27 0 = some 0 := by kernel_rfl
theorem pt_3 : plainTy Try.prog 3 = true := by kernel_rfl
theorem fo_33_0 : fieldOff Try.prog 33 0 = some 0 := by kernel_rfl
theorem ts_3 : tySize Try.prog 3 = some 1 := by kernel_rfl
theorem fo_27_1 : fieldOff Try.prog 27 1 = some 1 := by kernel_rfl
theorem fo_33_1 : fieldOff Try.prog 33 1 = some 1 := by kernel_rfl
theorem mi_30 : makeInfo Try.prog 30 = some (59, 104, [.bool false, .int .i64 0, .int .i64 0, .int .i64 0, .int .i64 0, .int .i64 0, .slice none 0 0, .int .i64 0, .int .i64 0, .int .i64 0, .int .i64 0]) := by kernel_rfl
theorem zc_59 : zeroCells Try.prog 59 = some [.bool false, .int .i64 0, .int .i64 0, .int .i64 0, .int .i64 0, .int .i64 0, .slice none 0 0, .int .i64 0, .int .i64 0, .int .i64 0, .int .i64 0] := by kernel_rfl
theorem fo_98_0 : fieldOff Try.prog 98 0 = some 0 := by kernel_rfl
theorem pt_4 : plainTy Try.prog 4 = true := by kernel_rfl
theorem fo_59_0 : fieldOff Try.prog 59 0 = some 0 := by kernel_rfl
theorem ts_4 : tySize Try.prog 4 = some 1 := by kernel_rfl
theorem fo_98_1 : fieldOff Try.prog 98 1 = some 1 := by kernel_rfl
theorem fo_59_1 : fieldOff Try.prog 59 1 = some 1 := by kernel_rfl
theorem fo_98_2 : fieldOff Try.prog 98 2 = some 2 := by kernel_rfl
theorem fo_59_2 : fieldOff Try.prog 59 2 = some 2 := by kernel_rfl
theorem fo_98_3 : fieldOff Try.prog 98 3 = some 3 := by kernel_rfl
theorem fo_59_3 : fieldOff Try.prog 59 3 = some 3 := by kernel_rfl
theorem fo_98_4 : fieldOff Try.prog 98 4 = some 4 := by kernel_rfl
theorem fo_59_4 : fieldOff Try.prog 59 4 = some 4 := by kernel_rfl
theorem fo_98_5 : fieldOff Try.prog 98 5 = some 5 := by kernel_rfl
theorem fo_59_5 : fieldOff Try.prog 59 5 = some 5 := by kernel_rfl
theorem mi_23 : makeInfo Try.prog 23 = some (3, 8, [.int .i64 0]) := by kernel_rfl
theorem se_23 : sliceElem Try.prog 23 = some 1 := by kernel_rfl
theorem ca_52 : callable Try.prog 52 = true := by kernel_rfl
theorem fo_59_6 : fieldOff Try.prog 59 6 = some 6 := by kernel_rfl
theorem ts_23 : tySize Try.prog 23 = some 1 := by kernel_rfl
theorem fo_98_7 : fieldOff Try.prog 98 7 = some 7 := by kernel_rfl
theorem fo_59_7 : fieldOff Try.prog 59 7 = some 7 := by kernel_rfl
theorem fo_98_8 : fieldOff Try.prog 98 8 = some 8 := by kernel_rfl
theorem fo_59_8 : fieldOff Try.prog 59 8 = some 8 := by kernel_rfl
theorem fo_98_9 : fieldOff Try.prog 98 9 = some 9 := by kernel_rfl
theorem fo_59_9 : fieldOff Try.prog 59 9 = some 9 := by kernel_rfl
theorem fo_98_10 : fieldOff Try.prog 98 10 = some 10 := by kernel_rfl
theorem fo_59_10 : fieldOff Try.prog 59 10 = some 10 := by kernel_rfl
theorem ag_59 : aggTy Try.prog 59 = some 11 := by kernel_rfl
theorem ts_59 : tySize Try.prog 59 = some 11 := by kernel_rfl
theorem ca_71 : callable Try.prog 71 = true := by kernel_rfl
theorem se_30 : sliceElem Try.prog 30 = some 11 := by kernel_rfl
theorem ca_32 : callable Try.prog 32 = true := by kernel_rfl
theorem fo_33_2 : fieldOff Try.prog 33 2 = some 2 := by kernel_rfl
theorem ts_30 : tySize Try.prog 30 = some 1 := by kernel_rfl
theorem zc_31 : zeroCells Try.prog 31 = some [.slice none 0 0, .slice none 0 0] := by kernel_rfl
theorem fo_31_0 : fieldOff Try.prog 31 0 = some 0 := by kernel_rfl
theorem fo_31_1 : fieldOff Try.prog 31 1 = some 1 := by kernel_rfl
theorem ag_31 : aggTy Try.prog 31 = some 2 := by kernel_rfl
theorem ts_31 : tySize Try.prog 31 = some 2 := by kernel_rfl
theorem ca_33 : callable Try.prog 33 = true := by kernel_rfl
theorem fo_33_3 : fieldOff Try.prog 33 3 = some 3 := by kernel_rfl
theorem ag_33 : aggTy Try.prog 33 = some 5 := by kernel_rfl
theorem ts_33 : tySize Try.prog 33 = some 5 := by kernel_rfl
theorem ca_10 : callable Try.prog 10 = true := by kernel_rfl
theorem pt_30 : plainTy Try.prog 30 = true := by kernel_rfl
theorem si_30 : (sliceElem Try.prog 30).isSome = true := by kernel_rfl
theorem ca_50 : callable Try.prog 50 = true := by kernel_rfl
theorem ca_95 : callable Try.prog 95 = true := by kernel_rfl
theorem zc_72 : zeroCells Try.prog 72 = some [.int .i64 0, .int .i64 0, .slice none 0 0] := by kernel_rfl
theorem bd_72_ : Try.prog.built 72 [] = some #[.int .i64 0, .int .i64 0, .slice none 0 0] := by kernel_rfl
theorem ts_72 : tySize Try.prog 72 = some 3 := by kernel_rfl
theorem ag_72 : aggTy Try.prog 72 = some 3 := by kernel_rfl
theorem bd_72_0_1 : ∀ (x0 : Int) (x1 : Int), Try.prog.built 72 [(0, .int .i64 x0), (1, .int .i64 x1)] = some #[.int .i64 x0, .int .i64 x1, .slice none 0 0] := fun _ _ => by kernel_rfl
theorem bs_23_0_ : builtSlice Try.prog 23 0 [] = some (3, []) := by kernel_rfl
theorem bs_23_1_0 : ∀ (x0 : Int), builtSlice Try.prog 23 1 [(0, .int .i64 x0)] = some (3, [.int .i64 x0]) := fun _ => by kernel_rfl
theorem ca_148 : callable Try.prog 148 = true := by kernel_rfl
theorem fo_72_2 : fieldOff Try.prog 72 2 = some 2 := by kernel_rfl
theorem ca_103 : callable Try.prog 103 = true := by kernel_rfl
theorem ca_104 : callable Try.prog 104 = true := by kernel_rfl
theorem fo_72_0 : fieldOff Try.prog 72 0 = some 0 := by kernel_rfl
theorem fo_72_1 : fieldOff Try.prog 72 1 = some 1 := by kernel_rfl
theorem ca_75 : callable Try.prog 75 = true := by kernel_rfl
theorem ca_102 : callable Try.prog 102 = true := by kernel_rfl
theorem bs_23_2_0_1 : ∀ (x0 : Int) (x1 : Int), builtSlice Try.prog 23 2 [(0, .int .i64 x0), (1, .int .i64 x1)] = some (3, [.int .i64 x0, .int .i64 x1]) := fun _ _ => by kernel_rfl
theorem ca_74 : callable Try.prog 74 = true := by kernel_rfl
theorem ca_149 : callable Try.prog 149 = true := by kernel_rfl
theorem ca_135 : callable Try.prog 135 = true := by kernel_rfl
theorem ca_116 : callable Try.prog 116 = true := by kernel_rfl
theorem ca_136 : callable Try.prog 136 = true := by kernel_rfl
theorem bd_72_0_1_2 : ∀ (x0 : Int) (x1 : Int) (x2 : Option Addr) (y2 z2 : Nat), Try.prog.built 72 [(0, .int .i64 x0), (1, .int .i64 x1), (2, .slice x2 y2 z2)] = some #[.int .i64 x0, .int .i64 x1, .slice x2 y2 z2] := fun _ _ _ _ _ => by kernel_rfl
theorem ca_137 : callable Try.prog 137 = true := by kernel_rfl
theorem ca_117 : callable Try.prog 117 = true := by kernel_rfl
theorem ca_138 : callable Try.prog 138 = true := by kernel_rfl
theorem ca_118 : callable Try.prog 118 = true := by kernel_rfl
theorem ca_120 : callable Try.prog 120 = true := by kernel_rfl
theorem ca_139 : callable Try.prog 139 = true := by kernel_rfl
theorem ca_119 : callable Try.prog 119 = true := by kernel_rfl
theorem ca_96 : callable Try.prog 96 = true := by kernel_rfl
theorem ca_97 : callable Try.prog 97 = true := by kernel_rfl
theorem ca_70 : callable Try.prog 70 = true := by kernel_rfl
theorem ca_30 : callable Try.prog 30 = true := by kernel_rfl
theorem ca_31 : callable Try.prog 31 = true := by kernel_rfl
theorem ca_9 : callable Try.prog 9 = true := by kernel_rfl
theorem ca_53 : callable Try.prog 53 = true := by kernel_rfl
theorem ca_77 : callable Try.prog 77 = true := by kernel_rfl
theorem bd_59_ : Try.prog.built 59 [] = some #[.bool false, .int .i64 0, .int .i64 0, .int .i64 0, .int .i64 0, .int .i64 0, .slice none 0 0, .int .i64 0, .int .i64 0, .int .i64 0, .int .i64 0] := by kernel_rfl
theorem ub_4 : Try.prog.underlying 4 = some .bool := by kernel_rfl
theorem ca_94 : callable Try.prog 94 = true := by kernel_rfl
theorem ca_67 : callable Try.prog 67 = true := by kernel_rfl
theorem ca_79 : callable Try.prog 79 = true := by kernel_rfl
theorem ca_78 : callable Try.prog 78 = true := by kernel_rfl
theorem ca_105 : callable Try.prog 105 = true := by kernel_rfl
theorem ca_106 : callable Try.prog 106 = true := by kernel_rfl
theorem ca_127 : callable Try.prog 127 = true := by kernel_rfl
theorem ca_107 : callable Try.prog 107 = true := by kernel_rfl
theorem ca_108 : callable Try.prog 108 = true := by kernel_rfl
theorem ca_76 : callable Try.prog 76 = true := by kernel_rfl
theorem ca_141 : callable Try.prog 141 = true := by kernel_rfl
theorem ca_140 : callable Try.prog 140 = true := by kernel_rfl
theorem ca_121 : callable Try.prog 121 = true := by kernel_rfl
theorem ca_142 : callable Try.prog 142 = true := by kernel_rfl
theorem ca_143 : callable Try.prog 143 = true := by kernel_rfl
theorem ca_144 : callable Try.prog 144 = true := by kernel_rfl
theorem ca_122 : callable Try.prog 122 = true := by kernel_rfl
theorem ca_146 : callable Try.prog 146 = true := by kernel_rfl
theorem ca_145 : callable Try.prog 145 = true := by kernel_rfl
theorem ca_123 : callable Try.prog 123 = true := by kernel_rfl
theorem ca_126 : callable Try.prog 126 = true := by kernel_rfl
theorem ca_150 : callable Try.prog 150 = true := by kernel_rfl
theorem ca_147 : callable Try.prog 147 = true := by kernel_rfl
theorem ca_124 : callable Try.prog 124 = true := by kernel_rfl
theorem ca_98 : callable Try.prog 98 = true := by kernel_rfl
theorem ca_125 : callable Try.prog 125 = true := by kernel_rfl
theorem ca_101 : callable Try.prog 101 = true := by kernel_rfl
theorem ca_100 : callable Try.prog 100 = true := by kernel_rfl
theorem ca_99 : callable Try.prog 99 = true := by kernel_rfl
theorem ca_72 : callable Try.prog 72 = true := by kernel_rfl
theorem ca_34 : callable Try.prog 34 = true := by kernel_rfl
theorem ca_35 : callable Try.prog 35 = true := by kernel_rfl
theorem ca_11 : callable Try.prog 11 = true := by kernel_rfl
theorem ca_56 : callable Try.prog 56 = true := by kernel_rfl
theorem ca_73 : callable Try.prog 73 = true := by kernel_rfl
theorem ca_36 : callable Try.prog 36 = true := by kernel_rfl
theorem ca_37 : callable Try.prog 37 = true := by kernel_rfl
theorem ca_12 : callable Try.prog 12 = true := by kernel_rfl
theorem ca_39 : callable Try.prog 39 = true := by kernel_rfl
theorem bd_59_0_1_2_3_4_5_6_7 : ∀ (x0 : Bool) (x1 : Int) (x2 : Int) (x3 : Int) (x4 : Int) (x5 : Int) (x6 : Option Addr) (y6 z6 : Nat) (x7 : Int), Try.prog.built 59 [(0, .bool x0), (1, .int .i64 x1), (2, .int .i64 x2), (3, .int .i64 x3), (4, .int .i64 x4), (5, .int .i64 x5), (6, .slice x6 y6 z6), (7, .int .i64 x7)] = some #[.bool x0, .int .i64 x1, .int .i64 x2, .int .i64 x3, .int .i64 x4, .int .i64 x5, .slice x6 y6 z6, .int .i64 x7, .int .i64 0, .int .i64 0, .int .i64 0] := fun _ _ _ _ _ _ _ _ _ _ => by kernel_rfl
theorem ca_38 : callable Try.prog 38 = true := by kernel_rfl
theorem bs_30_4_0_1_2_3 : ∀ (x1 : Bool) (x2 : Int) (x3 : Int) (x4 : Int) (x5 : Int) (x6 : Int) (x7 : Option Addr) (y7 z7 : Nat) (x8 : Int) (x9 : Int) (x10 : Int) (x11 : Int) (x13 : Bool) (x14 : Int) (x15 : Int) (x16 : Int) (x17 : Int) (x18 : Int) (x19 : Option Addr) (y19 z19 : Nat) (x20 : Int) (x21 : Int) (x22 : Int) (x23 : Int) (x25 : Bool) (x26 : Int) (x27 : Int) (x28 : Int) (x29 : Int) (x30 : Int) (x31 : Option Addr) (y31 z31 : Nat) (x32 : Int) (x33 : Int) (x34 : Int) (x35 : Int) (x37 : Bool) (x38 : Int) (x39 : Int) (x40 : Int) (x41 : Int) (x42 : Int) (x43 : Option Addr) (y43 z43 : Nat) (x44 : Int) (x45 : Int) (x46 : Int) (x47 : Int), builtSlice Try.prog 30 4 [(0, .agg #[.bool x1, .int .i64 x2, .int .i64 x3, .int .i64 x4, .int .i64 x5, .int .i64 x6, .slice x7 y7 z7, .int .i64 x8, .int .i64 x9, .int .i64 x10, .int .i64 x11]), (1, .agg #[.bool x13, .int .i64 x14, .int .i64 x15, .int .i64 x16, .int .i64 x17, .int .i64 x18, .slice x19 y19 z19, .int .i64 x20, .int .i64 x21, .int .i64 x22, .int .i64 x23]), (2, .agg #[.bool x25, .int .i64 x26, .int .i64 x27, .int .i64 x28, .int .i64 x29, .int .i64 x30, .slice x31 y31 z31, .int .i64 x32, .int .i64 x33, .int .i64 x34, .int .i64 x35]), (3, .agg #[.bool x37, .int .i64 x38, .int .i64 x39, .int .i64 x40, .int .i64 x41, .int .i64 x42, .slice x43 y43 z43, .int .i64 x44, .int .i64 x45, .int .i64 x46, .int .i64 x47])] = some (59, [.bool x1, .int .i64 x2, .int .i64 x3, .int .i64 x4, .int .i64 x5, .int .i64 x6, .slice x7 y7 z7, .int .i64 x8, .int .i64 x9, .int .i64 x10, .int .i64 x11, .bool x13, .int .i64 x14, .int .i64 x15, .int .i64 x16, .int .i64 x17, .int .i64 x18, .slice x19 y19 z19, .int .i64 x20, .int .i64 x21, .int .i64 x22, .int .i64 x23, .bool x25, .int .i64 x26, .int .i64 x27, .int .i64 x28, .int .i64 x29, .int .i64 x30, .slice x31 y31 z31, .int .i64 x32, .int .i64 x33, .int .i64 x34, .int .i64 x35, .bool x37, .int .i64 x38, .int .i64 x39, .int .i64 x40, .int .i64 x41, .int .i64 x42, .slice x43 y43 z43, .int .i64 x44, .int .i64 x45, .int .i64 x46, .int .i64 x47]) := fun _ _ _ _ _ _ _ _ _ _ _ _ _ _ _ _ _ _ _ _ _ _ _ _ _ _ _ _ _ _ _ _ _ _ _ _ _ _ _ _ _ _ _ _ _ _ _ _ _ _ _ _ => by kernel_rfl
theorem bs_23_9_0_1_2_3_4_5_6_7_8 : ∀ (x0 : Int) (x1 : Int) (x2 : Int) (x3 : Int) (x4 : Int) (x5 : Int) (x6 : Int) (x7 : Int) (x8 : Int), builtSlice Try.prog 23 9 [(0, .int .i64 x0), (1, .int .i64 x1), (2, .int .i64 x2), (3, .int .i64 x3), (4, .int .i64 x4), (5, .int .i64 x5), (6, .int .i64 x6), (7, .int .i64 x7), (8, .int .i64 x8)] = some (3, [.int .i64 x0, .int .i64 x1, .int .i64 x2, .int .i64 x3, .int .i64 x4, .int .i64 x5, .int .i64 x6, .int .i64 x7, .int .i64 x8]) := fun _ _ _ _ _ _ _ _ _ => by kernel_rfl
theorem bd_31_0 : ∀ (x0 : Option Addr) (y0 z0 : Nat), Try.prog.built 31 [(0, .slice x0 y0 z0)] = some #[.slice x0 y0 z0, .slice none 0 0] := fun _ _ _ => by kernel_rfl
theorem ca_40 : callable Try.prog 40 = true := by kernel_rfl
theorem bd_33_0_1_2_3 : ∀ (x0 : Int) (x1 : Int) (x2 : Option Addr) (y2 z2 : Nat) (x4 : Option Addr) (y4 z4 : Nat) (x5 : Option Addr) (y5 z5 : Nat), Try.prog.built 33 [(0, .int .i64 x0), (1, .int .i64 x1), (2, .slice x2 y2 z2), (3, .agg #[.slice x4 y4 z4, .slice x5 y5 z5])] = some #[.int .i64 x0, .int .i64 x1, .slice x2 y2 z2, .slice x4 y4 z4, .slice x5 y5 z5] := fun _ _ _ _ _ _ _ _ _ _ _ => by kernel_rfl
theorem bd_33_ : Try.prog.built 33 [] = some #[.int .i64 0, .int .i64 0, .slice none 0 0, .slice none 0 0, .slice none 0 0] := by kernel_rfl
theorem ca_13 : callable Try.prog 13 = true := by kernel_rfl
theorem ca_41 : callable Try.prog 41 = true := by kernel_rfl
theorem ca_43 : callable Try.prog 43 = true := by kernel_rfl
theorem ca_42 : callable Try.prog 42 = true := by kernel_rfl
theorem ca_14 : callable Try.prog 14 = true := by kernel_rfl
theorem ca_80 : callable Try.prog 80 = true := by kernel_rfl
theorem ca_44 : callable Try.prog 44 = true := by kernel_rfl
theorem ca_45 : callable Try.prog 45 = true := by kernel_rfl
theorem ca_15 : callable Try.prog 15 = true := by kernel_rfl
theorem ca_81 : callable Try.prog 81 = true := by kernel_rfl
theorem ca_46 : callable Try.prog 46 = true := by kernel_rfl
theorem ca_47 : callable Try.prog 47 = true := by kernel_rfl
theorem ca_16 : callable Try.prog 16 = true := by kernel_rfl
theorem ag_43 : aggTy Try.prog 43 = some 4 := by kernel_rfl
theorem fo_43_0 : fieldOff Try.prog 43 0 = some 0 := by kernel_rfl
theorem pt_41 : plainTy Try.prog 41 = true := by kernel_rfl
theorem si_41 : (sliceElem Try.prog 41).isSome = true := by kernel_rfl
theorem se_41 : sliceElem Try.prog 41 = some 7 := by kernel_rfl
theorem ag_107 : aggTy Try.prog 107 = some 7 := by kernel_rfl
theorem fo_107_2 : fieldOff Try.prog 107 2 = some 2 := by kernel_rfl
theorem ca_82 : callable Try.prog 82 = true := by kernel_rfl
theorem ca_48 : callable Try.prog 48 = true := by kernel_rfl
theorem fo_43_1 : fieldOff Try.prog 43 1 = some 1 := by kernel_rfl
theorem fo_43_3 : fieldOff Try.prog 43 3 = some 3 := by kernel_rfl
theorem ca_17 : callable Try.prog 17 = true := by kernel_rfl
theorem zc_48 : zeroCells Try.prog 48 = some [.slice none 0 0, .slice none 0 0, .int .i64 0, .slice none 0 0] := by kernel_rfl
theorem mi_46 : makeInfo Try.prog 46 = some (80, 104, [.int .i64 0, .int .i64 0, .int .i64 0, .int .i64 0, .slice none 0 0, .slice none 0 0, .slice none 0 0]) := by kernel_rfl
theorem zc_80 : zeroCells Try.prog 80 = some [.int .i64 0, .int .i64 0, .int .i64 0, .int .i64 0, .slice none 0 0, .slice none 0 0, .slice none 0 0] := by kernel_rfl
theorem fo_107_0 : fieldOff Try.prog 107 0 = some 0 := by kernel_rfl
theorem fo_80_0 : fieldOff Try.prog 80 0 = some 0 := by kernel_rfl
theorem fo_107_1 : fieldOff Try.prog 107 1 = some 1 := by kernel_rfl
theorem fo_80_1 : fieldOff Try.prog 80 1 = some 1 := by kernel_rfl
theorem fo_80_2 : fieldOff Try.prog 80 2 = some 2 := by kernel_rfl
theorem ag_80 : aggTy Try.prog 80 = some 7 := by kernel_rfl
theorem ts_80 : tySize Try.prog 80 = some 7 := by kernel_rfl
theorem ca_83 : callable Try.prog 83 = true := by kernel_rfl
theorem se_46 : sliceElem Try.prog 46 = some 7 := by kernel_rfl
theorem ca_51 : callable Try.prog 51 = true := by kernel_rfl
theorem fo_48_0 : fieldOff Try.prog 48 0 = some 0 := by kernel_rfl
theorem ts_46 : tySize Try.prog 46 = some 1 := by kernel_rfl
theorem fo_48_1 : fieldOff Try.prog 48 1 = some 1 := by kernel_rfl
theorem fo_43_2 : fieldOff Try.prog 43 2 = some 2 := by kernel_rfl
theorem fo_48_2 : fieldOff Try.prog 48 2 = some 2 := by kernel_rfl
theorem fo_48_3 : fieldOff Try.prog 48 3 = some 3 := by kernel_rfl
theorem ag_48 : aggTy Try.prog 48 = some 4 := by kernel_rfl
theorem ts_48 : tySize Try.prog 48 = some 4 := by kernel_rfl
theorem ca_19 : callable Try.prog 19 = true := by kernel_rfl
theorem pt_46 : plainTy Try.prog 46 = true := by kernel_rfl
theorem si_46 : (sliceElem Try.prog 46).isSome = true := by kernel_rfl
theorem ca_18 : callable Try.prog 18 = true := by kernel_rfl
theorem ca_54 : callable Try.prog 54 = true := by kernel_rfl
theorem ca_20 : callable Try.prog 20 = true := by kernel_rfl
theorem ca_84 : callable Try.prog 84 = true := by kernel_rfl
theorem ca_55 : callable Try.prog 55 = true := by kernel_rfl
theorem ca_21 : callable Try.prog 21 = true := by kernel_rfl
theorem ca_57 : callable Try.prog 57 = true := by kernel_rfl
theorem ca_22 : callable Try.prog 22 = true := by kernel_rfl
theorem ca_85 : callable Try.prog 85 = true := by kernel_rfl
theorem ca_58 : callable Try.prog 58 = true := by kernel_rfl
theorem ca_23 : callable Try.prog 23 = true := by kernel_rfl
end Go.Proofs.Ytdbnoiiacpmbpaa
