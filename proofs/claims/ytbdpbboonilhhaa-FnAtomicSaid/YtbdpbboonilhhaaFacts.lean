/- Facts about the program: types, offsets, callable functions. -/
import Derived.Test.YtbdpbboonilhhaaTypes
import Derived.Test.YtbdpbboonilhhaaChecked
namespace Go.Proofs.Ytbdpbboonilhhaa
open Go.RowKit K
set_option maxRecDepth 100000
set_option maxHeartbeats 4000000

theorem si_22 : (sliceElem Try.prog 22).isSome = true := by kernel_rfl
theorem ca_10 : callable Try.prog 10 = true := by kernel_rfl
theorem zc_41 : zeroCells Try.prog 41 = some [.int .i64 0, .int .i64 0, .slice none 0 0, .slice none 0 0, .slice none 0 0] := by kernel_rfl
theorem se_22 : sliceElem Try.prog 22 = some 1 := by kernel_rfl
theorem pt_5 : plainTy Try.prog 5 = true := by kernel_rfl
theorem uS_5 : (Try.prog.underlying 5).isSome = true := by kernel_rfl
theorem ui_3_i64 : Try.prog.underlying 3 = some (.int .i64) := by kernel_rfl
theorem bd_137_0_2 : ∀ (x0 : Option Addr) (y0 z0 : Nat) (x1 : Int), Try.prog.built 137 [(0, .slice x0 y0 z0), (2, .int .i64 x1)] = some #[.slice x0 y0 z0, .int .i64 0, .int .i64 x1] := fun _ _ _ _ => by kernel_rfl
theorem ca_52 : callable Try.prog 52 = true := by kernel_rfl
theorem fo_137_2 : fieldOff Try.prog 137 2 = some 2 := by kernel_rfl
theorem pt_3 : plainTy Try.prog 3 = true := by kernel_rfl
theorem ts_3 : tySize Try.prog 3 = some 1 := by kernel_rfl
theorem fo_137_1 : fieldOff Try.prog 137 1 = some 1 := by kernel_rfl
theorem fo_137_0 : fieldOff Try.prog 137 0 = some 0 := by kernel_rfl
theorem pt_22 : plainTy Try.prog 22 = true := by kernel_rfl
theorem ca_110 : callable Try.prog 110 = true := by kernel_rfl
theorem ca_53 : callable Try.prog 53 = true := by kernel_rfl
theorem bs_28_7_0_1_2_3_4_5_6 : ∀ (x0 : Int) (x1 : Int) (x2 : Int) (x3 : Int) (x4 : Int) (x5 : Int) (x6 : Int), builtSlice Try.prog 28 7 [(0, .int .i64 x0), (1, .int .i64 x1), (2, .int .i64 x2), (3, .int .i64 x3), (4, .int .i64 x4), (5, .int .i64 x5), (6, .int .i64 x6)] = some (3, [.int .i64 x0, .int .i64 x1, .int .i64 x2, .int .i64 x3, .int .i64 x4, .int .i64 x5, .int .i64 x6]) := fun _ _ _ _ _ _ _ => by kernel_rfl
theorem si_28 : (sliceElem Try.prog 28).isSome = true := by kernel_rfl
theorem se_28 : sliceElem Try.prog 28 = some 1 := by kernel_rfl
theorem ca_116 : callable Try.prog 116 = true := by kernel_rfl
theorem ca_157 : callable Try.prog 157 = true := by kernel_rfl
theorem ca_56 : callable Try.prog 56 = true := by kernel_rfl
theorem ca_158 : callable Try.prog 158 = true := by kernel_rfl
theorem ca_111 : callable Try.prog 111 = true := by kernel_rfl
theorem zc_33 : zeroCells Try.prog 33 = some [.int .i64 0, .int .i64 0, .slice none 0 0] := by kernel_rfl
theorem ca_57 : callable Try.prog 57 = true := by kernel_rfl
theorem bd_33_ : Try.prog.built 33 [] = some #[.int .i64 0, .int .i64 0, .slice none 0 0] := by kernel_rfl
theorem ts_33 : tySize Try.prog 33 = some 3 := by kernel_rfl
theorem ag_33 : aggTy Try.prog 33 = some 3 := by kernel_rfl
theorem bd_33_0_1 : ∀ (x0 : Int) (x1 : Int), Try.prog.built 33 [(0, .int .i64 x0), (1, .int .i64 x1)] = some #[.int .i64 x0, .int .i64 x1, .slice none 0 0] := fun _ _ => by kernel_rfl
theorem fo_33_2 : fieldOff Try.prog 33 2 = some 2 := by kernel_rfl
theorem pt_28 : plainTy Try.prog 28 = true := by kernel_rfl
theorem bs_28_1_0 : ∀ (x0 : Int), builtSlice Try.prog 28 1 [(0, .int .i64 x0)] = some (3, [.int .i64 x0]) := fun _ => by kernel_rfl
theorem mi_28 : makeInfo Try.prog 28 = some (3, 8, [.int .i64 0]) := by kernel_rfl
theorem ts_28 : tySize Try.prog 28 = some 1 := by kernel_rfl
theorem ca_14 : callable Try.prog 14 = true := by kernel_rfl
theorem zc_141 : zeroCells Try.prog 141 = some [.int .i64 0, .int .i64 0, .int .i64 0, .int .i64 0] := by kernel_rfl
theorem bd_141_0_1_2_3 : ∀ (x0 : Int) (x1 : Int) (x2 : Int) (x3 : Int), Try.prog.built 141 [(0, .int .i64 x0), (1, .int .i64 x1), (2, .int .i64 x2), (3, .int .i64 x3)] = some #[.int .i64 x0, .int .i64 x1, .int .i64 x2, .int .i64 x3] := fun _ _ _ _ => by kernel_rfl
theorem ts_141 : tySize Try.prog 141 = some 4 := by kernel_rfl
theorem ag_141 : aggTy Try.prog 141 = some 4 := by kernel_rfl
theorem ca_113 : callable Try.prog 113 = true := by kernel_rfl
theorem fo_33_0 : fieldOff Try.prog 33 0 = some 0 := by kernel_rfl
theorem fo_33_1 : fieldOff Try.prog 33 1 = some 1 := by kernel_rfl
theorem bs_28_0_ : builtSlice Try.prog 28 0 [] = some (3, []) := by kernel_rfl
theorem bd_33_0_1_2 : ∀ (x0 : Int) (x1 : Int) (x2 : Option Addr) (y2 z2 : Nat), Try.prog.built 33 [(0, .int .i64 x0), (1, .int .i64 x1), (2, .slice x2 y2 z2)] = some #[.int .i64 x0, .int .i64 x1, .slice x2 y2 z2] := fun _ _ _ _ _ => by kernel_rfl
theorem ca_156 : callable Try.prog 156 = true := by kernel_rfl
theorem ca_98 : callable Try.prog 98 = true := by kernel_rfl
theorem fo_141_0 : fieldOff Try.prog 141 0 = some 0 := by kernel_rfl
theorem fo_141_1 : fieldOff Try.prog 141 1 = some 1 := by kernel_rfl
theorem fo_141_2 : fieldOff Try.prog 141 2 = some 2 := by kernel_rfl
theorem fo_141_3 : fieldOff Try.prog 141 3 = some 3 := by kernel_rfl
theorem ca_159 : callable Try.prog 159 = true := by kernel_rfl
theorem bd_141_2_3 : ∀ (x0 : Int) (x1 : Int), Try.prog.built 141 [(2, .int .i64 x0), (3, .int .i64 x1)] = some #[.int .i64 0, .int .i64 0, .int .i64 x0, .int .i64 x1] := fun _ _ => by kernel_rfl
theorem bd_141_ : Try.prog.built 141 [] = some #[.int .i64 0, .int .i64 0, .int .i64 0, .int .i64 0] := by kernel_rfl
theorem ca_144 : callable Try.prog 144 = true := by kernel_rfl
theorem ca_112 : callable Try.prog 112 = true := by kernel_rfl
theorem zc_30 : zeroCells Try.prog 30 = some [.bool false, .int .i64 0, .int .i64 0, .int .i64 0, .int .i64 0, .int .i64 0, .slice none 0 0, .int .i64 0, .int .i64 0, .int .i64 0, .int .i64 0] := by kernel_rfl
theorem bs_28_2_0_1 : ∀ (x0 : Int) (x1 : Int), builtSlice Try.prog 28 2 [(0, .int .i64 x0), (1, .int .i64 x1)] = some (3, [.int .i64 x0, .int .i64 x1]) := fun _ _ => by kernel_rfl
theorem ca_181 : callable Try.prog 181 = true := by kernel_rfl
theorem ca_182 : callable Try.prog 182 = true := by kernel_rfl
theorem ca_153 : callable Try.prog 153 = true := by kernel_rfl
theorem bd_30_ : Try.prog.built 30 [] = some #[.bool false, .int .i64 0, .int .i64 0, .int .i64 0, .int .i64 0, .int .i64 0, .slice none 0 0, .int .i64 0, .int .i64 0, .int .i64 0, .int .i64 0] := by kernel_rfl
theorem ts_30 : tySize Try.prog 30 = some 11 := by kernel_rfl
theorem ag_30 : aggTy Try.prog 30 = some 11 := by kernel_rfl
theorem bd_30_0_1_2_3_4_5_6_7 : ∀ (x0 : Bool) (x1 : Int) (x2 : Int) (x3 : Int) (x4 : Int) (x5 : Int) (x6 : Option Addr) (y6 z6 : Nat) (x7 : Int), Try.prog.built 30 [(0, .bool x0), (1, .int .i64 x1), (2, .int .i64 x2), (3, .int .i64 x3), (4, .int .i64 x4), (5, .int .i64 x5), (6, .slice x6 y6 z6), (7, .int .i64 x7)] = some #[.bool x0, .int .i64 x1, .int .i64 x2, .int .i64 x3, .int .i64 x4, .int .i64 x5, .slice x6 y6 z6, .int .i64 x7, .int .i64 0, .int .i64 0, .int .i64 0] := fun _ _ _ _ _ _ _ _ _ _ => by kernel_rfl
theorem ca_99 : callable Try.prog 99 = true := by kernel_rfl
theorem bs_24_1_0 : ∀ (x1 : Bool) (x2 : Int) (x3 : Int) (x4 : Int) (x5 : Int) (x6 : Int) (x7 : Option Addr) (y7 z7 : Nat) (x8 : Int) (x9 : Int) (x10 : Int) (x11 : Int), builtSlice Try.prog 24 1 [(0, .agg #[.bool x1, .int .i64 x2, .int .i64 x3, .int .i64 x4, .int .i64 x5, .int .i64 x6, .slice x7 y7 z7, .int .i64 x8, .int .i64 x9, .int .i64 x10, .int .i64 x11])] = some (30, [.bool x1, .int .i64 x2, .int .i64 x3, .int .i64 x4, .int .i64 x5, .int .i64 x6, .slice x7 y7 z7, .int .i64 x8, .int .i64 x9, .int .i64 x10, .int .i64 x11]) := fun _ _ _ _ _ _ _ _ _ _ _ _ _ => by kernel_rfl
theorem ca_114 : callable Try.prog 114 = true := by kernel_rfl
theorem ca_115 : callable Try.prog 115 = true := by kernel_rfl
theorem fo_30_7 : fieldOff Try.prog 30 7 = some 7 := by kernel_rfl
theorem fo_30_8 : fieldOff Try.prog 30 8 = some 8 := by kernel_rfl
theorem fo_30_9 : fieldOff Try.prog 30 9 = some 9 := by kernel_rfl
theorem fo_30_10 : fieldOff Try.prog 30 10 = some 10 := by kernel_rfl
theorem mi_24 : makeInfo Try.prog 24 = some (30, 104, [.bool false, .int .i64 0, .int .i64 0, .int .i64 0, .int .i64 0, .int .i64 0, .slice none 0 0, .int .i64 0, .int .i64 0, .int .i64 0, .int .i64 0]) := by kernel_rfl
theorem ca_54 : callable Try.prog 54 = true := by kernel_rfl
theorem zc_39 : zeroCells Try.prog 39 = some [.slice none 0 0, .slice none 0 0] := by kernel_rfl
theorem bs_28_9_0_1_2_3_4_5_6_7_8 : ∀ (x0 : Int) (x1 : Int) (x2 : Int) (x3 : Int) (x4 : Int) (x5 : Int) (x6 : Int) (x7 : Int) (x8 : Int), builtSlice Try.prog 28 9 [(0, .int .i64 x0), (1, .int .i64 x1), (2, .int .i64 x2), (3, .int .i64 x3), (4, .int .i64 x4), (5, .int .i64 x5), (6, .int .i64 x6), (7, .int .i64 x7), (8, .int .i64 x8)] = some (3, [.int .i64 x0, .int .i64 x1, .int .i64 x2, .int .i64 x3, .int .i64 x4, .int .i64 x5, .int .i64 x6, .int .i64 x7, .int .i64 x8]) := fun _ _ _ _ _ _ _ _ _ => by kernel_rfl
theorem bd_39_0 : ∀ (x0 : Option Addr) (y0 z0 : Nat), Try.prog.built 39 [(0, .slice x0 y0 z0)] = some #[.slice x0 y0 z0, .slice none 0 0] := fun _ _ _ => by kernel_rfl
theorem ts_39 : tySize Try.prog 39 = some 2 := by kernel_rfl
theorem fo_39_1 : fieldOff Try.prog 39 1 = some 1 := by kernel_rfl
theorem ag_39 : aggTy Try.prog 39 = some 2 := by kernel_rfl
theorem ca_171 : callable Try.prog 171 = true := by kernel_rfl
theorem fo_39_0 : fieldOff Try.prog 39 0 = some 0 := by kernel_rfl
theorem ca_129 : callable Try.prog 129 = true := by kernel_rfl
theorem bd_41_0_1_2_3 : ∀ (x0 : Int) (x1 : Int) (x2 : Option Addr) (y2 z2 : Nat) (x4 : Option Addr) (y4 z4 : Nat) (x5 : Option Addr) (y5 z5 : Nat), Try.prog.built 41 [(0, .int .i64 x0), (1, .int .i64 x1), (2, .slice x2 y2 z2), (3, .agg #[.slice x4 y4 z4, .slice x5 y5 z5])] = some #[.int .i64 x0, .int .i64 x1, .slice x2 y2 z2, .slice x4 y4 z4, .slice x5 y5 z5] := fun _ _ _ _ _ _ _ _ _ _ _ => by kernel_rfl
theorem ts_41 : tySize Try.prog 41 = some 5 := by kernel_rfl
theorem ag_41 : aggTy Try.prog 41 = some 5 := by kernel_rfl
theorem ca_66 : callable Try.prog 66 = true := by kernel_rfl
theorem bs_42_0_ : builtSlice Try.prog 42 0 [] = some (49, []) := by kernel_rfl
theorem fo_41_0 : fieldOff Try.prog 41 0 = some 0 := by kernel_rfl
theorem fo_41_1 : fieldOff Try.prog 41 1 = some 1 := by kernel_rfl
theorem bs_28_4_0_1_2_3 : ∀ (x0 : Int) (x1 : Int) (x2 : Int) (x3 : Int), builtSlice Try.prog 28 4 [(0, .int .i64 x0), (1, .int .i64 x1), (2, .int .i64 x2), (3, .int .i64 x3)] = some (3, [.int .i64 x0, .int .i64 x1, .int .i64 x2, .int .i64 x3]) := fun _ _ _ _ => by kernel_rfl
theorem ca_130 : callable Try.prog 130 = true := by kernel_rfl
theorem bd_49_0_2 : ∀ (x0 : Int) (x2 : Option Addr) (y2 z2 : Nat) (x3 : Option Addr) (y3 z3 : Nat), Try.prog.built 49 [(0, .int .i64 x0), (2, .agg #[.slice x2 y2 z2, .slice x3 y3 z3])] = some #[.int .i64 x0, .bool false, .int .i64 0, .int .i64 0, .int .i64 0, .int .i64 0, .int .i64 0, .slice none 0 0, .int .i64 0, .int .i64 0, .int .i64 0, .int .i64 0, .slice x2 y2 z2, .slice x3 y3 z3] := fun _ _ _ _ _ _ _ => by kernel_rfl
theorem bs_42_1_0 : ∀ (x1 : Int) (x3 : Bool) (x4 : Int) (x5 : Int) (x6 : Int) (x7 : Int) (x8 : Int) (x9 : Option Addr) (y9 z9 : Nat) (x10 : Int) (x11 : Int) (x12 : Int) (x13 : Int) (x15 : Option Addr) (y15 z15 : Nat) (x16 : Option Addr) (y16 z16 : Nat), builtSlice Try.prog 42 1 [(0, .agg #[.int .i64 x1, .bool x3, .int .i64 x4, .int .i64 x5, .int .i64 x6, .int .i64 x7, .int .i64 x8, .slice x9 y9 z9, .int .i64 x10, .int .i64 x11, .int .i64 x12, .int .i64 x13, .slice x15 y15 z15, .slice x16 y16 z16])] = some (49, [.int .i64 x1, .bool x3, .int .i64 x4, .int .i64 x5, .int .i64 x6, .int .i64 x7, .int .i64 x8, .slice x9 y9 z9, .int .i64 x10, .int .i64 x11, .int .i64 x12, .int .i64 x13, .slice x15 y15 z15, .slice x16 y16 z16]) := fun _ _ _ _ _ _ _ _ _ _ _ _ _ _ _ _ _ _ _ _ => by kernel_rfl
theorem mi_42 : makeInfo Try.prog 42 = some (49, 160, [.int .i64 0, .bool false, .int .i64 0, .int .i64 0, .int .i64 0, .int .i64 0, .int .i64 0, .slice none 0 0, .int .i64 0, .int .i64 0, .int .i64 0, .int .i64 0, .slice none 0 0, .slice none 0 0]) := by kernel_rfl
theorem se_24 : sliceElem Try.prog 24 = some 11 := by kernel_rfl
theorem bd_49_0_1 : ∀ (x0 : Int) (x2 : Bool) (x3 : Int) (x4 : Int) (x5 : Int) (x6 : Int) (x7 : Int) (x8 : Option Addr) (y8 z8 : Nat) (x9 : Int) (x10 : Int) (x11 : Int) (x12 : Int), Try.prog.built 49 [(0, .int .i64 x0), (1, .agg #[.bool x2, .int .i64 x3, .int .i64 x4, .int .i64 x5, .int .i64 x6, .int .i64 x7, .slice x8 y8 z8, .int .i64 x9, .int .i64 x10, .int .i64 x11, .int .i64 x12])] = some #[.int .i64 x0, .bool x2, .int .i64 x3, .int .i64 x4, .int .i64 x5, .int .i64 x6, .int .i64 x7, .slice x8 y8 z8, .int .i64 x9, .int .i64 x10, .int .i64 x11, .int .i64 x12, .slice none 0 0, .slice none 0 0] := fun _ _ _ _ _ _ _ _ _ _ _ _ _ _ => by kernel_rfl
theorem bs_28_5_0_1_2_3_4 : ∀ (x0 : Int) (x1 : Int) (x2 : Int) (x3 : Int) (x4 : Int), builtSlice Try.prog 28 5 [(0, .int .i64 x0), (1, .int .i64 x1), (2, .int .i64 x2), (3, .int .i64 x3), (4, .int .i64 x4)] = some (3, [.int .i64 x0, .int .i64 x1, .int .i64 x2, .int .i64 x3, .int .i64 x4]) := fun _ _ _ _ _ => by kernel_rfl
theorem ca_131 : callable Try.prog 131 = true := by kernel_rfl
theorem ca_67 : callable Try.prog 67 = true := by kernel_rfl
theorem ca_18 : callable Try.prog 18 = true := by kernel_rfl
theorem fo_41_2 : fieldOff Try.prog 41 2 = some 2 := by kernel_rfl
theorem pt_24 : plainTy Try.prog 24 = true := by kernel_rfl
theorem ca_71 : callable Try.prog 71 = true := by kernel_rfl
theorem fo_41_3 : fieldOff Try.prog 41 3 = some 3 := by kernel_rfl
theorem ca_132 : callable Try.prog 132 = true := by kernel_rfl
theorem bd_39_0_1 : ∀ (x0 : Option Addr) (y0 z0 : Nat) (x1 : Option Addr) (y1 z1 : Nat), Try.prog.built 39 [(0, .slice x0 y0 z0), (1, .slice x1 y1 z1)] = some #[.slice x0 y0 z0, .slice x1 y1 z1] := fun _ _ _ _ _ _ => by kernel_rfl
theorem ca_70 : callable Try.prog 70 = true := by kernel_rfl
theorem ca_68 : callable Try.prog 68 = true := by kernel_rfl
theorem si_24 : (sliceElem Try.prog 24).isSome = true := by kernel_rfl
theorem ca_59 : callable Try.prog 59 = true := by kernel_rfl
theorem ca_60 : callable Try.prog 60 = true := by kernel_rfl
theorem fo_30_0 : fieldOff Try.prog 30 0 = some 0 := by kernel_rfl
theorem pt_4 : plainTy Try.prog 4 = true := by kernel_rfl
theorem ub_4 : Try.prog.underlying 4 = some .bool := by kernel_rfl
theorem fo_30_1 : fieldOff Try.prog 30 1 = some 1 := by kernel_rfl
theorem fo_30_2 : fieldOff Try.prog 30 2 = some 2 := by kernel_rfl
theorem fo_30_3 : fieldOff Try.prog 30 3 = some 3 := by kernel_rfl
theorem fo_30_4 : fieldOff Try.prog 30 4 = some 4 := by kernel_rfl
theorem fo_30_5 : fieldOff Try.prog 30 5 = some 5 := by kernel_rfl
theorem fo_30_6 : fieldOff Try.prog 30 6 = some 6 := by kernel_rfl
theorem ca_121 : callable Try.prog 121 = true := by kernel_rfl
theorem ca_61 : callable Try.prog 61 = true := by kernel_rfl
theorem ca_162 : callable Try.prog 162 = true := by kernel_rfl
theorem ca_127 : callable Try.prog 127 = true := by kernel_rfl
theorem ca_81 : callable Try.prog 81 = true := by kernel_rfl
theorem ca_117 : callable Try.prog 117 = true := by kernel_rfl
theorem ca_160 : callable Try.prog 160 = true := by kernel_rfl
theorem ca_118 : callable Try.prog 118 = true := by kernel_rfl
theorem ca_119 : callable Try.prog 119 = true := by kernel_rfl
theorem ca_55 : callable Try.prog 55 = true := by kernel_rfl
theorem ca_164 : callable Try.prog 164 = true := by kernel_rfl
theorem ca_163 : callable Try.prog 163 = true := by kernel_rfl
theorem ca_122 : callable Try.prog 122 = true := by kernel_rfl
theorem ca_165 : callable Try.prog 165 = true := by kernel_rfl
theorem ca_166 : callable Try.prog 166 = true := by kernel_rfl
theorem ca_167 : callable Try.prog 167 = true := by kernel_rfl
theorem ca_123 : callable Try.prog 123 = true := by kernel_rfl
theorem ca_169 : callable Try.prog 169 = true := by kernel_rfl
theorem ca_168 : callable Try.prog 168 = true := by kernel_rfl
theorem ca_124 : callable Try.prog 124 = true := by kernel_rfl
theorem ca_128 : callable Try.prog 128 = true := by kernel_rfl
theorem ca_161 : callable Try.prog 161 = true := by kernel_rfl
theorem ca_170 : callable Try.prog 170 = true := by kernel_rfl
theorem ca_125 : callable Try.prog 125 = true := by kernel_rfl
theorem ca_62 : callable Try.prog 62 = true := by kernel_rfl
theorem ca_126 : callable Try.prog 126 = true := by kernel_rfl
theorem ca_65 : callable Try.prog 65 = true := by kernel_rfl
theorem ca_64 : callable Try.prog 64 = true := by kernel_rfl
theorem ca_63 : callable Try.prog 63 = true := by kernel_rfl
theorem ca_17 : callable Try.prog 17 = true := by kernel_rfl
theorem ca_16 : callable Try.prog 16 = true := by kernel_rfl
theorem ca_74 : callable Try.prog 74 = true := by kernel_rfl
theorem ca_21 : callable Try.prog 21 = true := by kernel_rfl
theorem si_42 : (sliceElem Try.prog 42).isSome = true := by kernel_rfl
theorem se_42 : sliceElem Try.prog 42 = some 14 := by kernel_rfl
theorem ag_49 : aggTy Try.prog 49 = some 14 := by kernel_rfl
theorem zc_49 : zeroCells Try.prog 49 = some [.int .i64 0, .bool false, .int .i64 0, .int .i64 0, .int .i64 0, .int .i64 0, .int .i64 0, .slice none 0 0, .int .i64 0, .int .i64 0, .int .i64 0, .int .i64 0, .slice none 0 0, .slice none 0 0] := by kernel_rfl
theorem ts_49 : tySize Try.prog 49 = some 14 := by kernel_rfl
theorem fo_49_0 : fieldOff Try.prog 49 0 = some 0 := by kernel_rfl
theorem fo_49_1 : fieldOff Try.prog 49 1 = some 1 := by kernel_rfl
theorem fo_49_2 : fieldOff Try.prog 49 2 = some 12 := by kernel_rfl
theorem ca_69 : callable Try.prog 69 = true := by kernel_rfl
theorem ca_19 : callable Try.prog 19 = true := by kernel_rfl
theorem ca_72 : callable Try.prog 72 = true := by kernel_rfl
theorem ca_73 : callable Try.prog 73 = true := by kernel_rfl
theorem ca_20 : callable Try.prog 20 = true := by kernel_rfl
end Go.Proofs.Ytbdpbboonilhhaa
