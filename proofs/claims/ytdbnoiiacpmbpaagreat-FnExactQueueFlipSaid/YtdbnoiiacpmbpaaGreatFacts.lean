/- Facts about the program: types, offsets, callable functions. -/
import Derived.Test.YtdbnoiiacpmbpaaGreatTypes
import Derived.Test.YtdbnoiiacpmbpaaGreatChecked
namespace Go.Proofs.YtdbnoiiacpmbpaaGreat
open Go.RowKit K
set_option maxRecDepth 100000
set_option maxHeartbeats 4000000

theorem ag_59 : aggTy Tryz.prog 59 = some 4 := by kernel_rfl
theorem fo_59_0 : fieldOff Tryz.prog 59 0 = some 0 := by kernel_rfl
theorem pt_57 : plainTy Tryz.prog 57 = true := by kernel_rfl
theorem si_57 : (sliceElem Tryz.prog 57).isSome = true := by kernel_rfl
theorem se_57 : sliceElem Tryz.prog 57 = some 7 := by kernel_rfl
theorem ag_137 : aggTy Tryz.prog 137 = some 7 := by kernel_rfl
theorem fo_137_2 : fieldOff Tryz.prog 137 2 = some 2 := by kernel_rfl
theorem ag_41 : aggTy Tryz.prog 41 = some 5 := by kernel_rfl
theorem fo_41_2 : fieldOff Tryz.prog 41 2 = some 2 := by kernel_rfl
theorem pt_22 : plainTy Tryz.prog 22 = true := by kernel_rfl
theorem si_22 : (sliceElem Tryz.prog 22).isSome = true := by kernel_rfl
theorem se_22 : sliceElem Tryz.prog 22 = some 11 := by kernel_rfl
theorem ag_86 : aggTy Tryz.prog 86 = some 11 := by kernel_rfl
theorem fo_86_6 : fieldOff Tryz.prog 86 6 = some 6 := by kernel_rfl
theorem pt_23 : plainTy Tryz.prog 23 = true := by kernel_rfl
theorem si_23 : (sliceElem Tryz.prog 23).isSome = true := by kernel_rfl
theorem ca_50 : callable Tryz.prog 50 = true := by kernel_rfl
theorem ca_49 : callable Tryz.prog 49 = true := by kernel_rfl
theorem ca_9 : callable Tryz.prog 9 = true := by kernel_rfl
theorem fo_41_3 : fieldOff Tryz.prog 41 3 = some 3 := by kernel_rfl
theorem ag_25 : aggTy Tryz.prog 25 = some 2 := by kernel_rfl
theorem fo_25_0 : fieldOff Tryz.prog 25 0 = some 0 := by kernel_rfl
theorem fo_25_1 : fieldOff Tryz.prog 25 1 = some 1 := by kernel_rfl
theorem ca_10 : callable Tryz.prog 10 = true := by kernel_rfl
theorem ca_22 : callable Tryz.prog 22 = true := by kernel_rfl
theorem ca_114 : callable Tryz.prog 114 = true := by kernel_rfl
theorem ca_77 : callable Tryz.prog 77 = true := by kernel_rfl
theorem fo_59_1 : fieldOff Tryz.prog 59 1 = some 1 := by kernel_rfl
theorem fo_59_3 : fieldOff Tryz.prog 59 3 = some 3 := by kernel_rfl
theorem ca_33 : callable Tryz.prog 33 = true := by kernel_rfl
theorem zc_63 : zeroCells Tryz.prog 63 = some [.slice none 0 0, .slice none 0 0, .int .i64 0, .slice none 0 0] := by kernel_rfl
theorem mi_61 : makeInfo Tryz.prog 61 = some (113, 104, [.int .i64 0, .int .i64 0, .int .i64 0, .int .i64 0, .slice none 0 0, .slice none 0 0, .slice none 0 0]) := by kernel_rfl
theorem zc_113 : zeroCells Tryz.prog 113 = some [.int .i64 0, .int .i64 0, .int .i64 0, .int .i64 0, .slice none 0 0, .slice none 0 0, .slice none 0 0] := by kernel_rfl
theorem fo_137_0 : fieldOff Tryz.prog 137 0 = some 0 := by kernel_rfl
theorem pt_3 : plainTy Tryz.prog 3 = true := by kernel_rfl
theorem fo_113_0 : fieldOff Tryz.prog 113 0 = some 0 := by kernel_rfl
theorem ts_3 : tySize Tryz.prog 3 = some 1 := by kernel_rfl
theorem fo_137_1 : fieldOff Tryz.prog 137 1 = some 1 := by kernel_rfl
theorem fo_113_1 : fieldOff Tryz.prog 113 1 = some 1 := by kernel_rfl
theorem zc_46 : zeroCells Tryz.prog 46 = some [.int .i64 0, .int .i64 0, .slice none 0 0, .slice none 0 0, .slice none 0 0] := by kernel_rfl
theorem fo_41_0 : fieldOff Tryz.prog 41 0 = some 0 := by kernel_rfl
theorem fo_46_0 : fieldOff Tryz.prog 46 0 = some 0 := by kernel_rfl
theorem fo_41_1 : fieldOff Tryz.prog 41 1 = some 1 := by kernel_rfl
theorem fo_46_1 : fieldOff Tryz.prog 46 1 = some 1 := by kernel_rfl
theorem mi_29 : makeInfo Tryz.prog 29 = some (82, 104, [.bool false, .int .i64 0, .int .i64 0, .int .i64 0, .int .i64 0, .int .i64 0, .slice none 0 0, .int .i64 0, .int .i64 0, .int .i64 0, .int .i64 0]) := by kernel_rfl
theorem zc_82 : zeroCells Tryz.prog 82 = some [.bool false, .int .i64 0, .int .i64 0, .int .i64 0, .int .i64 0, .int .i64 0, .slice none 0 0, .int .i64 0, .int .i64 0, .int .i64 0, .int .i64 0] := by kernel_rfl
theorem fo_86_0 : fieldOff Tryz.prog 86 0 = some 0 := by kernel_rfl
theorem pt_4 : plainTy Tryz.prog 4 = true := by kernel_rfl
theorem fo_82_0 : fieldOff Tryz.prog 82 0 = some 0 := by kernel_rfl
theorem ts_4 : tySize Tryz.prog 4 = some 1 := by kernel_rfl
theorem fo_86_1 : fieldOff Tryz.prog 86 1 = some 1 := by kernel_rfl
theorem fo_82_1 : fieldOff Tryz.prog 82 1 = some 1 := by kernel_rfl
theorem fo_86_2 : fieldOff Tryz.prog 86 2 = some 2 := by kernel_rfl
theorem fo_82_2 : fieldOff Tryz.prog 82 2 = some 2 := by kernel_rfl
theorem fo_86_3 : fieldOff Tryz.prog 86 3 = some 3 := by kernel_rfl
theorem fo_82_3 : fieldOff Tryz.prog 82 3 = some 3 := by kernel_rfl
theorem fo_86_4 : fieldOff Tryz.prog 86 4 = some 4 := by kernel_rfl
theorem fo_82_4 : fieldOff Tryz.prog 82 4 = some 4 := by kernel_rfl
theorem fo_86_5 : fieldOff Tryz.prog 86 5 = some 5 := by kernel_rfl
theorem fo_82_5 : fieldOff Tryz.prog 82 5 = some 5 := by kernel_rfl
theorem mi_23 : makeInfo Tryz.prog 23 = some (3, 8, [.int .i64 0]) := by kernel_rfl
theorem se_23 : sliceElem Tryz.prog 23 = some 1 := by kernel_rfl
theorem ca_56 : callable Tryz.prog 56 = true := by kernel_rfl
theorem fo_82_6 : fieldOff Tryz.prog 82 6 = some 6 := by kernel_rfl
theorem ts_23 : tySize Tryz.prog 23 = some 1 := by kernel_rfl
theorem fo_86_7 : fieldOff Tryz.prog 86 7 = some 7 := by kernel_rfl
theorem fo_82_7 : fieldOff Tryz.prog 82 7 = some 7 := by kernel_rfl
theorem fo_86_8 : fieldOff Tryz.prog 86 8 = some 8 := by kernel_rfl
theorem fo_82_8 : fieldOff Tryz.prog 82 8 = some 8 := by kernel_rfl
theorem fo_86_9 : fieldOff Tryz.prog 86 9 = some 9 := by kernel_rfl
theorem fo_82_9 : fieldOff Tryz.prog 82 9 = some 9 := by kernel_rfl
theorem fo_86_10 : fieldOff Tryz.prog 86 10 = some 10 := by kernel_rfl
theorem fo_82_10 : fieldOff Tryz.prog 82 10 = some 10 := by kernel_rfl
theorem ag_82 : aggTy Tryz.prog 82 = some 11 := by kernel_rfl
theorem ts_82 : tySize Tryz.prog 82 = some 11 := by kernel_rfl
theorem ca_55 : callable Tryz.prog 55 = true := by kernel_rfl
theorem se_29 : sliceElem Tryz.prog 29 = some 11 := by kernel_rfl
theorem ca_12 : callable Tryz.prog 12 = true := by kernel_rfl
theorem fo_46_2 : fieldOff Tryz.prog 46 2 = some 2 := by kernel_rfl
theorem ts_29 : tySize Tryz.prog 29 = some 1 := by kernel_rfl
theorem zc_31 : zeroCells Tryz.prog 31 = some [.slice none 0 0, .slice none 0 0] := by kernel_rfl
theorem fo_31_0 : fieldOff Tryz.prog 31 0 = some 0 := by kernel_rfl
theorem fo_31_1 : fieldOff Tryz.prog 31 1 = some 1 := by kernel_rfl
theorem ag_31 : aggTy Tryz.prog 31 = some 2 := by kernel_rfl
theorem ts_31 : tySize Tryz.prog 31 = some 2 := by kernel_rfl
theorem ca_13 : callable Tryz.prog 13 = true := by kernel_rfl
theorem fo_46_3 : fieldOff Tryz.prog 46 3 = some 3 := by kernel_rfl
theorem ag_46 : aggTy Tryz.prog 46 = some 5 := by kernel_rfl
theorem ts_46 : tySize Tryz.prog 46 = some 5 := by kernel_rfl
theorem ca_25 : callable Tryz.prog 25 = true := by kernel_rfl
theorem fo_113_2 : fieldOff Tryz.prog 113 2 = some 2 := by kernel_rfl
theorem ag_113 : aggTy Tryz.prog 113 = some 7 := by kernel_rfl
theorem ts_113 : tySize Tryz.prog 113 = some 7 := by kernel_rfl
theorem ca_116 : callable Tryz.prog 116 = true := by kernel_rfl
theorem se_61 : sliceElem Tryz.prog 61 = some 7 := by kernel_rfl
theorem ca_80 : callable Tryz.prog 80 = true := by kernel_rfl
theorem fo_63_0 : fieldOff Tryz.prog 63 0 = some 0 := by kernel_rfl
theorem ts_61 : tySize Tryz.prog 61 = some 1 := by kernel_rfl
theorem fo_63_1 : fieldOff Tryz.prog 63 1 = some 1 := by kernel_rfl
theorem fo_59_2 : fieldOff Tryz.prog 59 2 = some 2 := by kernel_rfl
theorem fo_63_2 : fieldOff Tryz.prog 63 2 = some 2 := by kernel_rfl
theorem fo_63_3 : fieldOff Tryz.prog 63 3 = some 3 := by kernel_rfl
theorem ag_63 : aggTy Tryz.prog 63 = some 4 := by kernel_rfl
theorem ts_63 : tySize Tryz.prog 63 = some 4 := by kernel_rfl
theorem ca_35 : callable Tryz.prog 35 = true := by kernel_rfl
theorem pt_61 : plainTy Tryz.prog 61 = true := by kernel_rfl
theorem si_61 : (sliceElem Tryz.prog 61).isSome = true := by kernel_rfl
theorem ca_88 : callable Tryz.prog 88 = true := by kernel_rfl
theorem pt_29 : plainTy Tryz.prog 29 = true := by kernel_rfl
theorem si_29 : (sliceElem Tryz.prog 29).isSome = true := by kernel_rfl
theorem ca_111 : callable Tryz.prog 111 = true := by kernel_rfl
theorem zc_96 : zeroCells Tryz.prog 96 = some [.int .i64 0, .int .i64 0, .slice none 0 0] := by kernel_rfl
theorem bd_96_ : Tryz.prog.built 96 [] = some #[.int .i64 0, .int .i64 0, .slice none 0 0] := by kernel_rfl
theorem ts_96 : tySize Tryz.prog 96 = some 3 := by kernel_rfl
theorem ag_96 : aggTy Tryz.prog 96 = some 3 := by kernel_rfl
theorem bd_96_0_1 : ∀ (x0 : Int) (x1 : Int), Tryz.prog.built 96 [(0, .int .i64 x0), (1, .int .i64 x1)] = some #[.int .i64 x0, .int .i64 x1, .slice none 0 0] := fun _ _ => by kernel_rfl
theorem bs_23_0_ : builtSlice Tryz.prog 23 0 [] = some (3, []) := by kernel_rfl
theorem bs_23_1_0 : ∀ (x0 : Int), builtSlice Tryz.prog 23 1 [(0, .int .i64 x0)] = some (3, [.int .i64 x0]) := fun _ => by kernel_rfl
theorem ca_203 : callable Tryz.prog 203 = true := by kernel_rfl
theorem fo_96_2 : fieldOff Tryz.prog 96 2 = some 2 := by kernel_rfl
theorem ca_201 : callable Tryz.prog 201 = true := by kernel_rfl
theorem ca_202 : callable Tryz.prog 202 = true := by kernel_rfl
theorem fo_96_0 : fieldOff Tryz.prog 96 0 = some 0 := by kernel_rfl
theorem fo_96_1 : fieldOff Tryz.prog 96 1 = some 1 := by kernel_rfl
theorem ca_100 : callable Tryz.prog 100 = true := by kernel_rfl
theorem ca_168 : callable Tryz.prog 168 = true := by kernel_rfl
theorem bs_23_2_0_1 : ∀ (x0 : Int) (x1 : Int), builtSlice Tryz.prog 23 2 [(0, .int .i64 x0), (1, .int .i64 x1)] = some (3, [.int .i64 x0, .int .i64 x1]) := fun _ _ => by kernel_rfl
theorem ca_193 : callable Tryz.prog 193 = true := by kernel_rfl
theorem ca_204 : callable Tryz.prog 204 = true := by kernel_rfl
theorem ca_194 : callable Tryz.prog 194 = true := by kernel_rfl
theorem ca_165 : callable Tryz.prog 165 = true := by kernel_rfl
theorem ca_195 : callable Tryz.prog 195 = true := by kernel_rfl
theorem bd_96_0_1_2 : ∀ (x0 : Int) (x1 : Int) (x2 : Option Addr) (y2 z2 : Nat), Tryz.prog.built 96 [(0, .int .i64 x0), (1, .int .i64 x1), (2, .slice x2 y2 z2)] = some #[.int .i64 x0, .int .i64 x1, .slice x2 y2 z2] := fun _ _ _ _ _ => by kernel_rfl
theorem ca_196 : callable Tryz.prog 196 = true := by kernel_rfl
theorem ca_166 : callable Tryz.prog 166 = true := by kernel_rfl
theorem ca_197 : callable Tryz.prog 197 = true := by kernel_rfl
theorem ca_167 : callable Tryz.prog 167 = true := by kernel_rfl
theorem ca_102 : callable Tryz.prog 102 = true := by kernel_rfl
theorem ca_170 : callable Tryz.prog 170 = true := by kernel_rfl
theorem ca_169 : callable Tryz.prog 169 = true := by kernel_rfl
theorem ca_132 : callable Tryz.prog 132 = true := by kernel_rfl
theorem ca_164 : callable Tryz.prog 164 = true := by kernel_rfl
theorem ca_131 : callable Tryz.prog 131 = true := by kernel_rfl
theorem ca_98 : callable Tryz.prog 98 = true := by kernel_rfl
theorem ca_52 : callable Tryz.prog 52 = true := by kernel_rfl
theorem ca_65 : callable Tryz.prog 65 = true := by kernel_rfl
theorem ca_78 : callable Tryz.prog 78 = true := by kernel_rfl
theorem bd_63_1_2_3 : ∀ (x0 : Option Addr) (y0 z0 : Nat) (x1 : Int) (x2 : Option Addr) (y2 z2 : Nat), Tryz.prog.built 63 [(1, .slice x0 y0 z0), (2, .int .i64 x1), (3, .slice x2 y2 z2)] = some #[.slice none 0 0, .slice x0 y0 z0, .int .i64 x1, .slice x2 y2 z2] := fun _ _ _ _ _ _ _ => by kernel_rfl
theorem bs_29_0_ : builtSlice Tryz.prog 29 0 [] = some (82, []) := by kernel_rfl
theorem ca_68 : callable Tryz.prog 68 = true := by kernel_rfl
theorem bs_29_1_0 : ∀ (x1 : Bool) (x2 : Int) (x3 : Int) (x4 : Int) (x5 : Int) (x6 : Int) (x7 : Option Addr) (y7 z7 : Nat) (x8 : Int) (x9 : Int) (x10 : Int) (x11 : Int), builtSlice Tryz.prog 29 1 [(0, .agg #[.bool x1, .int .i64 x2, .int .i64 x3, .int .i64 x4, .int .i64 x5, .int .i64 x6, .slice x7 y7 z7, .int .i64 x8, .int .i64 x9, .int .i64 x10, .int .i64 x11])] = some (82, [.bool x1, .int .i64 x2, .int .i64 x3, .int .i64 x4, .int .i64 x5, .int .i64 x6, .slice x7 y7 z7, .int .i64 x8, .int .i64 x9, .int .i64 x10, .int .i64 x11]) := fun _ _ _ _ _ _ _ _ _ _ _ _ _ => by kernel_rfl
theorem ca_110 : callable Tryz.prog 110 = true := by kernel_rfl
theorem bd_31_0_1 : ∀ (x0 : Option Addr) (y0 z0 : Nat) (x1 : Option Addr) (y1 z1 : Nat), Tryz.prog.built 31 [(0, .slice x0 y0 z0), (1, .slice x1 y1 z1)] = some #[.slice x0 y0 z0, .slice x1 y1 z1] := fun _ _ _ _ _ _ => by kernel_rfl
theorem ca_67 : callable Tryz.prog 67 = true := by kernel_rfl
theorem bd_46_0_1_2_3 : ∀ (x0 : Int) (x1 : Int) (x2 : Option Addr) (y2 z2 : Nat) (x4 : Option Addr) (y4 z4 : Nat) (x5 : Option Addr) (y5 z5 : Nat), Tryz.prog.built 46 [(0, .int .i64 x0), (1, .int .i64 x1), (2, .slice x2 y2 z2), (3, .agg #[.slice x4 y4 z4, .slice x5 y5 z5])] = some #[.int .i64 x0, .int .i64 x1, .slice x2 y2 z2, .slice x4 y4 z4, .slice x5 y5 z5] := fun _ _ _ _ _ _ _ _ _ _ _ => by kernel_rfl
theorem ca_64 : callable Tryz.prog 64 = true := by kernel_rfl
theorem bd_113_0_1_2 : ∀ (x0 : Int) (x1 : Int) (x3 : Int) (x4 : Int) (x5 : Option Addr) (y5 z5 : Nat) (x7 : Option Addr) (y7 z7 : Nat) (x8 : Option Addr) (y8 z8 : Nat), Tryz.prog.built 113 [(0, .int .i64 x0), (1, .int .i64 x1), (2, .agg #[.int .i64 x3, .int .i64 x4, .slice x5 y5 z5, .slice x7 y7 z7, .slice x8 y8 z8])] = some #[.int .i64 x0, .int .i64 x1, .int .i64 x3, .int .i64 x4, .slice x5 y5 z5, .slice x7 y7 z7, .slice x8 y8 z8] := fun _ _ _ _ _ _ _ _ _ _ _ _ _ => by kernel_rfl
theorem ca_115 : callable Tryz.prog 115 = true := by kernel_rfl
theorem bs_61_1_0 : ∀ (x1 : Int) (x2 : Int) (x4 : Int) (x5 : Int) (x6 : Option Addr) (y6 z6 : Nat) (x8 : Option Addr) (y8 z8 : Nat) (x9 : Option Addr) (y9 z9 : Nat), builtSlice Tryz.prog 61 1 [(0, .agg #[.int .i64 x1, .int .i64 x2, .int .i64 x4, .int .i64 x5, .slice x6 y6 z6, .slice x8 y8 z8, .slice x9 y9 z9])] = some (113, [.int .i64 x1, .int .i64 x2, .int .i64 x4, .int .i64 x5, .slice x6 y6 z6, .slice x8 y8 z8, .slice x9 y9 z9]) := fun _ _ _ _ _ _ _ _ _ _ _ _ _ => by kernel_rfl
theorem ca_79 : callable Tryz.prog 79 = true := by kernel_rfl
theorem ca_34 : callable Tryz.prog 34 = true := by kernel_rfl
theorem ca_112 : callable Tryz.prog 112 = true := by kernel_rfl
theorem ca_73 : callable Tryz.prog 73 = true := by kernel_rfl
theorem ca_72 : callable Tryz.prog 72 = true := by kernel_rfl
theorem ca_70 : callable Tryz.prog 70 = true := by kernel_rfl
theorem ca_81 : callable Tryz.prog 81 = true := by kernel_rfl
theorem ca_59 : callable Tryz.prog 59 = true := by kernel_rfl
theorem ca_137 : callable Tryz.prog 137 = true := by kernel_rfl
theorem bd_82_ : Tryz.prog.built 82 [] = some #[.bool false, .int .i64 0, .int .i64 0, .int .i64 0, .int .i64 0, .int .i64 0, .slice none 0 0, .int .i64 0, .int .i64 0, .int .i64 0, .int .i64 0] := by kernel_rfl
theorem ub_4 : Tryz.prog.underlying 4 = some .bool := by kernel_rfl
theorem ca_130 : callable Tryz.prog 130 = true := by kernel_rfl
theorem ca_95 : callable Tryz.prog 95 = true := by kernel_rfl
theorem ca_175 : callable Tryz.prog 175 = true := by kernel_rfl
theorem ca_141 : callable Tryz.prog 141 = true := by kernel_rfl
theorem ca_149 : callable Tryz.prog 149 = true := by kernel_rfl
theorem ca_200 : callable Tryz.prog 200 = true := by kernel_rfl
theorem ca_199 : callable Tryz.prog 199 = true := by kernel_rfl
theorem ca_176 : callable Tryz.prog 176 = true := by kernel_rfl
theorem ca_179 : callable Tryz.prog 179 = true := by kernel_rfl
theorem ca_180 : callable Tryz.prog 180 = true := by kernel_rfl
theorem ca_178 : callable Tryz.prog 178 = true := by kernel_rfl
theorem ca_177 : callable Tryz.prog 177 = true := by kernel_rfl
theorem ca_146 : callable Tryz.prog 146 = true := by kernel_rfl
theorem ca_181 : callable Tryz.prog 181 = true := by kernel_rfl
theorem ca_182 : callable Tryz.prog 182 = true := by kernel_rfl
theorem ca_183 : callable Tryz.prog 183 = true := by kernel_rfl
theorem ca_147 : callable Tryz.prog 147 = true := by kernel_rfl
theorem ca_185 : callable Tryz.prog 185 = true := by kernel_rfl
theorem ca_184 : callable Tryz.prog 184 = true := by kernel_rfl
theorem ca_148 : callable Tryz.prog 148 = true := by kernel_rfl
theorem ca_143 : callable Tryz.prog 143 = true := by kernel_rfl
theorem ca_151 : callable Tryz.prog 151 = true := by kernel_rfl
theorem ca_186 : callable Tryz.prog 186 = true := by kernel_rfl
theorem ca_150 : callable Tryz.prog 150 = true := by kernel_rfl
theorem ca_108 : callable Tryz.prog 108 = true := by kernel_rfl
theorem ca_171 : callable Tryz.prog 171 = true := by kernel_rfl
theorem ca_140 : callable Tryz.prog 140 = true := by kernel_rfl
theorem ca_139 : callable Tryz.prog 139 = true := by kernel_rfl
theorem ca_138 : callable Tryz.prog 138 = true := by kernel_rfl
theorem ca_105 : callable Tryz.prog 105 = true := by kernel_rfl
theorem ca_57 : callable Tryz.prog 57 = true := by kernel_rfl
theorem ca_58 : callable Tryz.prog 58 = true := by kernel_rfl
theorem ca_71 : callable Tryz.prog 71 = true := by kernel_rfl
theorem ca_117 : callable Tryz.prog 117 = true := by kernel_rfl
theorem ca_82 : callable Tryz.prog 82 = true := by kernel_rfl
theorem ca_36 : callable Tryz.prog 36 = true := by kernel_rfl
theorem ca_15 : callable Tryz.prog 15 = true := by kernel_rfl
theorem ca_62 : callable Tryz.prog 62 = true := by kernel_rfl
theorem ca_16 : callable Tryz.prog 16 = true := by kernel_rfl
theorem ca_17 : callable Tryz.prog 17 = true := by kernel_rfl
theorem ca_28 : callable Tryz.prog 28 = true := by kernel_rfl
theorem ca_118 : callable Tryz.prog 118 = true := by kernel_rfl
theorem ca_83 : callable Tryz.prog 83 = true := by kernel_rfl
theorem ca_37 : callable Tryz.prog 37 = true := by kernel_rfl
theorem ca_20 : callable Tryz.prog 20 = true := by kernel_rfl
theorem ca_18 : callable Tryz.prog 18 = true := by kernel_rfl
theorem ca_84 : callable Tryz.prog 84 = true := by kernel_rfl
theorem ca_38 : callable Tryz.prog 38 = true := by kernel_rfl
theorem ca_19 : callable Tryz.prog 19 = true := by kernel_rfl
theorem ca_30 : callable Tryz.prog 30 = true := by kernel_rfl
theorem ca_21 : callable Tryz.prog 21 = true := by kernel_rfl
theorem ca_75 : callable Tryz.prog 75 = true := by kernel_rfl
theorem ca_85 : callable Tryz.prog 85 = true := by kernel_rfl
theorem ca_39 : callable Tryz.prog 39 = true := by kernel_rfl
end Go.Proofs.YtdbnoiiacpmbpaaGreat
