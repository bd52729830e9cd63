/- Facts about the program: types, offsets, callable functions. -/
import Derived.Test.YtdbnoiiacpmbpaaGreatTypes
import Derived.Test.YtdbnoiiacpmbpaaGreatChecked
namespace Go.Proofs.YtdbnoiiacpmbpaaGreat
open Go.RowKit K
set_option maxRecDepth 100000
set_option maxHeartbeats 4000000

theorem ag_41 : aggTy Tryz.prog 41 = some 5 := by kernel_rfl
theorem fo_41_2 : fieldOff Tryz.prog 41 2 = some 2 := by kernel_rfl
theorem pt_22 : plainTy Tryz.prog 22 = true := by kernel_rfl
theorem si_22 : (sliceElem Tryz.prog 22).isSome = true := by kernel_rfl
theorem se_22 : sliceElem Tryz.prog 22 = some 11 := by kernel_rfl
theorem ag_86 : aggTy Tryz.prog 86 = some 11 := by kernel_rfl
theorem fo_86_6 : fieldOff Tryz.prog 86 6 = some 6 := by kernel_rfl
theorem pt_23 : plainTy Tryz.prog 23 = true := by kernel_rfl
theorem si_23 : (sliceElem Tryz.prog 23).isSome = true := by kernel_rfl
theorem ca_50 : callable Tryz.prog 50 = true := by kernel_rfl
theorem ca_49 : callable Tryz.prog 49 = true := by kernel_rfl
theorem ca_9 : callable Tryz.prog 9 = true := by kernel_rfl
theorem fo_41_3 : fieldOff Tryz.prog 41 3 = some 3 := by kernel_rfl
theorem ag_25 : aggTy Tryz.prog 25 = some 2 := by kernel_rfl
theorem fo_25_0 : fieldOff Tryz.prog 25 0 = some 0 := by kernel_rfl
theorem fo_25_1 : fieldOff Tryz.prog 25 1 = some 1 := by kernel_rfl
theorem ca_10 : callable Tryz.prog 10 = true := by kernel_rfl
theorem ca_22 : callable Tryz.prog 22 = true := by kernel_rfl
theorem si_42 : (sliceElem Tryz.prog 42).isSome = true := by kernel_rfl
theorem se_42 : sliceElem Tryz.prog 42 = some 14 := by kernel_rfl
theorem ag_101 : aggTy Tryz.prog 101 = some 14 := by kernel_rfl
theorem fo_101_1 : fieldOff Tryz.prog 101 1 = some 1 := by kernel_rfl
theorem fo_101_2 : fieldOff Tryz.prog 101 2 = some 12 := by kernel_rfl
theorem ca_63 : callable Tryz.prog 63 = true := by kernel_rfl
theorem ca_23 : callable Tryz.prog 23 = true := by kernel_rfl
theorem zc_46 : zeroCells Tryz.prog 46 = some [.int .i64 0, .int .i64 0, .slice none 0 0, .slice none 0 0, .slice none 0 0] := by kernel_rfl
theorem fo_41_0 : fieldOff Tryz.prog 41 0 = some 0 := by kernel_rfl
theorem pt_3 : plainTy Tryz.prog 3 = true := by kernel_rfl
theorem fo_46_0 : fieldOff Tryz.prog 46 0 = some 0 := by kernel_rfl
theorem ts_3 : tySize Tryz.prog 3 = some 1 := by kernel_rfl
theorem fo_41_1 : fieldOff Tryz.prog 41 1 = some 1 := by kernel_rfl
theorem fo_46_1 : fieldOff Tryz.prog 46 1 = some 1 := by kernel_rfl
theorem mi_29 : makeInfo Tryz.prog 29 = some (82, 104, [.bool false, .int .i64 0, .int .i64 0, .int .i64 0, .int .i64 0, .int .i64 0, .slice none 0 0, .int .i64 0, .int .i64 0, .int .i64 0, .int .i64 0]) := by kernel_rfl
theorem zc_82 : zeroCells Tryz.prog 82 = some [.bool false, .int .i64 0, .int .i64 0, .int .i64 0, .int .i64 0, .int .i64 0, .slice none 0 0, .int .i64 0, .int .i64 0, .int .i64 0, .int .i64 0] := by kernel_rfl
theorem fo_86_0 : fieldOff Tryz.prog 86 0 = some 0 := by kernel_rfl
theorem pt_4 : plainTy Tryz.prog 4 = true := by kernel_rfl
theorem fo_82_0 : fieldOff Tryz.prog 82 0 = some 0 := by kernel_rfl
theorem ts_4 : tySize Tryz.prog 4 = some 1 := by kernel_rfl
theorem fo_86_1 : fieldOff Tryz.prog 86 1 = some 1 := by kernel_rfl
theorem fo_82_1 : fieldOff Tryz.prog 82 1 = some 1 := by kernel_rfl
theorem fo_86_2 : fieldOff Tryz.prog 86 2 = some 2 := by kernel_rfl
theorem fo_82_2 : fieldOff Tryz.prog 82 2 = some 2 := by kernel_rfl
theorem fo_86_3 : fieldOff Tryz.prog 86 3 = some 3 := by kernel_rfl
theorem fo_82_3 : fieldOff Tryz.prog 82 3 = some 3 := by kernel_rfl
theorem fo_86_4 : fieldOff Tryz.prog 86 4 = some 4 := by kernel_rfl
theorem fo_82_4 : fieldOff Tryz.prog 82 4 = some 4 := by kernel_rfl
theorem fo_86_5 : fieldOff Tryz.prog 86 5 = some 5 := by kernel_rfl
theorem fo_82_5 : fieldOff Tryz.prog 82 5 = some 5 := by kernel_rfl
theorem mi_23 : makeInfo Tryz.prog 23 = some (3, 8, [.int .i64 0]) := by kernel_rfl
theorem se_23 : sliceElem Tryz.prog 23 = some 1 := by kernel_rfl
theorem ca_56 : callable Tryz.prog 56 = true := by kernel_rfl
theorem fo_82_6 : fieldOff Tryz.prog 82 6 = some 6 := by kernel_rfl
theorem ts_23 : tySize Tryz.prog 23 = some 1 := by kernel_rfl
theorem fo_86_7 : fieldOff Tryz.prog 86 7 = some 7 := by kernel_rfl
theorem fo_82_7 : fieldOff Tryz.prog 82 7 = some 7 := by kernel_rfl
theorem fo_86_8 : fieldOff Tryz.prog 86 8 = some 8 := by kernel_rfl
theorem fo_82_8 : fieldOff Tryz.prog 82 8 = some 8 := by kernel_rfl
theorem fo_86_9 : fieldOff Tryz.prog 86 9 = some 9 := by kernel_rfl
theorem fo_82_9 : fieldOff Tryz.prog 82 9 = some 9 := by kernel_rfl
theorem fo_86_10 : fieldOff Tryz.prog 86 10 = some 10 := by kernel_rfl
theorem fo_82_10 : fieldOff Tryz.prog 82 10 = some 10 := by kernel_rfl
theorem ag_82 : aggTy Tryz.prog 82 = some 11 := by kernel_rfl
theorem ts_82 : tySize Tryz.prog 82 = some 11 := by kernel_rfl
theorem ca_55 : callable Tryz.prog 55 = true := by kernel_rfl
theorem se_29 : sliceElem Tryz.prog 29 = some 11 := by kernel_rfl
theorem ca_12 : callable Tryz.prog 12 = true := by kernel_rfl
theorem fo_46_2 : fieldOff Tryz.prog 46 2 = some 2 := by kernel_rfl
theorem ts_29 : tySize Tryz.prog 29 = some 1 := by kernel_rfl
theorem zc_31 : zeroCells Tryz.prog 31 = some [.slice none 0 0, .slice none 0 0] := by kernel_rfl
theorem fo_31_0 : fieldOff Tryz.prog 31 0 = some 0 := by kernel_rfl
theorem fo_31_1 : fieldOff Tryz.prog 31 1 = some 1 := by kernel_rfl
theorem ag_31 : aggTy Tryz.prog 31 = some 2 := by kernel_rfl
theorem ts_31 : tySize Tryz.prog 31 = some 2 := by kernel_rfl
theorem ca_13 : callable Tryz.prog 13 = true := by kernel_rfl
theorem fo_46_3 : fieldOff Tryz.prog 46 3 = some 3 := by kernel_rfl
theorem ag_46 : aggTy Tryz.prog 46 = some 5 := by kernel_rfl
theorem ts_46 : tySize Tryz.prog 46 = some 5 := by kernel_rfl
theorem ca_25 : callable Tryz.prog 25 = true := by kernel_rfl
theorem mi_50 : makeInfo Tryz.prog 50 = some (84, 160, [.int .i64 0, .bool false, .int .i64 0, .int .i64 0, .int .i64 0, .int .i64 0, .int .i64 0, .slice none 0 0, .int .i64 0, .int .i64 0, .int .i64 0, .int .i64 0, .slice none 0 0, .slice none 0 0]) := by kernel_rfl
theorem zc_84 : zeroCells Tryz.prog 84 = some [.int .i64 0, .bool false, .int .i64 0, .int .i64 0, .int .i64 0, .int .i64 0, .int .i64 0, .slice none 0 0, .int .i64 0, .int .i64 0, .int .i64 0, .int .i64 0, .slice none 0 0, .slice none 0 0] := by kernel_rfl
theorem fo_101_0 : fieldOff Tryz.prog 101 0 = some 0 := by kernel_rfl
theorem fo_84_0 : fieldOff Tryz.prog 84 0 = some 0 := by kernel_rfl
theorem fo_84_1 : fieldOff Tryz.prog 84 1 = some 1 := by kernel_rfl
theorem fo_84_2 : fieldOff Tryz.prog 84 2 = some 12 := by kernel_rfl
theorem ag_84 : aggTy Tryz.prog 84 = some 14 := by kernel_rfl
theorem ts_84 : tySize Tryz.prog 84 = some 14 := by kernel_rfl
theorem ca_69 : callable Tryz.prog 69 = true := by kernel_rfl
theorem se_50 : sliceElem Tryz.prog 50 = some 14 := by kernel_rfl
theorem ca_26 : callable Tryz.prog 26 = true := by kernel_rfl
theorem bs_29_0_ : builtSlice Tryz.prog 29 0 [] = some (82, []) := by kernel_rfl
theorem si_29 : (sliceElem Tryz.prog 29).isSome = true := by kernel_rfl
theorem bs_23_0_ : builtSlice Tryz.prog 23 0 [] = some (3, []) := by kernel_rfl
theorem ca_68 : callable Tryz.prog 68 = true := by kernel_rfl
theorem bs_29_1_0 : ∀ (x1 : Bool) (x2 : Int) (x3 : Int) (x4 : Int) (x5 : Int) (x6 : Int) (x7 : Option Addr) (y7 z7 : Nat) (x8 : Int) (x9 : Int) (x10 : Int) (x11 : Int), builtSlice Tryz.prog 29 1 [(0, .agg #[.bool x1, .int .i64 x2, .int .i64 x3, .int .i64 x4, .int .i64 x5, .int .i64 x6, .slice x7 y7 z7, .int .i64 x8, .int .i64 x9, .int .i64 x10, .int .i64 x11])] = some (82, [.bool x1, .int .i64 x2, .int .i64 x3, .int .i64 x4, .int .i64 x5, .int .i64 x6, .slice x7 y7 z7, .int .i64 x8, .int .i64 x9, .int .i64 x10, .int .i64 x11]) := fun _ _ _ _ _ _ _ _ _ _ _ _ _ => by kernel_rfl
theorem pt_29 : plainTy Tryz.prog 29 = true := by kernel_rfl
theorem ca_110 : callable Tryz.prog 110 = true := by kernel_rfl
theorem bd_31_0_1 : ∀ (x0 : Option Addr) (y0 z0 : Nat) (x1 : Option Addr) (y1 z1 : Nat), Tryz.prog.built 31 [(0, .slice x0 y0 z0), (1, .slice x1 y1 z1)] = some #[.slice x0 y0 z0, .slice x1 y1 z1] := fun _ _ _ _ _ _ => by kernel_rfl
theorem ca_67 : callable Tryz.prog 67 = true := by kernel_rfl
theorem bd_46_0_1_2_3 : ∀ (x0 : Int) (x1 : Int) (x2 : Option Addr) (y2 z2 : Nat) (x4 : Option Addr) (y4 z4 : Nat) (x5 : Option Addr) (y5 z5 : Nat), Tryz.prog.built 46 [(0, .int .i64 x0), (1, .int .i64 x1), (2, .slice x2 y2 z2), (3, .agg #[.slice x4 y4 z4, .slice x5 y5 z5])] = some #[.int .i64 x0, .int .i64 x1, .slice x2 y2 z2, .slice x4 y4 z4, .slice x5 y5 z5] := fun _ _ _ _ _ _ _ _ _ _ _ => by kernel_rfl
theorem ca_64 : callable Tryz.prog 64 = true := by kernel_rfl
theorem ca_88 : callable Tryz.prog 88 = true := by kernel_rfl
theorem ca_111 : callable Tryz.prog 111 = true := by kernel_rfl
theorem zc_96 : zeroCells Tryz.prog 96 = some [.int .i64 0, .int .i64 0, .slice none 0 0] := by kernel_rfl
theorem bd_96_ : Tryz.prog.built 96 [] = some #[.int .i64 0, .int .i64 0, .slice none 0 0] := by kernel_rfl
theorem ts_96 : tySize Tryz.prog 96 = some 3 := by kernel_rfl
theorem ag_96 : aggTy Tryz.prog 96 = some 3 := by kernel_rfl
theorem bd_96_0_1 : ∀ (x0 : Int) (x1 : Int), Tryz.prog.built 96 [(0, .int .i64 x0), (1, .int .i64 x1)] = some #[.int .i64 x0, .int .i64 x1, .slice none 0 0] := fun _ _ => by kernel_rfl
theorem bs_23_1_0 : ∀ (x0 : Int), builtSlice Tryz.prog 23 1 [(0, .int .i64 x0)] = some (3, [.int .i64 x0]) := fun _ => by kernel_rfl
theorem ca_203 : callable Tryz.prog 203 = true := by kernel_rfl
theorem fo_96_2 : fieldOff Tryz.prog 96 2 = some 2 := by kernel_rfl
theorem ca_201 : callable Tryz.prog 201 = true := by kernel_rfl
theorem ca_202 : callable Tryz.prog 202 = true := by kernel_rfl
theorem fo_96_0 : fieldOff Tryz.prog 96 0 = some 0 := by kernel_rfl
theorem fo_96_1 : fieldOff Tryz.prog 96 1 = some 1 := by kernel_rfl
theorem ca_100 : callable Tryz.prog 100 = true := by kernel_rfl
theorem ca_168 : callable Tryz.prog 168 = true := by kernel_rfl
theorem bs_23_2_0_1 : ∀ (x0 : Int) (x1 : Int), builtSlice Tryz.prog 23 2 [(0, .int .i64 x0), (1, .int .i64 x1)] = some (3, [.int .i64 x0, .int .i64 x1]) := fun _ _ => by kernel_rfl
theorem ca_193 : callable Tryz.prog 193 = true := by kernel_rfl
theorem ca_204 : callable Tryz.prog 204 = true := by kernel_rfl
theorem ca_194 : callable Tryz.prog 194 = true := by kernel_rfl
theorem ca_165 : callable Tryz.prog 165 = true := by kernel_rfl
theorem ca_195 : callable Tryz.prog 195 = true := by kernel_rfl
theorem bd_96_0_1_2 : ∀ (x0 : Int) (x1 : Int) (x2 : Option Addr) (y2 z2 : Nat), Tryz.prog.built 96 [(0, .int .i64 x0), (1, .int .i64 x1), (2, .slice x2 y2 z2)] = some #[.int .i64 x0, .int .i64 x1, .slice x2 y2 z2] := fun _ _ _ _ _ => by kernel_rfl
theorem ca_196 : callable Tryz.prog 196 = true := by kernel_rfl
theorem ca_166 : callable Tryz.prog 166 = true := by kernel_rfl
theorem ca_197 : callable Tryz.prog 197 = true := by kernel_rfl
theorem ca_167 : callable Tryz.prog 167 = true := by kernel_rfl
theorem ca_102 : callable Tryz.prog 102 = true := by kernel_rfl
theorem ca_170 : callable Tryz.prog 170 = true := by kernel_rfl
theorem ca_169 : callable Tryz.prog 169 = true := by kernel_rfl
theorem ca_132 : callable Tryz.prog 132 = true := by kernel_rfl
theorem ca_164 : callable Tryz.prog 164 = true := by kernel_rfl
theorem ca_131 : callable Tryz.prog 131 = true := by kernel_rfl
theorem ca_98 : callable Tryz.prog 98 = true := by kernel_rfl
theorem ca_52 : callable Tryz.prog 52 = true := by kernel_rfl
theorem ca_65 : callable Tryz.prog 65 = true := by kernel_rfl
theorem si_50 : (sliceElem Tryz.prog 50).isSome = true := by kernel_rfl
theorem ca_66 : callable Tryz.prog 66 = true := by kernel_rfl
theorem ca_24 : callable Tryz.prog 24 = true := by kernel_rfl
theorem ca_73 : callable Tryz.prog 73 = true := by kernel_rfl
theorem ca_112 : callable Tryz.prog 112 = true := by kernel_rfl
theorem ca_72 : callable Tryz.prog 72 = true := by kernel_rfl
theorem ca_70 : callable Tryz.prog 70 = true := by kernel_rfl
theorem ca_59 : callable Tryz.prog 59 = true := by kernel_rfl
theorem ca_137 : callable Tryz.prog 137 = true := by kernel_rfl
theorem bd_82_ : Tryz.prog.built 82 [] = some #[.bool false, .int .i64 0, .int .i64 0, .int .i64 0, .int .i64 0, .int .i64 0, .slice none 0 0, .int .i64 0, .int .i64 0, .int .i64 0, .int .i64 0] := by kernel_rfl
theorem ub_4 : Tryz.prog.underlying 4 = some .bool := by kernel_rfl
theorem ca_130 : callable Tryz.prog 130 = true := by kernel_rfl
theorem ca_95 : callable Tryz.prog 95 = true := by kernel_rfl
theorem ca_175 : callable Tryz.prog 175 = true := by kernel_rfl
theorem ca_141 : callable Tryz.prog 141 = true := by kernel_rfl
theorem ca_149 : callable Tryz.prog 149 = true := by kernel_rfl
theorem ca_200 : callable Tryz.prog 200 = true := by kernel_rfl
theorem ca_199 : callable Tryz.prog 199 = true := by kernel_rfl
theorem ca_176 : callable Tryz.prog 176 = true := by kernel_rfl
theorem ca_179 : callable Tryz.prog 179 = true := by kernel_rfl
theorem ca_180 : callable Tryz.prog 180 = true := by kernel_rfl
theorem ca_178 : callable Tryz.prog 178 = true := by kernel_rfl
theorem ca_177 : callable Tryz.prog 177 = true := by kernel_rfl
theorem ca_146 : callable Tryz.prog 146 = true := by kernel_rfl
theorem ca_181 : callable Tryz.prog 181 = true := by kernel_rfl
theorem ca_182 : callable Tryz.prog 182 = true := by kernel_rfl
theorem ca_183 : callable Tryz.prog 183 = true := by kernel_rfl
theorem ca_147 : callable Tryz.prog 147 = true := by kernel_rfl
theorem ca_185 : callable Tryz.prog 185 = true := by kernel_rfl
theorem ca_184 : callable Tryz.prog 184 = true := by kernel_rfl
theorem ca_148 : callable Tryz.prog 148 = true := by kernel_rfl
theorem ca_143 : callable Tryz.prog 143 = true := by kernel_rfl
theorem ca_151 : callable Tryz.prog 151 = true := by kernel_rfl
theorem ca_186 : callable Tryz.prog 186 = true := by kernel_rfl
theorem ca_150 : callable Tryz.prog 150 = true := by kernel_rfl
theorem ca_108 : callable Tryz.prog 108 = true := by kernel_rfl
theorem ca_171 : callable Tryz.prog 171 = true := by kernel_rfl
theorem ca_140 : callable Tryz.prog 140 = true := by kernel_rfl
theorem ca_139 : callable Tryz.prog 139 = true := by kernel_rfl
theorem ca_138 : callable Tryz.prog 138 = true := by kernel_rfl
theorem ca_105 : callable Tryz.prog 105 = true := by kernel_rfl
theorem ca_57 : callable Tryz.prog 57 = true := by kernel_rfl
theorem ca_58 : callable Tryz.prog 58 = true := by kernel_rfl
theorem ca_71 : callable Tryz.prog 71 = true := by kernel_rfl
theorem ca_47 : callable Tryz.prog 47 = true := by kernel_rfl
theorem ca_27 : callable Tryz.prog 27 = true := by kernel_rfl
theorem ca_15 : callable Tryz.prog 15 = true := by kernel_rfl
theorem ca_62 : callable Tryz.prog 62 = true := by kernel_rfl
theorem ca_16 : callable Tryz.prog 16 = true := by kernel_rfl
theorem ca_17 : callable Tryz.prog 17 = true := by kernel_rfl
theorem ca_28 : callable Tryz.prog 28 = true := by kernel_rfl
theorem ca_74 : callable Tryz.prog 74 = true := by kernel_rfl
theorem ca_29 : callable Tryz.prog 29 = true := by kernel_rfl
theorem ca_20 : callable Tryz.prog 20 = true := by kernel_rfl
theorem ca_18 : callable Tryz.prog 18 = true := by kernel_rfl
theorem ca_19 : callable Tryz.prog 19 = true := by kernel_rfl
theorem ca_30 : callable Tryz.prog 30 = true := by kernel_rfl
theorem ca_31 : callable Tryz.prog 31 = true := by kernel_rfl
theorem ca_21 : callable Tryz.prog 21 = true := by kernel_rfl
theorem ca_75 : callable Tryz.prog 75 = true := by kernel_rfl
theorem ca_76 : callable Tryz.prog 76 = true := by kernel_rfl
theorem ca_32 : callable Tryz.prog 32 = true := by kernel_rfl
end Go.Proofs.YtdbnoiiacpmbpaaGreat
