/- Facts about the program: types, offsets, callable functions. -/
import Derived.Test.YtmhalmnbgkpmnaaGreatTypes
import Derived.Test.YtmhalmnbgkpmnaaGreatChecked
namespace Go.Proofs.YtmhalmnbgkpmnaaGreat
open Go.RowKit K
set_option maxRecDepth 100000
set_option maxHeartbeats 4000000

theorem ag_25 : aggTy Tryz.prog 25 = some 4 := by kernel_rfl
theorem fo_25_0 : fieldOff Tryz.prog 25 0 = some 0 := by kernel_rfl
theorem pt_22 : plainTy Tryz.prog 22 = true := by kernel_rfl
theorem si_22 : (sliceElem Tryz.prog 22).isSome = true := by kernel_rfl
theorem se_22 : sliceElem Tryz.prog 22 = some 7 := by kernel_rfl
theorem ag_116 : aggTy Tryz.prog 116 = some 7 := by kernel_rfl
theorem fo_116_2 : fieldOff Tryz.prog 116 2 = some 2 := by kernel_rfl
theorem ag_30 : aggTy Tryz.prog 30 = some 5 := by kernel_rfl
theorem fo_30_2 : fieldOff Tryz.prog 30 2 = some 2 := by kernel_rfl
theorem pt_26 : plainTy Tryz.prog 26 = true := by kernel_rfl
theorem si_26 : (sliceElem Tryz.prog 26).isSome = true := by kernel_rfl
theorem se_26 : sliceElem Tryz.prog 26 = some 11 := by kernel_rfl
theorem ag_118 : aggTy Tryz.prog 118 = some 11 := by kernel_rfl
theorem fo_118_6 : fieldOff Tryz.prog 118 6 = some 6 := by kernel_rfl
theorem pt_23 : plainTy Tryz.prog 23 = true := by kernel_rfl
theorem si_23 : (sliceElem Tryz.prog 23).isSome = true := by kernel_rfl
theorem ca_39 : callable Tryz.prog 39 = true := by kernel_rfl
theorem ca_93 : callable Tryz.prog 93 = true := by kernel_rfl
theorem ca_40 : callable Tryz.prog 40 = true := by kernel_rfl
theorem fo_30_3 : fieldOff Tryz.prog 30 3 = some 3 := by kernel_rfl
theorem ag_28 : aggTy Tryz.prog 28 = some 2 := by kernel_rfl
theorem fo_28_0 : fieldOff Tryz.prog 28 0 = some 0 := by kernel_rfl
theorem fo_28_1 : fieldOff Tryz.prog 28 1 = some 1 := by kernel_rfl
theorem ca_41 : callable Tryz.prog 41 = true := by kernel_rfl
theorem ca_8 : callable Tryz.prog 8 = true := by kernel_rfl
theorem ca_92 : callable Tryz.prog 92 = true := by kernel_rfl
theorem ca_38 : callable Tryz.prog 38 = true := by kernel_rfl
theorem fo_25_1 : fieldOff Tryz.prog 25 1 = some 1 := by kernel_rfl
theorem fo_25_3 : fieldOff Tryz.prog 25 3 = some 3 := by kernel_rfl
theorem ca_7 : callable Tryz.prog 7 = true := by kernel_rfl
theorem zc_35 : zeroCells Tryz.prog 35 = some [.slice none 0 0, .slice none 0 0, .int .i64 0, .slice none 0 0] := by kernel_rfl
theorem mi_33 : makeInfo Tryz.prog 33 = some (79, 104, [.int .i64 0, .int .i64 0, .int .i64 0, .int .i64 0, .slice none 0 0, .slice none 0 0, .slice none 0 0]) := by kernel_rfl
theorem zc_79 : zeroCells Tryz.prog 79 = some [.int .i64 0, .int .i64 0, .int .i64 0, .int .i64 0, .slice none 0 0, .slice none 0 0, .slice none 0 0] := by kernel_rfl
theorem fo_116_0 : fieldOff Tryz.prog 116 0 = some 0 := by kernel_rfl
theorem pt_3 : plainTy Tryz.prog 3 = true := by kernel_rfl
theorem fo_79_0 : fieldOff Tryz.prog 79 0 = some 0 := by kernel_rfl
theorem ts_3 : tySize Tryz.prog 3 = some 1 := by kernel_rfl
theorem fo_116_1 : fieldOff Tryz.prog 116 1 = some 1 := by kernel_rfl
theorem fo_79_1 : fieldOff Tryz.prog 79 1 = some 1 := by kernel_rfl
theorem zc_39 : zeroCells Tryz.prog 39 = some [.int .i64 0, .int .i64 0, .slice none 0 0, .slice none 0 0, .slice none 0 0] := by kernel_rfl
theorem fo_30_0 : fieldOff Tryz.prog 30 0 = some 0 := by kernel_rfl
theorem fo_39_0 : fieldOff Tryz.prog 39 0 = some 0 := by kernel_rfl
theorem fo_30_1 : fieldOff Tryz.prog 30 1 = some 1 := by kernel_rfl
theorem fo_39_1 : fieldOff Tryz.prog 39 1 = some 1 := by kernel_rfl
theorem mi_36 : makeInfo Tryz.prog 36 = some (61, 104, [.bool false, .int .i64 0, .int .i64 0, .int .i64 0, .int .i64 0, .int .i64 0, .slice none 0 0, .int .i64 0, .int .i64 0, .int .i64 0, .int .i64 0]) := by kernel_rfl
theorem zc_61 : zeroCells Tryz.prog 61 = some [.bool false, .int .i64 0, .int .i64 0, .int .i64 0, .int .i64 0, .int .i64 0, .slice none 0 0, .int .i64 0, .int .i64 0, .int .i64 0, .int .i64 0] := by kernel_rfl
theorem fo_118_0 : fieldOff Tryz.prog 118 0 = some 0 := by kernel_rfl
theorem pt_4 : plainTy Tryz.prog 4 = true := by kernel_rfl
theorem fo_61_0 : fieldOff Tryz.prog 61 0 = some 0 := by kernel_rfl
theorem ts_4 : tySize Tryz.prog 4 = some 1 := by kernel_rfl
theorem fo_118_1 : fieldOff Tryz.prog 118 1 = some 1 := by kernel_rfl
theorem fo_61_1 : fieldOff Tryz.prog 61 1 = some 1 := by kernel_rfl
theorem fo_118_2 : fieldOff Tryz.prog 118 2 = some 2 := by kernel_rfl
theorem fo_61_2 : fieldOff Tryz.prog 61 2 = some 2 := by kernel_rfl
theorem fo_118_3 : fieldOff Tryz.prog 118 3 = some 3 := by kernel_rfl
theorem fo_61_3 : fieldOff Tryz.prog 61 3 = some 3 := by kernel_rfl
theorem fo_118_4 : fieldOff Tryz.prog 118 4 = some 4 := by kernel_rfl
theorem fo_61_4 : fieldOff Tryz.prog 61 4 = some 4 := by kernel_rfl
theorem fo_118_5 : fieldOff Tryz.prog 118 5 = some 5 := by kernel_rfl
theorem fo_61_5 : fieldOff Tryz.prog 61 5 = some 5 := by kernel_rfl
theorem mi_23 : makeInfo Tryz.prog 23 = some (3, 8, [.int .i64 0]) := by kernel_rfl
theorem se_23 : sliceElem Tryz.prog 23 = some 1 := by kernel_rfl
theorem ca_46 : callable Tryz.prog 46 = true := by kernel_rfl
theorem fo_61_6 : fieldOff Tryz.prog 61 6 = some 6 := by kernel_rfl
theorem ts_23 : tySize Tryz.prog 23 = some 1 := by kernel_rfl
theorem fo_118_7 : fieldOff Tryz.prog 118 7 = some 7 := by kernel_rfl
theorem fo_61_7 : fieldOff Tryz.prog 61 7 = some 7 := by kernel_rfl
theorem fo_118_8 : fieldOff Tryz.prog 118 8 = some 8 := by kernel_rfl
theorem fo_61_8 : fieldOff Tryz.prog 61 8 = some 8 := by kernel_rfl
theorem fo_118_9 : fieldOff Tryz.prog 118 9 = some 9 := by kernel_rfl
theorem fo_61_9 : fieldOff Tryz.prog 61 9 = some 9 := by kernel_rfl
theorem fo_118_10 : fieldOff Tryz.prog 118 10 = some 10 := by kernel_rfl
theorem fo_61_10 : fieldOff Tryz.prog 61 10 = some 10 := by kernel_rfl
theorem ag_61 : aggTy Tryz.prog 61 = some 11 := by kernel_rfl
theorem ts_61 : tySize Tryz.prog 61 = some 11 := by kernel_rfl
theorem ca_97 : callable Tryz.prog 97 = true := by kernel_rfl
theorem se_36 : sliceElem Tryz.prog 36 = some 11 := by kernel_rfl
theorem ca_47 : callable Tryz.prog 47 = true := by kernel_rfl
theorem fo_39_2 : fieldOff Tryz.prog 39 2 = some 2 := by kernel_rfl
theorem ts_36 : tySize Tryz.prog 36 = some 1 := by kernel_rfl
theorem zc_37 : zeroCells Tryz.prog 37 = some [.slice none 0 0, .slice none 0 0] := by kernel_rfl
theorem fo_37_0 : fieldOff Tryz.prog 37 0 = some 0 := by kernel_rfl
theorem fo_37_1 : fieldOff Tryz.prog 37 1 = some 1 := by kernel_rfl
theorem ag_37 : aggTy Tryz.prog 37 = some 2 := by kernel_rfl
theorem ts_37 : tySize Tryz.prog 37 = some 2 := by kernel_rfl
theorem ca_48 : callable Tryz.prog 48 = true := by kernel_rfl
theorem fo_39_3 : fieldOff Tryz.prog 39 3 = some 3 := by kernel_rfl
theorem ag_39 : aggTy Tryz.prog 39 = some 5 := by kernel_rfl
theorem ts_39 : tySize Tryz.prog 39 = some 5 := by kernel_rfl
theorem ca_11 : callable Tryz.prog 11 = true := by kernel_rfl
theorem fo_79_2 : fieldOff Tryz.prog 79 2 = some 2 := by kernel_rfl
theorem ag_79 : aggTy Tryz.prog 79 = some 7 := by kernel_rfl
theorem ts_79 : tySize Tryz.prog 79 = some 7 := by kernel_rfl
theorem ca_96 : callable Tryz.prog 96 = true := by kernel_rfl
theorem se_33 : sliceElem Tryz.prog 33 = some 7 := by kernel_rfl
theorem ca_45 : callable Tryz.prog 45 = true := by kernel_rfl
theorem fo_35_0 : fieldOff Tryz.prog 35 0 = some 0 := by kernel_rfl
theorem ts_33 : tySize Tryz.prog 33 = some 1 := by kernel_rfl
theorem fo_35_1 : fieldOff Tryz.prog 35 1 = some 1 := by kernel_rfl
theorem fo_25_2 : fieldOff Tryz.prog 25 2 = some 2 := by kernel_rfl
theorem fo_35_2 : fieldOff Tryz.prog 35 2 = some 2 := by kernel_rfl
theorem fo_35_3 : fieldOff Tryz.prog 35 3 = some 3 := by kernel_rfl
theorem ag_35 : aggTy Tryz.prog 35 = some 4 := by kernel_rfl
theorem ts_35 : tySize Tryz.prog 35 = some 4 := by kernel_rfl
theorem ca_10 : callable Tryz.prog 10 = true := by kernel_rfl
theorem bs_23_0_ : builtSlice Tryz.prog 23 0 [] = some (3, []) := by kernel_rfl
theorem bd_35_1_2_3 : ∀ (x0 : Option Addr) (y0 z0 : Nat) (x1 : Int) (x2 : Option Addr) (y2 z2 : Nat), Tryz.prog.built 35 [(1, .slice x0 y0 z0), (2, .int .i64 x1), (3, .slice x2 y2 z2)] = some #[.slice none 0 0, .slice x0 y0 z0, .int .i64 x1, .slice x2 y2 z2] := fun _ _ _ _ _ _ _ => by kernel_rfl
theorem pt_33 : plainTy Tryz.prog 33 = true := by kernel_rfl
theorem si_33 : (sliceElem Tryz.prog 33).isSome = true := by kernel_rfl
theorem bs_36_0_ : builtSlice Tryz.prog 36 0 [] = some (61, []) := by kernel_rfl
theorem si_36 : (sliceElem Tryz.prog 36).isSome = true := by kernel_rfl
theorem ca_75 : callable Tryz.prog 75 = true := by kernel_rfl
theorem bs_36_1_0 : ∀ (x1 : Bool) (x2 : Int) (x3 : Int) (x4 : Int) (x5 : Int) (x6 : Int) (x7 : Option Addr) (y7 z7 : Nat) (x8 : Int) (x9 : Int) (x10 : Int) (x11 : Int), builtSlice Tryz.prog 36 1 [(0, .agg #[.bool x1, .int .i64 x2, .int .i64 x3, .int .i64 x4, .int .i64 x5, .int .i64 x6, .slice x7 y7 z7, .int .i64 x8, .int .i64 x9, .int .i64 x10, .int .i64 x11])] = some (61, [.bool x1, .int .i64 x2, .int .i64 x3, .int .i64 x4, .int .i64 x5, .int .i64 x6, .slice x7 y7 z7, .int .i64 x8, .int .i64 x9, .int .i64 x10, .int .i64 x11]) := fun _ _ _ _ _ _ _ _ _ _ _ _ _ => by kernel_rfl
theorem pt_36 : plainTy Tryz.prog 36 = true := by kernel_rfl
theorem ca_95 : callable Tryz.prog 95 = true := by kernel_rfl
theorem bd_37_0_1 : ∀ (x0 : Option Addr) (y0 z0 : Nat) (x1 : Option Addr) (y1 z1 : Nat), Tryz.prog.built 37 [(0, .slice x0 y0 z0), (1, .slice x1 y1 z1)] = some #[.slice x0 y0 z0, .slice x1 y1 z1] := fun _ _ _ _ _ _ => by kernel_rfl
theorem ca_74 : callable Tryz.prog 74 = true := by kernel_rfl
theorem bd_39_0_1_2_3 : ∀ (x0 : Int) (x1 : Int) (x2 : Option Addr) (y2 z2 : Nat) (x4 : Option Addr) (y4 z4 : Nat) (x5 : Option Addr) (y5 z5 : Nat), Tryz.prog.built 39 [(0, .int .i64 x0), (1, .int .i64 x1), (2, .slice x2 y2 z2), (3, .agg #[.slice x4 y4 z4, .slice x5 y5 z5])] = some #[.int .i64 x0, .int .i64 x1, .slice x2 y2 z2, .slice x4 y4 z4, .slice x5 y5 z5] := fun _ _ _ _ _ _ _ _ _ _ _ => by kernel_rfl
theorem ca_44 : callable Tryz.prog 44 = true := by kernel_rfl
theorem bd_79_0_1_2 : ∀ (x0 : Int) (x1 : Int) (x3 : Int) (x4 : Int) (x5 : Option Addr) (y5 z5 : Nat) (x7 : Option Addr) (y7 z7 : Nat) (x8 : Option Addr) (y8 z8 : Nat), Tryz.prog.built 79 [(0, .int .i64 x0), (1, .int .i64 x1), (2, .agg #[.int .i64 x3, .int .i64 x4, .slice x5 y5 z5, .slice x7 y7 z7, .slice x8 y8 z8])] = some #[.int .i64 x0, .int .i64 x1, .int .i64 x3, .int .i64 x4, .slice x5 y5 z5, .slice x7 y7 z7, .slice x8 y8 z8] := fun _ _ _ _ _ _ _ _ _ _ _ _ _ => by kernel_rfl
theorem ca_94 : callable Tryz.prog 94 = true := by kernel_rfl
theorem bs_33_1_0 : ∀ (x1 : Int) (x2 : Int) (x4 : Int) (x5 : Int) (x6 : Option Addr) (y6 z6 : Nat) (x8 : Option Addr) (y8 z8 : Nat) (x9 : Option Addr) (y9 z9 : Nat), builtSlice Tryz.prog 33 1 [(0, .agg #[.int .i64 x1, .int .i64 x2, .int .i64 x4, .int .i64 x5, .slice x6 y6 z6, .slice x8 y8 z8, .slice x9 y9 z9])] = some (79, [.int .i64 x1, .int .i64 x2, .int .i64 x4, .int .i64 x5, .slice x6 y6 z6, .slice x8 y8 z8, .slice x9 y9 z9]) := fun _ _ _ _ _ _ _ _ _ _ _ _ _ => by kernel_rfl
theorem ca_42 : callable Tryz.prog 42 = true := by kernel_rfl
theorem ca_64 : callable Tryz.prog 64 = true := by kernel_rfl
theorem ca_112 : callable Tryz.prog 112 = true := by kernel_rfl
theorem zc_107 : zeroCells Tryz.prog 107 = some [.int .i64 0, .int .i64 0, .slice none 0 0] := by kernel_rfl
theorem bd_107_ : Tryz.prog.built 107 [] = some #[.int .i64 0, .int .i64 0, .slice none 0 0] := by kernel_rfl
theorem ts_107 : tySize Tryz.prog 107 = some 3 := by kernel_rfl
theorem ag_107 : aggTy Tryz.prog 107 = some 3 := by kernel_rfl
theorem bd_107_0_1 : ∀ (x0 : Int) (x1 : Int), Tryz.prog.built 107 [(0, .int .i64 x0), (1, .int .i64 x1)] = some #[.int .i64 x0, .int .i64 x1, .slice none 0 0] := fun _ _ => by kernel_rfl
theorem bs_23_1_0 : ∀ (x0 : Int), builtSlice Tryz.prog 23 1 [(0, .int .i64 x0)] = some (3, [.int .i64 x0]) := fun _ => by kernel_rfl
theorem ca_166 : callable Tryz.prog 166 = true := by kernel_rfl
theorem fo_107_2 : fieldOff Tryz.prog 107 2 = some 2 := by kernel_rfl
theorem ca_134 : callable Tryz.prog 134 = true := by kernel_rfl
theorem ca_135 : callable Tryz.prog 135 = true := by kernel_rfl
theorem fo_107_0 : fieldOff Tryz.prog 107 0 = some 0 := by kernel_rfl
theorem fo_107_1 : fieldOff Tryz.prog 107 1 = some 1 := by kernel_rfl
theorem ca_118 : callable Tryz.prog 118 = true := by kernel_rfl
theorem ca_133 : callable Tryz.prog 133 = true := by kernel_rfl
theorem bs_23_2_0_1 : ∀ (x0 : Int) (x1 : Int), builtSlice Tryz.prog 23 2 [(0, .int .i64 x0), (1, .int .i64 x1)] = some (3, [.int .i64 x0, .int .i64 x1]) := fun _ _ => by kernel_rfl
theorem ca_117 : callable Tryz.prog 117 = true := by kernel_rfl
theorem ca_123 : callable Tryz.prog 123 = true := by kernel_rfl
theorem ca_154 : callable Tryz.prog 154 = true := by kernel_rfl
theorem ca_137 : callable Tryz.prog 137 = true := by kernel_rfl
theorem ca_155 : callable Tryz.prog 155 = true := by kernel_rfl
theorem bd_107_0_1_2 : ∀ (x0 : Int) (x1 : Int) (x2 : Option Addr) (y2 z2 : Nat), Tryz.prog.built 107 [(0, .int .i64 x0), (1, .int .i64 x1), (2, .slice x2 y2 z2)] = some #[.int .i64 x0, .int .i64 x1, .slice x2 y2 z2] := fun _ _ _ _ _ => by kernel_rfl
theorem ca_156 : callable Tryz.prog 156 = true := by kernel_rfl
theorem ca_138 : callable Tryz.prog 138 = true := by kernel_rfl
theorem ca_157 : callable Tryz.prog 157 = true := by kernel_rfl
theorem ca_139 : callable Tryz.prog 139 = true := by kernel_rfl
theorem ca_141 : callable Tryz.prog 141 = true := by kernel_rfl
theorem ca_142 : callable Tryz.prog 142 = true := by kernel_rfl
theorem ca_140 : callable Tryz.prog 140 = true := by kernel_rfl
theorem ca_121 : callable Tryz.prog 121 = true := by kernel_rfl
theorem ca_136 : callable Tryz.prog 136 = true := by kernel_rfl
theorem ca_120 : callable Tryz.prog 120 = true := by kernel_rfl
theorem ca_86 : callable Tryz.prog 86 = true := by kernel_rfl
theorem ca_111 : callable Tryz.prog 111 = true := by kernel_rfl
theorem ca_72 : callable Tryz.prog 72 = true := by kernel_rfl
theorem ca_63 : callable Tryz.prog 63 = true := by kernel_rfl
theorem ca_65 : callable Tryz.prog 65 = true := by kernel_rfl
theorem ca_19 : callable Tryz.prog 19 = true := by kernel_rfl
theorem ca_98 : callable Tryz.prog 98 = true := by kernel_rfl
theorem ca_76 : callable Tryz.prog 76 = true := by kernel_rfl
theorem ca_79 : callable Tryz.prog 79 = true := by kernel_rfl
theorem ca_50 : callable Tryz.prog 50 = true := by kernel_rfl
theorem ca_49 : callable Tryz.prog 49 = true := by kernel_rfl
theorem uS_3 : (Tryz.prog.underlying 3).isSome = true := by kernel_rfl
theorem ui_123_u64 : Tryz.prog.underlying 123 = some (.int .u64) := by kernel_rfl
theorem uS_123 : (Tryz.prog.underlying 123).isSome = true := by kernel_rfl
theorem ui_3_i64 : Tryz.prog.underlying 3 = some (.int .i64) := by kernel_rfl
theorem ca_124 : callable Tryz.prog 124 = true := by kernel_rfl
theorem ca_101 : callable Tryz.prog 101 = true := by kernel_rfl
theorem ca_102 : callable Tryz.prog 102 = true := by kernel_rfl
theorem ca_66 : callable Tryz.prog 66 = true := by kernel_rfl
theorem ca_67 : callable Tryz.prog 67 = true := by kernel_rfl
theorem ca_149 : callable Tryz.prog 149 = true := by kernel_rfl
theorem ub_4 : Tryz.prog.underlying 4 = some .bool := by kernel_rfl
theorem ca_114 : callable Tryz.prog 114 = true := by kernel_rfl
theorem bd_61_ : Tryz.prog.built 61 [] = some #[.bool false, .int .i64 0, .int .i64 0, .int .i64 0, .int .i64 0, .int .i64 0, .slice none 0 0, .int .i64 0, .int .i64 0, .int .i64 0, .int .i64 0] := by kernel_rfl
theorem ca_77 : callable Tryz.prog 77 = true := by kernel_rfl
theorem ca_167 : callable Tryz.prog 167 = true := by kernel_rfl
theorem ca_164 : callable Tryz.prog 164 = true := by kernel_rfl
theorem ca_161 : callable Tryz.prog 161 = true := by kernel_rfl
theorem ca_181 : callable Tryz.prog 181 = true := by kernel_rfl
theorem ca_180 : callable Tryz.prog 180 = true := by kernel_rfl
theorem ca_168 : callable Tryz.prog 168 = true := by kernel_rfl
theorem ca_171 : callable Tryz.prog 171 = true := by kernel_rfl
theorem ca_172 : callable Tryz.prog 172 = true := by kernel_rfl
theorem ca_170 : callable Tryz.prog 170 = true := by kernel_rfl
theorem ca_169 : callable Tryz.prog 169 = true := by kernel_rfl
theorem ca_158 : callable Tryz.prog 158 = true := by kernel_rfl
theorem ca_173 : callable Tryz.prog 173 = true := by kernel_rfl
theorem ca_174 : callable Tryz.prog 174 = true := by kernel_rfl
theorem ca_175 : callable Tryz.prog 175 = true := by kernel_rfl
theorem ca_159 : callable Tryz.prog 159 = true := by kernel_rfl
theorem ca_177 : callable Tryz.prog 177 = true := by kernel_rfl
theorem ca_176 : callable Tryz.prog 176 = true := by kernel_rfl
theorem ca_160 : callable Tryz.prog 160 = true := by kernel_rfl
theorem ca_165 : callable Tryz.prog 165 = true := by kernel_rfl
theorem ca_182 : callable Tryz.prog 182 = true := by kernel_rfl
theorem ca_178 : callable Tryz.prog 178 = true := by kernel_rfl
theorem ca_162 : callable Tryz.prog 162 = true := by kernel_rfl
theorem ca_150 : callable Tryz.prog 150 = true := by kernel_rfl
theorem ca_163 : callable Tryz.prog 163 = true := by kernel_rfl
theorem ca_153 : callable Tryz.prog 153 = true := by kernel_rfl
theorem ca_152 : callable Tryz.prog 152 = true := by kernel_rfl
theorem ca_151 : callable Tryz.prog 151 = true := by kernel_rfl
theorem ca_132 : callable Tryz.prog 132 = true := by kernel_rfl
theorem ca_115 : callable Tryz.prog 115 = true := by kernel_rfl
theorem ca_116 : callable Tryz.prog 116 = true := by kernel_rfl
theorem ca_80 : callable Tryz.prog 80 = true := by kernel_rfl
theorem ca_91 : callable Tryz.prog 91 = true := by kernel_rfl
theorem ca_37 : callable Tryz.prog 37 = true := by kernel_rfl
theorem ca_68 : callable Tryz.prog 68 = true := by kernel_rfl
theorem ca_20 : callable Tryz.prog 20 = true := by kernel_rfl
theorem ca_52 : callable Tryz.prog 52 = true := by kernel_rfl
theorem ca_100 : callable Tryz.prog 100 = true := by kernel_rfl
theorem ca_53 : callable Tryz.prog 53 = true := by kernel_rfl
theorem ca_54 : callable Tryz.prog 54 = true := by kernel_rfl
theorem ca_14 : callable Tryz.prog 14 = true := by kernel_rfl
theorem ca_99 : callable Tryz.prog 99 = true := by kernel_rfl
theorem ca_51 : callable Tryz.prog 51 = true := by kernel_rfl
theorem ca_13 : callable Tryz.prog 13 = true := by kernel_rfl
theorem ca_56 : callable Tryz.prog 56 = true := by kernel_rfl
theorem ca_57 : callable Tryz.prog 57 = true := by kernel_rfl
theorem ca_55 : callable Tryz.prog 55 = true := by kernel_rfl
theorem ca_15 : callable Tryz.prog 15 = true := by kernel_rfl
theorem ca_60 : callable Tryz.prog 60 = true := by kernel_rfl
theorem ca_61 : callable Tryz.prog 61 = true := by kernel_rfl
theorem ca_59 : callable Tryz.prog 59 = true := by kernel_rfl
theorem ca_17 : callable Tryz.prog 17 = true := by kernel_rfl
end Go.Proofs.YtmhalmnbgkpmnaaGreat
