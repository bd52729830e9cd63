/- Facts about the program: types, offsets, callable functions. -/
import Derived.Test.YtmhalmnbgkpmnaaGreatTypes
import Derived.Test.YtmhalmnbgkpmnaaGreatChecked
namespace Go.Proofs.YtmhalmnbgkpmnaaGreat
open Go.RowKit K
set_option maxRecDepth 100000
set_option maxHeartbeats 4000000

theorem si_51 : (sliceElem Tryz.prog 51).isSome = true := by kernel_rfl
theorem ca_21 : callable Tryz.prog 21 = true := by kernel_rfl
theorem bd_35_ : Tryz.prog.built 35 [] = some #[.slice none 0 0, .slice none 0 0, .int .i64 0, .slice none 0 0] := by kernel_rfl
theorem zc_35 : zeroCells Tryz.prog 35 = some [.slice none 0 0, .slice none 0 0, .int .i64 0, .slice none 0 0] := by kernel_rfl
theorem ts_35 : tySize Tryz.prog 35 = some 4 := by kernel_rfl
theorem zc_39 : zeroCells Tryz.prog 39 = some [.int .i64 0, .int .i64 0, .slice none 0 0, .slice none 0 0, .slice none 0 0] := by kernel_rfl
theorem zc_107 : zeroCells Tryz.prog 107 = some [.int .i64 0, .int .i64 0, .slice none 0 0] := by kernel_rfl
theorem ca_64 : callable Tryz.prog 64 = true := by kernel_rfl
theorem ca_118 : callable Tryz.prog 118 = true := by kernel_rfl
theorem bd_107_ : Tryz.prog.built 107 [] = some #[.int .i64 0, .int .i64 0, .slice none 0 0] := by kernel_rfl
theorem ts_107 : tySize Tryz.prog 107 = some 3 := by kernel_rfl
theorem ag_107 : aggTy Tryz.prog 107 = some 3 := by kernel_rfl
theorem bd_107_0_1 : ∀ (x0 : Int) (x1 : Int), Tryz.prog.built 107 [(0, .int .i64 x0), (1, .int .i64 x1)] = some #[.int .i64 x0, .int .i64 x1, .slice none 0 0] := fun _ _ => by kernel_rfl
theorem fo_107_2 : fieldOff Tryz.prog 107 2 = some 2 := by kernel_rfl
theorem pt_23 : plainTy Tryz.prog 23 = true := by kernel_rfl
theorem bs_23_1_0 : ∀ (x0 : Int), builtSlice Tryz.prog 23 1 [(0, .int .i64 x0)] = some (3, [.int .i64 x0]) := fun _ => by kernel_rfl
theorem mi_23 : makeInfo Tryz.prog 23 = some (3, 8, [.int .i64 0]) := by kernel_rfl
theorem ts_23 : tySize Tryz.prog 23 = some 1 := by kernel_rfl
theorem ca_83 : callable Tryz.prog 83 = true := by kernel_rfl
theorem zc_61 : zeroCells Tryz.prog 61 = some [.bool false, .int .i64 0, .int .i64 0, .int .i64 0, .int .i64 0, .int .i64 0, .slice none 0 0, .int .i64 0, .int .i64 0, .int .i64 0, .int .i64 0] := by kernel_rfl
theorem fo_107_0 : fieldOff Tryz.prog 107 0 = some 0 := by kernel_rfl
theorem pt_3 : plainTy Tryz.prog 3 = true := by kernel_rfl
theorem fo_107_1 : fieldOff Tryz.prog 107 1 = some 1 := by kernel_rfl
theorem si_23 : (sliceElem Tryz.prog 23).isSome = true := by kernel_rfl
theorem se_23 : sliceElem Tryz.prog 23 = some 1 := by kernel_rfl
theorem ca_133 : callable Tryz.prog 133 = true := by kernel_rfl
theorem bs_23_0_ : builtSlice Tryz.prog 23 0 [] = some (3, []) := by kernel_rfl
theorem bs_23_2_0_1 : ∀ (x0 : Int) (x1 : Int), builtSlice Tryz.prog 23 2 [(0, .int .i64 x0), (1, .int .i64 x1)] = some (3, [.int .i64 x0, .int .i64 x1]) := fun _ _ => by kernel_rfl
theorem ca_134 : callable Tryz.prog 134 = true := by kernel_rfl
theorem ca_135 : callable Tryz.prog 135 = true := by kernel_rfl
theorem ts_3 : tySize Tryz.prog 3 = some 1 := by kernel_rfl
theorem ca_117 : callable Tryz.prog 117 = true := by kernel_rfl
theorem bd_61_ : Tryz.prog.built 61 [] = some #[.bool false, .int .i64 0, .int .i64 0, .int .i64 0, .int .i64 0, .int .i64 0, .slice none 0 0, .int .i64 0, .int .i64 0, .int .i64 0, .int .i64 0] := by kernel_rfl
theorem ts_61 : tySize Tryz.prog 61 = some 11 := by kernel_rfl
theorem ag_61 : aggTy Tryz.prog 61 = some 11 := by kernel_rfl
theorem bd_61_0_1_2_3_4_5_6_7 : ∀ (x0 : Bool) (x1 : Int) (x2 : Int) (x3 : Int) (x4 : Int) (x5 : Int) (x6 : Option Addr) (y6 z6 : Nat) (x7 : Int), Tryz.prog.built 61 [(0, .bool x0), (1, .int .i64 x1), (2, .int .i64 x2), (3, .int .i64 x3), (4, .int .i64 x4), (5, .int .i64 x5), (6, .slice x6 y6 z6), (7, .int .i64 x7)] = some #[.bool x0, .int .i64 x1, .int .i64 x2, .int .i64 x3, .int .i64 x4, .int .i64 x5, .slice x6 y6 z6, .int .i64 x7, .int .i64 0, .int .i64 0, .int .i64 0] := fun _ _ _ _ _ _ _ _ _ _ => by kernel_rfl
theorem ca_82 : callable Tryz.prog 82 = true := by kernel_rfl
theorem bs_36_4_0_1_2_3 : ∀ (x1 : Bool) (x2 : Int) (x3 : Int) (x4 : Int) (x5 : Int) (x6 : Int) (x7 : Option Addr) (y7 z7 : Nat) (x8 : Int) (x9 : Int) (x10 : Int) (x11 : Int) (x13 : Bool) (x14 : Int) (x15 : Int) (x16 : Int) (x17 : Int) (x18 : Int) (x19 : Option Addr) (y19 z19 : Nat) (x20 : Int) (x21 : Int) (x22 : Int) (x23 : Int) (x25 : Bool) (x26 : Int) (x27 : Int) (x28 : Int) (x29 : Int) (x30 : Int) (x31 : Option Addr) (y31 z31 : Nat) (x32 : Int) (x33 : Int) (x34 : Int) (x35 : Int) (x37 : Bool) (x38 : Int) (x39 : Int) (x40 : Int) (x41 : Int) (x42 : Int) (x43 : Option Addr) (y43 z43 : Nat) (x44 : Int) (x45 : Int) (x46 : Int) (x47 : Int), builtSlice Tryz.prog 36 4 [(0, .agg #[.bool x1, .int .i64 x2, .int .i64 x3, .int .i64 x4, .int .i64 x5, .int .i64 x6, .slice x7 y7 z7, .int .i64 x8, .int .i64 x9, .int .i64 x10, .int .i64 x11]), (1, .agg #[.bool x13, .int .i64 x14, .int .i64 x15, .int .i64 x16, .int .i64 x17, .int .i64 x18, .slice x19 y19 z19, .int .i64 x20, .int .i64 x21, .int .i64 x22, .int .i64 x23]), (2, .agg #[.bool x25, .int .i64 x26, .int .i64 x27, .int .i64 x28, .int .i64 x29, .int .i64 x30, .slice x31 y31 z31, .int .i64 x32, .int .i64 x33, .int .i64 x34, .int .i64 x35]), (3, .agg #[.bool x37, .int .i64 x38, .int .i64 x39, .int .i64 x40, .int .i64 x41, .int .i64 x42, .slice x43 y43 z43, .int .i64 x44, .int .i64 x45, .int .i64 x46, .int .i64 x47])] = some (61, [.bool x1, .int .i64 x2, .int .i64 x3, .int .i64 x4, .int .i64 x5, .int .i64 x6, .slice x7 y7 z7, .int .i64 x8, .int .i64 x9, .int .i64 x10, .int .i64 x11, .bool x13, .int .i64 x14, .int .i64 x15, .int .i64 x16, .int .i64 x17, .int .i64 x18, .slice x19 y19 z19, .int .i64 x20, .int .i64 x21, .int .i64 x22, .int .i64 x23, .bool x25, .int .i64 x26, .int .i64 x27, .int .i64 x28, .int .i64 x29, .int .i64 x30, .slice x31 y31 z31, .int .i64 x32, .int .i64 x33, .int .i64 x34, .int .i64 x35, .bool x37, .int .i64 x38, .int .i64 x39, .int .i64 x40, .int .i64 x41, .int .i64 x42, .slice x43 y43 z43, .int .i64 x44, .int .i64 x45, .int .i64 x46, .int .i64 x47]) := fun _ _ _ _ _ _ _ _ _ _ _ _ _ _ _ _ _ _ _ _ _ _ _ _ _ _ _ _ _ _ _ _ _ _ _ _ _ _ _ _ _ _ _ _ _ _ _ _ _ _ _ _ => by kernel_rfl
theorem zc_37 : zeroCells Tryz.prog 37 = some [.slice none 0 0, .slice none 0 0] := by kernel_rfl
theorem bs_23_9_0_1_2_3_4_5_6_7_8 : ∀ (x0 : Int) (x1 : Int) (x2 : Int) (x3 : Int) (x4 : Int) (x5 : Int) (x6 : Int) (x7 : Int) (x8 : Int), builtSlice Tryz.prog 23 9 [(0, .int .i64 x0), (1, .int .i64 x1), (2, .int .i64 x2), (3, .int .i64 x3), (4, .int .i64 x4), (5, .int .i64 x5), (6, .int .i64 x6), (7, .int .i64 x7), (8, .int .i64 x8)] = some (3, [.int .i64 x0, .int .i64 x1, .int .i64 x2, .int .i64 x3, .int .i64 x4, .int .i64 x5, .int .i64 x6, .int .i64 x7, .int .i64 x8]) := fun _ _ _ _ _ _ _ _ _ => by kernel_rfl
theorem bd_37_0 : ∀ (x0 : Option Addr) (y0 z0 : Nat), Tryz.prog.built 37 [(0, .slice x0 y0 z0)] = some #[.slice x0 y0 z0, .slice none 0 0] := fun _ _ _ => by kernel_rfl
theorem ts_37 : tySize Tryz.prog 37 = some 2 := by kernel_rfl
theorem fo_37_1 : fieldOff Tryz.prog 37 1 = some 1 := by kernel_rfl
theorem ag_37 : aggTy Tryz.prog 37 = some 2 := by kernel_rfl
theorem ca_84 : callable Tryz.prog 84 = true := by kernel_rfl
theorem bd_39_0_1_2_3 : ∀ (x0 : Int) (x1 : Int) (x2 : Option Addr) (y2 z2 : Nat) (x4 : Option Addr) (y4 z4 : Nat) (x5 : Option Addr) (y5 z5 : Nat), Tryz.prog.built 39 [(0, .int .i64 x0), (1, .int .i64 x1), (2, .slice x2 y2 z2), (3, .agg #[.slice x4 y4 z4, .slice x5 y5 z5])] = some #[.int .i64 x0, .int .i64 x1, .slice x2 y2 z2, .slice x4 y4 z4, .slice x5 y5 z5] := fun _ _ _ _ _ _ _ _ _ _ _ => by kernel_rfl
theorem ts_39 : tySize Tryz.prog 39 = some 5 := by kernel_rfl
theorem ag_39 : aggTy Tryz.prog 39 = some 5 := by kernel_rfl
theorem fo_39_2 : fieldOff Tryz.prog 39 2 = some 2 := by kernel_rfl
theorem pt_36 : plainTy Tryz.prog 36 = true := by kernel_rfl
theorem fo_39_0 : fieldOff Tryz.prog 39 0 = some 0 := by kernel_rfl
theorem fo_39_1 : fieldOff Tryz.prog 39 1 = some 1 := by kernel_rfl
theorem si_36 : (sliceElem Tryz.prog 36).isSome = true := by kernel_rfl
theorem se_36 : sliceElem Tryz.prog 36 = some 11 := by kernel_rfl
theorem fo_61_0 : fieldOff Tryz.prog 61 0 = some 0 := by kernel_rfl
theorem pt_4 : plainTy Tryz.prog 4 = true := by kernel_rfl
theorem fo_61_1 : fieldOff Tryz.prog 61 1 = some 1 := by kernel_rfl
theorem fo_61_2 : fieldOff Tryz.prog 61 2 = some 2 := by kernel_rfl
theorem fo_61_3 : fieldOff Tryz.prog 61 3 = some 3 := by kernel_rfl
theorem fo_61_4 : fieldOff Tryz.prog 61 4 = some 4 := by kernel_rfl
theorem fo_61_5 : fieldOff Tryz.prog 61 5 = some 5 := by kernel_rfl
theorem fo_61_6 : fieldOff Tryz.prog 61 6 = some 6 := by kernel_rfl
theorem fo_61_7 : fieldOff Tryz.prog 61 7 = some 7 := by kernel_rfl
theorem fo_61_8 : fieldOff Tryz.prog 61 8 = some 8 := by kernel_rfl
theorem fo_61_9 : fieldOff Tryz.prog 61 9 = some 9 := by kernel_rfl
theorem fo_61_10 : fieldOff Tryz.prog 61 10 = some 10 := by kernel_rfl
theorem ca_112 : callable Tryz.prog 112 = true := by kernel_rfl
theorem ca_166 : callable Tryz.prog 166 = true := by kernel_rfl
theorem ca_123 : callable Tryz.prog 123 = true := by kernel_rfl
theorem ca_154 : callable Tryz.prog 154 = true := by kernel_rfl
theorem ca_137 : callable Tryz.prog 137 = true := by kernel_rfl
theorem ca_155 : callable Tryz.prog 155 = true := by kernel_rfl
theorem bd_107_0_1_2 : ∀ (x0 : Int) (x1 : Int) (x2 : Option Addr) (y2 z2 : Nat), Tryz.prog.built 107 [(0, .int .i64 x0), (1, .int .i64 x1), (2, .slice x2 y2 z2)] = some #[.int .i64 x0, .int .i64 x1, .slice x2 y2 z2] := fun _ _ _ _ _ => by kernel_rfl
theorem ca_156 : callable Tryz.prog 156 = true := by kernel_rfl
theorem ca_138 : callable Tryz.prog 138 = true := by kernel_rfl
theorem ca_157 : callable Tryz.prog 157 = true := by kernel_rfl
theorem ca_139 : callable Tryz.prog 139 = true := by kernel_rfl
theorem ca_141 : callable Tryz.prog 141 = true := by kernel_rfl
theorem ca_142 : callable Tryz.prog 142 = true := by kernel_rfl
theorem ca_140 : callable Tryz.prog 140 = true := by kernel_rfl
theorem ca_121 : callable Tryz.prog 121 = true := by kernel_rfl
theorem ca_136 : callable Tryz.prog 136 = true := by kernel_rfl
theorem ca_120 : callable Tryz.prog 120 = true := by kernel_rfl
theorem ca_86 : callable Tryz.prog 86 = true := by kernel_rfl
theorem fo_37_0 : fieldOff Tryz.prog 37 0 = some 0 := by kernel_rfl
theorem fo_39_3 : fieldOff Tryz.prog 39 3 = some 3 := by kernel_rfl
theorem ca_111 : callable Tryz.prog 111 = true := by kernel_rfl
theorem ca_72 : callable Tryz.prog 72 = true := by kernel_rfl
theorem bd_39_ : Tryz.prog.built 39 [] = some #[.int .i64 0, .int .i64 0, .slice none 0 0, .slice none 0 0, .slice none 0 0] := by kernel_rfl
theorem ca_28 : callable Tryz.prog 28 = true := by kernel_rfl
theorem se_51 : sliceElem Tryz.prog 51 = some 1 := by kernel_rfl
theorem pt_5 : plainTy Tryz.prog 5 = true := by kernel_rfl
theorem uS_5 : (Tryz.prog.underlying 5).isSome = true := by kernel_rfl
theorem ui_3_i64 : Tryz.prog.underlying 3 = some (.int .i64) := by kernel_rfl
theorem ca_29 : callable Tryz.prog 29 = true := by kernel_rfl
theorem ag_35 : aggTy Tryz.prog 35 = some 4 := by kernel_rfl
theorem fo_35_1 : fieldOff Tryz.prog 35 1 = some 1 := by kernel_rfl
theorem ca_98 : callable Tryz.prog 98 = true := by kernel_rfl
theorem fo_35_2 : fieldOff Tryz.prog 35 2 = some 2 := by kernel_rfl
theorem fo_35_3 : fieldOff Tryz.prog 35 3 = some 3 := by kernel_rfl
theorem bd_35_1_2_3 : ∀ (x0 : Option Addr) (y0 z0 : Nat) (x1 : Int) (x2 : Option Addr) (y2 z2 : Nat), Tryz.prog.built 35 [(1, .slice x0 y0 z0), (2, .int .i64 x1), (3, .slice x2 y2 z2)] = some #[.slice none 0 0, .slice x0 y0 z0, .int .i64 x1, .slice x2 y2 z2] := fun _ _ _ _ _ _ _ => by kernel_rfl
theorem fo_35_0 : fieldOff Tryz.prog 35 0 = some 0 := by kernel_rfl
theorem pt_33 : plainTy Tryz.prog 33 = true := by kernel_rfl
theorem si_33 : (sliceElem Tryz.prog 33).isSome = true := by kernel_rfl
theorem se_33 : sliceElem Tryz.prog 33 = some 7 := by kernel_rfl
theorem ag_79 : aggTy Tryz.prog 79 = some 7 := by kernel_rfl
theorem zc_79 : zeroCells Tryz.prog 79 = some [.int .i64 0, .int .i64 0, .int .i64 0, .int .i64 0, .slice none 0 0, .slice none 0 0, .slice none 0 0] := by kernel_rfl
theorem ts_79 : tySize Tryz.prog 79 = some 7 := by kernel_rfl
theorem fo_79_2 : fieldOff Tryz.prog 79 2 = some 2 := by kernel_rfl
theorem ca_76 : callable Tryz.prog 76 = true := by kernel_rfl
theorem bd_37_0_1 : ∀ (x0 : Option Addr) (y0 z0 : Nat) (x1 : Option Addr) (y1 z1 : Nat), Tryz.prog.built 37 [(0, .slice x0 y0 z0), (1, .slice x1 y1 z1)] = some #[.slice x0 y0 z0, .slice x1 y1 z1] := fun _ _ _ _ _ _ => by kernel_rfl
theorem ca_79 : callable Tryz.prog 79 = true := by kernel_rfl
theorem ca_50 : callable Tryz.prog 50 = true := by kernel_rfl
theorem bs_33_1_0 : ∀ (x1 : Int) (x2 : Int) (x4 : Int) (x5 : Int) (x6 : Option Addr) (y6 z6 : Nat) (x8 : Option Addr) (y8 z8 : Nat) (x9 : Option Addr) (y9 z9 : Nat), builtSlice Tryz.prog 33 1 [(0, .agg #[.int .i64 x1, .int .i64 x2, .int .i64 x4, .int .i64 x5, .slice x6 y6 z6, .slice x8 y8 z8, .slice x9 y9 z9])] = some (79, [.int .i64 x1, .int .i64 x2, .int .i64 x4, .int .i64 x5, .slice x6 y6 z6, .slice x8 y8 z8, .slice x9 y9 z9]) := fun _ _ _ _ _ _ _ _ _ _ _ _ _ => by kernel_rfl
theorem mi_33 : makeInfo Tryz.prog 33 = some (79, 104, [.int .i64 0, .int .i64 0, .int .i64 0, .int .i64 0, .slice none 0 0, .slice none 0 0, .slice none 0 0]) := by kernel_rfl
theorem ts_33 : tySize Tryz.prog 33 = some 1 := by kernel_rfl
theorem ca_49 : callable Tryz.prog 49 = true := by kernel_rfl
theorem uS_3 : (Tryz.prog.underlying 3).isSome = true := by kernel_rfl
theorem ui_123_u64 : Tryz.prog.underlying 123 = some (.int .u64) := by kernel_rfl
theorem uS_123 : (Tryz.prog.underlying 123).isSome = true := by kernel_rfl
theorem ca_124 : callable Tryz.prog 124 = true := by kernel_rfl
theorem ca_101 : callable Tryz.prog 101 = true := by kernel_rfl
theorem ca_102 : callable Tryz.prog 102 = true := by kernel_rfl
theorem ca_66 : callable Tryz.prog 66 = true := by kernel_rfl
theorem ca_67 : callable Tryz.prog 67 = true := by kernel_rfl
theorem fo_79_0 : fieldOff Tryz.prog 79 0 = some 0 := by kernel_rfl
theorem fo_79_1 : fieldOff Tryz.prog 79 1 = some 1 := by kernel_rfl
theorem ca_149 : callable Tryz.prog 149 = true := by kernel_rfl
theorem ub_4 : Tryz.prog.underlying 4 = some .bool := by kernel_rfl
theorem ca_114 : callable Tryz.prog 114 = true := by kernel_rfl
theorem ca_77 : callable Tryz.prog 77 = true := by kernel_rfl
theorem ca_167 : callable Tryz.prog 167 = true := by kernel_rfl
theorem ca_164 : callable Tryz.prog 164 = true := by kernel_rfl
theorem ca_161 : callable Tryz.prog 161 = true := by kernel_rfl
theorem ca_181 : callable Tryz.prog 181 = true := by kernel_rfl
theorem ca_180 : callable Tryz.prog 180 = true := by kernel_rfl
theorem ca_168 : callable Tryz.prog 168 = true := by kernel_rfl
theorem ca_171 : callable Tryz.prog 171 = true := by kernel_rfl
theorem ca_172 : callable Tryz.prog 172 = true := by kernel_rfl
theorem ca_170 : callable Tryz.prog 170 = true := by kernel_rfl
theorem ca_169 : callable Tryz.prog 169 = true := by kernel_rfl
theorem ca_158 : callable Tryz.prog 158 = true := by kernel_rfl
theorem ca_173 : callable Tryz.prog 173 = true := by kernel_rfl
theorem ca_174 : callable Tryz.prog 174 = true := by kernel_rfl
theorem ca_175 : callable Tryz.prog 175 = true := by kernel_rfl
theorem ca_159 : callable Tryz.prog 159 = true := by kernel_rfl
theorem ca_177 : callable Tryz.prog 177 = true := by kernel_rfl
theorem ca_176 : callable Tryz.prog 176 = true := by kernel_rfl
theorem ca_160 : callable Tryz.prog 160 = true := by kernel_rfl
theorem ca_165 : callable Tryz.prog 165 = true := by kernel_rfl
theorem ca_182 : callable Tryz.prog 182 = true := by kernel_rfl
theorem ca_178 : callable Tryz.prog 178 = true := by kernel_rfl
theorem ca_162 : callable Tryz.prog 162 = true := by kernel_rfl
theorem ca_150 : callable Tryz.prog 150 = true := by kernel_rfl
theorem ca_163 : callable Tryz.prog 163 = true := by kernel_rfl
theorem ca_153 : callable Tryz.prog 153 = true := by kernel_rfl
theorem ca_152 : callable Tryz.prog 152 = true := by kernel_rfl
theorem ca_151 : callable Tryz.prog 151 = true := by kernel_rfl
theorem ca_132 : callable Tryz.prog 132 = true := by kernel_rfl
theorem ca_115 : callable Tryz.prog 115 = true := by kernel_rfl
theorem ca_116 : callable Tryz.prog 116 = true := by kernel_rfl
theorem ca_80 : callable Tryz.prog 80 = true := by kernel_rfl
theorem ca_91 : callable Tryz.prog 91 = true := by kernel_rfl
theorem ca_37 : callable Tryz.prog 37 = true := by kernel_rfl
theorem ca_68 : callable Tryz.prog 68 = true := by kernel_rfl
theorem ca_20 : callable Tryz.prog 20 = true := by kernel_rfl
theorem bd_79_0_1_2 : ∀ (x0 : Int) (x1 : Int) (x3 : Int) (x4 : Int) (x5 : Option Addr) (y5 z5 : Nat) (x7 : Option Addr) (y7 z7 : Nat) (x8 : Option Addr) (y8 z8 : Nat), Tryz.prog.built 79 [(0, .int .i64 x0), (1, .int .i64 x1), (2, .agg #[.int .i64 x3, .int .i64 x4, .slice x5 y5 z5, .slice x7 y7 z7, .slice x8 y8 z8])] = some #[.int .i64 x0, .int .i64 x1, .int .i64 x3, .int .i64 x4, .slice x5 y5 z5, .slice x7 y7 z7, .slice x8 y8 z8] := fun _ _ _ _ _ _ _ _ _ _ _ _ _ => by kernel_rfl
theorem ca_30 : callable Tryz.prog 30 = true := by kernel_rfl
theorem ca_31 : callable Tryz.prog 31 = true := by kernel_rfl
theorem ca_119 : callable Tryz.prog 119 = true := by kernel_rfl
theorem ca_85 : callable Tryz.prog 85 = true := by kernel_rfl
theorem ca_32 : callable Tryz.prog 32 = true := by kernel_rfl
theorem ca_12 : callable Tryz.prog 12 = true := by kernel_rfl
theorem ca_87 : callable Tryz.prog 87 = true := by kernel_rfl
theorem ca_122 : callable Tryz.prog 122 = true := by kernel_rfl
theorem ca_88 : callable Tryz.prog 88 = true := by kernel_rfl
theorem ca_33 : callable Tryz.prog 33 = true := by kernel_rfl
theorem ca_89 : callable Tryz.prog 89 = true := by kernel_rfl
theorem ca_90 : callable Tryz.prog 90 = true := by kernel_rfl
theorem ca_34 : callable Tryz.prog 34 = true := by kernel_rfl
theorem ca_35 : callable Tryz.prog 35 = true := by kernel_rfl
theorem ca_36 : callable Tryz.prog 36 = true := by kernel_rfl
end Go.Proofs.YtmhalmnbgkpmnaaGreat
