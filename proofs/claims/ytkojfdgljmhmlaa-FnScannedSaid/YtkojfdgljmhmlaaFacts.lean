/- Facts about the program: types, offsets, callable functions. -/
import Derived.Test.YtkojfdgljmhmlaaTypes
import Derived.Test.YtkojfdgljmhmlaaChecked
namespace Go.Proofs.Ytkojfdgljmhmlaa
open Go.RowKit K
set_option maxRecDepth 100000
set_option maxHeartbeats 4000000

theorem si_22 : (sliceElem Try.prog 22).isSome = true := by kernel_rfl
theorem ca_15 : callable Try.prog 15 = true := by kernel_rfl
theorem se_22 : sliceElem Try.prog 22 = some 1 := by kernel_rfl
theorem pt_5 : plainTy Try.prog 5 = true := by kernel_rfl
theorem uS_5 : (Try.prog.underlying 5).isSome = true := by kernel_rfl
theorem ui_3_i64 : Try.prog.underlying 3 = some (.int .i64) := by kernel_rfl
theorem bd_126_0_2 : ∀ (x0 : Option Addr) (y0 z0 : Nat) (x1 : Int), Try.prog.built 126 [(0, .slice x0 y0 z0), (2, .int .i64 x1)] = some #[.slice x0 y0 z0, .int .i64 0, .int .i64 x1] := fun _ _ _ _ => by kernel_rfl
theorem ca_67 : callable Try.prog 67 = true := by kernel_rfl
theorem fo_126_2 : fieldOff Try.prog 126 2 = some 2 := by kernel_rfl
theorem pt_3 : plainTy Try.prog 3 = true := by kernel_rfl
theorem ts_3 : tySize Try.prog 3 = some 1 := by kernel_rfl
theorem fo_126_1 : fieldOff Try.prog 126 1 = some 1 := by kernel_rfl
theorem fo_126_0 : fieldOff Try.prog 126 0 = some 0 := by kernel_rfl
theorem pt_22 : plainTy Try.prog 22 = true := by kernel_rfl
theorem ca_133 : callable Try.prog 133 = true := by kernel_rfl
theorem ca_85 : callable Try.prog 85 = true := by kernel_rfl
theorem bs_32_7_0_1_2_3_4_5_6 : ∀ (x0 : Int) (x1 : Int) (x2 : Int) (x3 : Int) (x4 : Int) (x5 : Int) (x6 : Int), builtSlice Try.prog 32 7 [(0, .int .i64 x0), (1, .int .i64 x1), (2, .int .i64 x2), (3, .int .i64 x3), (4, .int .i64 x4), (5, .int .i64 x5), (6, .int .i64 x6)] = some (3, [.int .i64 x0, .int .i64 x1, .int .i64 x2, .int .i64 x3, .int .i64 x4, .int .i64 x5, .int .i64 x6]) := fun _ _ _ _ _ _ _ => by kernel_rfl
theorem si_32 : (sliceElem Try.prog 32).isSome = true := by kernel_rfl
theorem se_32 : sliceElem Try.prog 32 = some 1 := by kernel_rfl
theorem ca_136 : callable Try.prog 136 = true := by kernel_rfl
theorem ca_164 : callable Try.prog 164 = true := by kernel_rfl
theorem ca_88 : callable Try.prog 88 = true := by kernel_rfl
theorem ca_165 : callable Try.prog 165 = true := by kernel_rfl
theorem ca_119 : callable Try.prog 119 = true := by kernel_rfl
theorem zc_36 : zeroCells Try.prog 36 = some [.int .i64 0, .int .i64 0, .slice none 0 0] := by kernel_rfl
theorem ca_89 : callable Try.prog 89 = true := by kernel_rfl
theorem bd_36_ : Try.prog.built 36 [] = some #[.int .i64 0, .int .i64 0, .slice none 0 0] := by kernel_rfl
theorem ts_36 : tySize Try.prog 36 = some 3 := by kernel_rfl
theorem ag_36 : aggTy Try.prog 36 = some 3 := by kernel_rfl
theorem bd_36_0_1 : ∀ (x0 : Int) (x1 : Int), Try.prog.built 36 [(0, .int .i64 x0), (1, .int .i64 x1)] = some #[.int .i64 x0, .int .i64 x1, .slice none 0 0] := fun _ _ => by kernel_rfl
theorem fo_36_2 : fieldOff Try.prog 36 2 = some 2 := by kernel_rfl
theorem pt_32 : plainTy Try.prog 32 = true := by kernel_rfl
theorem bs_32_1_0 : ∀ (x0 : Int), builtSlice Try.prog 32 1 [(0, .int .i64 x0)] = some (3, [.int .i64 x0]) := fun _ => by kernel_rfl
theorem mi_32 : makeInfo Try.prog 32 = some (3, 8, [.int .i64 0]) := by kernel_rfl
theorem ts_32 : tySize Try.prog 32 = some 1 := by kernel_rfl
theorem ca_35 : callable Try.prog 35 = true := by kernel_rfl
theorem zc_144 : zeroCells Try.prog 144 = some [.int .i64 0, .int .i64 0, .int .i64 0, .int .i64 0] := by kernel_rfl
theorem bd_144_0_1_2_3 : ∀ (x0 : Int) (x1 : Int) (x2 : Int) (x3 : Int), Try.prog.built 144 [(0, .int .i64 x0), (1, .int .i64 x1), (2, .int .i64 x2), (3, .int .i64 x3)] = some #[.int .i64 x0, .int .i64 x1, .int .i64 x2, .int .i64 x3] := fun _ _ _ _ => by kernel_rfl
theorem ts_144 : tySize Try.prog 144 = some 4 := by kernel_rfl
theorem ag_144 : aggTy Try.prog 144 = some 4 := by kernel_rfl
theorem ca_135 : callable Try.prog 135 = true := by kernel_rfl
theorem fo_36_0 : fieldOff Try.prog 36 0 = some 0 := by kernel_rfl
theorem fo_36_1 : fieldOff Try.prog 36 1 = some 1 := by kernel_rfl
theorem bs_32_0_ : builtSlice Try.prog 32 0 [] = some (3, []) := by kernel_rfl
theorem bd_36_0_1_2 : ∀ (x0 : Int) (x1 : Int) (x2 : Option Addr) (y2 z2 : Nat), Try.prog.built 36 [(0, .int .i64 x0), (1, .int .i64 x1), (2, .slice x2 y2 z2)] = some #[.int .i64 x0, .int .i64 x1, .slice x2 y2 z2] := fun _ _ _ _ _ => by kernel_rfl
theorem ca_130 : callable Try.prog 130 = true := by kernel_rfl
theorem ca_101 : callable Try.prog 101 = true := by kernel_rfl
theorem fo_144_0 : fieldOff Try.prog 144 0 = some 0 := by kernel_rfl
theorem fo_144_1 : fieldOff Try.prog 144 1 = some 1 := by kernel_rfl
theorem fo_144_2 : fieldOff Try.prog 144 2 = some 2 := by kernel_rfl
theorem fo_144_3 : fieldOff Try.prog 144 3 = some 3 := by kernel_rfl
theorem ca_167 : callable Try.prog 167 = true := by kernel_rfl
theorem bd_144_2_3 : ∀ (x0 : Int) (x1 : Int), Try.prog.built 144 [(2, .int .i64 x0), (3, .int .i64 x1)] = some #[.int .i64 0, .int .i64 0, .int .i64 x0, .int .i64 x1] := fun _ _ => by kernel_rfl
theorem bd_144_ : Try.prog.built 144 [] = some #[.int .i64 0, .int .i64 0, .int .i64 0, .int .i64 0] := by kernel_rfl
theorem ca_168 : callable Try.prog 168 = true := by kernel_rfl
theorem ca_134 : callable Try.prog 134 = true := by kernel_rfl
theorem zc_57 : zeroCells Try.prog 57 = some [.bool false, .int .i64 0, .int .i64 0, .int .i64 0, .int .i64 0, .int .i64 0, .slice none 0 0, .int .i64 0, .int .i64 0, .int .i64 0, .int .i64 0] := by kernel_rfl
theorem bs_32_2_0_1 : ∀ (x0 : Int) (x1 : Int), builtSlice Try.prog 32 2 [(0, .int .i64 x0), (1, .int .i64 x1)] = some (3, [.int .i64 x0, .int .i64 x1]) := fun _ _ => by kernel_rfl
theorem ca_172 : callable Try.prog 172 = true := by kernel_rfl
theorem ca_173 : callable Try.prog 173 = true := by kernel_rfl
theorem ca_162 : callable Try.prog 162 = true := by kernel_rfl
theorem bd_57_ : Try.prog.built 57 [] = some #[.bool false, .int .i64 0, .int .i64 0, .int .i64 0, .int .i64 0, .int .i64 0, .slice none 0 0, .int .i64 0, .int .i64 0, .int .i64 0, .int .i64 0] := by kernel_rfl
theorem ts_57 : tySize Try.prog 57 = some 11 := by kernel_rfl
theorem ag_57 : aggTy Try.prog 57 = some 11 := by kernel_rfl
theorem bd_57_0_1_2_3_4_5_6_7 : ∀ (x0 : Bool) (x1 : Int) (x2 : Int) (x3 : Int) (x4 : Int) (x5 : Int) (x6 : Option Addr) (y6 z6 : Nat) (x7 : Int), Try.prog.built 57 [(0, .bool x0), (1, .int .i64 x1), (2, .int .i64 x2), (3, .int .i64 x3), (4, .int .i64 x4), (5, .int .i64 x5), (6, .slice x6 y6 z6), (7, .int .i64 x7)] = some #[.bool x0, .int .i64 x1, .int .i64 x2, .int .i64 x3, .int .i64 x4, .int .i64 x5, .slice x6 y6 z6, .int .i64 x7, .int .i64 0, .int .i64 0, .int .i64 0] := fun _ _ _ _ _ _ _ _ _ _ => by kernel_rfl
theorem ca_116 : callable Try.prog 116 = true := by kernel_rfl
theorem bs_53_1_0 : ∀ (x1 : Bool) (x2 : Int) (x3 : Int) (x4 : Int) (x5 : Int) (x6 : Int) (x7 : Option Addr) (y7 z7 : Nat) (x8 : Int) (x9 : Int) (x10 : Int) (x11 : Int), builtSlice Try.prog 53 1 [(0, .agg #[.bool x1, .int .i64 x2, .int .i64 x3, .int .i64 x4, .int .i64 x5, .int .i64 x6, .slice x7 y7 z7, .int .i64 x8, .int .i64 x9, .int .i64 x10, .int .i64 x11])] = some (57, [.bool x1, .int .i64 x2, .int .i64 x3, .int .i64 x4, .int .i64 x5, .int .i64 x6, .slice x7 y7 z7, .int .i64 x8, .int .i64 x9, .int .i64 x10, .int .i64 x11]) := fun _ _ _ _ _ _ _ _ _ _ _ _ _ => by kernel_rfl
theorem ca_123 : callable Try.prog 123 = true := by kernel_rfl
theorem ca_121 : callable Try.prog 121 = true := by kernel_rfl
theorem fo_57_7 : fieldOff Try.prog 57 7 = some 7 := by kernel_rfl
theorem fo_57_8 : fieldOff Try.prog 57 8 = some 8 := by kernel_rfl
theorem fo_57_9 : fieldOff Try.prog 57 9 = some 9 := by kernel_rfl
theorem fo_57_10 : fieldOff Try.prog 57 10 = some 10 := by kernel_rfl
theorem mi_53 : makeInfo Try.prog 53 = some (57, 104, [.bool false, .int .i64 0, .int .i64 0, .int .i64 0, .int .i64 0, .int .i64 0, .slice none 0 0, .int .i64 0, .int .i64 0, .int .i64 0, .int .i64 0]) := by kernel_rfl
theorem ca_86 : callable Try.prog 86 = true := by kernel_rfl
theorem ca_33 : callable Try.prog 33 = true := by kernel_rfl
theorem si_53 : (sliceElem Try.prog 53).isSome = true := by kernel_rfl
theorem se_53 : sliceElem Try.prog 53 = some 11 := by kernel_rfl
theorem ca_91 : callable Try.prog 91 = true := by kernel_rfl
theorem ca_92 : callable Try.prog 92 = true := by kernel_rfl
theorem fo_57_0 : fieldOff Try.prog 57 0 = some 0 := by kernel_rfl
theorem pt_4 : plainTy Try.prog 4 = true := by kernel_rfl
theorem ub_4 : Try.prog.underlying 4 = some .bool := by kernel_rfl
theorem fo_57_1 : fieldOff Try.prog 57 1 = some 1 := by kernel_rfl
theorem fo_57_2 : fieldOff Try.prog 57 2 = some 2 := by kernel_rfl
theorem fo_57_3 : fieldOff Try.prog 57 3 = some 3 := by kernel_rfl
theorem fo_57_4 : fieldOff Try.prog 57 4 = some 4 := by kernel_rfl
theorem fo_57_5 : fieldOff Try.prog 57 5 = some 5 := by kernel_rfl
theorem fo_57_6 : fieldOff Try.prog 57 6 = some 6 := by kernel_rfl
theorem ca_141 : callable Try.prog 141 = true := by kernel_rfl
theorem ca_93 : callable Try.prog 93 = true := by kernel_rfl
theorem ca_150 : callable Try.prog 150 = true := by kernel_rfl
theorem ca_143 : callable Try.prog 143 = true := by kernel_rfl
theorem ca_107 : callable Try.prog 107 = true := by kernel_rfl
theorem ca_137 : callable Try.prog 137 = true := by kernel_rfl
theorem ca_169 : callable Try.prog 169 = true := by kernel_rfl
theorem ca_138 : callable Try.prog 138 = true := by kernel_rfl
theorem ca_139 : callable Try.prog 139 = true := by kernel_rfl
theorem ca_87 : callable Try.prog 87 = true := by kernel_rfl
theorem ca_152 : callable Try.prog 152 = true := by kernel_rfl
theorem ca_151 : callable Try.prog 151 = true := by kernel_rfl
theorem ca_104 : callable Try.prog 104 = true := by kernel_rfl
theorem ca_153 : callable Try.prog 153 = true := by kernel_rfl
theorem ca_154 : callable Try.prog 154 = true := by kernel_rfl
theorem ca_155 : callable Try.prog 155 = true := by kernel_rfl
theorem ca_105 : callable Try.prog 105 = true := by kernel_rfl
theorem ca_157 : callable Try.prog 157 = true := by kernel_rfl
theorem ca_156 : callable Try.prog 156 = true := by kernel_rfl
theorem ca_106 : callable Try.prog 106 = true := by kernel_rfl
theorem ca_144 : callable Try.prog 144 = true := by kernel_rfl
theorem ca_170 : callable Try.prog 170 = true := by kernel_rfl
theorem ca_158 : callable Try.prog 158 = true := by kernel_rfl
theorem ca_108 : callable Try.prog 108 = true := by kernel_rfl
theorem ca_42 : callable Try.prog 42 = true := by kernel_rfl
theorem ca_142 : callable Try.prog 142 = true := by kernel_rfl
theorem ca_96 : callable Try.prog 96 = true := by kernel_rfl
theorem ca_95 : callable Try.prog 95 = true := by kernel_rfl
theorem ca_94 : callable Try.prog 94 = true := by kernel_rfl
theorem ca_38 : callable Try.prog 38 = true := by kernel_rfl
theorem ca_37 : callable Try.prog 37 = true := by kernel_rfl
theorem ca_140 : callable Try.prog 140 = true := by kernel_rfl
theorem ca_90 : callable Try.prog 90 = true := by kernel_rfl
theorem ca_36 : callable Try.prog 36 = true := by kernel_rfl
theorem ca_17 : callable Try.prog 17 = true := by kernel_rfl
theorem ft_36_2 : fieldTy Try.prog 36 2 = some (32, 2) := by kernel_rfl
theorem ca_111 : callable Try.prog 111 = true := by kernel_rfl
theorem ca_53 : callable Try.prog 53 = true := by kernel_rfl
theorem zc_82 : zeroCells Try.prog 82 = some [.slice none 0 0, .slice none 0 0] := by kernel_rfl
theorem bs_32_9_0_1_2_3_4_5_6_7_8 : ∀ (x0 : Int) (x1 : Int) (x2 : Int) (x3 : Int) (x4 : Int) (x5 : Int) (x6 : Int) (x7 : Int) (x8 : Int), builtSlice Try.prog 32 9 [(0, .int .i64 x0), (1, .int .i64 x1), (2, .int .i64 x2), (3, .int .i64 x3), (4, .int .i64 x4), (5, .int .i64 x5), (6, .int .i64 x6), (7, .int .i64 x7), (8, .int .i64 x8)] = some (3, [.int .i64 x0, .int .i64 x1, .int .i64 x2, .int .i64 x3, .int .i64 x4, .int .i64 x5, .int .i64 x6, .int .i64 x7, .int .i64 x8]) := fun _ _ _ _ _ _ _ _ _ => by kernel_rfl
theorem bd_82_0 : ∀ (x0 : Option Addr) (y0 z0 : Nat), Try.prog.built 82 [(0, .slice x0 y0 z0)] = some #[.slice x0 y0 z0, .slice none 0 0] := fun _ _ _ => by kernel_rfl
theorem ts_82 : tySize Try.prog 82 = some 2 := by kernel_rfl
theorem fo_82_1 : fieldOff Try.prog 82 1 = some 1 := by kernel_rfl
theorem ag_82 : aggTy Try.prog 82 = some 2 := by kernel_rfl
theorem ca_55 : callable Try.prog 55 = true := by kernel_rfl
theorem fo_82_0 : fieldOff Try.prog 82 0 = some 0 := by kernel_rfl
theorem ca_112 : callable Try.prog 112 = true := by kernel_rfl
theorem ca_182 : callable Try.prog 182 = true := by kernel_rfl
theorem ca_183 : callable Try.prog 183 = true := by kernel_rfl
theorem ca_178 : callable Try.prog 178 = true := by kernel_rfl
theorem ca_177 : callable Try.prog 177 = true := by kernel_rfl
theorem ca_181 : callable Try.prog 181 = true := by kernel_rfl
theorem ca_176 : callable Try.prog 176 = true := by kernel_rfl
theorem ca_160 : callable Try.prog 160 = true := by kernel_rfl
theorem ca_159 : callable Try.prog 159 = true := by kernel_rfl
theorem ca_113 : callable Try.prog 113 = true := by kernel_rfl
theorem ca_54 : callable Try.prog 54 = true := by kernel_rfl
theorem ca_115 : callable Try.prog 115 = true := by kernel_rfl
theorem ca_161 : callable Try.prog 161 = true := by kernel_rfl
theorem ca_114 : callable Try.prog 114 = true := by kernel_rfl
theorem ca_56 : callable Try.prog 56 = true := by kernel_rfl
theorem ca_57 : callable Try.prog 57 = true := by kernel_rfl
end Go.Proofs.Ytkojfdgljmhmlaa
