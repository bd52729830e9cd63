/- Facts about the program: types, offsets, callable functions. -/
import Derived.Test.YtdbnoiiacpmbpaaGreatTypes
import Derived.Test.YtdbnoiiacpmbpaaGreatChecked
namespace Go.Proofs.YtdbnoiiacpmbpaaGreat
open Go.RowKit K
set_option maxRecDepth 100000
set_option maxHeartbeats 4000000

theorem si_22 : (sliceElem Tryz.prog 22).isSome = true := by kernel_rfl
theorem se_22 : sliceElem Tryz.prog 22 = some 11 := by kernel_rfl
theorem ag_86 : aggTy Tryz.prog 86 = some 11 := by kernel_rfl
theorem fo_86_6 : fieldOff Tryz.prog 86 6 = some 6 := by kernel_rfl
theorem pt_23 : plainTy Tryz.prog 23 = true := by kernel_rfl
theorem si_23 : (sliceElem Tryz.prog 23).isSome = true := by kernel_rfl
theorem ca_50 : callable Tryz.prog 50 = true := by kernel_rfl
theorem ca_49 : callable Tryz.prog 49 = true := by kernel_rfl
theorem ca_9 : callable Tryz.prog 9 = true := by kernel_rfl
theorem ag_25 : aggTy Tryz.prog 25 = some 2 := by kernel_rfl
theorem fo_25_0 : fieldOff Tryz.prog 25 0 = some 0 := by kernel_rfl
theorem fo_25_1 : fieldOff Tryz.prog 25 1 = some 1 := by kernel_rfl
theorem ca_10 : callable Tryz.prog 10 = true := by kernel_rfl
theorem mi_29 : makeInfo Tryz.prog 29 = some (82, 104, [.bool false, .int .i64 0, .int .i64 0, .int .i64 0, .int .i64 0, .int .i64 0, .slice none 0 0, .int .i64 0, .int .i64 0, .int .i64 0, .int .i64 0]) := by kernel_rfl
theorem zc_82 : zeroCells Tryz.prog 82 = some [.bool false, .int .i64 0, .int .i64 0, .int .i64 0, .int .i64 0, .int .i64 0, .slice none 0 0, .int .i64 0, .int .i64 0, .int .i64 0, .int .i64 0] := by kernel_rfl
theorem fo_86_0 : fieldOff Tryz.prog 86 0 = some 0 := by kernel_rfl
theorem pt_4 : plainTy Tryz.prog 4 = true := by kernel_rfl
theorem fo_82_0 : fieldOff Tryz.prog 82 0 = some 0 := by kernel_rfl
theorem ts_4 : tySize Tryz.prog 4 = some 1 := by kernel_rfl
theorem fo_86_1 : fieldOff Tryz.prog 86 1 = some 1 := by kernel_rfl
theorem pt_3 : plainTy Tryz.prog 3 = true := by kernel_rfl
theorem fo_82_1 : fieldOff Tryz.prog 82 1 = some 1 := by kernel_rfl
theorem ts_3 : tySize Tryz.prog 3 = some 1 := by kernel_rfl
theorem fo_86_2 : fieldOff Tryz.prog 86 2 = some 2 := by kernel_rfl
theorem fo_82_2 : fieldOff Tryz.prog 82 2 = some 2 := by kernel_rfl
theorem fo_86_3 : fieldOff Tryz.prog 86 3 = some 3 := by kernel_rfl
theorem fo_82_3 : fieldOff Tryz.prog 82 3 = some 3 := by kernel_rfl
theorem fo_86_4 : fieldOff Tryz.prog 86 4 = some 4 := by kernel_rfl
theorem fo_82_4 : fieldOff Tryz.prog 82 4 = some 4 := by kernel_rfl
theorem fo_86_5 : fieldOff Tryz.prog 86 5 = some 5 := by kernel_rfl
theorem fo_82_5 : fieldOff Tryz.prog 82 5 = some 5 := by kernel_rfl
theorem mi_23 : makeInfo Tryz.prog 23 = some (3, 8, [.int .i64 0]) := by kernel_rfl
theorem se_23 : sliceElem Tryz.prog 23 = some 1 := by kernel_rfl
theorem ca_56 : callable Tryz.prog 56 = true := by kernel_rfl
theorem fo_82_6 : fieldOff Tryz.prog 82 6 = some 6 := by kernel_rfl
theorem ts_23 : tySize Tryz.prog 23 = some 1 := by kernel_rfl
theorem fo_86_7 : fieldOff Tryz.prog 86 7 = some 7 := by kernel_rfl
theorem fo_82_7 : fieldOff Tryz.prog 82 7 = some 7 := by kernel_rfl
theorem fo_86_8 : fieldOff Tryz.prog 86 8 = some 8 := by kernel_rfl
theorem fo_82_8 : fieldOff Tryz.prog 82 8 = some 8 := by kernel_rfl
theorem fo_86_9 : fieldOff Tryz.prog 86 9 = some 9 := by kernel_rfl
theorem fo_82_9 : fieldOff Tryz.prog 82 9 = some 9 := by kernel_rfl
theorem fo_86_10 : fieldOff Tryz.prog 86 10 = some 10 := by kernel_rfl
theorem fo_82_10 : fieldOff Tryz.prog 82 10 = some 10 := by kernel_rfl
theorem ag_82 : aggTy Tryz.prog 82 = some 11 := by kernel_rfl
theorem ts_82 : tySize Tryz.prog 82 = some 11 := by kernel_rfl
theorem ca_55 : callable Tryz.prog 55 = true := by kernel_rfl
theorem se_29 : sliceElem Tryz.prog 29 = some 11 := by kernel_rfl
theorem ca_12 : callable Tryz.prog 12 = true := by kernel_rfl
theorem zc_31 : zeroCells Tryz.prog 31 = some [.slice none 0 0, .slice none 0 0] := by kernel_rfl
theorem fo_31_0 : fieldOff Tryz.prog 31 0 = some 0 := by kernel_rfl
theorem fo_31_1 : fieldOff Tryz.prog 31 1 = some 1 := by kernel_rfl
theorem ag_31 : aggTy Tryz.prog 31 = some 2 := by kernel_rfl
theorem ts_31 : tySize Tryz.prog 31 = some 2 := by kernel_rfl
theorem ca_13 : callable Tryz.prog 13 = true := by kernel_rfl
theorem si_29 : (sliceElem Tryz.prog 29).isSome = true := by kernel_rfl
theorem ca_88 : callable Tryz.prog 88 = true := by kernel_rfl
theorem ca_111 : callable Tryz.prog 111 = true := by kernel_rfl
theorem zc_96 : zeroCells Tryz.prog 96 = some [.int .i64 0, .int .i64 0, .slice none 0 0] := by kernel_rfl
theorem bd_96_ : Tryz.prog.built 96 [] = some #[.int .i64 0, .int .i64 0, .slice none 0 0] := by kernel_rfl
theorem ts_96 : tySize Tryz.prog 96 = some 3 := by kernel_rfl
theorem ag_96 : aggTy Tryz.prog 96 = some 3 := by kernel_rfl
theorem bd_96_0_1 : ∀ (x0 : Int) (x1 : Int), Tryz.prog.built 96 [(0, .int .i64 x0), (1, .int .i64 x1)] = some #[.int .i64 x0, .int .i64 x1, .slice none 0 0] := fun _ _ => by kernel_rfl
theorem bs_23_0_ : builtSlice Tryz.prog 23 0 [] = some (3, []) := by kernel_rfl
theorem bs_23_1_0 : ∀ (x0 : Int), builtSlice Tryz.prog 23 1 [(0, .int .i64 x0)] = some (3, [.int .i64 x0]) := fun _ => by kernel_rfl
theorem ca_203 : callable Tryz.prog 203 = true := by kernel_rfl
theorem fo_96_2 : fieldOff Tryz.prog 96 2 = some 2 := by kernel_rfl
theorem ca_201 : callable Tryz.prog 201 = true := by kernel_rfl
theorem ca_202 : callable Tryz.prog 202 = true := by kernel_rfl
theorem fo_96_0 : fieldOff Tryz.prog 96 0 = some 0 := by kernel_rfl
theorem fo_96_1 : fieldOff Tryz.prog 96 1 = some 1 := by kernel_rfl
theorem ca_100 : callable Tryz.prog 100 = true := by kernel_rfl
theorem ca_168 : callable Tryz.prog 168 = true := by kernel_rfl
theorem bs_23_2_0_1 : ∀ (x0 : Int) (x1 : Int), builtSlice Tryz.prog 23 2 [(0, .int .i64 x0), (1, .int .i64 x1)] = some (3, [.int .i64 x0, .int .i64 x1]) := fun _ _ => by kernel_rfl
theorem ca_193 : callable Tryz.prog 193 = true := by kernel_rfl
theorem ca_204 : callable Tryz.prog 204 = true := by kernel_rfl
theorem ca_194 : callable Tryz.prog 194 = true := by kernel_rfl
theorem ca_165 : callable Tryz.prog 165 = true := by kernel_rfl
theorem ca_195 : callable Tryz.prog 195 = true := by kernel_rfl
theorem bd_96_0_1_2 : ∀ (x0 : Int) (x1 : Int) (x2 : Option Addr) (y2 z2 : Nat), Tryz.prog.built 96 [(0, .int .i64 x0), (1, .int .i64 x1), (2, .slice x2 y2 z2)] = some #[.int .i64 x0, .int .i64 x1, .slice x2 y2 z2] := fun _ _ _ _ _ => by kernel_rfl
theorem ca_196 : callable Tryz.prog 196 = true := by kernel_rfl
theorem ca_166 : callable Tryz.prog 166 = true := by kernel_rfl
theorem ca_197 : callable Tryz.prog 197 = true := by kernel_rfl
theorem ca_167 : callable Tryz.prog 167 = true := by kernel_rfl
theorem ca_102 : callable Tryz.prog 102 = true := by kernel_rfl
theorem ca_170 : callable Tryz.prog 170 = true := by kernel_rfl
theorem ca_169 : callable Tryz.prog 169 = true := by kernel_rfl
theorem ca_132 : callable Tryz.prog 132 = true := by kernel_rfl
theorem ca_164 : callable Tryz.prog 164 = true := by kernel_rfl
theorem ca_131 : callable Tryz.prog 131 = true := by kernel_rfl
theorem ca_98 : callable Tryz.prog 98 = true := by kernel_rfl
theorem ca_133 : callable Tryz.prog 133 = true := by kernel_rfl
theorem ca_134 : callable Tryz.prog 134 = true := by kernel_rfl
theorem ca_99 : callable Tryz.prog 99 = true := by kernel_rfl
theorem ft_96_2 : fieldTy Tryz.prog 96 2 = some (23, 2) := by kernel_rfl
theorem ca_51 : callable Tryz.prog 51 = true := by kernel_rfl
theorem ca_52 : callable Tryz.prog 52 = true := by kernel_rfl
theorem ca_136 : callable Tryz.prog 136 = true := by kernel_rfl
theorem ca_104 : callable Tryz.prog 104 = true := by kernel_rfl
theorem ca_103 : callable Tryz.prog 103 = true := by kernel_rfl
theorem ca_135 : callable Tryz.prog 135 = true := by kernel_rfl
theorem ca_101 : callable Tryz.prog 101 = true := by kernel_rfl
theorem ca_54 : callable Tryz.prog 54 = true := by kernel_rfl
theorem ca_53 : callable Tryz.prog 53 = true := by kernel_rfl
theorem ca_11 : callable Tryz.prog 11 = true := by kernel_rfl
theorem ca_59 : callable Tryz.prog 59 = true := by kernel_rfl
theorem ca_137 : callable Tryz.prog 137 = true := by kernel_rfl
theorem bd_82_ : Tryz.prog.built 82 [] = some #[.bool false, .int .i64 0, .int .i64 0, .int .i64 0, .int .i64 0, .int .i64 0, .slice none 0 0, .int .i64 0, .int .i64 0, .int .i64 0, .int .i64 0] := by kernel_rfl
theorem ub_4 : Tryz.prog.underlying 4 = some .bool := by kernel_rfl
theorem ca_130 : callable Tryz.prog 130 = true := by kernel_rfl
theorem ca_95 : callable Tryz.prog 95 = true := by kernel_rfl
theorem ca_175 : callable Tryz.prog 175 = true := by kernel_rfl
theorem ca_141 : callable Tryz.prog 141 = true := by kernel_rfl
theorem ca_149 : callable Tryz.prog 149 = true := by kernel_rfl
theorem ca_200 : callable Tryz.prog 200 = true := by kernel_rfl
theorem ca_199 : callable Tryz.prog 199 = true := by kernel_rfl
theorem ca_176 : callable Tryz.prog 176 = true := by kernel_rfl
theorem ca_179 : callable Tryz.prog 179 = true := by kernel_rfl
theorem ca_180 : callable Tryz.prog 180 = true := by kernel_rfl
theorem ca_178 : callable Tryz.prog 178 = true := by kernel_rfl
theorem ca_177 : callable Tryz.prog 177 = true := by kernel_rfl
theorem ca_146 : callable Tryz.prog 146 = true := by kernel_rfl
theorem ca_181 : callable Tryz.prog 181 = true := by kernel_rfl
theorem ca_182 : callable Tryz.prog 182 = true := by kernel_rfl
theorem ca_183 : callable Tryz.prog 183 = true := by kernel_rfl
theorem ca_147 : callable Tryz.prog 147 = true := by kernel_rfl
theorem ca_185 : callable Tryz.prog 185 = true := by kernel_rfl
theorem ca_184 : callable Tryz.prog 184 = true := by kernel_rfl
theorem ca_148 : callable Tryz.prog 148 = true := by kernel_rfl
theorem ca_143 : callable Tryz.prog 143 = true := by kernel_rfl
theorem ca_151 : callable Tryz.prog 151 = true := by kernel_rfl
theorem ca_186 : callable Tryz.prog 186 = true := by kernel_rfl
theorem ca_150 : callable Tryz.prog 150 = true := by kernel_rfl
theorem ca_108 : callable Tryz.prog 108 = true := by kernel_rfl
theorem ca_171 : callable Tryz.prog 171 = true := by kernel_rfl
theorem ca_140 : callable Tryz.prog 140 = true := by kernel_rfl
theorem ca_139 : callable Tryz.prog 139 = true := by kernel_rfl
theorem ca_138 : callable Tryz.prog 138 = true := by kernel_rfl
theorem ca_105 : callable Tryz.prog 105 = true := by kernel_rfl
theorem ca_57 : callable Tryz.prog 57 = true := by kernel_rfl
theorem ca_58 : callable Tryz.prog 58 = true := by kernel_rfl
theorem ca_109 : callable Tryz.prog 109 = true := by kernel_rfl
theorem ca_61 : callable Tryz.prog 61 = true := by kernel_rfl
theorem ca_173 : callable Tryz.prog 173 = true := by kernel_rfl
theorem ca_174 : callable Tryz.prog 174 = true := by kernel_rfl
theorem ca_145 : callable Tryz.prog 145 = true := by kernel_rfl
theorem ca_144 : callable Tryz.prog 144 = true := by kernel_rfl
theorem ca_172 : callable Tryz.prog 172 = true := by kernel_rfl
theorem ca_142 : callable Tryz.prog 142 = true := by kernel_rfl
theorem ca_107 : callable Tryz.prog 107 = true := by kernel_rfl
theorem ca_106 : callable Tryz.prog 106 = true := by kernel_rfl
theorem ca_60 : callable Tryz.prog 60 = true := by kernel_rfl
theorem ca_14 : callable Tryz.prog 14 = true := by kernel_rfl
theorem ca_15 : callable Tryz.prog 15 = true := by kernel_rfl
theorem ca_62 : callable Tryz.prog 62 = true := by kernel_rfl
theorem ca_16 : callable Tryz.prog 16 = true := by kernel_rfl
theorem ca_17 : callable Tryz.prog 17 = true := by kernel_rfl
theorem ca_20 : callable Tryz.prog 20 = true := by kernel_rfl
theorem ca_18 : callable Tryz.prog 18 = true := by kernel_rfl
theorem ca_19 : callable Tryz.prog 19 = true := by kernel_rfl
theorem ca_21 : callable Tryz.prog 21 = true := by kernel_rfl
end Go.Proofs.YtdbnoiiacpmbpaaGreat
