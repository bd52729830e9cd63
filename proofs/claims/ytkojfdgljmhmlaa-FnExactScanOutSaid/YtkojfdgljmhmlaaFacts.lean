/- Facts about the program: types, offsets, callable functions. -/
import Derived.Test.YtkojfdgljmhmlaaTypes
import Derived.Test.YtkojfdgljmhmlaaChecked
namespace Go.Proofs.Ytkojfdgljmhmlaa
open Go.RowKit K
set_option maxRecDepth 100000
set_option maxHeartbeats 4000000

theorem ag_63 : aggTy Try.prog 63 = some 11 := by kernel_rfl
theorem fo_63_6 : fieldOff Try.prog 63 6 = some 6 := by kernel_rfl
theorem pt_32 : plainTy Try.prog 32 = true := by kernel_rfl
theorem si_32 : (sliceElem Try.prog 32).isSome = true := by kernel_rfl
theorem ca_97 : callable Try.prog 97 = true := by kernel_rfl
theorem ca_39 : callable Try.prog 39 = true := by kernel_rfl
theorem zc_57 : zeroCells Try.prog 57 = some [.bool false, .int .i64 0, .int .i64 0, .int .i64 0, .int .i64 0, .int .i64 0, .slice none 0 0, .int .i64 0, .int .i64 0, .int .i64 0, .int .i64 0] := by kernel_rfl
theorem fo_63_0 : fieldOff Try.prog 63 0 = some 0 := by kernel_rfl
theorem pt_4 : plainTy Try.prog 4 = true := by kernel_rfl
theorem fo_57_0 : fieldOff Try.prog 57 0 = some 0 := by kernel_rfl
theorem ts_4 : tySize Try.prog 4 = some 1 := by kernel_rfl
theorem fo_63_1 : fieldOff Try.prog 63 1 = some 1 := by kernel_rfl
theorem pt_3 : plainTy Try.prog 3 = true := by kernel_rfl
theorem fo_57_1 : fieldOff Try.prog 57 1 = some 1 := by kernel_rfl
theorem ts_3 : tySize Try.prog 3 = some 1 := by kernel_rfl
theorem fo_63_2 : fieldOff Try.prog 63 2 = some 2 := by kernel_rfl
theorem fo_57_2 : fieldOff Try.prog 57 2 = some 2 := by kernel_rfl
theorem fo_63_3 : fieldOff Try.prog 63 3 = some 3 := by kernel_rfl
theorem fo_57_3 : fieldOff Try.prog 57 3 = some 3 := by kernel_rfl
theorem fo_63_4 : fieldOff Try.prog 63 4 = some 4 := by kernel_rfl
theorem fo_57_4 : fieldOff Try.prog 57 4 = some 4 := by kernel_rfl
theorem fo_63_5 : fieldOff Try.prog 63 5 = some 5 := by kernel_rfl
theorem fo_57_5 : fieldOff Try.prog 57 5 = some 5 := by kernel_rfl
theorem mi_32 : makeInfo Try.prog 32 = some (3, 8, [.int .i64 0]) := by kernel_rfl
theorem se_32 : sliceElem Try.prog 32 = some 1 := by kernel_rfl
theorem ca_103 : callable Try.prog 103 = true := by kernel_rfl
theorem fo_57_6 : fieldOff Try.prog 57 6 = some 6 := by kernel_rfl
theorem ts_32 : tySize Try.prog 32 = some 1 := by kernel_rfl
theorem fo_63_7 : fieldOff Try.prog 63 7 = some 7 := by kernel_rfl
theorem fo_57_7 : fieldOff Try.prog 57 7 = some 7 := by kernel_rfl
theorem fo_63_8 : fieldOff Try.prog 63 8 = some 8 := by kernel_rfl
theorem fo_57_8 : fieldOff Try.prog 57 8 = some 8 := by kernel_rfl
theorem fo_63_9 : fieldOff Try.prog 63 9 = some 9 := by kernel_rfl
theorem fo_57_9 : fieldOff Try.prog 57 9 = some 9 := by kernel_rfl
theorem fo_63_10 : fieldOff Try.prog 63 10 = some 10 := by kernel_rfl
theorem fo_57_10 : fieldOff Try.prog 57 10 = some 10 := by kernel_rfl
theorem ag_57 : aggTy Try.prog 57 = some 11 := by kernel_rfl
theorem ts_57 : tySize Try.prog 57 = some 11 := by kernel_rfl
theorem ca_41 : callable Try.prog 41 = true := by kernel_rfl
theorem zc_36 : zeroCells Try.prog 36 = some [.int .i64 0, .int .i64 0, .slice none 0 0] := by kernel_rfl
theorem bd_36_ : Try.prog.built 36 [] = some #[.int .i64 0, .int .i64 0, .slice none 0 0] := by kernel_rfl
theorem ts_36 : tySize Try.prog 36 = some 3 := by kernel_rfl
theorem ag_36 : aggTy Try.prog 36 = some 3 := by kernel_rfl
theorem ca_88 : callable Try.prog 88 = true := by kernel_rfl
theorem bd_36_0_1 : ∀ (x0 : Int) (x1 : Int), Try.prog.built 36 [(0, .int .i64 x0), (1, .int .i64 x1)] = some #[.int .i64 x0, .int .i64 x1, .slice none 0 0] := fun _ _ => by kernel_rfl
theorem bs_32_0_ : builtSlice Try.prog 32 0 [] = some (3, []) := by kernel_rfl
theorem bs_32_1_0 : ∀ (x0 : Int), builtSlice Try.prog 32 1 [(0, .int .i64 x0)] = some (3, [.int .i64 x0]) := fun _ => by kernel_rfl
theorem ca_171 : callable Try.prog 171 = true := by kernel_rfl
theorem fo_36_2 : fieldOff Try.prog 36 2 = some 2 := by kernel_rfl
theorem ca_172 : callable Try.prog 172 = true := by kernel_rfl
theorem ca_173 : callable Try.prog 173 = true := by kernel_rfl
theorem fo_36_0 : fieldOff Try.prog 36 0 = some 0 := by kernel_rfl
theorem fo_36_1 : fieldOff Try.prog 36 1 = some 1 := by kernel_rfl
theorem ca_89 : callable Try.prog 89 = true := by kernel_rfl
theorem ca_101 : callable Try.prog 101 = true := by kernel_rfl
theorem bs_32_2_0_1 : ∀ (x0 : Int) (x1 : Int), builtSlice Try.prog 32 2 [(0, .int .i64 x0), (1, .int .i64 x1)] = some (3, [.int .i64 x0, .int .i64 x1]) := fun _ _ => by kernel_rfl
theorem ca_162 : callable Try.prog 162 = true := by kernel_rfl
theorem ca_174 : callable Try.prog 174 = true := by kernel_rfl
theorem ca_145 : callable Try.prog 145 = true := by kernel_rfl
theorem ca_98 : callable Try.prog 98 = true := by kernel_rfl
theorem ca_146 : callable Try.prog 146 = true := by kernel_rfl
theorem bd_36_0_1_2 : ∀ (x0 : Int) (x1 : Int) (x2 : Option Addr) (y2 z2 : Nat), Try.prog.built 36 [(0, .int .i64 x0), (1, .int .i64 x1), (2, .slice x2 y2 z2)] = some #[.int .i64 x0, .int .i64 x1, .slice x2 y2 z2] := fun _ _ _ _ _ => by kernel_rfl
theorem ca_147 : callable Try.prog 147 = true := by kernel_rfl
theorem ca_99 : callable Try.prog 99 = true := by kernel_rfl
theorem ca_148 : callable Try.prog 148 = true := by kernel_rfl
theorem ca_100 : callable Try.prog 100 = true := by kernel_rfl
theorem ca_115 : callable Try.prog 115 = true := by kernel_rfl
theorem ca_149 : callable Try.prog 149 = true := by kernel_rfl
theorem ca_102 : callable Try.prog 102 = true := by kernel_rfl
theorem ca_40 : callable Try.prog 40 = true := by kernel_rfl
theorem ca_91 : callable Try.prog 91 = true := by kernel_rfl
theorem ca_92 : callable Try.prog 92 = true := by kernel_rfl
theorem ca_150 : callable Try.prog 150 = true := by kernel_rfl
theorem ca_143 : callable Try.prog 143 = true := by kernel_rfl
theorem ca_107 : callable Try.prog 107 = true := by kernel_rfl
theorem ca_137 : callable Try.prog 137 = true := by kernel_rfl
theorem ca_169 : callable Try.prog 169 = true := by kernel_rfl
theorem ca_138 : callable Try.prog 138 = true := by kernel_rfl
theorem ca_139 : callable Try.prog 139 = true := by kernel_rfl
theorem ca_87 : callable Try.prog 87 = true := by kernel_rfl
theorem ca_141 : callable Try.prog 141 = true := by kernel_rfl
theorem ca_152 : callable Try.prog 152 = true := by kernel_rfl
theorem ca_151 : callable Try.prog 151 = true := by kernel_rfl
theorem ca_104 : callable Try.prog 104 = true := by kernel_rfl
theorem ca_153 : callable Try.prog 153 = true := by kernel_rfl
theorem ca_154 : callable Try.prog 154 = true := by kernel_rfl
theorem ca_155 : callable Try.prog 155 = true := by kernel_rfl
theorem ca_105 : callable Try.prog 105 = true := by kernel_rfl
theorem ca_157 : callable Try.prog 157 = true := by kernel_rfl
theorem ca_156 : callable Try.prog 156 = true := by kernel_rfl
theorem ca_106 : callable Try.prog 106 = true := by kernel_rfl
theorem ca_144 : callable Try.prog 144 = true := by kernel_rfl
theorem ca_170 : callable Try.prog 170 = true := by kernel_rfl
theorem ca_158 : callable Try.prog 158 = true := by kernel_rfl
theorem ca_108 : callable Try.prog 108 = true := by kernel_rfl
theorem ca_42 : callable Try.prog 42 = true := by kernel_rfl
theorem ca_25 : callable Try.prog 25 = true := by kernel_rfl
theorem ca_43 : callable Try.prog 43 = true := by kernel_rfl
theorem ub_4 : Try.prog.underlying 4 = some .bool := by kernel_rfl
theorem ca_44 : callable Try.prog 44 = true := by kernel_rfl
theorem ca_28 : callable Try.prog 28 = true := by kernel_rfl
theorem ca_45 : callable Try.prog 45 = true := by kernel_rfl
theorem ca_46 : callable Try.prog 46 = true := by kernel_rfl
theorem ca_29 : callable Try.prog 29 = true := by kernel_rfl
theorem ca_47 : callable Try.prog 47 = true := by kernel_rfl
theorem ca_109 : callable Try.prog 109 = true := by kernel_rfl
theorem ca_110 : callable Try.prog 110 = true := by kernel_rfl
theorem ca_48 : callable Try.prog 48 = true := by kernel_rfl
theorem bd_57_ : Try.prog.built 57 [] = some #[.bool false, .int .i64 0, .int .i64 0, .int .i64 0, .int .i64 0, .int .i64 0, .slice none 0 0, .int .i64 0, .int .i64 0, .int .i64 0, .int .i64 0] := by kernel_rfl
theorem ca_93 : callable Try.prog 93 = true := by kernel_rfl
theorem ca_142 : callable Try.prog 142 = true := by kernel_rfl
theorem ca_96 : callable Try.prog 96 = true := by kernel_rfl
theorem ca_95 : callable Try.prog 95 = true := by kernel_rfl
theorem ca_94 : callable Try.prog 94 = true := by kernel_rfl
theorem ca_38 : callable Try.prog 38 = true := by kernel_rfl
theorem si_74 : (sliceElem Try.prog 74).isSome = true := by kernel_rfl
theorem se_74 : sliceElem Try.prog 74 = some 11 := by kernel_rfl
theorem ca_49 : callable Try.prog 49 = true := by kernel_rfl
theorem mi_53 : makeInfo Try.prog 53 = some (57, 104, [.bool false, .int .i64 0, .int .i64 0, .int .i64 0, .int .i64 0, .int .i64 0, .slice none 0 0, .int .i64 0, .int .i64 0, .int .i64 0, .int .i64 0]) := by kernel_rfl
theorem se_53 : sliceElem Try.prog 53 = some 11 := by kernel_rfl
theorem ca_51 : callable Try.prog 51 = true := by kernel_rfl
theorem si_53 : (sliceElem Try.prog 53).isSome = true := by kernel_rfl
theorem ca_50 : callable Try.prog 50 = true := by kernel_rfl
theorem ca_37 : callable Try.prog 37 = true := by kernel_rfl
theorem ca_52 : callable Try.prog 52 = true := by kernel_rfl
theorem ca_117 : callable Try.prog 117 = true := by kernel_rfl
theorem ca_163 : callable Try.prog 163 = true := by kernel_rfl
theorem ca_118 : callable Try.prog 118 = true := by kernel_rfl
theorem ca_64 : callable Try.prog 64 = true := by kernel_rfl
theorem ca_140 : callable Try.prog 140 = true := by kernel_rfl
theorem ca_90 : callable Try.prog 90 = true := by kernel_rfl
theorem ft_36_2 : fieldTy Try.prog 36 2 = some (32, 2) := by kernel_rfl
theorem ca_57 : callable Try.prog 57 = true := by kernel_rfl
theorem ca_65 : callable Try.prog 65 = true := by kernel_rfl
theorem ca_111 : callable Try.prog 111 = true := by kernel_rfl
theorem ca_53 : callable Try.prog 53 = true := by kernel_rfl
theorem ca_62 : callable Try.prog 62 = true := by kernel_rfl
theorem ca_66 : callable Try.prog 66 = true := by kernel_rfl
theorem ca_36 : callable Try.prog 36 = true := by kernel_rfl
end Go.Proofs.Ytkojfdgljmhmlaa
