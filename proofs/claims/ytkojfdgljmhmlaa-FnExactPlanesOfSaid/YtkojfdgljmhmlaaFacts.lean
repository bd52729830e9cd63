/- Facts about the program: types, offsets, callable functions. -/
import Derived.Test.YtkojfdgljmhmlaaTypes
import Derived.Test.YtkojfdgljmhmlaaChecked
namespace Go.Proofs.Ytkojfdgljmhmlaa
open Go.RowKit K
set_option maxRecDepth 100000
set_option maxHeartbeats 4000000

theorem ag_43 : aggTy Try.prog 43 = some 4 := by kernel_rfl
theorem fo_43_3 : fieldOff Try.prog 43 3 = some 3 := by kernel_rfl
theorem pt_41 : plainTy Try.prog 41 = true := by kernel_rfl
theorem si_41 : (sliceElem Try.prog 41).isSome = true := by kernel_rfl
theorem se_41 : sliceElem Try.prog 41 = some 11 := by kernel_rfl
theorem ag_138 : aggTy Try.prog 138 = some 11 := by kernel_rfl
theorem fo_138_8 : fieldOff Try.prog 138 8 = some 8 := by kernel_rfl
theorem ag_86 : aggTy Try.prog 86 = some 3 := by kernel_rfl
theorem fo_86_2 : fieldOff Try.prog 86 2 = some 2 := by kernel_rfl
theorem pt_32 : plainTy Try.prog 32 = true := by kernel_rfl
theorem si_32 : (sliceElem Try.prog 32).isSome = true := by kernel_rfl
theorem ca_97 : callable Try.prog 97 = true := by kernel_rfl
theorem ca_58 : callable Try.prog 58 = true := by kernel_rfl
theorem ca_125 : callable Try.prog 125 = true := by kernel_rfl
theorem ca_73 : callable Try.prog 73 = true := by kernel_rfl
theorem ca_21 : callable Try.prog 21 = true := by kernel_rfl
theorem zc_26 : zeroCells Try.prog 26 = some [.int .i64 0, .int .i64 0, .int .i64 0, .slice none 0 0] := by kernel_rfl
theorem fo_43_0 : fieldOff Try.prog 43 0 = some 0 := by kernel_rfl
theorem pt_3 : plainTy Try.prog 3 = true := by kernel_rfl
theorem fo_26_0 : fieldOff Try.prog 26 0 = some 0 := by kernel_rfl
theorem ts_3 : tySize Try.prog 3 = some 1 := by kernel_rfl
theorem fo_43_1 : fieldOff Try.prog 43 1 = some 1 := by kernel_rfl
theorem fo_26_1 : fieldOff Try.prog 26 1 = some 1 := by kernel_rfl
theorem fo_43_2 : fieldOff Try.prog 43 2 = some 2 := by kernel_rfl
theorem fo_26_2 : fieldOff Try.prog 26 2 = some 2 := by kernel_rfl
theorem mi_24 : makeInfo Try.prog 24 = some (38, 104, [.int .i64 0, .int .i64 0, .int .i64 0, .int .i64 0, .int .i64 0, .int .i64 0, .int .i64 0, .bool false, .int .i64 0, .int .i64 0, .slice none 0 0]) := by kernel_rfl
theorem zc_38 : zeroCells Try.prog 38 = some [.int .i64 0, .int .i64 0, .int .i64 0, .int .i64 0, .int .i64 0, .int .i64 0, .int .i64 0, .bool false, .int .i64 0, .int .i64 0, .slice none 0 0] := by kernel_rfl
theorem fo_138_0 : fieldOff Try.prog 138 0 = some 0 := by kernel_rfl
theorem fo_38_0 : fieldOff Try.prog 38 0 = some 0 := by kernel_rfl
theorem fo_138_1 : fieldOff Try.prog 138 1 = some 1 := by kernel_rfl
theorem fo_38_1 : fieldOff Try.prog 38 1 = some 1 := by kernel_rfl
theorem fo_138_2 : fieldOff Try.prog 138 2 = some 2 := by kernel_rfl
theorem fo_38_2 : fieldOff Try.prog 38 2 = some 2 := by kernel_rfl
theorem fo_138_3 : fieldOff Try.prog 138 3 = some 3 := by kernel_rfl
theorem fo_38_3 : fieldOff Try.prog 38 3 = some 3 := by kernel_rfl
theorem fo_138_4 : fieldOff Try.prog 138 4 = some 4 := by kernel_rfl
theorem fo_38_4 : fieldOff Try.prog 38 4 = some 4 := by kernel_rfl
theorem fo_138_5 : fieldOff Try.prog 138 5 = some 5 := by kernel_rfl
theorem fo_38_5 : fieldOff Try.prog 38 5 = some 5 := by kernel_rfl
theorem fo_138_6 : fieldOff Try.prog 138 6 = some 6 := by kernel_rfl
theorem fo_38_6 : fieldOff Try.prog 38 6 = some 6 := by kernel_rfl
theorem fo_138_7 : fieldOff Try.prog 138 7 = some 7 := by kernel_rfl
theorem pt_4 : plainTy Try.prog 4 = true := by kernel_rfl
theorem fo_38_7 : fieldOff Try.prog 38 7 = some 7 := by kernel_rfl
theorem ts_4 : tySize Try.prog 4 = some 1 := by kernel_rfl
theorem zc_36 : zeroCells Try.prog 36 = some [.int .i64 0, .int .i64 0, .slice none 0 0] := by kernel_rfl
theorem fo_86_0 : fieldOff Try.prog 86 0 = some 0 := by kernel_rfl
theorem fo_36_0 : fieldOff Try.prog 36 0 = some 0 := by kernel_rfl
theorem fo_86_1 : fieldOff Try.prog 86 1 = some 1 := by kernel_rfl
theorem fo_36_1 : fieldOff Try.prog 36 1 = some 1 := by kernel_rfl
theorem mi_32 : makeInfo Try.prog 32 = some (3, 8, [.int .i64 0]) := by kernel_rfl
theorem se_32 : sliceElem Try.prog 32 = some 1 := by kernel_rfl
theorem ca_103 : callable Try.prog 103 = true := by kernel_rfl
theorem fo_36_2 : fieldOff Try.prog 36 2 = some 2 := by kernel_rfl
theorem ts_32 : tySize Try.prog 32 = some 1 := by kernel_rfl
theorem ag_36 : aggTy Try.prog 36 = some 3 := by kernel_rfl
theorem ts_36 : tySize Try.prog 36 = some 3 := by kernel_rfl
theorem ca_60 : callable Try.prog 60 = true := by kernel_rfl
theorem fo_38_8 : fieldOff Try.prog 38 8 = some 8 := by kernel_rfl
theorem ag_38 : aggTy Try.prog 38 = some 11 := by kernel_rfl
theorem ts_38 : tySize Try.prog 38 = some 11 := by kernel_rfl
theorem ca_128 : callable Try.prog 128 = true := by kernel_rfl
theorem se_24 : sliceElem Try.prog 24 = some 11 := by kernel_rfl
theorem ca_78 : callable Try.prog 78 = true := by kernel_rfl
theorem fo_26_3 : fieldOff Try.prog 26 3 = some 3 := by kernel_rfl
theorem ts_24 : tySize Try.prog 24 = some 1 := by kernel_rfl
theorem ag_26 : aggTy Try.prog 26 = some 4 := by kernel_rfl
theorem ts_26 : tySize Try.prog 26 = some 4 := by kernel_rfl
theorem ca_23 : callable Try.prog 23 = true := by kernel_rfl
theorem ag_44 : aggTy Try.prog 44 = some 6 := by kernel_rfl
theorem zc_28 : zeroCells Try.prog 28 = some [.int .i64 0, .bool false, .int .i64 0, .bool false, .bool false, .bool false] := by kernel_rfl
theorem fo_44_0 : fieldOff Try.prog 44 0 = some 0 := by kernel_rfl
theorem fo_28_0 : fieldOff Try.prog 28 0 = some 0 := by kernel_rfl
theorem fo_44_1 : fieldOff Try.prog 44 1 = some 1 := by kernel_rfl
theorem fo_28_1 : fieldOff Try.prog 28 1 = some 1 := by kernel_rfl
theorem fo_44_2 : fieldOff Try.prog 44 2 = some 2 := by kernel_rfl
theorem fo_28_2 : fieldOff Try.prog 28 2 = some 2 := by kernel_rfl
theorem fo_44_3 : fieldOff Try.prog 44 3 = some 3 := by kernel_rfl
theorem fo_28_3 : fieldOff Try.prog 28 3 = some 3 := by kernel_rfl
theorem fo_44_4 : fieldOff Try.prog 44 4 = some 4 := by kernel_rfl
theorem fo_28_4 : fieldOff Try.prog 28 4 = some 4 := by kernel_rfl
theorem fo_44_5 : fieldOff Try.prog 44 5 = some 5 := by kernel_rfl
theorem fo_28_5 : fieldOff Try.prog 28 5 = some 5 := by kernel_rfl
theorem ag_28 : aggTy Try.prog 28 = some 6 := by kernel_rfl
theorem ts_28 : tySize Try.prog 28 = some 6 := by kernel_rfl
theorem ca_24 : callable Try.prog 24 = true := by kernel_rfl
theorem ca_88 : callable Try.prog 88 = true := by kernel_rfl
theorem ca_89 : callable Try.prog 89 = true := by kernel_rfl
theorem ca_115 : callable Try.prog 115 = true := by kernel_rfl
theorem ca_110 : callable Try.prog 110 = true := by kernel_rfl
theorem pt_24 : plainTy Try.prog 24 = true := by kernel_rfl
theorem si_24 : (sliceElem Try.prog 24).isSome = true := by kernel_rfl
theorem ca_101 : callable Try.prog 101 = true := by kernel_rfl
theorem ca_126 : callable Try.prog 126 = true := by kernel_rfl
theorem ca_127 : callable Try.prog 127 = true := by kernel_rfl
theorem ca_74 : callable Try.prog 74 = true := by kernel_rfl
theorem ca_75 : callable Try.prog 75 = true := by kernel_rfl
theorem bs_32_0_ : builtSlice Try.prog 32 0 [] = some (3, []) := by kernel_rfl
theorem bs_32_3_0_1_2 : ∀ (x0 : Int) (x1 : Int) (x2 : Int), builtSlice Try.prog 32 3 [(0, .int .i64 x0), (1, .int .i64 x1), (2, .int .i64 x2)] = some (3, [.int .i64 x0, .int .i64 x1, .int .i64 x2]) := fun _ _ _ => by kernel_rfl
theorem ca_76 : callable Try.prog 76 = true := by kernel_rfl
theorem ca_77 : callable Try.prog 77 = true := by kernel_rfl
theorem ca_22 : callable Try.prog 22 = true := by kernel_rfl
theorem ca_91 : callable Try.prog 91 = true := by kernel_rfl
theorem ca_92 : callable Try.prog 92 = true := by kernel_rfl
theorem ca_143 : callable Try.prog 143 = true := by kernel_rfl
theorem ca_144 : callable Try.prog 144 = true := by kernel_rfl
theorem ca_96 : callable Try.prog 96 = true := by kernel_rfl
theorem mu_135 : Try.prog.underlying 135 = some (.map 3 4) := by kernel_rfl
theorem zv_4 : zeroVal Try.prog 4 = some (.bool false) := by kernel_rfl
theorem ui_3_i64 : Try.prog.underlying 3 = some (.int .i64) := by kernel_rfl
theorem ca_153 : callable Try.prog 153 = true := by kernel_rfl
theorem ca_107 : callable Try.prog 107 = true := by kernel_rfl
theorem ca_124 : callable Try.prog 124 = true := by kernel_rfl
theorem ca_70 : callable Try.prog 70 = true := by kernel_rfl
theorem ca_71 : callable Try.prog 71 = true := by kernel_rfl
theorem ca_20 : callable Try.prog 20 = true := by kernel_rfl
theorem ca_72 : callable Try.prog 72 = true := by kernel_rfl
theorem ca_18 : callable Try.prog 18 = true := by kernel_rfl
theorem ca_25 : callable Try.prog 25 = true := by kernel_rfl
theorem ub_4 : Try.prog.underlying 4 = some .bool := by kernel_rfl
theorem ca_43 : callable Try.prog 43 = true := by kernel_rfl
theorem ca_129 : callable Try.prog 129 = true := by kernel_rfl
theorem ca_79 : callable Try.prog 79 = true := by kernel_rfl
theorem ca_26 : callable Try.prog 26 = true := by kernel_rfl
theorem ca_28 : callable Try.prog 28 = true := by kernel_rfl
theorem ca_80 : callable Try.prog 80 = true := by kernel_rfl
theorem ca_27 : callable Try.prog 27 = true := by kernel_rfl
theorem ca_29 : callable Try.prog 29 = true := by kernel_rfl
theorem bd_26_ : Try.prog.built 26 [] = some #[.int .i64 0, .int .i64 0, .int .i64 0, .slice none 0 0] := by kernel_rfl
theorem bd_26_0_1_2 : ∀ (x0 : Int) (x1 : Int) (x2 : Int), Try.prog.built 26 [(0, .int .i64 x0), (1, .int .i64 x1), (2, .int .i64 x2)] = some #[.int .i64 x0, .int .i64 x1, .int .i64 x2, .slice none 0 0] := fun _ _ _ => by kernel_rfl
theorem bd_36_0_1_2 : ∀ (x0 : Int) (x1 : Int) (x2 : Option Addr) (y2 z2 : Nat), Try.prog.built 36 [(0, .int .i64 x0), (1, .int .i64 x1), (2, .slice x2 y2 z2)] = some #[.int .i64 x0, .int .i64 x1, .slice x2 y2 z2] := fun _ _ _ _ _ => by kernel_rfl
theorem ca_130 : callable Try.prog 130 = true := by kernel_rfl
theorem ca_81 : callable Try.prog 81 = true := by kernel_rfl
theorem bs_24_1_0 : ∀ (x1 : Int) (x2 : Int) (x3 : Int) (x4 : Int) (x5 : Int) (x6 : Int) (x7 : Int) (x8 : Bool) (x10 : Int) (x11 : Int) (x12 : Option Addr) (y12 z12 : Nat), builtSlice Try.prog 24 1 [(0, .agg #[.int .i64 x1, .int .i64 x2, .int .i64 x3, .int .i64 x4, .int .i64 x5, .int .i64 x6, .int .i64 x7, .bool x8, .int .i64 x10, .int .i64 x11, .slice x12 y12 z12])] = some (38, [.int .i64 x1, .int .i64 x2, .int .i64 x3, .int .i64 x4, .int .i64 x5, .int .i64 x6, .int .i64 x7, .bool x8, .int .i64 x10, .int .i64 x11, .slice x12 y12 z12]) := fun _ _ _ _ _ _ _ _ _ _ _ _ _ => by kernel_rfl
theorem ca_30 : callable Try.prog 30 = true := by kernel_rfl
theorem ca_131 : callable Try.prog 131 = true := by kernel_rfl
theorem ca_82 : callable Try.prog 82 = true := by kernel_rfl
theorem ca_111 : callable Try.prog 111 = true := by kernel_rfl
theorem ca_132 : callable Try.prog 132 = true := by kernel_rfl
theorem ca_83 : callable Try.prog 83 = true := by kernel_rfl
theorem ca_31 : callable Try.prog 31 = true := by kernel_rfl
theorem ca_84 : callable Try.prog 84 = true := by kernel_rfl
theorem ca_32 : callable Try.prog 32 = true := by kernel_rfl
theorem bs_53_0_ : builtSlice Try.prog 53 0 [] = some (57, []) := by kernel_rfl
theorem zc_57 : zeroCells Try.prog 57 = some [.bool false, .int .i64 0, .int .i64 0, .int .i64 0, .int .i64 0, .int .i64 0, .slice none 0 0, .int .i64 0, .int .i64 0, .int .i64 0, .int .i64 0] := by kernel_rfl
theorem bs_32_2_0_1 : ∀ (x0 : Int) (x1 : Int), builtSlice Try.prog 32 2 [(0, .int .i64 x0), (1, .int .i64 x1)] = some (3, [.int .i64 x0, .int .i64 x1]) := fun _ _ => by kernel_rfl
theorem ca_172 : callable Try.prog 172 = true := by kernel_rfl
theorem ca_173 : callable Try.prog 173 = true := by kernel_rfl
theorem ca_162 : callable Try.prog 162 = true := by kernel_rfl
theorem bd_57_ : Try.prog.built 57 [] = some #[.bool false, .int .i64 0, .int .i64 0, .int .i64 0, .int .i64 0, .int .i64 0, .slice none 0 0, .int .i64 0, .int .i64 0, .int .i64 0, .int .i64 0] := by kernel_rfl
theorem ts_57 : tySize Try.prog 57 = some 11 := by kernel_rfl
theorem ag_57 : aggTy Try.prog 57 = some 11 := by kernel_rfl
theorem bd_57_0_1_2_3_4_5_6_7 : ∀ (x0 : Bool) (x1 : Int) (x2 : Int) (x3 : Int) (x4 : Int) (x5 : Int) (x6 : Option Addr) (y6 z6 : Nat) (x7 : Int), Try.prog.built 57 [(0, .bool x0), (1, .int .i64 x1), (2, .int .i64 x2), (3, .int .i64 x3), (4, .int .i64 x4), (5, .int .i64 x5), (6, .slice x6 y6 z6), (7, .int .i64 x7)] = some #[.bool x0, .int .i64 x1, .int .i64 x2, .int .i64 x3, .int .i64 x4, .int .i64 x5, .slice x6 y6 z6, .int .i64 x7, .int .i64 0, .int .i64 0, .int .i64 0] := fun _ _ _ _ _ _ _ _ _ _ => by kernel_rfl
theorem ca_116 : callable Try.prog 116 = true := by kernel_rfl
theorem bs_53_1_0 : ∀ (x1 : Bool) (x2 : Int) (x3 : Int) (x4 : Int) (x5 : Int) (x6 : Int) (x7 : Option Addr) (y7 z7 : Nat) (x8 : Int) (x9 : Int) (x10 : Int) (x11 : Int), builtSlice Try.prog 53 1 [(0, .agg #[.bool x1, .int .i64 x2, .int .i64 x3, .int .i64 x4, .int .i64 x5, .int .i64 x6, .slice x7 y7 z7, .int .i64 x8, .int .i64 x9, .int .i64 x10, .int .i64 x11])] = some (57, [.bool x1, .int .i64 x2, .int .i64 x3, .int .i64 x4, .int .i64 x5, .int .i64 x6, .slice x7 y7 z7, .int .i64 x8, .int .i64 x9, .int .i64 x10, .int .i64 x11]) := fun _ _ _ _ _ _ _ _ _ _ _ _ _ => by kernel_rfl
theorem fo_57_7 : fieldOff Try.prog 57 7 = some 7 := by kernel_rfl
theorem fo_57_8 : fieldOff Try.prog 57 8 = some 8 := by kernel_rfl
theorem fo_57_9 : fieldOff Try.prog 57 9 = some 9 := by kernel_rfl
theorem fo_57_10 : fieldOff Try.prog 57 10 = some 10 := by kernel_rfl
theorem mi_53 : makeInfo Try.prog 53 = some (57, 104, [.bool false, .int .i64 0, .int .i64 0, .int .i64 0, .int .i64 0, .int .i64 0, .slice none 0 0, .int .i64 0, .int .i64 0, .int .i64 0, .int .i64 0]) := by kernel_rfl
theorem ca_59 : callable Try.prog 59 = true := by kernel_rfl
theorem ca_137 : callable Try.prog 137 = true := by kernel_rfl
theorem ca_169 : callable Try.prog 169 = true := by kernel_rfl
theorem ca_138 : callable Try.prog 138 = true := by kernel_rfl
theorem ca_139 : callable Try.prog 139 = true := by kernel_rfl
theorem ca_87 : callable Try.prog 87 = true := by kernel_rfl
theorem ca_34 : callable Try.prog 34 = true := by kernel_rfl
theorem se_53 : sliceElem Try.prog 53 = some 11 := by kernel_rfl
theorem ca_61 : callable Try.prog 61 = true := by kernel_rfl
theorem si_53 : (sliceElem Try.prog 53).isSome = true := by kernel_rfl
theorem fo_57_0 : fieldOff Try.prog 57 0 = some 0 := by kernel_rfl
theorem fo_57_1 : fieldOff Try.prog 57 1 = some 1 := by kernel_rfl
theorem fo_57_2 : fieldOff Try.prog 57 2 = some 2 := by kernel_rfl
theorem fo_57_3 : fieldOff Try.prog 57 3 = some 3 := by kernel_rfl
theorem fo_57_4 : fieldOff Try.prog 57 4 = some 4 := by kernel_rfl
theorem fo_57_5 : fieldOff Try.prog 57 5 = some 5 := by kernel_rfl
theorem fo_57_6 : fieldOff Try.prog 57 6 = some 6 := by kernel_rfl
theorem ca_44 : callable Try.prog 44 = true := by kernel_rfl
theorem ca_52 : callable Try.prog 52 = true := by kernel_rfl
theorem ca_46 : callable Try.prog 46 = true := by kernel_rfl
theorem ca_62 : callable Try.prog 62 = true := by kernel_rfl
theorem ca_63 : callable Try.prog 63 = true := by kernel_rfl
end Go.Proofs.Ytkojfdgljmhmlaa
