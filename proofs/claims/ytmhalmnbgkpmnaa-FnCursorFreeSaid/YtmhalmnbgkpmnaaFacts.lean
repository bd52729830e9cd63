/- Facts about the program: types, offsets, callable functions. -/
import Derived.Test.YtmhalmnbgkpmnaaTypes
import Derived.Test.YtmhalmnbgkpmnaaChecked
namespace Go.Proofs.Ytmhalmnbgkpmnaa
open Go.RowKit K
set_option maxRecDepth 100000
set_option maxHeartbeats 4000000

theorem si_49 : (sliceElem Try.prog 49).isSome = true := by kernel_rfl
theorem ca_26 : callable Try.prog 26 = true := by kernel_rfl
theorem zc_62 : zeroCells Try.prog 62 = some [.int .i64 0, .int .i64 0, .int .i64 0, .slice none 0 0] := by kernel_rfl
theorem zc_64 : zeroCells Try.prog 64 = some [.int .i64 0, .bool false, .int .i64 0, .bool false, .bool false, .bool false] := by kernel_rfl
theorem se_49 : sliceElem Try.prog 49 = some 1 := by kernel_rfl
theorem pt_5 : plainTy Try.prog 5 = true := by kernel_rfl
theorem uS_5 : (Try.prog.underlying 5).isSome = true := by kernel_rfl
theorem ui_3_i64 : Try.prog.underlying 3 = some (.int .i64) := by kernel_rfl
theorem bd_142_0_2 : ∀ (x0 : Option Addr) (y0 z0 : Nat) (x1 : Int), Try.prog.built 142 [(0, .slice x0 y0 z0), (2, .int .i64 x1)] = some #[.slice x0 y0 z0, .int .i64 0, .int .i64 x1] := fun _ _ _ _ => by kernel_rfl
theorem ca_69 : callable Try.prog 69 = true := by kernel_rfl
theorem fo_142_2 : fieldOff Try.prog 142 2 = some 2 := by kernel_rfl
theorem pt_3 : plainTy Try.prog 3 = true := by kernel_rfl
theorem ts_3 : tySize Try.prog 3 = some 1 := by kernel_rfl
theorem fo_142_1 : fieldOff Try.prog 142 1 = some 1 := by kernel_rfl
theorem fo_142_0 : fieldOff Try.prog 142 0 = some 0 := by kernel_rfl
theorem pt_49 : plainTy Try.prog 49 = true := by kernel_rfl
theorem ca_120 : callable Try.prog 120 = true := by kernel_rfl
theorem ca_81 : callable Try.prog 81 = true := by kernel_rfl
theorem bs_23_7_0_1_2_3_4_5_6 : ∀ (x0 : Int) (x1 : Int) (x2 : Int) (x3 : Int) (x4 : Int) (x5 : Int) (x6 : Int), builtSlice Try.prog 23 7 [(0, .int .i64 x0), (1, .int .i64 x1), (2, .int .i64 x2), (3, .int .i64 x3), (4, .int .i64 x4), (5, .int .i64 x5), (6, .int .i64 x6)] = some (3, [.int .i64 x0, .int .i64 x1, .int .i64 x2, .int .i64 x3, .int .i64 x4, .int .i64 x5, .int .i64 x6]) := fun _ _ _ _ _ _ _ => by kernel_rfl
theorem si_23 : (sliceElem Try.prog 23).isSome = true := by kernel_rfl
theorem se_23 : sliceElem Try.prog 23 = some 1 := by kernel_rfl
theorem ca_124 : callable Try.prog 124 = true := by kernel_rfl
theorem ca_151 : callable Try.prog 151 = true := by kernel_rfl
theorem ca_84 : callable Try.prog 84 = true := by kernel_rfl
theorem ca_152 : callable Try.prog 152 = true := by kernel_rfl
theorem ca_116 : callable Try.prog 116 = true := by kernel_rfl
theorem bd_62_0_1_2 : ∀ (x0 : Int) (x1 : Int) (x2 : Int), Try.prog.built 62 [(0, .int .i64 x0), (1, .int .i64 x1), (2, .int .i64 x2)] = some #[.int .i64 x0, .int .i64 x1, .int .i64 x2, .slice none 0 0] := fun _ _ _ => by kernel_rfl
theorem ts_62 : tySize Try.prog 62 = some 4 := by kernel_rfl
theorem ag_62 : aggTy Try.prog 62 = some 4 := by kernel_rfl
theorem zc_71 : zeroCells Try.prog 71 = some [.int .i64 0, .int .i64 0, .slice none 0 0] := by kernel_rfl
theorem ca_85 : callable Try.prog 85 = true := by kernel_rfl
theorem bd_71_ : Try.prog.built 71 [] = some #[.int .i64 0, .int .i64 0, .slice none 0 0] := by kernel_rfl
theorem ts_71 : tySize Try.prog 71 = some 3 := by kernel_rfl
theorem ag_71 : aggTy Try.prog 71 = some 3 := by kernel_rfl
theorem bd_71_0_1 : ∀ (x0 : Int) (x1 : Int), Try.prog.built 71 [(0, .int .i64 x0), (1, .int .i64 x1)] = some #[.int .i64 x0, .int .i64 x1, .slice none 0 0] := fun _ _ => by kernel_rfl
theorem fo_71_2 : fieldOff Try.prog 71 2 = some 2 := by kernel_rfl
theorem pt_23 : plainTy Try.prog 23 = true := by kernel_rfl
theorem bs_23_1_0 : ∀ (x0 : Int), builtSlice Try.prog 23 1 [(0, .int .i64 x0)] = some (3, [.int .i64 x0]) := fun _ => by kernel_rfl
theorem mi_23 : makeInfo Try.prog 23 = some (3, 8, [.int .i64 0]) := by kernel_rfl
theorem ts_23 : tySize Try.prog 23 = some 1 := by kernel_rfl
theorem ca_38 : callable Try.prog 38 = true := by kernel_rfl
theorem bd_137_0_1_2_3 : ∀ (x0 : Int) (x1 : Int) (x2 : Int) (x3 : Int), Try.prog.built 137 [(0, .int .i64 x0), (1, .int .i64 x1), (2, .int .i64 x2), (3, .int .i64 x3)] = some #[.int .i64 x0, .int .i64 x1, .int .i64 x2, .int .i64 x3] := fun _ _ _ _ => by kernel_rfl
theorem fo_71_0 : fieldOff Try.prog 71 0 = some 0 := by kernel_rfl
theorem fo_71_1 : fieldOff Try.prog 71 1 = some 1 := by kernel_rfl
theorem bs_23_0_ : builtSlice Try.prog 23 0 [] = some (3, []) := by kernel_rfl
theorem bd_71_0_1_2 : ∀ (x0 : Int) (x1 : Int) (x2 : Option Addr) (y2 z2 : Nat), Try.prog.built 71 [(0, .int .i64 x0), (1, .int .i64 x1), (2, .slice x2 y2 z2)] = some #[.int .i64 x0, .int .i64 x1, .slice x2 y2 z2] := fun _ _ _ _ _ => by kernel_rfl
theorem ca_101 : callable Try.prog 101 = true := by kernel_rfl
theorem ca_154 : callable Try.prog 154 = true := by kernel_rfl
theorem fo_137_0 : fieldOff Try.prog 137 0 = some 0 := by kernel_rfl
theorem fo_137_1 : fieldOff Try.prog 137 1 = some 1 := by kernel_rfl
theorem fo_137_2 : fieldOff Try.prog 137 2 = some 2 := by kernel_rfl
theorem fo_137_3 : fieldOff Try.prog 137 3 = some 3 := by kernel_rfl
theorem ag_137 : aggTy Try.prog 137 = some 4 := by kernel_rfl
theorem ca_146 : callable Try.prog 146 = true := by kernel_rfl
theorem bd_137_2_3 : ∀ (x0 : Int) (x1 : Int), Try.prog.built 137 [(2, .int .i64 x0), (3, .int .i64 x1)] = some #[.int .i64 0, .int .i64 0, .int .i64 x0, .int .i64 x1] := fun _ _ => by kernel_rfl
theorem zc_137 : zeroCells Try.prog 137 = some [.int .i64 0, .int .i64 0, .int .i64 0, .int .i64 0] := by kernel_rfl
theorem bd_137_ : Try.prog.built 137 [] = some #[.int .i64 0, .int .i64 0, .int .i64 0, .int .i64 0] := by kernel_rfl
theorem ts_137 : tySize Try.prog 137 = some 4 := by kernel_rfl
theorem ca_105 : callable Try.prog 105 = true := by kernel_rfl
theorem ca_121 : callable Try.prog 121 = true := by kernel_rfl
theorem ca_117 : callable Try.prog 117 = true := by kernel_rfl
theorem bd_91_1_2_3_4 : ∀ (x0 : Int) (x1 : Int) (x2 : Int) (x4 : Int) (x5 : Int) (x6 : Option Addr) (y6 z6 : Nat), Try.prog.built 91 [(1, .int .i64 x0), (2, .int .i64 x1), (3, .int .i64 x2), (4, .agg #[.int .i64 x4, .int .i64 x5, .slice x6 y6 z6])] = some #[.int .i64 0, .int .i64 x0, .int .i64 x1, .int .i64 x2, .int .i64 x4, .int .i64 x5, .slice x6 y6 z6] := fun _ _ _ _ _ _ _ _ => by kernel_rfl
theorem fo_62_0 : fieldOff Try.prog 62 0 = some 0 := by kernel_rfl
theorem fo_62_1 : fieldOff Try.prog 62 1 = some 1 := by kernel_rfl
theorem fo_62_2 : fieldOff Try.prog 62 2 = some 2 := by kernel_rfl
theorem fo_62_3 : fieldOff Try.prog 62 3 = some 3 := by kernel_rfl
theorem pt_60 : plainTy Try.prog 60 = true := by kernel_rfl
theorem si_60 : (sliceElem Try.prog 60).isSome = true := by kernel_rfl
theorem zc_73 : zeroCells Try.prog 73 = some [.int .i64 0, .int .i64 0, .int .i64 0, .int .i64 0, .int .i64 0, .int .i64 0, .int .i64 0, .bool false, .int .i64 0, .int .i64 0, .slice none 0 0] := by kernel_rfl
theorem fo_73_8 : fieldOff Try.prog 73 8 = some 8 := by kernel_rfl
theorem ag_73 : aggTy Try.prog 73 = some 11 := by kernel_rfl
theorem ts_73 : tySize Try.prog 73 = some 11 := by kernel_rfl
theorem se_60 : sliceElem Try.prog 60 = some 11 := by kernel_rfl
theorem ca_107 : callable Try.prog 107 = true := by kernel_rfl
theorem bs_60_1_0 : ∀ (x1 : Int) (x2 : Int) (x3 : Int) (x4 : Int) (x5 : Int) (x6 : Int) (x7 : Int) (x8 : Bool) (x10 : Int) (x11 : Int) (x12 : Option Addr) (y12 z12 : Nat), builtSlice Try.prog 60 1 [(0, .agg #[.int .i64 x1, .int .i64 x2, .int .i64 x3, .int .i64 x4, .int .i64 x5, .int .i64 x6, .int .i64 x7, .bool x8, .int .i64 x10, .int .i64 x11, .slice x12 y12 z12])] = some (73, [.int .i64 x1, .int .i64 x2, .int .i64 x3, .int .i64 x4, .int .i64 x5, .int .i64 x6, .int .i64 x7, .bool x8, .int .i64 x10, .int .i64 x11, .slice x12 y12 z12]) := fun _ _ _ _ _ _ _ _ _ _ _ _ _ => by kernel_rfl
theorem mi_60 : makeInfo Try.prog 60 = some (73, 104, [.int .i64 0, .int .i64 0, .int .i64 0, .int .i64 0, .int .i64 0, .int .i64 0, .int .i64 0, .bool false, .int .i64 0, .int .i64 0, .slice none 0 0]) := by kernel_rfl
theorem ts_60 : tySize Try.prog 60 = some 1 := by kernel_rfl
theorem ca_99 : callable Try.prog 99 = true := by kernel_rfl
theorem fo_91_1 : fieldOff Try.prog 91 1 = some 1 := by kernel_rfl
theorem fo_73_0 : fieldOff Try.prog 73 0 = some 0 := by kernel_rfl
theorem ca_100 : callable Try.prog 100 = true := by kernel_rfl
theorem ca_166 : callable Try.prog 166 = true := by kernel_rfl
theorem ca_138 : callable Try.prog 138 = true := by kernel_rfl
theorem fo_73_1 : fieldOff Try.prog 73 1 = some 1 := by kernel_rfl
theorem fo_73_2 : fieldOff Try.prog 73 2 = some 2 := by kernel_rfl
theorem fo_73_5 : fieldOff Try.prog 73 5 = some 5 := by kernel_rfl
theorem fo_73_6 : fieldOff Try.prog 73 6 = some 6 := by kernel_rfl
theorem fo_73_3 : fieldOff Try.prog 73 3 = some 3 := by kernel_rfl
theorem fo_73_4 : fieldOff Try.prog 73 4 = some 4 := by kernel_rfl
theorem ca_139 : callable Try.prog 139 = true := by kernel_rfl
theorem ca_96 : callable Try.prog 96 = true := by kernel_rfl
theorem fo_91_0 : fieldOff Try.prog 91 0 = some 0 := by kernel_rfl
theorem bd_62_ : Try.prog.built 62 [] = some #[.int .i64 0, .int .i64 0, .int .i64 0, .slice none 0 0] := by kernel_rfl
theorem fo_91_2 : fieldOff Try.prog 91 2 = some 2 := by kernel_rfl
theorem fo_91_3 : fieldOff Try.prog 91 3 = some 3 := by kernel_rfl
theorem fo_91_4 : fieldOff Try.prog 91 4 = some 4 := by kernel_rfl
theorem bd_73_0_1_2_5_7_8 : ∀ (x0 : Int) (x1 : Int) (x2 : Int) (x3 : Int) (x4 : Bool) (x6 : Int) (x7 : Int) (x8 : Option Addr) (y8 z8 : Nat), Try.prog.built 73 [(0, .int .i64 x0), (1, .int .i64 x1), (2, .int .i64 x2), (5, .int .i64 x3), (7, .bool x4), (8, .agg #[.int .i64 x6, .int .i64 x7, .slice x8 y8 z8])] = some #[.int .i64 x0, .int .i64 x1, .int .i64 x2, .int .i64 0, .int .i64 0, .int .i64 x3, .int .i64 0, .bool x4, .int .i64 x6, .int .i64 x7, .slice x8 y8 z8] := fun _ _ _ _ _ _ _ _ _ _ => by kernel_rfl
theorem fo_73_7 : fieldOff Try.prog 73 7 = some 7 := by kernel_rfl
theorem ts_4 : tySize Try.prog 4 = some 1 := by kernel_rfl
theorem ca_47 : callable Try.prog 47 = true := by kernel_rfl
theorem zc_91 : zeroCells Try.prog 91 = some [.int .i64 0, .int .i64 0, .int .i64 0, .int .i64 0, .int .i64 0, .int .i64 0, .slice none 0 0] := by kernel_rfl
theorem bd_91_0_1 : ∀ (x0 : Int) (x1 : Int), Try.prog.built 91 [(0, .int .i64 x0), (1, .int .i64 x1)] = some #[.int .i64 x0, .int .i64 x1, .int .i64 0, .int .i64 0, .int .i64 0, .int .i64 0, .slice none 0 0] := fun _ _ => by kernel_rfl
theorem ts_91 : tySize Try.prog 91 = some 7 := by kernel_rfl
theorem ag_91 : aggTy Try.prog 91 = some 7 := by kernel_rfl
theorem bs_23_3_0_1_2 : ∀ (x0 : Int) (x1 : Int) (x2 : Int), builtSlice Try.prog 23 3 [(0, .int .i64 x0), (1, .int .i64 x1), (2, .int .i64 x2)] = some (3, [.int .i64 x0, .int .i64 x1, .int .i64 x2]) := fun _ _ _ => by kernel_rfl
theorem ca_114 : callable Try.prog 114 = true := by kernel_rfl
theorem ca_118 : callable Try.prog 118 = true := by kernel_rfl
theorem ca_76 : callable Try.prog 76 = true := by kernel_rfl
theorem bd_64_0_1_2 : ∀ (x0 : Int) (x1 : Bool) (x2 : Int), Try.prog.built 64 [(0, .int .i64 x0), (1, .bool x1), (2, .int .i64 x2)] = some #[.int .i64 x0, .bool x1, .int .i64 x2, .bool false, .bool false, .bool false] := fun _ _ _ => by kernel_rfl
theorem ts_64 : tySize Try.prog 64 = some 6 := by kernel_rfl
theorem fo_64_3 : fieldOff Try.prog 64 3 = some 3 := by kernel_rfl
theorem fo_64_4 : fieldOff Try.prog 64 4 = some 4 := by kernel_rfl
theorem fo_64_5 : fieldOff Try.prog 64 5 = some 5 := by kernel_rfl
theorem ag_64 : aggTy Try.prog 64 = some 6 := by kernel_rfl
theorem ca_77 : callable Try.prog 77 = true := by kernel_rfl
theorem ca_31 : callable Try.prog 31 = true := by kernel_rfl
theorem fo_64_1 : fieldOff Try.prog 64 1 = some 1 := by kernel_rfl
theorem ca_32 : callable Try.prog 32 = true := by kernel_rfl
theorem bd_91_0_1_2_3_4 : ∀ (x0 : Int) (x1 : Int) (x2 : Int) (x3 : Int) (x5 : Int) (x6 : Int) (x7 : Option Addr) (y7 z7 : Nat), Try.prog.built 91 [(0, .int .i64 x0), (1, .int .i64 x1), (2, .int .i64 x2), (3, .int .i64 x3), (4, .agg #[.int .i64 x5, .int .i64 x6, .slice x7 y7 z7])] = some #[.int .i64 x0, .int .i64 x1, .int .i64 x2, .int .i64 x3, .int .i64 x5, .int .i64 x6, .slice x7 y7 z7] := fun _ _ _ _ _ _ _ _ _ => by kernel_rfl
theorem bd_91_0_1_2_3 : ∀ (x0 : Int) (x1 : Int) (x2 : Int) (x3 : Int), Try.prog.built 91 [(0, .int .i64 x0), (1, .int .i64 x1), (2, .int .i64 x2), (3, .int .i64 x3)] = some #[.int .i64 x0, .int .i64 x1, .int .i64 x2, .int .i64 x3, .int .i64 0, .int .i64 0, .slice none 0 0] := fun _ _ _ _ => by kernel_rfl
theorem ca_87 : callable Try.prog 87 = true := by kernel_rfl
theorem ca_88 : callable Try.prog 88 = true := by kernel_rfl
theorem ca_134 : callable Try.prog 134 = true := by kernel_rfl
theorem ca_135 : callable Try.prog 135 = true := by kernel_rfl
theorem ca_92 : callable Try.prog 92 = true := by kernel_rfl
theorem mu_148 : Try.prog.underlying 148 = some (.map 3 4) := by kernel_rfl
theorem zv_4 : zeroVal Try.prog 4 = some (.bool false) := by kernel_rfl
theorem ca_153 : callable Try.prog 153 = true := by kernel_rfl
theorem ca_95 : callable Try.prog 95 = true := by kernel_rfl
theorem ca_119 : callable Try.prog 119 = true := by kernel_rfl
theorem ca_78 : callable Try.prog 78 = true := by kernel_rfl
theorem fo_64_0 : fieldOff Try.prog 64 0 = some 0 := by kernel_rfl
theorem fo_64_2 : fieldOff Try.prog 64 2 = some 2 := by kernel_rfl
theorem ca_79 : callable Try.prog 79 = true := by kernel_rfl
theorem pt_4 : plainTy Try.prog 4 = true := by kernel_rfl
theorem ca_35 : callable Try.prog 35 = true := by kernel_rfl
theorem ca_80 : callable Try.prog 80 = true := by kernel_rfl
theorem ca_33 : callable Try.prog 33 = true := by kernel_rfl
theorem ca_136 : callable Try.prog 136 = true := by kernel_rfl
theorem ca_93 : callable Try.prog 93 = true := by kernel_rfl
theorem ca_110 : callable Try.prog 110 = true := by kernel_rfl
theorem ca_137 : callable Try.prog 137 = true := by kernel_rfl
theorem ca_94 : callable Try.prog 94 = true := by kernel_rfl
theorem ca_48 : callable Try.prog 48 = true := by kernel_rfl
theorem ca_42 : callable Try.prog 42 = true := by kernel_rfl
theorem ub_4 : Try.prog.underlying 4 = some .bool := by kernel_rfl
theorem ca_108 : callable Try.prog 108 = true := by kernel_rfl
theorem ca_142 : callable Try.prog 142 = true := by kernel_rfl
theorem ca_102 : callable Try.prog 102 = true := by kernel_rfl
theorem ca_49 : callable Try.prog 49 = true := by kernel_rfl
theorem ca_147 : callable Try.prog 147 = true := by kernel_rfl
theorem ca_148 : callable Try.prog 148 = true := by kernel_rfl
theorem ca_149 : callable Try.prog 149 = true := by kernel_rfl
theorem ca_106 : callable Try.prog 106 = true := by kernel_rfl
theorem ca_51 : callable Try.prog 51 = true := by kernel_rfl
theorem zc_96 : zeroCells Try.prog 96 = some [.slice none 0 0] := by kernel_rfl
theorem bd_96_ : Try.prog.built 96 [] = some #[.slice none 0 0] := by kernel_rfl
theorem ts_96 : tySize Try.prog 96 = some 1 := by kernel_rfl
theorem ag_96 : aggTy Try.prog 96 = some 1 := by kernel_rfl
theorem bs_94_1_0 : ∀ (x1 : Int) (x2 : Int) (x3 : Int) (x4 : Int), builtSlice Try.prog 94 1 [(0, .agg #[.int .i64 x1, .int .i64 x2, .int .i64 x3, .int .i64 x4])] = some (137, [.int .i64 x1, .int .i64 x2, .int .i64 x3, .int .i64 x4]) := fun _ _ _ _ => by kernel_rfl
theorem mi_162 : makeInfo Try.prog 162 = some (4, 1, [.bool false]) := by kernel_rfl
theorem si_94 : (sliceElem Try.prog 94).isSome = true := by kernel_rfl
theorem se_94 : sliceElem Try.prog 94 = some 4 := by kernel_rfl
theorem se_162 : sliceElem Try.prog 162 = some 1 := by kernel_rfl
theorem ca_144 : callable Try.prog 144 = true := by kernel_rfl
theorem ca_171 : callable Try.prog 171 = true := by kernel_rfl
theorem fo_96_0 : fieldOff Try.prog 96 0 = some 0 := by kernel_rfl
theorem pt_94 : plainTy Try.prog 94 = true := by kernel_rfl
theorem mi_94 : makeInfo Try.prog 94 = some (137, 32, [.int .i64 0, .int .i64 0, .int .i64 0, .int .i64 0]) := by kernel_rfl
theorem ts_94 : tySize Try.prog 94 = some 1 := by kernel_rfl
theorem ca_143 : callable Try.prog 143 = true := by kernel_rfl
theorem ca_103 : callable Try.prog 103 = true := by kernel_rfl
theorem bs_94_0_ : builtSlice Try.prog 94 0 [] = some (137, []) := by kernel_rfl
theorem ca_145 : callable Try.prog 145 = true := by kernel_rfl
theorem ca_104 : callable Try.prog 104 = true := by kernel_rfl
theorem ca_50 : callable Try.prog 50 = true := by kernel_rfl
theorem ft_96_0 : fieldTy Try.prog 96 0 = some (94, 0) := by kernel_rfl
end Go.Proofs.Ytmhalmnbgkpmnaa
