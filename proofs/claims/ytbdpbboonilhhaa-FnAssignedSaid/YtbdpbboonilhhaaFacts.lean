/- Facts about the program: types, offsets, callable functions. -/
import Derived.Test.YtbdpbboonilhhaaTypes
import Derived.Test.YtbdpbboonilhhaaChecked
namespace Go.Proofs.Ytbdpbboonilhhaa
open Go.RowKit K
set_option maxRecDepth 100000
set_option maxHeartbeats 4000000

theorem si_22 : (sliceElem Try.prog 22).isSome = true := by kernel_rfl
theorem ca_10 : callable Try.prog 10 = true := by kernel_rfl
theorem zc_53 : zeroCells Try.prog 53 = some [.int .i64 0, .int .i64 0, .int .i64 0, .slice none 0 0] := by kernel_rfl
theorem zc_55 : zeroCells Try.prog 55 = some [.int .i64 0, .bool false, .int .i64 0, .bool false, .bool false, .bool false] := by kernel_rfl
theorem se_22 : sliceElem Try.prog 22 = some 1 := by kernel_rfl
theorem pt_5 : plainTy Try.prog 5 = true := by kernel_rfl
theorem uS_5 : (Try.prog.underlying 5).isSome = true := by kernel_rfl
theorem ui_3_i64 : Try.prog.underlying 3 = some (.int .i64) := by kernel_rfl
theorem bd_137_0_2 : ∀ (x0 : Option Addr) (y0 z0 : Nat) (x1 : Int), Try.prog.built 137 [(0, .slice x0 y0 z0), (2, .int .i64 x1)] = some #[.slice x0 y0 z0, .int .i64 0, .int .i64 x1] := fun _ _ _ _ => by kernel_rfl
theorem ca_52 : callable Try.prog 52 = true := by kernel_rfl
theorem fo_137_2 : fieldOff Try.prog 137 2 = some 2 := by kernel_rfl
theorem pt_3 : plainTy Try.prog 3 = true := by kernel_rfl
theorem ts_3 : tySize Try.prog 3 = some 1 := by kernel_rfl
theorem fo_137_1 : fieldOff Try.prog 137 1 = some 1 := by kernel_rfl
theorem fo_137_0 : fieldOff Try.prog 137 0 = some 0 := by kernel_rfl
theorem pt_22 : plainTy Try.prog 22 = true := by kernel_rfl
theorem ca_110 : callable Try.prog 110 = true := by kernel_rfl
theorem ca_53 : callable Try.prog 53 = true := by kernel_rfl
theorem bs_28_7_0_1_2_3_4_5_6 : ∀ (x0 : Int) (x1 : Int) (x2 : Int) (x3 : Int) (x4 : Int) (x5 : Int) (x6 : Int), builtSlice Try.prog 28 7 [(0, .int .i64 x0), (1, .int .i64 x1), (2, .int .i64 x2), (3, .int .i64 x3), (4, .int .i64 x4), (5, .int .i64 x5), (6, .int .i64 x6)] = some (3, [.int .i64 x0, .int .i64 x1, .int .i64 x2, .int .i64 x3, .int .i64 x4, .int .i64 x5, .int .i64 x6]) := fun _ _ _ _ _ _ _ => by kernel_rfl
theorem si_28 : (sliceElem Try.prog 28).isSome = true := by kernel_rfl
theorem se_28 : sliceElem Try.prog 28 = some 1 := by kernel_rfl
theorem ca_116 : callable Try.prog 116 = true := by kernel_rfl
theorem ca_157 : callable Try.prog 157 = true := by kernel_rfl
theorem ca_56 : callable Try.prog 56 = true := by kernel_rfl
theorem ca_158 : callable Try.prog 158 = true := by kernel_rfl
theorem ca_111 : callable Try.prog 111 = true := by kernel_rfl
theorem bd_53_0_1_2 : ∀ (x0 : Int) (x1 : Int) (x2 : Int), Try.prog.built 53 [(0, .int .i64 x0), (1, .int .i64 x1), (2, .int .i64 x2)] = some #[.int .i64 x0, .int .i64 x1, .int .i64 x2, .slice none 0 0] := fun _ _ _ => by kernel_rfl
theorem ts_53 : tySize Try.prog 53 = some 4 := by kernel_rfl
theorem ag_53 : aggTy Try.prog 53 = some 4 := by kernel_rfl
theorem zc_33 : zeroCells Try.prog 33 = some [.int .i64 0, .int .i64 0, .slice none 0 0] := by kernel_rfl
theorem ca_57 : callable Try.prog 57 = true := by kernel_rfl
theorem bd_33_ : Try.prog.built 33 [] = some #[.int .i64 0, .int .i64 0, .slice none 0 0] := by kernel_rfl
theorem ts_33 : tySize Try.prog 33 = some 3 := by kernel_rfl
theorem ag_33 : aggTy Try.prog 33 = some 3 := by kernel_rfl
theorem bd_33_0_1 : ∀ (x0 : Int) (x1 : Int), Try.prog.built 33 [(0, .int .i64 x0), (1, .int .i64 x1)] = some #[.int .i64 x0, .int .i64 x1, .slice none 0 0] := fun _ _ => by kernel_rfl
theorem fo_33_2 : fieldOff Try.prog 33 2 = some 2 := by kernel_rfl
theorem pt_28 : plainTy Try.prog 28 = true := by kernel_rfl
theorem bs_28_1_0 : ∀ (x0 : Int), builtSlice Try.prog 28 1 [(0, .int .i64 x0)] = some (3, [.int .i64 x0]) := fun _ => by kernel_rfl
theorem mi_28 : makeInfo Try.prog 28 = some (3, 8, [.int .i64 0]) := by kernel_rfl
theorem ts_28 : tySize Try.prog 28 = some 1 := by kernel_rfl
theorem ca_14 : callable Try.prog 14 = true := by kernel_rfl
theorem bd_141_0_1_2_3 : ∀ (x0 : Int) (x1 : Int) (x2 : Int) (x3 : Int), Try.prog.built 141 [(0, .int .i64 x0), (1, .int .i64 x1), (2, .int .i64 x2), (3, .int .i64 x3)] = some #[.int .i64 x0, .int .i64 x1, .int .i64 x2, .int .i64 x3] := fun _ _ _ _ => by kernel_rfl
theorem fo_33_0 : fieldOff Try.prog 33 0 = some 0 := by kernel_rfl
theorem fo_33_1 : fieldOff Try.prog 33 1 = some 1 := by kernel_rfl
theorem bs_28_0_ : builtSlice Try.prog 28 0 [] = some (3, []) := by kernel_rfl
theorem bd_33_0_1_2 : ∀ (x0 : Int) (x1 : Int) (x2 : Option Addr) (y2 z2 : Nat), Try.prog.built 33 [(0, .int .i64 x0), (1, .int .i64 x1), (2, .slice x2 y2 z2)] = some #[.int .i64 x0, .int .i64 x1, .slice x2 y2 z2] := fun _ _ _ _ _ => by kernel_rfl
theorem ca_156 : callable Try.prog 156 = true := by kernel_rfl
theorem ca_98 : callable Try.prog 98 = true := by kernel_rfl
theorem fo_141_0 : fieldOff Try.prog 141 0 = some 0 := by kernel_rfl
theorem fo_141_1 : fieldOff Try.prog 141 1 = some 1 := by kernel_rfl
theorem fo_141_2 : fieldOff Try.prog 141 2 = some 2 := by kernel_rfl
theorem fo_141_3 : fieldOff Try.prog 141 3 = some 3 := by kernel_rfl
theorem ag_141 : aggTy Try.prog 141 = some 4 := by kernel_rfl
theorem ca_159 : callable Try.prog 159 = true := by kernel_rfl
theorem bd_141_2_3 : ∀ (x0 : Int) (x1 : Int), Try.prog.built 141 [(2, .int .i64 x0), (3, .int .i64 x1)] = some #[.int .i64 0, .int .i64 0, .int .i64 x0, .int .i64 x1] := fun _ _ => by kernel_rfl
theorem zc_141 : zeroCells Try.prog 141 = some [.int .i64 0, .int .i64 0, .int .i64 0, .int .i64 0] := by kernel_rfl
theorem bd_141_ : Try.prog.built 141 [] = some #[.int .i64 0, .int .i64 0, .int .i64 0, .int .i64 0] := by kernel_rfl
theorem ts_141 : tySize Try.prog 141 = some 4 := by kernel_rfl
theorem ca_144 : callable Try.prog 144 = true := by kernel_rfl
theorem ca_112 : callable Try.prog 112 = true := by kernel_rfl
theorem ca_115 : callable Try.prog 115 = true := by kernel_rfl
theorem bd_158_1_2_3_4 : ∀ (x0 : Int) (x1 : Int) (x2 : Int) (x4 : Int) (x5 : Int) (x6 : Option Addr) (y6 z6 : Nat), Try.prog.built 158 [(1, .int .i64 x0), (2, .int .i64 x1), (3, .int .i64 x2), (4, .agg #[.int .i64 x4, .int .i64 x5, .slice x6 y6 z6])] = some #[.int .i64 0, .int .i64 x0, .int .i64 x1, .int .i64 x2, .int .i64 x4, .int .i64 x5, .slice x6 y6 z6] := fun _ _ _ _ _ _ _ _ => by kernel_rfl
theorem fo_53_0 : fieldOff Try.prog 53 0 = some 0 := by kernel_rfl
theorem fo_53_1 : fieldOff Try.prog 53 1 = some 1 := by kernel_rfl
theorem fo_53_2 : fieldOff Try.prog 53 2 = some 2 := by kernel_rfl
theorem fo_53_3 : fieldOff Try.prog 53 3 = some 3 := by kernel_rfl
theorem pt_51 : plainTy Try.prog 51 = true := by kernel_rfl
theorem si_51 : (sliceElem Try.prog 51).isSome = true := by kernel_rfl
theorem zc_119 : zeroCells Try.prog 119 = some [.int .i64 0, .int .i64 0, .int .i64 0, .int .i64 0, .int .i64 0, .int .i64 0, .int .i64 0, .bool false, .int .i64 0, .int .i64 0, .slice none 0 0] := by kernel_rfl
theorem fo_119_8 : fieldOff Try.prog 119 8 = some 8 := by kernel_rfl
theorem ag_119 : aggTy Try.prog 119 = some 11 := by kernel_rfl
theorem ts_119 : tySize Try.prog 119 = some 11 := by kernel_rfl
theorem se_51 : sliceElem Try.prog 51 = some 11 := by kernel_rfl
theorem ca_108 : callable Try.prog 108 = true := by kernel_rfl
theorem bs_51_1_0 : ∀ (x1 : Int) (x2 : Int) (x3 : Int) (x4 : Int) (x5 : Int) (x6 : Int) (x7 : Int) (x8 : Bool) (x10 : Int) (x11 : Int) (x12 : Option Addr) (y12 z12 : Nat), builtSlice Try.prog 51 1 [(0, .agg #[.int .i64 x1, .int .i64 x2, .int .i64 x3, .int .i64 x4, .int .i64 x5, .int .i64 x6, .int .i64 x7, .bool x8, .int .i64 x10, .int .i64 x11, .slice x12 y12 z12])] = some (119, [.int .i64 x1, .int .i64 x2, .int .i64 x3, .int .i64 x4, .int .i64 x5, .int .i64 x6, .int .i64 x7, .bool x8, .int .i64 x10, .int .i64 x11, .slice x12 y12 z12]) := fun _ _ _ _ _ _ _ _ _ _ _ _ _ => by kernel_rfl
theorem mi_51 : makeInfo Try.prog 51 = some (119, 104, [.int .i64 0, .int .i64 0, .int .i64 0, .int .i64 0, .int .i64 0, .int .i64 0, .int .i64 0, .bool false, .int .i64 0, .int .i64 0, .slice none 0 0]) := by kernel_rfl
theorem ts_51 : tySize Try.prog 51 = some 1 := by kernel_rfl
theorem ca_172 : callable Try.prog 172 = true := by kernel_rfl
theorem fo_158_1 : fieldOff Try.prog 158 1 = some 1 := by kernel_rfl
theorem fo_119_0 : fieldOff Try.prog 119 0 = some 0 := by kernel_rfl
theorem ca_141 : callable Try.prog 141 = true := by kernel_rfl
theorem ca_173 : callable Try.prog 173 = true := by kernel_rfl
theorem ca_139 : callable Try.prog 139 = true := by kernel_rfl
theorem fo_119_1 : fieldOff Try.prog 119 1 = some 1 := by kernel_rfl
theorem fo_119_2 : fieldOff Try.prog 119 2 = some 2 := by kernel_rfl
theorem fo_119_5 : fieldOff Try.prog 119 5 = some 5 := by kernel_rfl
theorem fo_119_6 : fieldOff Try.prog 119 6 = some 6 := by kernel_rfl
theorem fo_119_3 : fieldOff Try.prog 119 3 = some 3 := by kernel_rfl
theorem fo_119_4 : fieldOff Try.prog 119 4 = some 4 := by kernel_rfl
theorem ca_140 : callable Try.prog 140 = true := by kernel_rfl
theorem ca_82 : callable Try.prog 82 = true := by kernel_rfl
theorem fo_158_0 : fieldOff Try.prog 158 0 = some 0 := by kernel_rfl
theorem bd_53_ : Try.prog.built 53 [] = some #[.int .i64 0, .int .i64 0, .int .i64 0, .slice none 0 0] := by kernel_rfl
theorem fo_158_2 : fieldOff Try.prog 158 2 = some 2 := by kernel_rfl
theorem fo_158_3 : fieldOff Try.prog 158 3 = some 3 := by kernel_rfl
theorem fo_158_4 : fieldOff Try.prog 158 4 = some 4 := by kernel_rfl
theorem bd_119_0_1_2_5_7_8 : ∀ (x0 : Int) (x1 : Int) (x2 : Int) (x3 : Int) (x4 : Bool) (x6 : Int) (x7 : Int) (x8 : Option Addr) (y8 z8 : Nat), Try.prog.built 119 [(0, .int .i64 x0), (1, .int .i64 x1), (2, .int .i64 x2), (5, .int .i64 x3), (7, .bool x4), (8, .agg #[.int .i64 x6, .int .i64 x7, .slice x8 y8 z8])] = some #[.int .i64 x0, .int .i64 x1, .int .i64 x2, .int .i64 0, .int .i64 0, .int .i64 x3, .int .i64 0, .bool x4, .int .i64 x6, .int .i64 x7, .slice x8 y8 z8] := fun _ _ _ _ _ _ _ _ _ _ => by kernel_rfl
theorem fo_119_7 : fieldOff Try.prog 119 7 = some 7 := by kernel_rfl
theorem ts_4 : tySize Try.prog 4 = some 1 := by kernel_rfl
theorem ca_134 : callable Try.prog 134 = true := by kernel_rfl
theorem zc_158 : zeroCells Try.prog 158 = some [.int .i64 0, .int .i64 0, .int .i64 0, .int .i64 0, .int .i64 0, .int .i64 0, .slice none 0 0] := by kernel_rfl
theorem bd_158_0_1 : ∀ (x0 : Int) (x1 : Int), Try.prog.built 158 [(0, .int .i64 x0), (1, .int .i64 x1)] = some #[.int .i64 x0, .int .i64 x1, .int .i64 0, .int .i64 0, .int .i64 0, .int .i64 0, .slice none 0 0] := fun _ _ => by kernel_rfl
theorem ts_158 : tySize Try.prog 158 = some 7 := by kernel_rfl
theorem ag_158 : aggTy Try.prog 158 = some 7 := by kernel_rfl
theorem bs_28_3_0_1_2 : ∀ (x0 : Int) (x1 : Int) (x2 : Int), builtSlice Try.prog 28 3 [(0, .int .i64 x0), (1, .int .i64 x1), (2, .int .i64 x2)] = some (3, [.int .i64 x0, .int .i64 x1, .int .i64 x2]) := fun _ _ _ => by kernel_rfl
theorem ca_114 : callable Try.prog 114 = true := by kernel_rfl
theorem ca_135 : callable Try.prog 135 = true := by kernel_rfl
theorem ca_75 : callable Try.prog 75 = true := by kernel_rfl
theorem bd_55_0_1_2 : ∀ (x0 : Int) (x1 : Bool) (x2 : Int), Try.prog.built 55 [(0, .int .i64 x0), (1, .bool x1), (2, .int .i64 x2)] = some #[.int .i64 x0, .bool x1, .int .i64 x2, .bool false, .bool false, .bool false] := fun _ _ _ => by kernel_rfl
theorem ts_55 : tySize Try.prog 55 = some 6 := by kernel_rfl
theorem fo_55_3 : fieldOff Try.prog 55 3 = some 3 := by kernel_rfl
theorem fo_55_4 : fieldOff Try.prog 55 4 = some 4 := by kernel_rfl
theorem fo_55_5 : fieldOff Try.prog 55 5 = some 5 := by kernel_rfl
theorem ag_55 : aggTy Try.prog 55 = some 6 := by kernel_rfl
theorem ca_76 : callable Try.prog 76 = true := by kernel_rfl
theorem ca_22 : callable Try.prog 22 = true := by kernel_rfl
theorem ca_59 : callable Try.prog 59 = true := by kernel_rfl
theorem ca_60 : callable Try.prog 60 = true := by kernel_rfl
theorem ca_127 : callable Try.prog 127 = true := by kernel_rfl
theorem ca_128 : callable Try.prog 128 = true := by kernel_rfl
theorem ca_65 : callable Try.prog 65 = true := by kernel_rfl
theorem mu_160 : Try.prog.underlying 160 = some (.map 3 4) := by kernel_rfl
theorem zv_4 : zeroVal Try.prog 4 = some (.bool false) := by kernel_rfl
theorem ca_165 : callable Try.prog 165 = true := by kernel_rfl
theorem ca_81 : callable Try.prog 81 = true := by kernel_rfl
theorem ca_136 : callable Try.prog 136 = true := by kernel_rfl
theorem ca_77 : callable Try.prog 77 = true := by kernel_rfl
theorem fo_55_0 : fieldOff Try.prog 55 0 = some 0 := by kernel_rfl
theorem fo_55_2 : fieldOff Try.prog 55 2 = some 2 := by kernel_rfl
theorem ca_78 : callable Try.prog 78 = true := by kernel_rfl
theorem pt_4 : plainTy Try.prog 4 = true := by kernel_rfl
theorem ca_84 : callable Try.prog 84 = true := by kernel_rfl
theorem fo_55_1 : fieldOff Try.prog 55 1 = some 1 := by kernel_rfl
theorem ca_85 : callable Try.prog 85 = true := by kernel_rfl
theorem ca_26 : callable Try.prog 26 = true := by kernel_rfl
theorem ca_137 : callable Try.prog 137 = true := by kernel_rfl
theorem ca_79 : callable Try.prog 79 = true := by kernel_rfl
theorem ca_132 : callable Try.prog 132 = true := by kernel_rfl
theorem ca_138 : callable Try.prog 138 = true := by kernel_rfl
theorem ca_80 : callable Try.prog 80 = true := by kernel_rfl
theorem ca_23 : callable Try.prog 23 = true := by kernel_rfl
theorem ca_174 : callable Try.prog 174 = true := by kernel_rfl
theorem ca_142 : callable Try.prog 142 = true := by kernel_rfl
theorem ca_184 : callable Try.prog 184 = true := by kernel_rfl
theorem ca_175 : callable Try.prog 175 = true := by kernel_rfl
theorem ca_185 : callable Try.prog 185 = true := by kernel_rfl
theorem ca_176 : callable Try.prog 176 = true := by kernel_rfl
theorem ca_178 : callable Try.prog 178 = true := by kernel_rfl
theorem ca_177 : callable Try.prog 177 = true := by kernel_rfl
theorem ca_143 : callable Try.prog 143 = true := by kernel_rfl
theorem ca_145 : callable Try.prog 145 = true := by kernel_rfl
theorem ca_83 : callable Try.prog 83 = true := by kernel_rfl
theorem ca_25 : callable Try.prog 25 = true := by kernel_rfl
theorem mi_24 : makeInfo Try.prog 24 = some (30, 104, [.bool false, .int .i64 0, .int .i64 0, .int .i64 0, .int .i64 0, .int .i64 0, .slice none 0 0, .int .i64 0, .int .i64 0, .int .i64 0, .int .i64 0]) := by kernel_rfl
theorem zc_30 : zeroCells Try.prog 30 = some [.bool false, .int .i64 0, .int .i64 0, .int .i64 0, .int .i64 0, .int .i64 0, .slice none 0 0, .int .i64 0, .int .i64 0, .int .i64 0, .int .i64 0] := by kernel_rfl
theorem bs_28_2_0_1 : ∀ (x0 : Int) (x1 : Int), builtSlice Try.prog 28 2 [(0, .int .i64 x0), (1, .int .i64 x1)] = some (3, [.int .i64 x0, .int .i64 x1]) := fun _ _ => by kernel_rfl
theorem ca_117 : callable Try.prog 117 = true := by kernel_rfl
theorem ca_160 : callable Try.prog 160 = true := by kernel_rfl
theorem ca_118 : callable Try.prog 118 = true := by kernel_rfl
theorem ca_119 : callable Try.prog 119 = true := by kernel_rfl
theorem ca_55 : callable Try.prog 55 = true := by kernel_rfl
theorem bd_30_ : Try.prog.built 30 [] = some #[.bool false, .int .i64 0, .int .i64 0, .int .i64 0, .int .i64 0, .int .i64 0, .slice none 0 0, .int .i64 0, .int .i64 0, .int .i64 0, .int .i64 0] := by kernel_rfl
theorem ts_30 : tySize Try.prog 30 = some 11 := by kernel_rfl
theorem ag_30 : aggTy Try.prog 30 = some 11 := by kernel_rfl
theorem bd_30_0_1_2_3_4_5_6_7 : ∀ (x0 : Bool) (x1 : Int) (x2 : Int) (x3 : Int) (x4 : Int) (x5 : Int) (x6 : Option Addr) (y6 z6 : Nat) (x7 : Int), Try.prog.built 30 [(0, .bool x0), (1, .int .i64 x1), (2, .int .i64 x2), (3, .int .i64 x3), (4, .int .i64 x4), (5, .int .i64 x5), (6, .slice x6 y6 z6), (7, .int .i64 x7)] = some #[.bool x0, .int .i64 x1, .int .i64 x2, .int .i64 x3, .int .i64 x4, .int .i64 x5, .slice x6 y6 z6, .int .i64 x7, .int .i64 0, .int .i64 0, .int .i64 0] := fun _ _ _ _ _ _ _ _ _ _ => by kernel_rfl
theorem ca_13 : callable Try.prog 13 = true := by kernel_rfl
theorem se_24 : sliceElem Try.prog 24 = some 11 := by kernel_rfl
theorem fo_30_7 : fieldOff Try.prog 30 7 = some 7 := by kernel_rfl
theorem fo_30_8 : fieldOff Try.prog 30 8 = some 8 := by kernel_rfl
theorem fo_30_9 : fieldOff Try.prog 30 9 = some 9 := by kernel_rfl
theorem fo_30_10 : fieldOff Try.prog 30 10 = some 10 := by kernel_rfl
theorem ca_24 : callable Try.prog 24 = true := by kernel_rfl
theorem ca_27 : callable Try.prog 27 = true := by kernel_rfl
theorem si_24 : (sliceElem Try.prog 24).isSome = true := by kernel_rfl
theorem fo_30_0 : fieldOff Try.prog 30 0 = some 0 := by kernel_rfl
theorem ub_4 : Try.prog.underlying 4 = some .bool := by kernel_rfl
theorem fo_30_1 : fieldOff Try.prog 30 1 = some 1 := by kernel_rfl
theorem fo_30_2 : fieldOff Try.prog 30 2 = some 2 := by kernel_rfl
theorem fo_30_3 : fieldOff Try.prog 30 3 = some 3 := by kernel_rfl
theorem fo_30_4 : fieldOff Try.prog 30 4 = some 4 := by kernel_rfl
theorem fo_30_5 : fieldOff Try.prog 30 5 = some 5 := by kernel_rfl
theorem fo_30_6 : fieldOff Try.prog 30 6 = some 6 := by kernel_rfl
theorem ca_121 : callable Try.prog 121 = true := by kernel_rfl
theorem ca_61 : callable Try.prog 61 = true := by kernel_rfl
theorem ca_162 : callable Try.prog 162 = true := by kernel_rfl
theorem ca_164 : callable Try.prog 164 = true := by kernel_rfl
theorem ca_163 : callable Try.prog 163 = true := by kernel_rfl
theorem ca_122 : callable Try.prog 122 = true := by kernel_rfl
theorem ca_166 : callable Try.prog 166 = true := by kernel_rfl
theorem ca_167 : callable Try.prog 167 = true := by kernel_rfl
theorem ca_123 : callable Try.prog 123 = true := by kernel_rfl
theorem ca_169 : callable Try.prog 169 = true := by kernel_rfl
theorem ca_168 : callable Try.prog 168 = true := by kernel_rfl
theorem ca_124 : callable Try.prog 124 = true := by kernel_rfl
theorem ca_161 : callable Try.prog 161 = true := by kernel_rfl
theorem ca_170 : callable Try.prog 170 = true := by kernel_rfl
theorem ca_125 : callable Try.prog 125 = true := by kernel_rfl
theorem ca_62 : callable Try.prog 62 = true := by kernel_rfl
theorem ca_126 : callable Try.prog 126 = true := by kernel_rfl
theorem ca_64 : callable Try.prog 64 = true := by kernel_rfl
theorem ca_63 : callable Try.prog 63 = true := by kernel_rfl
theorem ca_17 : callable Try.prog 17 = true := by kernel_rfl
theorem ca_16 : callable Try.prog 16 = true := by kernel_rfl
theorem ca_120 : callable Try.prog 120 = true := by kernel_rfl
theorem ca_58 : callable Try.prog 58 = true := by kernel_rfl
theorem ca_15 : callable Try.prog 15 = true := by kernel_rfl
theorem ca_86 : callable Try.prog 86 = true := by kernel_rfl
theorem ca_28 : callable Try.prog 28 = true := by kernel_rfl
end Go.Proofs.Ytbdpbboonilhhaa
