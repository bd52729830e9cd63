/- Facts about the program: types, offsets, callable functions. -/
import Derived.Test.YtmhalmnbgkpmnaaGreatTypes
import Derived.Test.YtmhalmnbgkpmnaaGreatChecked
namespace Go.Proofs.YtmhalmnbgkpmnaaGreat
open Go.RowKit K
set_option maxRecDepth 100000
set_option maxHeartbeats 4000000

theorem si_51 : (sliceElem Tryz.prog 51).isSome = true := by kernel_rfl
theorem ca_21 : callable Tryz.prog 21 = true := by kernel_rfl
theorem zc_39 : zeroCells Tryz.prog 39 = some [.int .i64 0, .int .i64 0, .slice none 0 0, .slice none 0 0, .slice none 0 0] := by kernel_rfl
theorem se_51 : sliceElem Tryz.prog 51 = some 1 := by kernel_rfl
theorem pt_5 : plainTy Tryz.prog 5 = true := by kernel_rfl
theorem uS_5 : (Tryz.prog.underlying 5).isSome = true := by kernel_rfl
theorem ui_3_i64 : Tryz.prog.underlying 3 = some (.int .i64) := by kernel_rfl
theorem bd_128_0_2 : ∀ (x0 : Option Addr) (y0 z0 : Nat) (x1 : Int), Tryz.prog.built 128 [(0, .slice x0 y0 z0), (2, .int .i64 x1)] = some #[.slice x0 y0 z0, .int .i64 0, .int .i64 x1] := fun _ _ _ _ => by kernel_rfl
theorem ca_69 : callable Tryz.prog 69 = true := by kernel_rfl
theorem fo_128_2 : fieldOff Tryz.prog 128 2 = some 2 := by kernel_rfl
theorem pt_3 : plainTy Tryz.prog 3 = true := by kernel_rfl
theorem ts_3 : tySize Tryz.prog 3 = some 1 := by kernel_rfl
theorem fo_128_1 : fieldOff Tryz.prog 128 1 = some 1 := by kernel_rfl
theorem fo_128_0 : fieldOff Tryz.prog 128 0 = some 0 := by kernel_rfl
theorem pt_51 : plainTy Tryz.prog 51 = true := by kernel_rfl
theorem ca_126 : callable Tryz.prog 126 = true := by kernel_rfl
theorem ca_105 : callable Tryz.prog 105 = true := by kernel_rfl
theorem bs_23_7_0_1_2_3_4_5_6 : ∀ (x0 : Int) (x1 : Int) (x2 : Int) (x3 : Int) (x4 : Int) (x5 : Int) (x6 : Int), builtSlice Tryz.prog 23 7 [(0, .int .i64 x0), (1, .int .i64 x1), (2, .int .i64 x2), (3, .int .i64 x3), (4, .int .i64 x4), (5, .int .i64 x5), (6, .int .i64 x6)] = some (3, [.int .i64 x0, .int .i64 x1, .int .i64 x2, .int .i64 x3, .int .i64 x4, .int .i64 x5, .int .i64 x6]) := fun _ _ _ _ _ _ _ => by kernel_rfl
theorem si_23 : (sliceElem Tryz.prog 23).isSome = true := by kernel_rfl
theorem se_23 : sliceElem Tryz.prog 23 = some 1 := by kernel_rfl
theorem ca_131 : callable Tryz.prog 131 = true := by kernel_rfl
theorem ca_144 : callable Tryz.prog 144 = true := by kernel_rfl
theorem ca_64 : callable Tryz.prog 64 = true := by kernel_rfl
theorem ca_145 : callable Tryz.prog 145 = true := by kernel_rfl
theorem ca_127 : callable Tryz.prog 127 = true := by kernel_rfl
theorem zc_107 : zeroCells Tryz.prog 107 = some [.int .i64 0, .int .i64 0, .slice none 0 0] := by kernel_rfl
theorem ca_118 : callable Tryz.prog 118 = true := by kernel_rfl
theorem bd_107_ : Tryz.prog.built 107 [] = some #[.int .i64 0, .int .i64 0, .slice none 0 0] := by kernel_rfl
theorem ts_107 : tySize Tryz.prog 107 = some 3 := by kernel_rfl
theorem ag_107 : aggTy Tryz.prog 107 = some 3 := by kernel_rfl
theorem bd_107_0_1 : ∀ (x0 : Int) (x1 : Int), Tryz.prog.built 107 [(0, .int .i64 x0), (1, .int .i64 x1)] = some #[.int .i64 x0, .int .i64 x1, .slice none 0 0] := fun _ _ => by kernel_rfl
theorem fo_107_2 : fieldOff Tryz.prog 107 2 = some 2 := by kernel_rfl
theorem pt_23 : plainTy Tryz.prog 23 = true := by kernel_rfl
theorem bs_23_1_0 : ∀ (x0 : Int), builtSlice Tryz.prog 23 1 [(0, .int .i64 x0)] = some (3, [.int .i64 x0]) := fun _ => by kernel_rfl
theorem mi_23 : makeInfo Tryz.prog 23 = some (3, 8, [.int .i64 0]) := by kernel_rfl
theorem ts_23 : tySize Tryz.prog 23 = some 1 := by kernel_rfl
theorem ca_83 : callable Tryz.prog 83 = true := by kernel_rfl
theorem zc_144 : zeroCells Tryz.prog 144 = some [.int .i64 0, .int .i64 0, .int .i64 0, .int .i64 0] := by kernel_rfl
theorem bd_144_0_1_2_3 : ∀ (x0 : Int) (x1 : Int) (x2 : Int) (x3 : Int), Tryz.prog.built 144 [(0, .int .i64 x0), (1, .int .i64 x1), (2, .int .i64 x2), (3, .int .i64 x3)] = some #[.int .i64 x0, .int .i64 x1, .int .i64 x2, .int .i64 x3] := fun _ _ _ _ => by kernel_rfl
theorem ts_144 : tySize Tryz.prog 144 = some 4 := by kernel_rfl
theorem ag_144 : aggTy Tryz.prog 144 = some 4 := by kernel_rfl
theorem ca_129 : callable Tryz.prog 129 = true := by kernel_rfl
theorem fo_107_0 : fieldOff Tryz.prog 107 0 = some 0 := by kernel_rfl
theorem fo_107_1 : fieldOff Tryz.prog 107 1 = some 1 := by kernel_rfl
theorem bs_23_0_ : builtSlice Tryz.prog 23 0 [] = some (3, []) := by kernel_rfl
theorem bd_107_0_1_2 : ∀ (x0 : Int) (x1 : Int) (x2 : Option Addr) (y2 z2 : Nat), Tryz.prog.built 107 [(0, .int .i64 x0), (1, .int .i64 x1), (2, .slice x2 y2 z2)] = some #[.int .i64 x0, .int .i64 x1, .slice x2 y2 z2] := fun _ _ _ _ _ => by kernel_rfl
theorem ca_146 : callable Tryz.prog 146 = true := by kernel_rfl
theorem ca_133 : callable Tryz.prog 133 = true := by kernel_rfl
theorem fo_144_0 : fieldOff Tryz.prog 144 0 = some 0 := by kernel_rfl
theorem fo_144_1 : fieldOff Tryz.prog 144 1 = some 1 := by kernel_rfl
theorem fo_144_2 : fieldOff Tryz.prog 144 2 = some 2 := by kernel_rfl
theorem fo_144_3 : fieldOff Tryz.prog 144 3 = some 3 := by kernel_rfl
theorem ca_147 : callable Tryz.prog 147 = true := by kernel_rfl
theorem bd_144_2_3 : ∀ (x0 : Int) (x1 : Int), Tryz.prog.built 144 [(2, .int .i64 x0), (3, .int .i64 x1)] = some #[.int .i64 0, .int .i64 0, .int .i64 x0, .int .i64 x1] := fun _ _ => by kernel_rfl
theorem bd_144_ : Tryz.prog.built 144 [] = some #[.int .i64 0, .int .i64 0, .int .i64 0, .int .i64 0] := by kernel_rfl
theorem ca_148 : callable Tryz.prog 148 = true := by kernel_rfl
theorem ca_128 : callable Tryz.prog 128 = true := by kernel_rfl
theorem zc_61 : zeroCells Tryz.prog 61 = some [.bool false, .int .i64 0, .int .i64 0, .int .i64 0, .int .i64 0, .int .i64 0, .slice none 0 0, .int .i64 0, .int .i64 0, .int .i64 0, .int .i64 0] := by kernel_rfl
theorem bs_23_2_0_1 : ∀ (x0 : Int) (x1 : Int), builtSlice Tryz.prog 23 2 [(0, .int .i64 x0), (1, .int .i64 x1)] = some (3, [.int .i64 x0, .int .i64 x1]) := fun _ _ => by kernel_rfl
theorem ca_134 : callable Tryz.prog 134 = true := by kernel_rfl
theorem ca_135 : callable Tryz.prog 135 = true := by kernel_rfl
theorem ca_117 : callable Tryz.prog 117 = true := by kernel_rfl
theorem bd_61_ : Tryz.prog.built 61 [] = some #[.bool false, .int .i64 0, .int .i64 0, .int .i64 0, .int .i64 0, .int .i64 0, .slice none 0 0, .int .i64 0, .int .i64 0, .int .i64 0, .int .i64 0] := by kernel_rfl
theorem ts_61 : tySize Tryz.prog 61 = some 11 := by kernel_rfl
theorem ag_61 : aggTy Tryz.prog 61 = some 11 := by kernel_rfl
theorem bd_61_0_1_2_3_4_5_6_7 : ∀ (x0 : Bool) (x1 : Int) (x2 : Int) (x3 : Int) (x4 : Int) (x5 : Int) (x6 : Option Addr) (y6 z6 : Nat) (x7 : Int), Tryz.prog.built 61 [(0, .bool x0), (1, .int .i64 x1), (2, .int .i64 x2), (3, .int .i64 x3), (4, .int .i64 x4), (5, .int .i64 x5), (6, .slice x6 y6 z6), (7, .int .i64 x7)] = some #[.bool x0, .int .i64 x1, .int .i64 x2, .int .i64 x3, .int .i64 x4, .int .i64 x5, .slice x6 y6 z6, .int .i64 x7, .int .i64 0, .int .i64 0, .int .i64 0] := fun _ _ _ _ _ _ _ _ _ _ => by kernel_rfl
theorem ca_82 : callable Tryz.prog 82 = true := by kernel_rfl
theorem bs_36_1_0 : ∀ (x1 : Bool) (x2 : Int) (x3 : Int) (x4 : Int) (x5 : Int) (x6 : Int) (x7 : Option Addr) (y7 z7 : Nat) (x8 : Int) (x9 : Int) (x10 : Int) (x11 : Int), builtSlice Tryz.prog 36 1 [(0, .agg #[.bool x1, .int .i64 x2, .int .i64 x3, .int .i64 x4, .int .i64 x5, .int .i64 x6, .slice x7 y7 z7, .int .i64 x8, .int .i64 x9, .int .i64 x10, .int .i64 x11])] = some (61, [.bool x1, .int .i64 x2, .int .i64 x3, .int .i64 x4, .int .i64 x5, .int .i64 x6, .slice x7 y7 z7, .int .i64 x8, .int .i64 x9, .int .i64 x10, .int .i64 x11]) := fun _ _ _ _ _ _ _ _ _ _ _ _ _ => by kernel_rfl
theorem ca_109 : callable Tryz.prog 109 = true := by kernel_rfl
theorem ca_130 : callable Tryz.prog 130 = true := by kernel_rfl
theorem fo_61_7 : fieldOff Tryz.prog 61 7 = some 7 := by kernel_rfl
theorem fo_61_8 : fieldOff Tryz.prog 61 8 = some 8 := by kernel_rfl
theorem fo_61_9 : fieldOff Tryz.prog 61 9 = some 9 := by kernel_rfl
theorem fo_61_10 : fieldOff Tryz.prog 61 10 = some 10 := by kernel_rfl
theorem mi_36 : makeInfo Tryz.prog 36 = some (61, 104, [.bool false, .int .i64 0, .int .i64 0, .int .i64 0, .int .i64 0, .int .i64 0, .slice none 0 0, .int .i64 0, .int .i64 0, .int .i64 0, .int .i64 0]) := by kernel_rfl
theorem ca_106 : callable Tryz.prog 106 = true := by kernel_rfl
theorem zc_37 : zeroCells Tryz.prog 37 = some [.slice none 0 0, .slice none 0 0] := by kernel_rfl
theorem bs_23_9_0_1_2_3_4_5_6_7_8 : ∀ (x0 : Int) (x1 : Int) (x2 : Int) (x3 : Int) (x4 : Int) (x5 : Int) (x6 : Int) (x7 : Int) (x8 : Int), builtSlice Tryz.prog 23 9 [(0, .int .i64 x0), (1, .int .i64 x1), (2, .int .i64 x2), (3, .int .i64 x3), (4, .int .i64 x4), (5, .int .i64 x5), (6, .int .i64 x6), (7, .int .i64 x7), (8, .int .i64 x8)] = some (3, [.int .i64 x0, .int .i64 x1, .int .i64 x2, .int .i64 x3, .int .i64 x4, .int .i64 x5, .int .i64 x6, .int .i64 x7, .int .i64 x8]) := fun _ _ _ _ _ _ _ _ _ => by kernel_rfl
theorem bd_37_0 : ∀ (x0 : Option Addr) (y0 z0 : Nat), Tryz.prog.built 37 [(0, .slice x0 y0 z0)] = some #[.slice x0 y0 z0, .slice none 0 0] := fun _ _ _ => by kernel_rfl
theorem ts_37 : tySize Tryz.prog 37 = some 2 := by kernel_rfl
theorem fo_37_1 : fieldOff Tryz.prog 37 1 = some 1 := by kernel_rfl
theorem ag_37 : aggTy Tryz.prog 37 = some 2 := by kernel_rfl
theorem ca_84 : callable Tryz.prog 84 = true := by kernel_rfl
theorem fo_37_0 : fieldOff Tryz.prog 37 0 = some 0 := by kernel_rfl
theorem ca_107 : callable Tryz.prog 107 = true := by kernel_rfl
theorem bd_39_0_1_2_3 : ∀ (x0 : Int) (x1 : Int) (x2 : Option Addr) (y2 z2 : Nat) (x4 : Option Addr) (y4 z4 : Nat) (x5 : Option Addr) (y5 z5 : Nat), Tryz.prog.built 39 [(0, .int .i64 x0), (1, .int .i64 x1), (2, .slice x2 y2 z2), (3, .agg #[.slice x4 y4 z4, .slice x5 y5 z5])] = some #[.int .i64 x0, .int .i64 x1, .slice x2 y2 z2, .slice x4 y4 z4, .slice x5 y5 z5] := fun _ _ _ _ _ _ _ _ _ _ _ => by kernel_rfl
theorem ts_39 : tySize Tryz.prog 39 = some 5 := by kernel_rfl
theorem ag_39 : aggTy Tryz.prog 39 = some 5 := by kernel_rfl
theorem ca_70 : callable Tryz.prog 70 = true := by kernel_rfl
theorem bs_53_0_ : builtSlice Tryz.prog 53 0 [] = some (63, []) := by kernel_rfl
theorem fo_39_0 : fieldOff Tryz.prog 39 0 = some 0 := by kernel_rfl
theorem fo_39_1 : fieldOff Tryz.prog 39 1 = some 1 := by kernel_rfl
theorem bs_23_4_0_1_2_3 : ∀ (x0 : Int) (x1 : Int) (x2 : Int) (x3 : Int), builtSlice Tryz.prog 23 4 [(0, .int .i64 x0), (1, .int .i64 x1), (2, .int .i64 x2), (3, .int .i64 x3)] = some (3, [.int .i64 x0, .int .i64 x1, .int .i64 x2, .int .i64 x3]) := fun _ _ _ _ => by kernel_rfl
theorem ca_108 : callable Tryz.prog 108 = true := by kernel_rfl
theorem bd_63_0_2 : ∀ (x0 : Int) (x2 : Option Addr) (y2 z2 : Nat) (x3 : Option Addr) (y3 z3 : Nat), Tryz.prog.built 63 [(0, .int .i64 x0), (2, .agg #[.slice x2 y2 z2, .slice x3 y3 z3])] = some #[.int .i64 x0, .bool false, .int .i64 0, .int .i64 0, .int .i64 0, .int .i64 0, .int .i64 0, .slice none 0 0, .int .i64 0, .int .i64 0, .int .i64 0, .int .i64 0, .slice x2 y2 z2, .slice x3 y3 z3] := fun _ _ _ _ _ _ _ => by kernel_rfl
theorem bs_53_1_0 : ∀ (x1 : Int) (x3 : Bool) (x4 : Int) (x5 : Int) (x6 : Int) (x7 : Int) (x8 : Int) (x9 : Option Addr) (y9 z9 : Nat) (x10 : Int) (x11 : Int) (x12 : Int) (x13 : Int) (x15 : Option Addr) (y15 z15 : Nat) (x16 : Option Addr) (y16 z16 : Nat), builtSlice Tryz.prog 53 1 [(0, .agg #[.int .i64 x1, .bool x3, .int .i64 x4, .int .i64 x5, .int .i64 x6, .int .i64 x7, .int .i64 x8, .slice x9 y9 z9, .int .i64 x10, .int .i64 x11, .int .i64 x12, .int .i64 x13, .slice x15 y15 z15, .slice x16 y16 z16])] = some (63, [.int .i64 x1, .bool x3, .int .i64 x4, .int .i64 x5, .int .i64 x6, .int .i64 x7, .int .i64 x8, .slice x9 y9 z9, .int .i64 x10, .int .i64 x11, .int .i64 x12, .int .i64 x13, .slice x15 y15 z15, .slice x16 y16 z16]) := fun _ _ _ _ _ _ _ _ _ _ _ _ _ _ _ _ _ _ _ _ => by kernel_rfl
theorem mi_53 : makeInfo Tryz.prog 53 = some (63, 160, [.int .i64 0, .bool false, .int .i64 0, .int .i64 0, .int .i64 0, .int .i64 0, .int .i64 0, .slice none 0 0, .int .i64 0, .int .i64 0, .int .i64 0, .int .i64 0, .slice none 0 0, .slice none 0 0]) := by kernel_rfl
theorem se_36 : sliceElem Tryz.prog 36 = some 11 := by kernel_rfl
theorem bd_63_0_1 : ∀ (x0 : Int) (x2 : Bool) (x3 : Int) (x4 : Int) (x5 : Int) (x6 : Int) (x7 : Int) (x8 : Option Addr) (y8 z8 : Nat) (x9 : Int) (x10 : Int) (x11 : Int) (x12 : Int), Tryz.prog.built 63 [(0, .int .i64 x0), (1, .agg #[.bool x2, .int .i64 x3, .int .i64 x4, .int .i64 x5, .int .i64 x6, .int .i64 x7, .slice x8 y8 z8, .int .i64 x9, .int .i64 x10, .int .i64 x11, .int .i64 x12])] = some #[.int .i64 x0, .bool x2, .int .i64 x3, .int .i64 x4, .int .i64 x5, .int .i64 x6, .int .i64 x7, .slice x8 y8 z8, .int .i64 x9, .int .i64 x10, .int .i64 x11, .int .i64 x12, .slice none 0 0, .slice none 0 0] := fun _ _ _ _ _ _ _ _ _ _ _ _ _ _ => by kernel_rfl
theorem bs_23_5_0_1_2_3_4 : ∀ (x0 : Int) (x1 : Int) (x2 : Int) (x3 : Int) (x4 : Int), builtSlice Tryz.prog 23 5 [(0, .int .i64 x0), (1, .int .i64 x1), (2, .int .i64 x2), (3, .int .i64 x3), (4, .int .i64 x4)] = some (3, [.int .i64 x0, .int .i64 x1, .int .i64 x2, .int .i64 x3, .int .i64 x4]) := fun _ _ _ _ _ => by kernel_rfl
theorem ca_110 : callable Tryz.prog 110 = true := by kernel_rfl
theorem ca_71 : callable Tryz.prog 71 = true := by kernel_rfl
theorem ca_22 : callable Tryz.prog 22 = true := by kernel_rfl
theorem bs_36_0_ : builtSlice Tryz.prog 36 0 [] = some (61, []) := by kernel_rfl
theorem si_36 : (sliceElem Tryz.prog 36).isSome = true := by kernel_rfl
theorem fo_61_6 : fieldOff Tryz.prog 61 6 = some 6 := by kernel_rfl
theorem ca_75 : callable Tryz.prog 75 = true := by kernel_rfl
theorem fo_39_2 : fieldOff Tryz.prog 39 2 = some 2 := by kernel_rfl
theorem pt_36 : plainTy Tryz.prog 36 = true := by kernel_rfl
theorem ca_95 : callable Tryz.prog 95 = true := by kernel_rfl
theorem fo_39_3 : fieldOff Tryz.prog 39 3 = some 3 := by kernel_rfl
theorem bd_37_0_1 : ∀ (x0 : Option Addr) (y0 z0 : Nat) (x1 : Option Addr) (y1 z1 : Nat), Tryz.prog.built 37 [(0, .slice x0 y0 z0), (1, .slice x1 y1 z1)] = some #[.slice x0 y0 z0, .slice x1 y1 z1] := fun _ _ _ _ _ _ => by kernel_rfl
theorem ca_74 : callable Tryz.prog 74 = true := by kernel_rfl
theorem ca_44 : callable Tryz.prog 44 = true := by kernel_rfl
theorem fo_61_0 : fieldOff Tryz.prog 61 0 = some 0 := by kernel_rfl
theorem pt_4 : plainTy Tryz.prog 4 = true := by kernel_rfl
theorem fo_61_1 : fieldOff Tryz.prog 61 1 = some 1 := by kernel_rfl
theorem fo_61_2 : fieldOff Tryz.prog 61 2 = some 2 := by kernel_rfl
theorem fo_61_3 : fieldOff Tryz.prog 61 3 = some 3 := by kernel_rfl
theorem fo_61_4 : fieldOff Tryz.prog 61 4 = some 4 := by kernel_rfl
theorem fo_61_5 : fieldOff Tryz.prog 61 5 = some 5 := by kernel_rfl
theorem ca_112 : callable Tryz.prog 112 = true := by kernel_rfl
theorem ca_166 : callable Tryz.prog 166 = true := by kernel_rfl
theorem ca_123 : callable Tryz.prog 123 = true := by kernel_rfl
theorem ca_154 : callable Tryz.prog 154 = true := by kernel_rfl
theorem ca_137 : callable Tryz.prog 137 = true := by kernel_rfl
theorem ca_155 : callable Tryz.prog 155 = true := by kernel_rfl
theorem ca_156 : callable Tryz.prog 156 = true := by kernel_rfl
theorem ca_138 : callable Tryz.prog 138 = true := by kernel_rfl
theorem ca_157 : callable Tryz.prog 157 = true := by kernel_rfl
theorem ca_139 : callable Tryz.prog 139 = true := by kernel_rfl
theorem ca_141 : callable Tryz.prog 141 = true := by kernel_rfl
theorem ca_142 : callable Tryz.prog 142 = true := by kernel_rfl
theorem ca_140 : callable Tryz.prog 140 = true := by kernel_rfl
theorem ca_121 : callable Tryz.prog 121 = true := by kernel_rfl
theorem ca_136 : callable Tryz.prog 136 = true := by kernel_rfl
theorem ca_120 : callable Tryz.prog 120 = true := by kernel_rfl
theorem ca_86 : callable Tryz.prog 86 = true := by kernel_rfl
theorem ca_111 : callable Tryz.prog 111 = true := by kernel_rfl
theorem ca_72 : callable Tryz.prog 72 = true := by kernel_rfl
theorem si_53 : (sliceElem Tryz.prog 53).isSome = true := by kernel_rfl
theorem se_53 : sliceElem Tryz.prog 53 = some 14 := by kernel_rfl
theorem ag_63 : aggTy Tryz.prog 63 = some 14 := by kernel_rfl
theorem fo_63_0 : fieldOff Tryz.prog 63 0 = some 0 := by kernel_rfl
theorem fo_63_1 : fieldOff Tryz.prog 63 1 = some 1 := by kernel_rfl
theorem fo_63_2 : fieldOff Tryz.prog 63 2 = some 12 := by kernel_rfl
theorem ca_73 : callable Tryz.prog 73 = true := by kernel_rfl
theorem ca_23 : callable Tryz.prog 23 = true := by kernel_rfl
theorem ca_76 : callable Tryz.prog 76 = true := by kernel_rfl
theorem ub_4 : Tryz.prog.underlying 4 = some .bool := by kernel_rfl
theorem ca_114 : callable Tryz.prog 114 = true := by kernel_rfl
theorem ca_77 : callable Tryz.prog 77 = true := by kernel_rfl
theorem ca_78 : callable Tryz.prog 78 = true := by kernel_rfl
theorem ca_98 : callable Tryz.prog 98 = true := by kernel_rfl
theorem ca_79 : callable Tryz.prog 79 = true := by kernel_rfl
theorem ca_24 : callable Tryz.prog 24 = true := by kernel_rfl
theorem ca_50 : callable Tryz.prog 50 = true := by kernel_rfl
theorem ca_67 : callable Tryz.prog 67 = true := by kernel_rfl
theorem ca_149 : callable Tryz.prog 149 = true := by kernel_rfl
theorem ca_167 : callable Tryz.prog 167 = true := by kernel_rfl
theorem ca_164 : callable Tryz.prog 164 = true := by kernel_rfl
theorem ca_161 : callable Tryz.prog 161 = true := by kernel_rfl
theorem ca_181 : callable Tryz.prog 181 = true := by kernel_rfl
theorem ca_180 : callable Tryz.prog 180 = true := by kernel_rfl
theorem ca_168 : callable Tryz.prog 168 = true := by kernel_rfl
theorem ca_171 : callable Tryz.prog 171 = true := by kernel_rfl
theorem ca_172 : callable Tryz.prog 172 = true := by kernel_rfl
theorem ca_170 : callable Tryz.prog 170 = true := by kernel_rfl
theorem ca_169 : callable Tryz.prog 169 = true := by kernel_rfl
theorem ca_158 : callable Tryz.prog 158 = true := by kernel_rfl
theorem ca_173 : callable Tryz.prog 173 = true := by kernel_rfl
theorem ca_174 : callable Tryz.prog 174 = true := by kernel_rfl
theorem ca_175 : callable Tryz.prog 175 = true := by kernel_rfl
theorem ca_159 : callable Tryz.prog 159 = true := by kernel_rfl
theorem ca_177 : callable Tryz.prog 177 = true := by kernel_rfl
theorem ca_176 : callable Tryz.prog 176 = true := by kernel_rfl
theorem ca_160 : callable Tryz.prog 160 = true := by kernel_rfl
theorem ca_165 : callable Tryz.prog 165 = true := by kernel_rfl
theorem ca_182 : callable Tryz.prog 182 = true := by kernel_rfl
theorem ca_178 : callable Tryz.prog 178 = true := by kernel_rfl
theorem ca_162 : callable Tryz.prog 162 = true := by kernel_rfl
theorem ca_150 : callable Tryz.prog 150 = true := by kernel_rfl
theorem ca_163 : callable Tryz.prog 163 = true := by kernel_rfl
theorem ca_153 : callable Tryz.prog 153 = true := by kernel_rfl
theorem ca_152 : callable Tryz.prog 152 = true := by kernel_rfl
theorem ca_151 : callable Tryz.prog 151 = true := by kernel_rfl
theorem ca_132 : callable Tryz.prog 132 = true := by kernel_rfl
theorem ca_115 : callable Tryz.prog 115 = true := by kernel_rfl
theorem ca_116 : callable Tryz.prog 116 = true := by kernel_rfl
theorem ca_80 : callable Tryz.prog 80 = true := by kernel_rfl
theorem zc_63 : zeroCells Tryz.prog 63 = some [.int .i64 0, .bool false, .int .i64 0, .int .i64 0, .int .i64 0, .int .i64 0, .int .i64 0, .slice none 0 0, .int .i64 0, .int .i64 0, .int .i64 0, .int .i64 0, .slice none 0 0, .slice none 0 0] := by kernel_rfl
theorem ts_63 : tySize Tryz.prog 63 = some 14 := by kernel_rfl
theorem ca_26 : callable Tryz.prog 26 = true := by kernel_rfl
theorem ca_25 : callable Tryz.prog 25 = true := by kernel_rfl
theorem ca_81 : callable Tryz.prog 81 = true := by kernel_rfl
theorem ca_27 : callable Tryz.prog 27 = true := by kernel_rfl
end Go.Proofs.YtmhalmnbgkpmnaaGreat
