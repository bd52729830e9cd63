/- Facts about the program: types, offsets, callable functions. -/
import Derived.Test.YtfgkgkkcaclfpaaTypes
import Derived.Test.YtfgkgkkcaclfpaaChecked
namespace Go.Proofs.Ytfgkgkkcaclfpaa
open Go.RowKit K
set_option maxRecDepth 100000
set_option maxHeartbeats 4000000

theorem ag_48 : aggTy Try.prog 48 = some 3 := by kernel_rfl
theorem fo_48_2 : fieldOff Try.prog 48 2 = some 2 := by kernel_rfl
theorem pt_46 : plainTy Try.prog 46 = true := by kernel_rfl
theorem si_46 : (sliceElem Try.prog 46).isSome = true := by kernel_rfl
theorem ca_98 : callable Try.prog 98 = true := by kernel_rfl
theorem ca_45 : callable Try.prog 45 = true := by kernel_rfl
theorem zc_53 : zeroCells Try.prog 53 = some [.int .i64 0, .int .i64 0, .slice none 0 0] := by kernel_rfl
theorem fo_48_0 : fieldOff Try.prog 48 0 = some 0 := by kernel_rfl
theorem pt_3 : plainTy Try.prog 3 = true := by kernel_rfl
theorem fo_53_0 : fieldOff Try.prog 53 0 = some 0 := by kernel_rfl
theorem ts_3 : tySize Try.prog 3 = some 1 := by kernel_rfl
theorem fo_48_1 : fieldOff Try.prog 48 1 = some 1 := by kernel_rfl
theorem fo_53_1 : fieldOff Try.prog 53 1 = some 1 := by kernel_rfl
theorem mi_46 : makeInfo Try.prog 46 = some (3, 8, [.int .i64 0]) := by kernel_rfl
theorem se_46 : sliceElem Try.prog 46 = some 1 := by kernel_rfl
theorem ca_100 : callable Try.prog 100 = true := by kernel_rfl
theorem fo_53_2 : fieldOff Try.prog 53 2 = some 2 := by kernel_rfl
theorem ts_46 : tySize Try.prog 46 = some 1 := by kernel_rfl
theorem ag_53 : aggTy Try.prog 53 = some 3 := by kernel_rfl
theorem ts_53 : tySize Try.prog 53 = some 3 := by kernel_rfl
theorem ca_47 : callable Try.prog 47 = true := by kernel_rfl
theorem zc_69 : zeroCells Try.prog 69 = some [.bool false, .int .i64 0, .int .i64 0, .int .i64 0, .int .i64 0, .int .i64 0, .slice none 0 0, .int .i64 0, .int .i64 0, .int .i64 0, .int .i64 0] := by kernel_rfl
theorem ca_83 : callable Try.prog 83 = true := by kernel_rfl
theorem ca_138 : callable Try.prog 138 = true := by kernel_rfl
theorem ca_122 : callable Try.prog 122 = true := by kernel_rfl
theorem bs_46_0_ : builtSlice Try.prog 46 0 [] = some (3, []) := by kernel_rfl
theorem bs_46_2_0_1 : ∀ (x0 : Int) (x1 : Int), builtSlice Try.prog 46 2 [(0, .int .i64 x0), (1, .int .i64 x1)] = some (3, [.int .i64 x0, .int .i64 x1]) := fun _ _ => by kernel_rfl
theorem ca_127 : callable Try.prog 127 = true := by kernel_rfl
theorem ca_128 : callable Try.prog 128 = true := by kernel_rfl
theorem ca_99 : callable Try.prog 99 = true := by kernel_rfl
theorem bd_69_ : Try.prog.built 69 [] = some #[.bool false, .int .i64 0, .int .i64 0, .int .i64 0, .int .i64 0, .int .i64 0, .slice none 0 0, .int .i64 0, .int .i64 0, .int .i64 0, .int .i64 0] := by kernel_rfl
theorem ts_69 : tySize Try.prog 69 = some 11 := by kernel_rfl
theorem ag_69 : aggTy Try.prog 69 = some 11 := by kernel_rfl
theorem bd_69_0_1_2_3_4_5_6_7 : ∀ (x0 : Bool) (x1 : Int) (x2 : Int) (x3 : Int) (x4 : Int) (x5 : Int) (x6 : Option Addr) (y6 z6 : Nat) (x7 : Int), Try.prog.built 69 [(0, .bool x0), (1, .int .i64 x1), (2, .int .i64 x2), (3, .int .i64 x3), (4, .int .i64 x4), (5, .int .i64 x5), (6, .slice x6 y6 z6), (7, .int .i64 x7)] = some #[.bool x0, .int .i64 x1, .int .i64 x2, .int .i64 x3, .int .i64 x4, .int .i64 x5, .slice x6 y6 z6, .int .i64 x7, .int .i64 0, .int .i64 0, .int .i64 0] := fun _ _ _ _ _ _ _ _ _ _ => by kernel_rfl
theorem ca_46 : callable Try.prog 46 = true := by kernel_rfl
theorem ca_80 : callable Try.prog 80 = true := by kernel_rfl
theorem ca_120 : callable Try.prog 120 = true := by kernel_rfl
theorem ca_139 : callable Try.prog 139 = true := by kernel_rfl
theorem ca_124 : callable Try.prog 124 = true := by kernel_rfl
theorem ca_129 : callable Try.prog 129 = true := by kernel_rfl
theorem ca_140 : callable Try.prog 140 = true := by kernel_rfl
theorem ca_130 : callable Try.prog 130 = true := by kernel_rfl
theorem ca_131 : callable Try.prog 131 = true := by kernel_rfl
theorem ca_101 : callable Try.prog 101 = true := by kernel_rfl
theorem ca_48 : callable Try.prog 48 = true := by kernel_rfl
theorem fo_69_0 : fieldOff Try.prog 69 0 = some 0 := by kernel_rfl
theorem pt_4 : plainTy Try.prog 4 = true := by kernel_rfl
theorem ub_4 : Try.prog.underlying 4 = some .bool := by kernel_rfl
theorem fo_69_1 : fieldOff Try.prog 69 1 = some 1 := by kernel_rfl
theorem fo_69_2 : fieldOff Try.prog 69 2 = some 2 := by kernel_rfl
theorem fo_69_3 : fieldOff Try.prog 69 3 = some 3 := by kernel_rfl
theorem fo_69_4 : fieldOff Try.prog 69 4 = some 4 := by kernel_rfl
theorem fo_69_5 : fieldOff Try.prog 69 5 = some 5 := by kernel_rfl
theorem fo_69_6 : fieldOff Try.prog 69 6 = some 6 := by kernel_rfl
theorem ca_102 : callable Try.prog 102 = true := by kernel_rfl
theorem fo_69_7 : fieldOff Try.prog 69 7 = some 7 := by kernel_rfl
theorem fo_69_8 : fieldOff Try.prog 69 8 = some 8 := by kernel_rfl
theorem fo_69_9 : fieldOff Try.prog 69 9 = some 9 := by kernel_rfl
theorem fo_69_10 : fieldOff Try.prog 69 10 = some 10 := by kernel_rfl
theorem ca_49 : callable Try.prog 49 = true := by kernel_rfl
theorem ca_50 : callable Try.prog 50 = true := by kernel_rfl
theorem ca_103 : callable Try.prog 103 = true := by kernel_rfl
theorem ca_51 : callable Try.prog 51 = true := by kernel_rfl
theorem ca_52 : callable Try.prog 52 = true := by kernel_rfl
theorem ca_104 : callable Try.prog 104 = true := by kernel_rfl
theorem ca_53 : callable Try.prog 53 = true := by kernel_rfl
end Go.Proofs.Ytfgkgkkcaclfpaa
