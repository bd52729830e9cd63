/- Facts about the program: types, offsets, callable functions. -/
import Derived.Test.YtfgkgkkcaclfpaaTypes
import Derived.Test.YtfgkgkkcaclfpaaChecked
namespace Go.Proofs.Ytfgkgkkcaclfpaa
open Go.RowKit K
set_option maxRecDepth 100000
set_option maxHeartbeats 4000000

theorem ag_41 : aggTy Try.prog 41 = some 3 := by kernel_rfl
theorem fo_41_0 : fieldOff Try.prog 41 0 = some 0 := by kernel_rfl
theorem pt_9 : plainTy Try.prog 9 = true := by kernel_rfl
theorem us_9 : Try.prog.underlying 9 = some .string := by kernel_rfl
theorem fo_41_1 : fieldOff Try.prog 41 1 = some 1 := by kernel_rfl
theorem pt_39 : plainTy Try.prog 39 = true := by kernel_rfl
theorem si_39 : (sliceElem Try.prog 39).isSome = true := by kernel_rfl
theorem ca_82 : callable Try.prog 82 = true := by kernel_rfl
theorem ca_23 : callable Try.prog 23 = true := by kernel_rfl
theorem zc_26 : zeroCells Try.prog 26 = some [.string ⟨#[]⟩, .slice none 0 0, .int .i64 0] := by kernel_rfl
theorem fo_26_0 : fieldOff Try.prog 26 0 = some 0 := by kernel_rfl
theorem ts_9 : tySize Try.prog 9 = some 1 := by kernel_rfl
theorem mi_24 : makeInfo Try.prog 24 = some (30, 72, [.int .i64 0, .int .i64 0, .int .i64 0, .int .i64 0, .int .i64 0, .int .i64 0, .int .i64 0, .int .i64 0, .int .i64 0]) := by kernel_rfl
theorem se_39 : sliceElem Try.prog 39 = some 9 := by kernel_rfl
theorem ag_160 : aggTy Try.prog 160 = some 9 := by kernel_rfl
theorem zc_30 : zeroCells Try.prog 30 = some [.int .i64 0, .int .i64 0, .int .i64 0, .int .i64 0, .int .i64 0, .int .i64 0, .int .i64 0, .int .i64 0, .int .i64 0] := by kernel_rfl
theorem fo_160_0 : fieldOff Try.prog 160 0 = some 0 := by kernel_rfl
theorem pt_3 : plainTy Try.prog 3 = true := by kernel_rfl
theorem fo_30_0 : fieldOff Try.prog 30 0 = some 0 := by kernel_rfl
theorem ts_3 : tySize Try.prog 3 = some 1 := by kernel_rfl
theorem fo_160_1 : fieldOff Try.prog 160 1 = some 1 := by kernel_rfl
theorem fo_30_1 : fieldOff Try.prog 30 1 = some 1 := by kernel_rfl
theorem fo_160_2 : fieldOff Try.prog 160 2 = some 2 := by kernel_rfl
theorem fo_30_2 : fieldOff Try.prog 30 2 = some 2 := by kernel_rfl
theorem fo_160_3 : fieldOff Try.prog 160 3 = some 3 := by kernel_rfl
theorem fo_30_3 : fieldOff Try.prog 30 3 = some 3 := by kernel_rfl
theorem fo_160_4 : fieldOff Try.prog 160 4 = some 4 := by kernel_rfl
theorem fo_30_4 : fieldOff Try.prog 30 4 = some 4 := by kernel_rfl
theorem fo_160_5 : fieldOff Try.prog 160 5 = some 5 := by kernel_rfl
theorem fo_30_5 : fieldOff Try.prog 30 5 = some 5 := by kernel_rfl
theorem fo_160_6 : fieldOff Try.prog 160 6 = some 6 := by kernel_rfl
theorem fo_30_6 : fieldOff Try.prog 30 6 = some 6 := by kernel_rfl
theorem fo_160_7 : fieldOff Try.prog 160 7 = some 7 := by kernel_rfl
theorem fo_30_7 : fieldOff Try.prog 30 7 = some 7 := by kernel_rfl
theorem fo_160_8 : fieldOff Try.prog 160 8 = some 8 := by kernel_rfl
theorem fo_30_8 : fieldOff Try.prog 30 8 = some 8 := by kernel_rfl
theorem ag_30 : aggTy Try.prog 30 = some 9 := by kernel_rfl
theorem ts_30 : tySize Try.prog 30 = some 9 := by kernel_rfl
theorem ca_121 : callable Try.prog 121 = true := by kernel_rfl
theorem se_24 : sliceElem Try.prog 24 = some 9 := by kernel_rfl
theorem ca_85 : callable Try.prog 85 = true := by kernel_rfl
theorem fo_26_1 : fieldOff Try.prog 26 1 = some 1 := by kernel_rfl
theorem ts_24 : tySize Try.prog 24 = some 1 := by kernel_rfl
theorem fo_41_2 : fieldOff Try.prog 41 2 = some 2 := by kernel_rfl
theorem fo_26_2 : fieldOff Try.prog 26 2 = some 2 := by kernel_rfl
theorem ag_26 : aggTy Try.prog 26 = some 3 := by kernel_rfl
theorem ts_26 : tySize Try.prog 26 = some 3 := by kernel_rfl
theorem ca_25 : callable Try.prog 25 = true := by kernel_rfl
theorem ca_83 : callable Try.prog 83 = true := by kernel_rfl
theorem pt_24 : plainTy Try.prog 24 = true := by kernel_rfl
theorem si_24 : (sliceElem Try.prog 24).isSome = true := by kernel_rfl
theorem ca_84 : callable Try.prog 84 = true := by kernel_rfl
theorem ca_24 : callable Try.prog 24 = true := by kernel_rfl
theorem ca_80 : callable Try.prog 80 = true := by kernel_rfl
theorem uS_5 : (Try.prog.underlying 5).isSome = true := by kernel_rfl
theorem ui_3_i64 : Try.prog.underlying 3 = some (.int .i64) := by kernel_rfl
theorem ca_120 : callable Try.prog 120 = true := by kernel_rfl
theorem ca_81 : callable Try.prog 81 = true := by kernel_rfl
theorem ca_22 : callable Try.prog 22 = true := by kernel_rfl
theorem ub_4 : Try.prog.underlying 4 = some .bool := by kernel_rfl
theorem ca_33 : callable Try.prog 33 = true := by kernel_rfl
theorem ca_86 : callable Try.prog 86 = true := by kernel_rfl
theorem ca_26 : callable Try.prog 26 = true := by kernel_rfl
theorem bd_30_ : Try.prog.built 30 [] = some #[.int .i64 0, .int .i64 0, .int .i64 0, .int .i64 0, .int .i64 0, .int .i64 0, .int .i64 0, .int .i64 0, .int .i64 0] := by kernel_rfl
theorem ca_32 : callable Try.prog 32 = true := by kernel_rfl
theorem ca_18 : callable Try.prog 18 = true := by kernel_rfl
theorem ag_50 : aggTy Try.prog 50 = some 11 := by kernel_rfl
theorem fo_50_8 : fieldOff Try.prog 50 8 = some 8 := by kernel_rfl
theorem ag_48 : aggTy Try.prog 48 = some 3 := by kernel_rfl
theorem fo_48_2 : fieldOff Try.prog 48 2 = some 2 := by kernel_rfl
theorem pt_46 : plainTy Try.prog 46 = true := by kernel_rfl
theorem si_46 : (sliceElem Try.prog 46).isSome = true := by kernel_rfl
theorem ca_98 : callable Try.prog 98 = true := by kernel_rfl
theorem ca_45 : callable Try.prog 45 = true := by kernel_rfl
theorem ca_27 : callable Try.prog 27 = true := by kernel_rfl
theorem zc_55 : zeroCells Try.prog 55 = some [.int .i64 0, .int .i64 0, .int .i64 0, .int .i64 0, .int .i64 0, .int .i64 0, .int .i64 0, .bool false, .int .i64 0, .int .i64 0, .slice none 0 0] := by kernel_rfl
theorem fo_50_0 : fieldOff Try.prog 50 0 = some 0 := by kernel_rfl
theorem fo_55_0 : fieldOff Try.prog 55 0 = some 0 := by kernel_rfl
theorem fo_50_1 : fieldOff Try.prog 50 1 = some 1 := by kernel_rfl
theorem fo_55_1 : fieldOff Try.prog 55 1 = some 1 := by kernel_rfl
theorem fo_50_2 : fieldOff Try.prog 50 2 = some 2 := by kernel_rfl
theorem fo_55_2 : fieldOff Try.prog 55 2 = some 2 := by kernel_rfl
theorem fo_50_3 : fieldOff Try.prog 50 3 = some 3 := by kernel_rfl
theorem fo_55_3 : fieldOff Try.prog 55 3 = some 3 := by kernel_rfl
theorem fo_50_4 : fieldOff Try.prog 50 4 = some 4 := by kernel_rfl
theorem fo_55_4 : fieldOff Try.prog 55 4 = some 4 := by kernel_rfl
theorem fo_50_5 : fieldOff Try.prog 50 5 = some 5 := by kernel_rfl
theorem fo_55_5 : fieldOff Try.prog 55 5 = some 5 := by kernel_rfl
theorem fo_50_6 : fieldOff Try.prog 50 6 = some 6 := by kernel_rfl
theorem fo_55_6 : fieldOff Try.prog 55 6 = some 6 := by kernel_rfl
theorem fo_50_7 : fieldOff Try.prog 50 7 = some 7 := by kernel_rfl
theorem pt_4 : plainTy Try.prog 4 = true := by kernel_rfl
theorem fo_55_7 : fieldOff Try.prog 55 7 = some 7 := by kernel_rfl
theorem ts_4 : tySize Try.prog 4 = some 1 := by kernel_rfl
theorem zc_53 : zeroCells Try.prog 53 = some [.int .i64 0, .int .i64 0, .slice none 0 0] := by kernel_rfl
theorem fo_48_0 : fieldOff Try.prog 48 0 = some 0 := by kernel_rfl
theorem fo_53_0 : fieldOff Try.prog 53 0 = some 0 := by kernel_rfl
theorem fo_48_1 : fieldOff Try.prog 48 1 = some 1 := by kernel_rfl
theorem fo_53_1 : fieldOff Try.prog 53 1 = some 1 := by kernel_rfl
theorem mi_46 : makeInfo Try.prog 46 = some (3, 8, [.int .i64 0]) := by kernel_rfl
theorem se_46 : sliceElem Try.prog 46 = some 1 := by kernel_rfl
theorem ca_100 : callable Try.prog 100 = true := by kernel_rfl
theorem fo_53_2 : fieldOff Try.prog 53 2 = some 2 := by kernel_rfl
theorem ts_46 : tySize Try.prog 46 = some 1 := by kernel_rfl
theorem ag_53 : aggTy Try.prog 53 = some 3 := by kernel_rfl
theorem ts_53 : tySize Try.prog 53 = some 3 := by kernel_rfl
theorem ca_47 : callable Try.prog 47 = true := by kernel_rfl
theorem fo_55_8 : fieldOff Try.prog 55 8 = some 8 := by kernel_rfl
theorem ag_55 : aggTy Try.prog 55 = some 11 := by kernel_rfl
theorem ts_55 : tySize Try.prog 55 = some 11 := by kernel_rfl
theorem ca_29 : callable Try.prog 29 = true := by kernel_rfl
theorem ca_138 : callable Try.prog 138 = true := by kernel_rfl
theorem ca_122 : callable Try.prog 122 = true := by kernel_rfl
theorem ca_87 : callable Try.prog 87 = true := by kernel_rfl
theorem ca_28 : callable Try.prog 28 = true := by kernel_rfl
theorem ca_123 : callable Try.prog 123 = true := by kernel_rfl
theorem ca_139 : callable Try.prog 139 = true := by kernel_rfl
theorem ca_124 : callable Try.prog 124 = true := by kernel_rfl
theorem ca_88 : callable Try.prog 88 = true := by kernel_rfl
theorem ca_30 : callable Try.prog 30 = true := by kernel_rfl
theorem ca_102 : callable Try.prog 102 = true := by kernel_rfl
theorem ca_50 : callable Try.prog 50 = true := by kernel_rfl
theorem ca_31 : callable Try.prog 31 = true := by kernel_rfl
theorem ag_66 : aggTy Try.prog 66 = some 14 := by kernel_rfl
theorem fo_66_1 : fieldOff Try.prog 66 1 = some 1 := by kernel_rfl
theorem ag_62 : aggTy Try.prog 62 = some 11 := by kernel_rfl
theorem fo_62_6 : fieldOff Try.prog 62 6 = some 6 := by kernel_rfl
theorem ca_89 : callable Try.prog 89 = true := by kernel_rfl
theorem fo_66_2 : fieldOff Try.prog 66 2 = some 12 := by kernel_rfl
theorem ag_64 : aggTy Try.prog 64 = some 2 := by kernel_rfl
theorem fo_64_0 : fieldOff Try.prog 64 0 = some 0 := by kernel_rfl
theorem fo_64_1 : fieldOff Try.prog 64 1 = some 1 := by kernel_rfl
theorem ca_63 : callable Try.prog 63 = true := by kernel_rfl
theorem ca_34 : callable Try.prog 34 = true := by kernel_rfl
theorem zc_72 : zeroCells Try.prog 72 = some [.int .i64 0, .bool false, .int .i64 0, .int .i64 0, .int .i64 0, .int .i64 0, .int .i64 0, .slice none 0 0, .int .i64 0, .int .i64 0, .int .i64 0, .int .i64 0, .slice none 0 0, .slice none 0 0] := by kernel_rfl
theorem fo_66_0 : fieldOff Try.prog 66 0 = some 0 := by kernel_rfl
theorem fo_72_0 : fieldOff Try.prog 72 0 = some 0 := by kernel_rfl
theorem zc_69 : zeroCells Try.prog 69 = some [.bool false, .int .i64 0, .int .i64 0, .int .i64 0, .int .i64 0, .int .i64 0, .slice none 0 0, .int .i64 0, .int .i64 0, .int .i64 0, .int .i64 0] := by kernel_rfl
theorem fo_62_0 : fieldOff Try.prog 62 0 = some 0 := by kernel_rfl
theorem fo_69_0 : fieldOff Try.prog 69 0 = some 0 := by kernel_rfl
theorem fo_62_1 : fieldOff Try.prog 62 1 = some 1 := by kernel_rfl
theorem fo_69_1 : fieldOff Try.prog 69 1 = some 1 := by kernel_rfl
theorem fo_62_2 : fieldOff Try.prog 62 2 = some 2 := by kernel_rfl
theorem fo_69_2 : fieldOff Try.prog 69 2 = some 2 := by kernel_rfl
theorem fo_62_3 : fieldOff Try.prog 62 3 = some 3 := by kernel_rfl
theorem fo_69_3 : fieldOff Try.prog 69 3 = some 3 := by kernel_rfl
theorem fo_62_4 : fieldOff Try.prog 62 4 = some 4 := by kernel_rfl
theorem fo_69_4 : fieldOff Try.prog 69 4 = some 4 := by kernel_rfl
theorem fo_62_5 : fieldOff Try.prog 62 5 = some 5 := by kernel_rfl
theorem fo_69_5 : fieldOff Try.prog 69 5 = some 5 := by kernel_rfl
theorem fo_69_6 : fieldOff Try.prog 69 6 = some 6 := by kernel_rfl
theorem fo_62_7 : fieldOff Try.prog 62 7 = some 7 := by kernel_rfl
theorem fo_69_7 : fieldOff Try.prog 69 7 = some 7 := by kernel_rfl
theorem fo_62_8 : fieldOff Try.prog 62 8 = some 8 := by kernel_rfl
theorem fo_69_8 : fieldOff Try.prog 69 8 = some 8 := by kernel_rfl
theorem fo_62_9 : fieldOff Try.prog 62 9 = some 9 := by kernel_rfl
theorem fo_69_9 : fieldOff Try.prog 69 9 = some 9 := by kernel_rfl
theorem fo_62_10 : fieldOff Try.prog 62 10 = some 10 := by kernel_rfl
theorem fo_69_10 : fieldOff Try.prog 69 10 = some 10 := by kernel_rfl
theorem ag_69 : aggTy Try.prog 69 = some 11 := by kernel_rfl
theorem ts_69 : tySize Try.prog 69 = some 11 := by kernel_rfl
theorem ca_91 : callable Try.prog 91 = true := by kernel_rfl
theorem fo_72_1 : fieldOff Try.prog 72 1 = some 1 := by kernel_rfl
theorem zc_70 : zeroCells Try.prog 70 = some [.slice none 0 0, .slice none 0 0] := by kernel_rfl
theorem fo_70_0 : fieldOff Try.prog 70 0 = some 0 := by kernel_rfl
theorem fo_70_1 : fieldOff Try.prog 70 1 = some 1 := by kernel_rfl
theorem ag_70 : aggTy Try.prog 70 = some 2 := by kernel_rfl
theorem ts_70 : tySize Try.prog 70 = some 2 := by kernel_rfl
theorem ca_66 : callable Try.prog 66 = true := by kernel_rfl
theorem fo_72_2 : fieldOff Try.prog 72 2 = some 12 := by kernel_rfl
theorem ag_72 : aggTy Try.prog 72 = some 14 := by kernel_rfl
theorem ts_72 : tySize Try.prog 72 = some 14 := by kernel_rfl
theorem ca_36 : callable Try.prog 36 = true := by kernel_rfl
theorem ca_90 : callable Try.prog 90 = true := by kernel_rfl
theorem ca_35 : callable Try.prog 35 = true := by kernel_rfl
theorem bd_69_ : Try.prog.built 69 [] = some #[.bool false, .int .i64 0, .int .i64 0, .int .i64 0, .int .i64 0, .int .i64 0, .slice none 0 0, .int .i64 0, .int .i64 0, .int .i64 0, .int .i64 0] := by kernel_rfl
theorem ca_125 : callable Try.prog 125 = true := by kernel_rfl
theorem ca_92 : callable Try.prog 92 = true := by kernel_rfl
theorem ca_37 : callable Try.prog 37 = true := by kernel_rfl
theorem ca_49 : callable Try.prog 49 = true := by kernel_rfl
theorem ca_70 : callable Try.prog 70 = true := by kernel_rfl
theorem ca_38 : callable Try.prog 38 = true := by kernel_rfl
theorem ag_78 : aggTy Try.prog 78 = some 5 := by kernel_rfl
theorem fo_78_2 : fieldOff Try.prog 78 2 = some 2 := by kernel_rfl
theorem pt_76 : plainTy Try.prog 76 = true := by kernel_rfl
theorem si_76 : (sliceElem Try.prog 76).isSome = true := by kernel_rfl
theorem se_76 : sliceElem Try.prog 76 = some 11 := by kernel_rfl
theorem ca_62 : callable Try.prog 62 = true := by kernel_rfl
theorem fo_78_3 : fieldOff Try.prog 78 3 = some 3 := by kernel_rfl
theorem ca_40 : callable Try.prog 40 = true := by kernel_rfl
theorem zc_83 : zeroCells Try.prog 83 = some [.int .i64 0, .int .i64 0, .slice none 0 0, .slice none 0 0, .slice none 0 0] := by kernel_rfl
theorem fo_78_0 : fieldOff Try.prog 78 0 = some 0 := by kernel_rfl
theorem fo_83_0 : fieldOff Try.prog 83 0 = some 0 := by kernel_rfl
theorem fo_78_1 : fieldOff Try.prog 78 1 = some 1 := by kernel_rfl
theorem fo_83_1 : fieldOff Try.prog 83 1 = some 1 := by kernel_rfl
theorem mi_81 : makeInfo Try.prog 81 = some (69, 104, [.bool false, .int .i64 0, .int .i64 0, .int .i64 0, .int .i64 0, .int .i64 0, .slice none 0 0, .int .i64 0, .int .i64 0, .int .i64 0, .int .i64 0]) := by kernel_rfl
theorem se_81 : sliceElem Try.prog 81 = some 11 := by kernel_rfl
theorem ca_65 : callable Try.prog 65 = true := by kernel_rfl
theorem fo_83_2 : fieldOff Try.prog 83 2 = some 2 := by kernel_rfl
theorem ts_81 : tySize Try.prog 81 = some 1 := by kernel_rfl
theorem fo_83_3 : fieldOff Try.prog 83 3 = some 3 := by kernel_rfl
theorem ag_83 : aggTy Try.prog 83 = some 5 := by kernel_rfl
theorem ts_83 : tySize Try.prog 83 = some 5 := by kernel_rfl
theorem ca_42 : callable Try.prog 42 = true := by kernel_rfl
theorem pt_81 : plainTy Try.prog 81 = true := by kernel_rfl
theorem si_81 : (sliceElem Try.prog 81).isSome = true := by kernel_rfl
theorem ca_126 : callable Try.prog 126 = true := by kernel_rfl
theorem ca_94 : callable Try.prog 94 = true := by kernel_rfl
theorem ca_95 : callable Try.prog 95 = true := by kernel_rfl
theorem ca_41 : callable Try.prog 41 = true := by kernel_rfl
theorem ca_96 : callable Try.prog 96 = true := by kernel_rfl
theorem ca_97 : callable Try.prog 97 = true := by kernel_rfl
theorem ca_43 : callable Try.prog 43 = true := by kernel_rfl
theorem ca_69 : callable Try.prog 69 = true := by kernel_rfl
theorem ca_44 : callable Try.prog 44 = true := by kernel_rfl
theorem bs_46_0_ : builtSlice Try.prog 46 0 [] = some (3, []) := by kernel_rfl
theorem bs_46_2_0_1 : ∀ (x0 : Int) (x1 : Int), builtSlice Try.prog 46 2 [(0, .int .i64 x0), (1, .int .i64 x1)] = some (3, [.int .i64 x0, .int .i64 x1]) := fun _ _ => by kernel_rfl
theorem ca_127 : callable Try.prog 127 = true := by kernel_rfl
theorem ca_128 : callable Try.prog 128 = true := by kernel_rfl
theorem ca_99 : callable Try.prog 99 = true := by kernel_rfl
theorem bd_69_0_1_2_3_4_5_6_7 : ∀ (x0 : Bool) (x1 : Int) (x2 : Int) (x3 : Int) (x4 : Int) (x5 : Int) (x6 : Option Addr) (y6 z6 : Nat) (x7 : Int), Try.prog.built 69 [(0, .bool x0), (1, .int .i64 x1), (2, .int .i64 x2), (3, .int .i64 x3), (4, .int .i64 x4), (5, .int .i64 x5), (6, .slice x6 y6 z6), (7, .int .i64 x7)] = some #[.bool x0, .int .i64 x1, .int .i64 x2, .int .i64 x3, .int .i64 x4, .int .i64 x5, .slice x6 y6 z6, .int .i64 x7, .int .i64 0, .int .i64 0, .int .i64 0] := fun _ _ _ _ _ _ _ _ _ _ => by kernel_rfl
theorem ca_46 : callable Try.prog 46 = true := by kernel_rfl
theorem ca_129 : callable Try.prog 129 = true := by kernel_rfl
theorem ca_140 : callable Try.prog 140 = true := by kernel_rfl
theorem ca_130 : callable Try.prog 130 = true := by kernel_rfl
theorem ca_131 : callable Try.prog 131 = true := by kernel_rfl
theorem ca_101 : callable Try.prog 101 = true := by kernel_rfl
theorem ca_48 : callable Try.prog 48 = true := by kernel_rfl
theorem ca_103 : callable Try.prog 103 = true := by kernel_rfl
theorem ca_51 : callable Try.prog 51 = true := by kernel_rfl
theorem ca_52 : callable Try.prog 52 = true := by kernel_rfl
theorem ca_104 : callable Try.prog 104 = true := by kernel_rfl
theorem ca_53 : callable Try.prog 53 = true := by kernel_rfl
theorem ag_98 : aggTy Try.prog 98 = some 4 := by kernel_rfl
theorem fo_98_3 : fieldOff Try.prog 98 3 = some 3 := by kernel_rfl
theorem pt_96 : plainTy Try.prog 96 = true := by kernel_rfl
theorem si_96 : (sliceElem Try.prog 96).isSome = true := by kernel_rfl
theorem se_96 : sliceElem Try.prog 96 = some 11 := by kernel_rfl
theorem ca_107 : callable Try.prog 107 = true := by kernel_rfl
theorem ca_57 : callable Try.prog 57 = true := by kernel_rfl
theorem zc_103 : zeroCells Try.prog 103 = some [.int .i64 0, .int .i64 0, .int .i64 0, .slice none 0 0] := by kernel_rfl
theorem fo_98_0 : fieldOff Try.prog 98 0 = some 0 := by kernel_rfl
theorem fo_103_0 : fieldOff Try.prog 103 0 = some 0 := by kernel_rfl
theorem fo_98_1 : fieldOff Try.prog 98 1 = some 1 := by kernel_rfl
theorem fo_103_1 : fieldOff Try.prog 103 1 = some 1 := by kernel_rfl
theorem fo_98_2 : fieldOff Try.prog 98 2 = some 2 := by kernel_rfl
theorem fo_103_2 : fieldOff Try.prog 103 2 = some 2 := by kernel_rfl
theorem mi_101 : makeInfo Try.prog 101 = some (55, 104, [.int .i64 0, .int .i64 0, .int .i64 0, .int .i64 0, .int .i64 0, .int .i64 0, .int .i64 0, .bool false, .int .i64 0, .int .i64 0, .slice none 0 0]) := by kernel_rfl
theorem se_101 : sliceElem Try.prog 101 = some 11 := by kernel_rfl
theorem ca_109 : callable Try.prog 109 = true := by kernel_rfl
theorem fo_103_3 : fieldOff Try.prog 103 3 = some 3 := by kernel_rfl
theorem ts_101 : tySize Try.prog 101 = some 1 := by kernel_rfl
theorem ag_103 : aggTy Try.prog 103 = some 4 := by kernel_rfl
theorem ts_103 : tySize Try.prog 103 = some 4 := by kernel_rfl
theorem ca_59 : callable Try.prog 59 = true := by kernel_rfl
theorem ca_141 : callable Try.prog 141 = true := by kernel_rfl
theorem ca_132 : callable Try.prog 132 = true := by kernel_rfl
theorem pt_101 : plainTy Try.prog 101 = true := by kernel_rfl
theorem si_101 : (sliceElem Try.prog 101).isSome = true := by kernel_rfl
theorem ca_133 : callable Try.prog 133 = true := by kernel_rfl
theorem ca_108 : callable Try.prog 108 = true := by kernel_rfl
theorem ca_58 : callable Try.prog 58 = true := by kernel_rfl
theorem ca_142 : callable Try.prog 142 = true := by kernel_rfl
theorem ca_134 : callable Try.prog 134 = true := by kernel_rfl
theorem mu_166 : Try.prog.underlying 166 = some (.map 3 4) := by kernel_rfl
theorem zv_4 : zeroVal Try.prog 4 = some (.bool false) := by kernel_rfl
theorem ca_110 : callable Try.prog 110 = true := by kernel_rfl
theorem ca_60 : callable Try.prog 60 = true := by kernel_rfl
theorem ca_111 : callable Try.prog 111 = true := by kernel_rfl
theorem ca_61 : callable Try.prog 61 = true := by kernel_rfl
end Go.Proofs.Ytfgkgkkcaclfpaa
