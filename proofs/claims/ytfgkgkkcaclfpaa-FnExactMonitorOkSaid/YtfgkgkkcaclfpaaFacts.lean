/- Facts about the program: types, offsets, callable functions. -/
import Derived.Test.YtfgkgkkcaclfpaaTypes
import Derived.Test.YtfgkgkkcaclfpaaChecked
namespace Go.Proofs.Ytfgkgkkcaclfpaa
open Go.RowKit K
set_option maxRecDepth 100000
set_option maxHeartbeats 4000000
set_option linter.unusedVariables false

theorem ag_41 : aggTy Try.prog 41 = some 3 := by kernel_rfl
theorem fo_41_0 : fieldOff Try.prog 41 0 = some 0 := by kernel_rfl
theorem pt_9 : plainTy Try.prog 9 = true := by kernel_rfl
theorem us_9 : Try.prog.underlying 9 = some .string := by kernel_rfl
theorem fo_41_1 : fieldOff Try.prog 41 1 = some 1 := by kernel_rfl
theorem pt_39 : plainTy Try.prog 39 = true := by kernel_rfl
theorem si_39 : (sliceElem Try.prog 39).isSome = true := by kernel_rfl
theorem ca_82 : callable Try.prog 82 = true := by kernel_rfl
theorem ca_23 : callable Try.prog 23 = true := by kernel_rfl
theorem zc_26 : zeroCells Try.prog 26 = some [.string ⟨#[]⟩, .slice none 0 0, .int .i64 0] := by kernel_rfl
theorem fo_26_0 : fieldOff Try.prog 26 0 = some 0 := by kernel_rfl
theorem ts_9 : tySize Try.prog 9 = some 1 := by kernel_rfl
theorem mi_24 : makeInfo Try.prog 24 = some (30, 72, [.int .i64 0, .int .i64 0, .int .i64 0, .int .i64 0, .int .i64 0, .int .i64 0, .int .i64 0, .int .i64 0, .int .i64 0]) := by kernel_rfl
theorem se_39 : sliceElem Try.prog 39 = some 9 := by kernel_rfl
theorem ag_160 : aggTy Try.prog 160 = some 9 := by kernel_rfl
theorem zc_30 : zeroCells Try.prog 30 = some [.int .i64 0, .int .i64 0, .int .i64 0, .int .i64 0, .int .i64 0, .int .i64 0, .int .i64 0, .int .i64 0, .int .i64 0] := by kernel_rfl
theorem fo_160_0 : fieldOff Try.prog 160 0 = some 0 := by kernel_rfl
theorem pt_3 : plainTy Try.prog 3 = true := by kernel_rfl
theorem fo_30_0 : fieldOff Try.prog 30 0 = some 0 := by kernel_rfl
theorem ts_3 : tySize Try.prog 3 = some 1 := by kernel_rfl
theorem fo_160_1 : fieldOff Try.prog 160 1 = some 1 := by kernel_rfl
theorem fo_30_1 : fieldOff Try.prog 30 1 = some 1 := by kernel_rfl
theorem fo_160_2 : fieldOff Try.prog 160 2 = some 2 := by kernel_rfl
theorem fo_30_2 : fieldOff Try.prog 30 2 = some 2 := by kernel_rfl
theorem fo_160_3 : fieldOff Try.prog 160 3 = some 3 := by kernel_rfl
theorem fo_30_3 : fieldOff Try.prog 30 3 = some 3 := by kernel_rfl
theorem fo_160_4 : fieldOff Try.prog 160 4 = some 4 := by kernel_rfl
theorem fo_30_4 : fieldOff Try.prog 30 4 = some 4 := by kernel_rfl
theorem fo_160_5 : fieldOff Try.prog 160 5 = some 5 := by kernel_rfl
theorem fo_30_5 : fieldOff Try.prog 30 5 = some 5 := by kernel_rfl
theorem fo_160_6 : fieldOff Try.prog 160 6 = some 6 := by kernel_rfl
theorem fo_30_6 : fieldOff Try.prog 30 6 = some 6 := by kernel_rfl
theorem fo_160_7 : fieldOff Try.prog 160 7 = some 7 := by kernel_rfl
theorem fo_30_7 : fieldOff Try.prog 30 7 = some 7 := by kernel_rfl
theorem fo_160_8 : fieldOff Try.prog 160 8 = some 8 := by kernel_rfl
theorem fo_30_8 : fieldOff Try.prog 30 8 = some 8 := by kernel_rfl
theorem ag_30 : aggTy Try.prog 30 = some 9 := by kernel_rfl
theorem ts_30 : tySize Try.prog 30 = some 9 := by kernel_rfl
theorem ca_121 : callable Try.prog 121 = true := by kernel_rfl
theorem se_24 : sliceElem Try.prog 24 = some 9 := by kernel_rfl
theorem ca_85 : callable Try.prog 85 = true := by kernel_rfl
theorem fo_26_1 : fieldOff Try.prog 26 1 = some 1 := by kernel_rfl
theorem ts_24 : tySize Try.prog 24 = some 1 := by kernel_rfl
theorem fo_41_2 : fieldOff Try.prog 41 2 = some 2 := by kernel_rfl
theorem fo_26_2 : fieldOff Try.prog 26 2 = some 2 := by kernel_rfl
theorem ag_26 : aggTy Try.prog 26 = some 3 := by kernel_rfl
theorem ts_26 : tySize Try.prog 26 = some 3 := by kernel_rfl
theorem ca_25 : callable Try.prog 25 = true := by kernel_rfl
theorem ca_83 : callable Try.prog 83 = true := by kernel_rfl
theorem pt_24 : plainTy Try.prog 24 = true := by kernel_rfl
theorem si_24 : (sliceElem Try.prog 24).isSome = true := by kernel_rfl
theorem ca_84 : callable Try.prog 84 = true := by kernel_rfl
theorem ca_24 : callable Try.prog 24 = true := by kernel_rfl
theorem ca_80 : callable Try.prog 80 = true := by kernel_rfl
theorem uS_5 : (Try.prog.underlying 5).isSome = true := by kernel_rfl
theorem ui_3_i64 : Try.prog.underlying 3 = some (.int .i64) := by kernel_rfl
theorem ca_120 : callable Try.prog 120 = true := by kernel_rfl
theorem ca_81 : callable Try.prog 81 = true := by kernel_rfl
theorem ca_22 : callable Try.prog 22 = true := by kernel_rfl
theorem ub_4 : Try.prog.underlying 4 = some .bool := by kernel_rfl
theorem ca_33 : callable Try.prog 33 = true := by kernel_rfl
theorem ca_86 : callable Try.prog 86 = true := by kernel_rfl
theorem ca_26 : callable Try.prog 26 = true := by kernel_rfl
end Go.Proofs.Ytfgkgkkcaclfpaa
