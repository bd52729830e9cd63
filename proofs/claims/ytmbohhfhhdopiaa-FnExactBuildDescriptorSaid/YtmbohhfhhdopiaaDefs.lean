/- The pure functions that the walks bring out of the program. -/
import Derived.Test.YtmbohhfhhdopiaaStructs
namespace Go.Proofs.Ytmbohhfhhdopiaa
open Go.RowKit K
set_option maxRecDepth 100000
set_option maxHeartbeats 4000000

noncomputable def laws_big (code_p0 : List Int) : Option Bool :=
  some (decide (1048576 < (code_p0.length : Int)))
noncomputable def spec_l01New_L0 (code_p0 : List Int) (h_0 : Int) (i_0 : Int) : Option ((Int × Int) ⊕ Int) :=
  ifO ((decide (i_0 < (code_p0.length : Int))) && (decide (i_0 < 4000)))
  (Option.bind (idx code_p0 i_0) fun x5_4 =>
  some (.inl ((and64 (wr ((wr ((wr (h_0 * 131)) + (wr x5_4))) + 7)) 1073741823), (wr (i_0 + 1)))))
  (some (.inr h_0))
noncomputable def spec_l01New (code_p0 : List Int) : Option L01CurT :=
  Option.bind (loopO (fun (h_0, i_0) => spec_l01New_L0 code_p0 h_0 i_0) ((wr (33137 + (code_p0.length : Int))), 0)) fun h_0e =>
  some (L01CurT.mk code_p0 0 h_0e)
noncomputable def spec_l01Byte (c_p0 : L01CurT) : Option (Int × L01CurT) :=
  ifO (decide (c_p0.i < (c_p0.b.length : Int)))
  (Option.bind (idx c_p0.b c_p0.i) fun x4_9 =>
  some ((and64 (wr ((and64 (xor64 (shr (wr ((wr (c_p0.h * 6364136223846793005)) + 1442695040888963407)) 33) (shr (wr ((wr (c_p0.h * 6364136223846793005)) + 1442695040888963407)) 45)) 255) + (wr x4_9))) 255), (L01CurT.mk c_p0.b (wr (c_p0.i + 1)) (wr ((wr (c_p0.h * 6364136223846793005)) + 1442695040888963407)))))
  (some ((and64 (xor64 (shr (wr ((wr (c_p0.h * 6364136223846793005)) + 1442695040888963407)) 33) (shr (wr ((wr (c_p0.h * 6364136223846793005)) + 1442695040888963407)) 45)) 255), (L01CurT.mk c_p0.b c_p0.i (wr ((wr (c_p0.h * 6364136223846793005)) + 1442695040888963407)))))
noncomputable def spec_l01Below (c_p0 : L01CurT) (n_p1 : Int) : Option (Int × L01CurT) :=
  ifO (decide (n_p1 ≤ 0))
  (some (0, c_p0))
  (ifO (decide (n_p1 ≤ 256))
  (Option.bind (spec_l01Byte c_p0) fun (x4_1a, x4_1b) =>
  Option.bind (remO x4_1a n_p1) fun x4_3 =>
  some (x4_3, (L01CurT.mk c_p0.b x4_1b.i x4_1b.h)))
  (Option.bind (spec_l01Byte c_p0) fun (x5_1a, x5_1b) =>
  Option.bind (spec_l01Byte (L01CurT.mk c_p0.b x5_1b.i x5_1b.h)) fun (x6_1a, x6_1b) =>
  Option.bind (spec_l01Byte (L01CurT.mk c_p0.b x6_1b.i x6_1b.h)) fun (x7_1a, x7_1b) =>
  Option.bind (spec_l01Byte (L01CurT.mk c_p0.b x7_1b.i x7_1b.h)) fun (x8_1a, x8_1b) =>
  Option.bind (remO (wr ((wr ((wr ((wr (x5_1a * 16777216)) + (wr (x6_1a * 65536)))) + (wr (x7_1a * 256)))) + x8_1a)) n_p1) fun x9_11 =>
  some (x9_11, (L01CurT.mk c_p0.b x8_1b.i x8_1b.h))))
noncomputable def spec_l18Pick (c_p0 : L01CurT) (list_p1 : List ByteArray) : Option (ByteArray × L01CurT) :=
  Option.bind (spec_l01Below c_p0 (list_p1.length : Int)) fun (x1_4a, x1_4b) =>
  Option.bind (idx list_p1 x1_4a) fun x1_5 =>
  some (x1_5, (L01CurT.mk c_p0.b x1_4b.i x1_4b.h))
noncomputable def spec_l01PickInt (c_p0 : L01CurT) (list_p1 : List Int) : Option (Int × L01CurT) :=
  Option.bind (spec_l01Below c_p0 (list_p1.length : Int)) fun (x1_4a, x1_4b) =>
  Option.bind (idx list_p1 x1_4a) fun x1_5 =>
  some (x1_5, (L01CurT.mk c_p0.b x1_4b.i x1_4b.h))
noncomputable def spec_l16Mode (c_p0 : L01CurT) : Option (ModeT × L01CurT) :=
  Option.bind (spec_l01PickInt c_p0 [1, 25, 100, 1000]) fun (x1_2a, x1_2b) =>
  Option.bind (spec_l01Below (L01CurT.mk c_p0.b x1_2b.i x1_2b.h) 7) fun (x1_4a, x1_4b) =>
  Option.bind (spec_l01Below (L01CurT.mk c_p0.b x1_4b.i x1_4b.h) 4) fun (x1_7a, x1_7b) =>
  Option.bind (spec_l01Below (L01CurT.mk c_p0.b x1_7b.i x1_7b.h) 3) fun (x1_9a, x1_9b) =>
  Option.bind (spec_l01Below (L01CurT.mk c_p0.b x1_9b.i x1_9b.h) 4) fun (x1_12a, x1_12b) =>
  Option.bind (spec_l01Below (L01CurT.mk c_p0.b x1_12b.i x1_12b.h) 6) fun (x1_14a, x1_14b) =>
  Option.bind (spec_l01Below (L01CurT.mk c_p0.b x1_14b.i x1_14b.h) 4) fun (x1_17a, x1_17b) =>
  Option.bind (spec_l01Below (L01CurT.mk c_p0.b x1_17b.i x1_17b.h) 3) fun (x1_19a, x1_19b) =>
  Option.bind (spec_l01Below (L01CurT.mk c_p0.b x1_19b.i x1_19b.h) 4) fun (x1_22a, x1_22b) =>
  some ((ModeT.mk x1_2a (wr (4 + x1_4a)) x1_7a (wr (1 + x1_9a)) x1_12a (wr (3 + x1_14a)) x1_17a (wr (1 + x1_19a)) x1_22a), (L01CurT.mk c_p0.b x1_22b.i x1_22b.h))
noncomputable def spec_l18Monitor_L0 (c_p0 : L01CurT) (c_0 : Int) (c1_0 : Int) (m_0 : List ModeT) (k_0 : Int) : Option ((Int × Int × (List ModeT) × Int) ⊕ ((List ModeT) × Int × Int)) :=
  ifO (decide (0 < k_0))
  (Option.bind (spec_l16Mode (L01CurT.mk c_p0.b c_0 c1_0)) fun (x5_3a, x5_3b) =>
  Option.bind (app m_0 [x5_3a]) fun x5_5 =>
  some (.inl (x5_3b.i, x5_3b.h, x5_5, (wr (k_0 - 1)))))
  (some (.inr (m_0, c_0, c1_0)))
noncomputable def spec_l18Monitor (c_p0 : L01CurT) : Option (MonitorT × L01CurT) :=
  Option.bind (spec_l18Pick c_p0 [(⟨#[77]⟩ : ByteArray), (⟨#[80, 65, 78, 69, 76]⟩ : ByteArray), (⟨#[65, 66, 67, 68, 69, 70, 71, 72]⟩ : ByteArray), (⟨#[126, 33]⟩ : ByteArray)]) fun (x1_2a, x1_2b) =>
  Option.bind (spec_l01PickInt (L01CurT.mk c_p0.b x1_2b.i x1_2b.h) [0, 3, 255]) fun (x1_5a, x1_5b) =>
  Option.bind (spec_l01Below (L01CurT.mk c_p0.b x1_5b.i x1_5b.h) 4) fun (x2_1a, x2_1b) =>
  Option.bind (loopO (fun (c_0, c1_0, m_0, k_0) => spec_l18Monitor_L0 c_p0 c_0 c1_0 m_0 k_0) (x2_1b.i, x2_1b.h, [], (wr (1 + x2_1a)))) fun (m_0e, c_0e, c1_0e) =>
  some ((MonitorT.mk x1_2a m_0e x1_5a), (L01CurT.mk c_p0.b c_0e c1_0e))
noncomputable def spec_DrawMonitor (code_p0 : List Int) : Option MonitorT :=
  Option.bind (spec_l01New code_p0) fun x1_1 =>
  Option.bind (spec_l18Monitor (L01CurT.mk code_p0 x1_1.i x1_1.h)) fun (x1_2a, x1_2b) =>
  some x1_2a
noncomputable def laws_at (code_p0 : List Int) (i_p1 : Int) : Option Int :=
  ifO (decide ((code_p0.length : Int) = 0))
  (some 0)
  (Option.bind (remO (wr ((wr (i_p1 * 5)) + 1)) (code_p0.length : Int)) fun x3_6 =>
  Option.bind (idx code_p0 x3_6) fun x3_7 =>
  some (wr x3_7))
noncomputable def impl_within (n_p0 : Int) (low_p1 : Int) (high_p2 : Int) : Option Bool :=
  some ((decide (low_p1 ≤ n_p0)) && (decide (n_p0 ≤ high_p2)))
noncomputable def impl_isSide (n_p0 : Int) : Option Bool :=
  Option.bind (impl_within n_p0 1 16) fun x1_1 =>
  some x1_1
noncomputable def impl_ModeOk (m_p0 : ModeT) : Option Bool :=
  Option.bind (impl_within m_p0.Clock 1 1000000) fun x1_2 =>
  Option.bind (andO x1_2 (Option.bind (impl_isSide m_p0.W) fun x1_6 =>
  some x1_6)) fun q1_7 =>
  Option.bind (andO q1_7 (Option.bind (impl_isSide m_p0.H) fun x1_11 =>
  some x1_11)) fun q1_12 =>
  Option.bind (andO q1_12 (Option.bind (impl_within m_p0.HSync 1 40) fun x1_16 =>
  some x1_16)) fun q1_17 =>
  Option.bind (andO q1_17 (Option.bind (impl_within m_p0.VSync 1 40) fun x1_21 =>
  some x1_21)) fun q1_22 =>
  Option.bind (andO q1_22 (Option.bind (impl_within m_p0.HFront 0 40) fun x1_26 =>
  some x1_26)) fun q1_27 =>
  Option.bind (andO q1_27 (Option.bind (impl_within m_p0.HBack 0 40) fun x1_31 =>
  some x1_31)) fun q1_32 =>
  Option.bind (andO q1_32 (Option.bind (impl_within m_p0.VFront 0 40) fun x1_36 =>
  some x1_36)) fun q1_37 =>
  Option.bind (andO q1_37 (Option.bind (impl_within m_p0.VBack 0 40) fun x1_41 =>
  some x1_41)) fun q1_42 =>
  some q1_42
noncomputable def impl_MonitorOk_L1 (m_p0 : MonitorT) (v_1 : Int) : Option (Int ⊕ (Unit ⊕ Bool)) :=
  ifO (decide (v_1 < (m_p0.Modes.length : Int)))
  (Option.bind (idx m_p0.Modes v_1) fun x11_0 =>
  Option.bind (impl_ModeOk x11_0) fun x12_1 =>
  ifO (!x12_1)
  (some (.inr (.inr (false))))
  (some (.inl (wr (v_1 + 1)))))
  (some (.inr (.inl ())))
noncomputable def impl_MonitorOk_L0 (m_p0 : MonitorT) (v_0 : Int) : Option (Int ⊕ (Unit ⊕ Bool)) :=
  ifO (decide (v_0 < (m_p0.Name.size : Int)))
  (Option.bind (sidx m_p0.Name v_0) fun x6_3 =>
  Option.bind (impl_within (wr x6_3) 33 126) fun x6_5 =>
  ifO (!x6_5)
  (some (.inr (.inr (false))))
  (some (.inl (wr (v_0 + 1)))))
  (some (.inr (.inl ())))
noncomputable def impl_MonitorOk (m_p0 : MonitorT) : Option Bool :=
  Option.bind (impl_within (m_p0.Name.size : Int) 1 8) fun x1_3 =>
  Option.bind (orO (!x1_3) (Option.bind (impl_within (m_p0.Modes.length : Int) 1 4) fun x1_9 =>
  some (!x1_9))) fun q1_11 =>
  Option.bind (orO q1_11 (Option.bind (impl_within m_p0.Stretch 0 255) fun x1_15 =>
  some (!x1_15))) fun q1_17 =>
  ifO q1_17
  (some false)
  (Option.bind (loopO (fun v_0 => impl_MonitorOk_L0 m_p0 v_0) 0) fun y => fork y (fun () => Option.bind (loopO (fun v_1 => impl_MonitorOk_L1 m_p0 v_1) 0) fun y => fork y (fun () => some true) (fun r => some r)) (fun r => some r))
noncomputable def impl_ChooseMode_L0 (m_p0 : MonitorT) (w_p1 : Int) (h_p2 : Int) (best_0 : ModeT) (v_0 : Int) : Option ((ModeT × Int) ⊕ (ModeT ⊕ (ModeT × Bool))) :=
  ifO (decide (v_0 < (m_p0.Modes.length : Int)))
  (Option.bind (idx m_p0.Modes v_0) fun x6_0 =>
  ifO ((decide (x6_0.W = w_p1)) && (decide (x6_0.H = h_p2)))
  (some (.inr (.inr ((x6_0, true)))))
  (ifO (decide ((wr (best_0.W * best_0.H)) < (wr (x6_0.W * x6_0.H))))
  (some (.inl (x6_0, (wr (v_0 + 1)))))
  (some (.inl (best_0, (wr (v_0 + 1)))))))
  (some (.inr (.inl best_0)))
noncomputable def impl_ChooseMode (m_p0 : MonitorT) (w_p1 : Int) (h_p2 : Int) : Option (ModeT × Bool) :=
  Option.bind (impl_MonitorOk m_p0) fun x1_1 =>
  ifO (!x1_1)
  (some ((ModeT.mk 0 0 0 0 0 0 0 0 0), false))
  (Option.bind (idx m_p0.Modes 0) fun x3_2 =>
  Option.bind (loopO (fun (best_0, v_0) => impl_ChooseMode_L0 m_p0 w_p1 h_p2 best_0 v_0) (x3_2, 0)) fun y => fork y (fun best_0e => some (best_0e, true)) (fun r => some r))
noncomputable def laws_FnChosen_L0 (x3_1 : MonitorT) (x4_1 : Int) (x5_1 : Int) (x6_3a : ModeT) (v_0 : Bool) (v1_0 : Bool) (v2_0 : Int) : Option ((Bool × Bool × Int) ⊕ ((Bool × Bool) ⊕ Bool)) :=
  ifO (decide (v2_0 < (x3_1.Modes.length : Int)))
  (Option.bind (orO v_0 (Option.bind (idx x3_1.Modes v2_0) fun x12_5 =>
  some (decide (x12_5.Clock = x6_3a.Clock) && decide (x12_5.W = x6_3a.W) && decide (x12_5.HFront = x6_3a.HFront) && decide (x12_5.HSync = x6_3a.HSync) && decide (x12_5.HBack = x6_3a.HBack) && decide (x12_5.H = x6_3a.H) && decide (x12_5.VFront = x6_3a.VFront) && decide (x12_5.VSync = x6_3a.VSync) && decide (x12_5.VBack = x6_3a.VBack)))) fun q12_9 =>
  Option.bind (orO v1_0 (Option.bind (idx x3_1.Modes v2_0) fun x13_5 =>
  Option.bind (andO (decide (x13_5.W = (wr (4 + (Int.tmod x4_1 7))))) (Option.bind (idx x3_1.Modes v2_0) fun x13_14 =>
  some (decide (x13_14.H = (wr (3 + (Int.tmod x5_1 6))))))) fun q13_19 =>
  some q13_19)) fun q13_20 =>
  Option.bind (idx x3_1.Modes v2_0) fun x14_3 =>
  Option.bind (idx x3_1.Modes v2_0) fun x14_9 =>
  ifO ((decide ((wr (x6_3a.W * x6_3a.H)) < (wr (x14_3.W * x14_9.H)))) && (!((decide (x6_3a.W = (wr (4 + (Int.tmod x4_1 7))))) && (decide (x6_3a.H = (wr (3 + (Int.tmod x5_1 6))))))))
  (some (.inr (.inr (false))))
  (some (.inl (q12_9, q13_20, (wr (v2_0 + 1))))))
  (some (.inr (.inl (v_0, v1_0))))
noncomputable def laws_FnChosen (a_p0 : List Int) : Option Bool :=
  Option.bind (laws_big a_p0) fun x1_1 =>
  ifO x1_1
  (some true)
  (Option.bind (spec_DrawMonitor a_p0) fun x3_1 =>
  Option.bind (laws_at a_p0 0) fun x4_1 =>
  Option.bind (laws_at a_p0 1) fun x5_1 =>
  Option.bind (impl_ChooseMode x3_1 (wr (4 + (Int.tmod x4_1 7))) (wr (3 + (Int.tmod x5_1 6)))) fun (x6_3a, x6_3b) =>
  Option.bind (loopO (fun (v_0, v1_0, v2_0) => laws_FnChosen_L0 x3_1 x4_1 x5_1 x6_3a v_0 v1_0 v2_0) (false, false, 0)) fun y => fork y (fun (v_0e, v1_0e) => some ((x6_3b && v_0e) && (v1_0e == ((decide (x6_3a.W = (wr (4 + (Int.tmod x4_1 7))))) && (decide (x6_3a.H = (wr (3 + (Int.tmod x5_1 6))))))))) (fun r => some r))
noncomputable def impl_isClock (n_p0 : Int) : Option Bool :=
  Option.bind (impl_within n_p0 1 1000000) fun x1_1 =>
  some x1_1
noncomputable def impl_DividerOk (a_p0 : DividerT) (a_p1 : Int) (a_p2 : Int) (a_p3 : Int) : Option Bool :=
  Option.bind (impl_within a_p0.N 4 64) fun x1_2 =>
  Option.bind (andO x1_2 (Option.bind (impl_within a_p0.M 1 8) fun x1_6 =>
  some x1_6)) fun q1_7 =>
  Option.bind (andO (q1_7 && ((((decide (a_p0.P = 1)) || (decide (a_p0.P = 2))) || (decide (a_p0.P = 4))) || (decide (a_p0.P = 8)))) (Option.bind (impl_isClock a_p1) fun x1_30 =>
  some x1_30)) fun q1_31 =>
  Option.bind (andO q1_31 (Option.bind (impl_isClock a_p2) fun x1_34 =>
  some x1_34)) fun q1_35 =>
  Option.bind (andO q1_35 (Option.bind (impl_isClock a_p3) fun x1_38 =>
  some x1_38)) fun q1_39 =>
  some ((q1_39 && (decide ((wr (a_p2 * a_p0.M)) ≤ (wr (a_p1 * a_p0.N))))) && (decide ((wr (a_p1 * a_p0.N)) ≤ (wr (a_p3 * a_p0.M)))))
noncomputable def impl_ErrorOf (d_p0 : DividerT) (reference_p1 : Int) (target_p2 : Int) : Option Int :=
  Option.bind (impl_within d_p0.N 4 64) fun x1_2 =>
  Option.bind (orO (!x1_2) (Option.bind (impl_within d_p0.M 1 8) fun x1_7 =>
  some (!x1_7))) fun q1_9 =>
  Option.bind (orO q1_9 (Option.bind (impl_within d_p0.P 1 8) fun x1_13 =>
  some (!x1_13))) fun q1_15 =>
  Option.bind (orO q1_15 (Option.bind (impl_isClock reference_p1) fun x1_18 =>
  some (!x1_18))) fun q1_20 =>
  Option.bind (orO q1_20 (Option.bind (impl_isClock target_p2) fun x1_23 =>
  some (!x1_23))) fun q1_25 =>
  ifO q1_25
  (some (-1))
  (some (max (wr ((wr (reference_p1 * d_p0.N)) - (wr ((wr (target_p2 * d_p0.M)) * d_p0.P)))) (wr (0 - (wr ((wr (reference_p1 * d_p0.N)) - (wr ((wr (target_p2 * d_p0.M)) * d_p0.P))))))))
noncomputable def impl_Closer (a_p0 : DividerT) (b_p1 : DividerT) (reference_p2 : Int) (target_p3 : Int) : Option Bool :=
  Option.bind (impl_ErrorOf a_p0 reference_p2 target_p3) fun x1_3 =>
  Option.bind (impl_ErrorOf b_p1 reference_p2 target_p3) fun x1_7 =>
  some (((decide (0 ≤ x1_3)) && (decide (0 ≤ x1_7))) && (decide ((wr ((wr (x1_3 * b_p1.M)) * b_p1.P)) < (wr ((wr (x1_7 * a_p0.M)) * a_p0.P)))))
noncomputable def impl_BestDivider_L2 (reference_p0 : Int) (target_p1 : Int) (low_p2 : Int) (high_p3 : Int) (m_0 : Int) (p_1 : Int) (best_2 : DividerT) (found_2 : Bool) (n_2 : Int) : Option ((DividerT × Bool × Int) ⊕ (DividerT × Bool)) :=
  ifO (decide (n_2 ≤ 64))
  (Option.bind (Option.bind (impl_DividerOk (DividerT.mk n_2 m_0 p_1) reference_p0 low_p2 high_p3) fun x15_4 =>
  Option.bind (andO x15_4 (Option.bind (orO (!found_2) (Option.bind (impl_Closer (DividerT.mk n_2 m_0 p_1) best_2 reference_p0 target_p1) fun x15_13 =>
  some x15_13)) fun q15_14 =>
  some q15_14)) fun q15_15 =>
  ifO q15_15
  (some ((DividerT.mk n_2 m_0 p_1), true))
  (some (best_2, found_2))) fun (best_3j, found_3j) =>
  some (.inl (best_3j, found_3j, (wr (n_2 + 1)))))
  (some (.inr (best_2, found_2)))
noncomputable def impl_BestDivider_L1 (reference_p0 : Int) (target_p1 : Int) (low_p2 : Int) (high_p3 : Int) (m_0 : Int) (best_1 : DividerT) (found_1 : Bool) (p_1 : Int) : Option ((DividerT × Bool × Int) ⊕ (DividerT × Bool)) :=
  ifO (decide (p_1 ≤ 8))
  (Option.bind (loopO (fun (best_2, found_2, n_2) => impl_BestDivider_L2 reference_p0 target_p1 low_p2 high_p3 m_0 p_1 best_2 found_2 n_2) (best_1, found_1, 4)) fun (best_2e, found_2e) =>
  some (.inl (best_2e, found_2e, (wr (p_1 * 2)))))
  (some (.inr (best_1, found_1)))
noncomputable def impl_BestDivider_L0 (reference_p0 : Int) (target_p1 : Int) (low_p2 : Int) (high_p3 : Int) (best_0 : DividerT) (found_0 : Bool) (m_0 : Int) : Option ((DividerT × Bool × Int) ⊕ (DividerT × Bool)) :=
  ifO (decide (m_0 ≤ 8))
  (Option.bind (loopO (fun (best_1, found_1, p_1) => impl_BestDivider_L1 reference_p0 target_p1 low_p2 high_p3 m_0 best_1 found_1 p_1) (best_0, found_0, 1)) fun (best_1e, found_1e) =>
  some (.inl (best_1e, found_1e, (wr (m_0 + 1)))))
  (some (.inr (best_0, found_0)))
noncomputable def impl_BestDivider (reference_p0 : Int) (target_p1 : Int) (low_p2 : Int) (high_p3 : Int) : Option (DividerT × Bool) :=
  Option.bind (impl_isClock target_p1) fun x3_1 =>
  ifO (!x3_1)
  (some ((DividerT.mk 0 0 0), false))
  (Option.bind (loopO (fun (best_0, found_0, m_0) => impl_BestDivider_L0 reference_p0 target_p1 low_p2 high_p3 best_0 found_0 m_0) ((DividerT.mk 0 0 0), false, 1)) fun (best_0e, found_0e) =>
  some (best_0e, found_0e))
noncomputable def spec_l01In (x_p0 : Int) (least_p1 : Int) (most_p2 : Int) : Option Bool :=
  some ((decide (least_p1 ≤ x_p0)) && (decide (x_p0 ≤ most_p2)))
noncomputable def spec_l17Power (p_p0 : Int) : Option Bool :=
  some ((((decide (p_p0 = 1)) || (decide (p_p0 = 2))) || (decide (p_p0 = 4))) || (decide (p_p0 = 8)))
noncomputable def spec_DividerOk (d_p0 : DividerT) (reference_p1 : Int) (low_p2 : Int) (high_p3 : Int) : Option Bool :=
  Option.bind (spec_l01In d_p0.N 4 64) fun x1_2 =>
  Option.bind (orO (!x1_2) (Option.bind (spec_l01In d_p0.M 1 8) fun x1_7 =>
  some (!x1_7))) fun q1_9 =>
  Option.bind (orO q1_9 (Option.bind (spec_l17Power d_p0.P) fun x1_13 =>
  some (!x1_13))) fun q1_15 =>
  Option.bind (orO q1_15 (Option.bind (spec_l01In reference_p1 1 1000000) fun x1_18 =>
  some (!x1_18))) fun q1_20 =>
  Option.bind (orO q1_20 (Option.bind (spec_l01In low_p2 1 1000000) fun x1_23 =>
  some (!x1_23))) fun q1_25 =>
  Option.bind (orO q1_25 (Option.bind (spec_l01In high_p3 1 1000000) fun x1_28 =>
  some (!x1_28))) fun q1_30 =>
  ifO q1_30
  (some false)
  (some ((decide ((wr (low_p2 * d_p0.M)) ≤ (wr (reference_p1 * d_p0.N)))) && (decide ((wr (reference_p1 * d_p0.N)) ≤ (wr (high_p3 * d_p0.M))))))
noncomputable def spec_ErrorOf (d_p0 : DividerT) (reference_p1 : Int) (target_p2 : Int) : Option Int :=
  Option.bind (spec_l01In d_p0.N 4 64) fun x1_2 =>
  Option.bind (orO (!x1_2) (Option.bind (spec_l01In d_p0.M 1 8) fun x1_7 =>
  some (!x1_7))) fun q1_9 =>
  Option.bind (orO q1_9 (Option.bind (spec_l01In d_p0.P 1 8) fun x1_13 =>
  some (!x1_13))) fun q1_15 =>
  Option.bind (orO q1_15 (Option.bind (spec_l01In reference_p1 1 1000000) fun x1_18 =>
  some (!x1_18))) fun q1_20 =>
  Option.bind (orO q1_20 (Option.bind (spec_l01In target_p2 1 1000000) fun x1_23 =>
  some (!x1_23))) fun q1_25 =>
  ifO q1_25
  (some (-1))
  (some (max (wr ((wr (reference_p1 * d_p0.N)) - (wr ((wr (target_p2 * d_p0.M)) * d_p0.P)))) (wr (0 - (wr ((wr (reference_p1 * d_p0.N)) - (wr ((wr (target_p2 * d_p0.M)) * d_p0.P))))))))
noncomputable def spec_Closer (a_p0 : DividerT) (b_p1 : DividerT) (reference_p2 : Int) (target_p3 : Int) : Option Bool :=
  Option.bind (spec_ErrorOf a_p0 reference_p2 target_p3) fun x1_3 =>
  Option.bind (spec_ErrorOf b_p1 reference_p2 target_p3) fun x2_3 =>
  some (((decide (0 ≤ x1_3)) && (decide (0 ≤ x2_3))) && (decide ((wr ((wr (x1_3 * b_p1.M)) * b_p1.P)) < (wr ((wr (x2_3 * a_p0.M)) * a_p0.P)))))
noncomputable def spec_BestDivider_L2 (reference_p0 : Int) (target_p1 : Int) (low_p2 : Int) (high_p3 : Int) (m_0 : Int) (p_1 : Int) (best_2 : DividerT) (found_2 : Bool) (n_2 : Int) : Option ((DividerT × Bool × Int) ⊕ (DividerT × Bool)) :=
  ifO (decide (n_2 ≤ 64))
  (Option.bind (Option.bind (spec_DividerOk (DividerT.mk n_2 m_0 p_1) reference_p0 low_p2 high_p3) fun x13_4 =>
  Option.bind (andO x13_4 (Option.bind (spec_l01In target_p1 1 1000000) fun x13_7 =>
  some x13_7)) fun q13_8 =>
  Option.bind (andO q13_8 (Option.bind (orO (!found_2) (Option.bind (spec_Closer (DividerT.mk n_2 m_0 p_1) best_2 reference_p0 target_p1) fun x13_17 =>
  some x13_17)) fun q13_18 =>
  some q13_18)) fun q13_19 =>
  ifO q13_19
  (some ((DividerT.mk n_2 m_0 p_1), true))
  (some (best_2, found_2))) fun (best_3j, found_3j) =>
  some (.inl (best_3j, found_3j, (wr (n_2 + 1)))))
  (some (.inr (best_2, found_2)))
noncomputable def spec_BestDivider_L1 (reference_p0 : Int) (target_p1 : Int) (low_p2 : Int) (high_p3 : Int) (m_0 : Int) (best_1 : DividerT) (found_1 : Bool) (p_1 : Int) : Option ((DividerT × Bool × Int) ⊕ (DividerT × Bool)) :=
  ifO (decide (p_1 ≤ 8))
  (Option.bind (loopO (fun (best_2, found_2, n_2) => spec_BestDivider_L2 reference_p0 target_p1 low_p2 high_p3 m_0 p_1 best_2 found_2 n_2) (best_1, found_1, 4)) fun (best_2e, found_2e) =>
  some (.inl (best_2e, found_2e, (wr (2 * p_1)))))
  (some (.inr (best_1, found_1)))
noncomputable def spec_BestDivider_L0 (reference_p0 : Int) (target_p1 : Int) (low_p2 : Int) (high_p3 : Int) (best_0 : DividerT) (found_0 : Bool) (m_0 : Int) : Option ((DividerT × Bool × Int) ⊕ (DividerT × Bool)) :=
  ifO (decide (m_0 ≤ 8))
  (Option.bind (loopO (fun (best_1, found_1, p_1) => spec_BestDivider_L1 reference_p0 target_p1 low_p2 high_p3 m_0 best_1 found_1 p_1) (best_0, found_0, 1)) fun (best_1e, found_1e) =>
  some (.inl (best_1e, found_1e, (wr (m_0 + 1)))))
  (some (.inr (best_0, found_0)))
noncomputable def spec_BestDivider (reference_p0 : Int) (target_p1 : Int) (low_p2 : Int) (high_p3 : Int) : Option (DividerT × Bool) :=
  Option.bind (loopO (fun (best_0, found_0, m_0) => spec_BestDivider_L0 reference_p0 target_p1 low_p2 high_p3 best_0 found_0 m_0) ((DividerT.mk 0 0 0), false, 1)) fun (best_0e, found_0e) =>
  some (best_0e, found_0e)
noncomputable def laws_FnBestClock_L0 (a_p0 : List Int) (x3_1 : Int) (x4_1 : Int) (x4_5 : Int) (x5_1 : Int) (x6_1 : Int) (x7_4a : DividerT) (x7_4b : Bool) (v_0 : Int) : Option (Int ⊕ (Unit ⊕ Bool)) :=
  ifO (decide (v_0 < 20))
  (Option.bind (laws_at a_p0 v_0) fun x11_2 =>
  Option.bind (laws_at a_p0 (wr (v_0 + 3))) fun x11_8 =>
  Option.bind (laws_at a_p0 (wr (v_0 + 5))) fun x11_14 =>
  Option.bind (shlO 1 (Int.tmod x11_14 4)) fun x11_16 =>
  Option.bind (impl_DividerOk (DividerT.mk (wr (4 + (Int.tmod x11_2 61))) (wr (1 + (Int.tmod x11_8 8))) x11_16) (wr (1 + (wr (x3_1 * 12)))) (wr (1 + x5_1)) (wr (400 + (wr (x6_1 * 40))))) fun x12_4 =>
  Option.bind (andO x12_4 (Option.bind (orO (!x7_4b) (Option.bind (impl_Closer (DividerT.mk (wr (4 + (Int.tmod x11_2 61))) (wr (1 + (Int.tmod x11_8 8))) x11_16) x7_4a (wr (1 + (wr (x3_1 * 12)))) (wr ((wr (1 + (wr (x4_1 * 20)))) + x4_5))) fun x12_13 =>
  some x12_13)) fun q12_14 =>
  some q12_14)) fun q12_15 =>
  ifO q12_15
  (some (.inr (.inr (false))))
  (some (.inl (wr (v_0 + 1)))))
  (some (.inr (.inl ())))
noncomputable def laws_FnBestClock (a_p0 : List Int) : Option Bool :=
  Option.bind (laws_big a_p0) fun x1_1 =>
  ifO x1_1
  (some true)
  (Option.bind (laws_at a_p0 0) fun x3_1 =>
  Option.bind (laws_at a_p0 1) fun x4_1 =>
  Option.bind (laws_at a_p0 2) fun x4_5 =>
  Option.bind (laws_at a_p0 3) fun x5_1 =>
  Option.bind (laws_at a_p0 4) fun x6_1 =>
  Option.bind (impl_BestDivider (wr (1 + (wr (x3_1 * 12)))) (wr ((wr (1 + (wr (x4_1 * 20)))) + x4_5)) (wr (1 + x5_1)) (wr (400 + (wr (x6_1 * 40))))) fun (x7_4a, x7_4b) =>
  Option.bind (loopO (fun v_0 => laws_FnBestClock_L0 a_p0 x3_1 x4_1 x4_5 x5_1 x6_1 x7_4a x7_4b v_0) 0) fun y => fork y (fun () => Option.bind (spec_BestDivider (wr (1 + (wr (x3_1 * 12)))) (wr ((wr (1 + (wr (x4_1 * 20)))) + x4_5)) (wr (1 + x5_1)) (wr (400 + (wr (x6_1 * 40))))) fun (x14_4a, x14_4b) =>
  Option.bind (andO ((x7_4b == x14_4b) && (decide (x7_4a.N = x14_4a.N) && decide (x7_4a.M = x14_4a.M) && decide (x7_4a.P = x14_4a.P))) (Option.bind (orO (!x7_4b) (Option.bind (impl_DividerOk x7_4a (wr (1 + (wr (x3_1 * 12)))) (wr (1 + x5_1)) (wr (400 + (wr (x6_1 * 40))))) fun x15_16 =>
  some x15_16)) fun q15_17 =>
  some q15_17)) fun q15_18 =>
  Option.bind (andO q15_18 (Option.bind (orO (!x7_4b) (Option.bind (impl_ErrorOf x7_4a (wr (1 + (wr (x3_1 * 12)))) (wr ((wr (1 + (wr (x4_1 * 20)))) + x4_5))) fun x15_26 =>
  Option.bind (spec_ErrorOf x14_4a (wr (1 + (wr (x3_1 * 12)))) (wr ((wr (1 + (wr (x4_1 * 20)))) + x4_5))) fun x15_30 =>
  some (decide (x15_26 = x15_30)))) fun q15_32 =>
  some q15_32)) fun q15_33 =>
  some q15_33) (fun r => some r))
noncomputable def spec_l01Once (c_p0 : L01CurT) (n_p1 : Int) : Option (Bool × L01CurT) :=
  Option.bind (spec_l01Below c_p0 n_p1) fun (x1_2a, x1_2b) =>
  some ((decide (x1_2a = 0)), (L01CurT.mk c_p0.b x1_2b.i x1_2b.h))
noncomputable def spec_l24Lists_L0 (c_p0 : L01CurT) (c_0 : Int) (c1_0 : Int) (a_0 : List Bool) (b_0 : List Bool) (k_0 : Int) : Option ((Int × Int × (List Bool) × (List Bool) × Int) ⊕ ((List Bool) × (List Bool) × Int × Int)) :=
  ifO (decide (0 < k_0))
  (Option.bind (spec_l01Once (L01CurT.mk c_p0.b c_0 c1_0) 3) fun (x6_2a, x6_2b) =>
  Option.bind (app a_0 [x6_2a]) fun x6_4 =>
  Option.bind (spec_l01Below (L01CurT.mk c_p0.b x6_2b.i x6_2b.h) 3) fun (x7_2a, x7_2b) =>
  Option.bind (app b_0 [(decide (0 < x7_2a))]) fun x7_5 =>
  some (.inl (x7_2b.i, x7_2b.h, x6_4, x7_5, (wr (k_0 - 1)))))
  (some (.inr (a_0, b_0, c_0, c1_0)))
noncomputable def spec_l24Lists (c_p0 : L01CurT) : Option ((List Bool) × (List Bool) × L01CurT) :=
  Option.bind (spec_l01Below c_p0 60) fun (x3_1a, x3_1b) =>
  Option.bind (loopO (fun (c_0, c1_0, a_0, b_0, k_0) => spec_l24Lists_L0 c_p0 c_0 c1_0 a_0 b_0 k_0) (x3_1b.i, x3_1b.h, ([] : List Bool), ([] : List Bool), x3_1a)) fun (a_0e, b_0e, c_0e, c1_0e) =>
  some (a_0e, b_0e, (L01CurT.mk c_p0.b c_0e c1_0e))
noncomputable def spec_DrawPace (code_p0 : List Int) : Option (PaceT × (List Bool) × (List Bool)) :=
  Option.bind (spec_l01New code_p0) fun x1_1 =>
  Option.bind (spec_l16Mode (L01CurT.mk code_p0 x1_1.i x1_1.h)) fun (x2_1a, x2_1b) =>
  Option.bind (spec_l01PickInt (L01CurT.mk code_p0 x2_1b.i x2_1b.h) [0, 1, 5]) fun (x2_4a, x2_4b) =>
  Option.bind (spec_l24Lists (L01CurT.mk code_p0 x2_4b.i x2_4b.h)) fun (x3_1a, x3_1b, x3_1c) =>
  some ((PaceT.mk x2_1a x2_4a 0 []), x3_1a, x3_1b)
def slices_Clone_S_int_int (s_p0 : List Int) : Option (List Int) := need (s_p0.length ≤ 1073741824) (some s_p0)
noncomputable def impl_copyPace (p_p0 : PaceT) : Option PaceT :=
  Option.bind (slices_Clone_S_int_int p_p0.Frames) fun x1_2 =>
  some (PaceT.mk p_p0.Mode p_p0.Stretch p_p0.Lines x1_2)
noncomputable def impl_BlankLines (m_p0 : ModeT) : Option Int :=
  Option.bind (impl_ModeOk m_p0) fun x1_1 =>
  ifO (!x1_1)
  (some 0)
  (some (wr ((wr (m_p0.VFront + m_p0.VSync)) + m_p0.VBack)))
noncomputable def impl_shortFrame (p_p0 : PaceT) : Option Int :=
  Option.bind (impl_BlankLines p_p0.Mode) fun x1_5 =>
  some (wr (p_p0.Mode.H + x1_5))
noncomputable def impl_PaceOk_L0 (p_p0 : PaceT) (v_0 : Int) : Option (Int ⊕ (Unit ⊕ Bool)) :=
  ifO (decide (v_0 < (p_p0.Frames.length : Int)))
  (Option.bind (idx p_p0.Frames v_0) fun x5_0 =>
  Option.bind (impl_within x5_0 1 1000) fun x6_1 =>
  ifO (!x6_1)
  (some (.inr (.inr (false))))
  (some (.inl (wr (v_0 + 1)))))
  (some (.inr (.inl ())))
noncomputable def impl_PaceOk (p_p0 : PaceT) : Option Bool :=
  Option.bind (impl_ModeOk p_p0.Mode) fun x1_2 =>
  Option.bind (orO (!x1_2) (Option.bind (impl_within p_p0.Stretch 0 255) fun x1_7 =>
  some (!x1_7))) fun q1_9 =>
  Option.bind (orO q1_9 (Option.bind (impl_shortFrame p_p0) fun x1_14 =>
  Option.bind (impl_within p_p0.Lines 0 (wr ((wr (x1_14 + p_p0.Stretch)) - 1))) fun x1_19 =>
  some (!x1_19))) fun q1_21 =>
  ifO (q1_21 || (decide (1000 < (p_p0.Frames.length : Int))))
  (some false)
  (Option.bind (loopO (fun v_0 => impl_PaceOk_L0 p_p0 v_0) 0) fun y => fork y (fun () => some true) (fun r => some r))
noncomputable def impl_Pace_next (p_p0 : PaceT) (ready_p1 : Bool) (busy_p2 : Bool) : Option (Bool × PaceT) :=
  Option.bind (impl_shortFrame (PaceT.mk p_p0.Mode p_p0.Stretch (wr (p_p0.Lines + 1)) p_p0.Frames)) fun x2_7 =>
  Option.bind (andO (decide ((wr (p_p0.Lines + 1)) < (wr (x2_7 + p_p0.Stretch)))) (Option.bind (impl_shortFrame (PaceT.mk p_p0.Mode p_p0.Stretch (wr (p_p0.Lines + 1)) p_p0.Frames)) fun x2_22 =>
  some ((decide ((wr (p_p0.Lines + 1)) < x2_22)) || ((!ready_p1) && busy_p2)))) fun q2_31 =>
  ifO q2_31
  (some (false, (PaceT.mk p_p0.Mode p_p0.Stretch (wr (p_p0.Lines + 1)) p_p0.Frames)))
  (Option.bind (app p_p0.Frames [(wr (p_p0.Lines + 1))]) fun x4_10 =>
  some (true, (PaceT.mk p_p0.Mode p_p0.Stretch 0 x4_10)))
noncomputable def impl_RunPace_L0 (ready_p1 : List Bool) (busy_p2 : List Bool) (out_0 : Int) (out1_0 : Int) (out2_0 : Int) (out3_0 : Int) (out4_0 : Int) (out5_0 : Int) (out6_0 : Int) (out7_0 : Int) (out8_0 : Int) (out9_0 : Int) (out10_0 : Int) (out11_0 : List Int) (ended_0 : Int) (v_0 : Int) : Option ((Int × Int × Int × Int × Int × Int × Int × Int × Int × Int × Int × (List Int) × Int × Int) ⊕ (Int × Int × Int × Int × Int × Int × Int × Int × Int × Int × Int × (List Int) × Int)) :=
  ifO (decide (v_0 < (min (ready_p1.length : Int) (busy_p2.length : Int))))
  (Option.bind (impl_PaceOk (PaceT.mk (ModeT.mk out_0 out1_0 out2_0 out3_0 out4_0 out5_0 out6_0 out7_0 out8_0) out9_0 out10_0 out11_0)) fun x6_1 =>
  ifO (!x6_1)
  (some (.inr (out_0, out1_0, out2_0, out3_0, out4_0, out5_0, out6_0, out7_0, out8_0, out9_0, out10_0, out11_0, ended_0)))
  (Option.bind (idx ready_p1 v_0) fun x7_2 =>
  Option.bind (idx busy_p2 v_0) fun x7_6 =>
  Option.bind (impl_Pace_next (PaceT.mk (ModeT.mk out_0 out1_0 out2_0 out3_0 out4_0 out5_0 out6_0 out7_0 out8_0) out9_0 out10_0 out11_0) x7_2 x7_6) fun (x7_8a, x7_8b) =>
  ifO x7_8a
  (some (.inl (x7_8b.Mode.Clock, x7_8b.Mode.W, x7_8b.Mode.HFront, x7_8b.Mode.HSync, x7_8b.Mode.HBack, x7_8b.Mode.H, x7_8b.Mode.VFront, x7_8b.Mode.VSync, x7_8b.Mode.VBack, x7_8b.Stretch, x7_8b.Lines, x7_8b.Frames, (wr (ended_0 + 1)), (wr (v_0 + 1)))))
  (some (.inl (x7_8b.Mode.Clock, x7_8b.Mode.W, x7_8b.Mode.HFront, x7_8b.Mode.HSync, x7_8b.Mode.HBack, x7_8b.Mode.H, x7_8b.Mode.VFront, x7_8b.Mode.VSync, x7_8b.Mode.VBack, x7_8b.Stretch, x7_8b.Lines, x7_8b.Frames, ended_0, (wr (v_0 + 1)))))))
  (some (.inr (out_0, out1_0, out2_0, out3_0, out4_0, out5_0, out6_0, out7_0, out8_0, out9_0, out10_0, out11_0, ended_0)))
noncomputable def impl_RunPace (p_p0 : PaceT) (ready_p1 : List Bool) (busy_p2 : List Bool) : Option (PaceT × Int) :=
  Option.bind (impl_copyPace p_p0) fun x1_1 =>
  Option.bind (loopO (fun (out_0, out1_0, out2_0, out3_0, out4_0, out5_0, out6_0, out7_0, out8_0, out9_0, out10_0, out11_0, ended_0, v_0) => impl_RunPace_L0 ready_p1 busy_p2 out_0 out1_0 out2_0 out3_0 out4_0 out5_0 out6_0 out7_0 out8_0 out9_0 out10_0 out11_0 ended_0 v_0) (x1_1.Mode.Clock, x1_1.Mode.W, x1_1.Mode.HFront, x1_1.Mode.HSync, x1_1.Mode.HBack, x1_1.Mode.H, x1_1.Mode.VFront, x1_1.Mode.VSync, x1_1.Mode.VBack, x1_1.Stretch, x1_1.Lines, x1_1.Frames, 0, 0)) fun (out_0e, out1_0e, out2_0e, out3_0e, out4_0e, out5_0e, out6_0e, out7_0e, out8_0e, out9_0e, out10_0e, out11_0e, ended_0e) =>
  some ((PaceT.mk (ModeT.mk out_0e out1_0e out2_0e out3_0e out4_0e out5_0e out6_0e out7_0e out8_0e) out9_0e out10_0e out11_0e), ended_0e)
noncomputable def impl_ShortFrame (p_p0 : PaceT) : Option Int :=
  Option.bind (impl_PaceOk p_p0) fun x1_1 =>
  ifO (!x1_1)
  (some 0)
  (Option.bind (impl_shortFrame p_p0) fun x3_1 =>
  some x3_1)
noncomputable def impl_LongFrame (p_p0 : PaceT) : Option Int :=
  Option.bind (impl_PaceOk p_p0) fun x1_1 =>
  ifO (!x1_1)
  (some 0)
  (Option.bind (impl_shortFrame p_p0) fun x3_1 =>
  some (wr (x3_1 + p_p0.Stretch)))
noncomputable def impl_PaceTime_L0 (p_p0 : PaceT) (n_0 : Int) (v_0 : Int) : Option ((Int × Int) ⊕ Int) :=
  ifO (decide (v_0 < (p_p0.Frames.length : Int)))
  (Option.bind (idx p_p0.Frames v_0) fun x6_0 =>
  some (.inl ((wr (n_0 + x6_0)), (wr (v_0 + 1)))))
  (some (.inr n_0))
noncomputable def impl_PaceTime (p_p0 : PaceT) : Option Int :=
  Option.bind (impl_PaceOk p_p0) fun x1_1 =>
  ifO (!x1_1)
  (some 0)
  (Option.bind (loopO (fun (n_0, v_0) => impl_PaceTime_L0 p_p0 n_0 v_0) (p_p0.Lines, 0)) fun n_0e =>
  some n_0e)
noncomputable def laws_FnPaces_L0 (x3_1a : PaceT) (x4_3a : PaceT) (v_0 : Int) : Option (Int ⊕ (Unit ⊕ Bool)) :=
  ifO (decide (v_0 < (x4_3a.Frames.length : Int)))
  (Option.bind (idx x4_3a.Frames v_0) fun x8_3 =>
  Option.bind (impl_ShortFrame x3_1a) fun x8_6 =>
  Option.bind (orO (decide (x8_3 < x8_6)) (Option.bind (idx x4_3a.Frames v_0) fun x8_12 =>
  Option.bind (impl_LongFrame x3_1a) fun x8_15 =>
  some (decide (x8_15 < x8_12)))) fun q8_17 =>
  ifO q8_17
  (some (.inr (.inr (false))))
  (some (.inl (wr (v_0 + 1)))))
  (some (.inr (.inl ())))
noncomputable def laws_FnPaces (a_p0 : List Int) : Option Bool :=
  Option.bind (laws_big a_p0) fun x1_1 =>
  ifO x1_1
  (some true)
  (Option.bind (spec_DrawPace a_p0) fun (x3_1a, x3_1b, x3_1c) =>
  Option.bind (impl_RunPace x3_1a x3_1b x3_1c) fun (x4_3a, x4_3b) =>
  Option.bind (loopO (fun v_0 => laws_FnPaces_L0 x3_1a x4_3a v_0) 0) fun y => fork y (fun () => Option.bind (andO (decide ((x4_3a.Frames.length : Int) = x4_3b)) (Option.bind (impl_PaceTime x4_3a) fun x10_7 =>
  some (decide (x10_7 = (x3_1b.length : Int))))) fun q10_11 =>
  Option.bind (andO q10_11 (Option.bind (impl_PaceOk x4_3a) fun x10_14 =>
  some x10_14)) fun q10_15 =>
  Option.bind (andO q10_15 (Option.bind (impl_LongFrame x3_1a) fun x10_18 =>
  Option.bind (impl_ShortFrame x3_1a) fun x10_20 =>
  some (decide (x10_18 = (wr (x10_20 + x3_1a.Stretch)))))) fun q10_25 =>
  some q10_25) (fun r => some r))
noncomputable def laws_get (list_p0 : List Int) (i_p1 : Int) : Option Int :=
  ifO ((decide (i_p1 < 0)) || (decide ((list_p0.length : Int) ≤ i_p1)))
  (some (-99))
  (Option.bind (idx list_p0 i_p1) fun x3_2 =>
  some x3_2)
noncomputable def laws_FnPaceReady_L2 (x3_1a : PaceT) (x14_3a : PaceT) (v_2 : Int) : Option (Int ⊕ (Unit ⊕ Bool)) :=
  ifO (decide (v_2 < (x14_3a.Frames.length : Int)))
  (Option.bind (idx x14_3a.Frames v_2) fun x23_3 =>
  Option.bind (impl_LongFrame x3_1a) fun x23_6 =>
  ifO (!decide (x23_3 = x23_6))
  (some (.inr (.inr (false))))
  (some (.inl (wr (v_2 + 1)))))
  (some (.inr (.inl ())))
noncomputable def laws_FnPaceReady_L1 (x3_1a : PaceT) (x12_3a : PaceT) (x13_3a : PaceT) (v_1 : Int) : Option (Int ⊕ (Unit ⊕ Bool)) :=
  ifO (decide (v_1 < (x12_3a.Frames.length : Int)))
  (Option.bind (idx x12_3a.Frames v_1) fun x18_3 =>
  Option.bind (impl_ShortFrame x3_1a) fun x18_6 =>
  Option.bind (orO (!decide (x18_3 = x18_6)) (Option.bind (laws_get x13_3a.Frames v_1) fun x18_12 =>
  Option.bind (idx x12_3a.Frames v_1) fun x18_16 =>
  some (!decide (x18_12 = x18_16)))) fun q18_19 =>
  ifO q18_19
  (some (.inr (.inr (false))))
  (some (.inl (wr (v_1 + 1)))))
  (some (.inr (.inl ())))
noncomputable def laws_FnPaceReady_L0 (x4_1 : Int) (v_0 : List Bool) (v1_0 : List Bool) (v2_0 : Int) : Option (((List Bool) × (List Bool) × Int) ⊕ ((List Bool) × (List Bool))) :=
  ifO (decide (v2_0 < (wr (3 * x4_1))))
  (Option.bind (app v_0 [true]) fun x10_2 =>
  Option.bind (app v1_0 [false]) fun x11_2 =>
  some (.inl (x10_2, x11_2, (wr (v2_0 + 1)))))
  (some (.inr (v_0, v1_0)))
noncomputable def laws_FnPaceReady (a_p0 : List Int) : Option Bool :=
  Option.bind (laws_big a_p0) fun x1_1 =>
  ifO x1_1
  (some true)
  (Option.bind (spec_DrawPace a_p0) fun (x3_1a, x3_1b, x3_1c) =>
  Option.bind (impl_LongFrame x3_1a) fun x4_1 =>
  Option.bind (loopO (fun (v_0, v1_0, v2_0) => laws_FnPaceReady_L0 x4_1 v_0 v1_0 v2_0) (([] : List Bool), ([] : List Bool), 0)) fun (v_0e, v1_0e) =>
  Option.bind (impl_RunPace x3_1a v_0e v_0e) fun (x12_3a, x12_3b) =>
  Option.bind (impl_RunPace x3_1a v1_0e v1_0e) fun (x13_3a, x13_3b) =>
  Option.bind (impl_RunPace x3_1a v1_0e v_0e) fun (x14_3a, x14_3b) =>
  Option.bind (loopO (fun v_1 => laws_FnPaceReady_L1 x3_1a x12_3a x13_3a v_1) 0) fun y => fork y (fun () => Option.bind (loopO (fun v_2 => laws_FnPaceReady_L2 x3_1a x14_3a v_2) 0) fun y => fork y (fun () => some ((decide ((x14_3a.Frames.length : Int) = 3)) && (decide (3 ≤ (x12_3a.Frames.length : Int))))) (fun r => some r)) (fun r => some r))
noncomputable def laws_szModeS (a_p0 : List ModeT) (left_p1 : Int) : Option Int :=
  ifO (decide ((wr (left_p1 - (a_p0.length : Int))) < 0))
  (some (-1))
  (some (wr (left_p1 - (a_p0.length : Int))))
noncomputable def laws_szMonitor (a_p0 : MonitorT) (left_p1 : Int) : Option Int :=
  ifO (decide ((wr (left_p1 - (a_p0.Name.size : Int))) < 0))
  (some (-1))
  (Option.bind (laws_szModeS a_p0.Modes (wr (left_p1 - (a_p0.Name.size : Int)))) fun x4_3 =>
  ifO (decide (x4_3 < 0))
  (some (-1))
  (some x4_3))
noncomputable def laws_toMode (a_p0 : ModeT) : Option ModeT :=
  some a_p0
noncomputable def laws_toModeS_L0 (a_p0 : List ModeT) (out_0 : List ModeT) (i_0 : Int) : Option (((List ModeT) × Int) ⊕ (List ModeT)) :=
  ifO (decide (i_0 < (a_p0.length : Int)))
  (Option.bind (idx a_p0 i_0) fun x5_4 =>
  Option.bind (laws_toMode x5_4) fun x5_6 =>
  Option.bind (upd out_0 i_0 x5_6) fun x5_8 =>
  some (.inl (x5_8, (wr (i_0 + 1)))))
  (some (.inr out_0))
noncomputable def laws_toModeS (a_p0 : List ModeT) : Option (List ModeT) :=
  Option.bind (mkO (a_p0.length : Int) (ModeT.mk 0 0 0 0 0 0 0 0 0)) fun x1_2 =>
  Option.bind (loopO (fun (out_0, i_0) => laws_toModeS_L0 a_p0 out_0 i_0) (x1_2, 0)) fun out_0e =>
  some out_0e
noncomputable def laws_toMonitor (a_p0 : MonitorT) : Option MonitorT :=
  Option.bind (laws_toModeS a_p0.Modes) fun x3_2 =>
  some (MonitorT.mk a_p0.Name x3_2 a_p0.Stretch)
noncomputable def spec_ModeOk (m_p0 : ModeT) : Option Bool :=
  Option.bind (spec_l01In m_p0.Clock 1 1000000) fun x1_2 =>
  Option.bind (andO x1_2 (Option.bind (spec_l01In m_p0.W 1 16) fun x1_6 =>
  some x1_6)) fun q1_7 =>
  Option.bind (andO q1_7 (Option.bind (spec_l01In m_p0.H 1 16) fun x1_11 =>
  some x1_11)) fun q1_12 =>
  Option.bind (andO q1_12 (Option.bind (spec_l01In m_p0.HSync 1 40) fun x1_16 =>
  some x1_16)) fun q1_17 =>
  Option.bind (andO q1_17 (Option.bind (spec_l01In m_p0.VSync 1 40) fun x1_21 =>
  some x1_21)) fun q1_22 =>
  Option.bind (andO q1_22 (Option.bind (spec_l01In m_p0.HFront 0 40) fun x1_26 =>
  some x1_26)) fun q1_27 =>
  Option.bind (andO q1_27 (Option.bind (spec_l01In m_p0.HBack 0 40) fun x1_31 =>
  some x1_31)) fun q1_32 =>
  Option.bind (andO q1_32 (Option.bind (spec_l01In m_p0.VFront 0 40) fun x1_36 =>
  some x1_36)) fun q1_37 =>
  Option.bind (andO q1_37 (Option.bind (spec_l01In m_p0.VBack 0 40) fun x1_41 =>
  some x1_41)) fun q1_42 =>
  some q1_42
noncomputable def spec_MonitorOk_L1 (m_p0 : MonitorT) (k_1 : Int) : Option (Int ⊕ (Unit ⊕ Bool)) :=
  ifO (decide (k_1 < (m_p0.Modes.length : Int)))
  (Option.bind (idx m_p0.Modes k_1) fun x11_3 =>
  Option.bind (spec_ModeOk x11_3) fun x11_5 =>
  ifO (!x11_5)
  (some (.inr (.inr (false))))
  (some (.inl (wr (k_1 + 1)))))
  (some (.inr (.inl ())))
noncomputable def spec_MonitorOk_L0 (m_p0 : MonitorT) (k_0 : Int) : Option (Int ⊕ (Unit ⊕ Bool)) :=
  ifO (decide (k_0 < (m_p0.Name.size : Int)))
  (Option.bind (sidx m_p0.Name k_0) fun x6_3 =>
  Option.bind (orO (decide (x6_3 < 33)) (Option.bind (sidx m_p0.Name k_0) fun x6_9 =>
  some (decide (126 < x6_9)))) fun q6_11 =>
  ifO q6_11
  (some (.inr (.inr (false))))
  (some (.inl (wr (k_0 + 1)))))
  (some (.inr (.inl ())))
noncomputable def spec_MonitorOk (m_p0 : MonitorT) : Option Bool :=
  Option.bind (spec_l01In (m_p0.Name.size : Int) 1 8) fun x1_3 =>
  Option.bind (orO (!x1_3) (Option.bind (spec_l01In (m_p0.Modes.length : Int) 1 4) fun x1_9 =>
  some (!x1_9))) fun q1_11 =>
  Option.bind (orO q1_11 (Option.bind (spec_l01In m_p0.Stretch 0 255) fun x1_15 =>
  some (!x1_15))) fun q1_17 =>
  ifO q1_17
  (some false)
  (Option.bind (loopO (fun k_0 => spec_MonitorOk_L0 m_p0 k_0) 0) fun y => fork y (fun () => Option.bind (loopO (fun k_1 => spec_MonitorOk_L1 m_p0 k_1) 0) fun y => fork y (fun () => some true) (fun r => some r)) (fun r => some r))
noncomputable def spec_ByteSum_L0 (s_p0 : ByteArray) (n_0 : Int) (k_0 : Int) : Option ((Int × Int) ⊕ Int) :=
  ifO (decide (k_0 < (s_p0.size : Int)))
  (Option.bind (sidx s_p0 k_0) fun x5_3 =>
  some (.inl ((Int.tmod (wr (n_0 + (wr x5_3))) 256), (wr (k_0 + 1)))))
  (some (.inr n_0))
noncomputable def spec_ByteSum (s_p0 : ByteArray) : Option Int :=
  Option.bind (loopO (fun (n_0, k_0) => spec_ByteSum_L0 s_p0 n_0 k_0) (0, 0)) fun n_0e =>
  some n_0e
noncomputable def spec_BuildDescriptor_L0 (a_p0 : MonitorT) (v_0 : List Int) (v1_0 : Int) : Option (((List Int) × Int) ⊕ (List Int)) :=
  ifO (decide (v1_0 < (a_p0.Modes.length : Int)))
  (Option.bind (idx a_p0.Modes v1_0) fun x9_3 =>
  Option.bind (app v_0 [(b8 (shr x9_3.Clock 16)), (b8 (shr x9_3.Clock 8)), (b8 x9_3.Clock), (b8 x9_3.W), (b8 x9_3.HFront), (b8 x9_3.HSync), (b8 x9_3.HBack), (b8 x9_3.H), (b8 x9_3.VFront), (b8 x9_3.VSync), (b8 x9_3.VBack)]) fun x10_37 =>
  some (.inl (x10_37, (wr (v1_0 + 1)))))
  (some (.inr v_0))
noncomputable def spec_BuildDescriptor (a_p0 : MonitorT) : Option (ByteArray × Bool) :=
  Option.bind (spec_MonitorOk a_p0) fun x1_1 =>
  ifO (!x1_1)
  (some ((⟨#[]⟩ : ByteArray), false))
  (need (a_p0.Name.size ≤ 1073741824) <|
  Option.bind (app [0, 255, 255, 0, (b8 (a_p0.Name.size : Int))] (bytesL a_p0.Name)) fun x4_4 =>
  Option.bind (app x4_4 [(b8 a_p0.Stretch), (b8 (a_p0.Modes.length : Int))]) fun x5_9 =>
  Option.bind (loopO (fun (v_0, v1_0) => spec_BuildDescriptor_L0 a_p0 v_0 v1_0) (x5_9, 0)) fun v_0e =>
  Option.bind (spec_ByteSum (strB v_0e)) fun x12_2 =>
  Option.bind (sapp (strB v_0e) (strB [(b8 (wr (256 - x12_2)))])) fun x12_7 =>
  some (x12_7, true))
noncomputable def impl_modeNumbers (m_p0 : ModeT) : Option (Unit × ModeT) :=
  some ((), m_p0)
noncomputable def impl_ByteSum_L0 (s_p0 : ByteArray) (n_0 : Int) (v_0 : Int) : Option ((Int × Int) ⊕ Int) :=
  ifO (decide (v_0 < (s_p0.size : Int)))
  (Option.bind (sidx s_p0 v_0) fun x5_3 =>
  some (.inl ((wr (n_0 + (wr x5_3))), (wr (v_0 + 1)))))
  (some (.inr n_0))
noncomputable def impl_ByteSum (s_p0 : ByteArray) : Option Int :=
  Option.bind (loopO (fun (n_0, v_0) => impl_ByteSum_L0 s_p0 n_0 v_0) (0, 0)) fun n_0e =>
  some (Int.tmod n_0e 256)
noncomputable def impl_BuildDescriptor_L0 (a_p0 : MonitorT) (v_0 : List Int) (v1_0 : Int) : Option (((List Int) × Int) ⊕ (List Int)) :=
  ifO (decide (v1_0 < (a_p0.Modes.length : Int)))
  (Option.bind (idx a_p0.Modes v1_0) fun x7_0 =>
  Option.bind (app v_0 [(b8 (shr x7_0.Clock 16)), (b8 (shr x7_0.Clock 8)), (b8 x7_0.Clock)]) fun x8_13 =>
  Option.bind (impl_modeNumbers x7_0) fun (x9_0a, x9_0b) =>
  Option.bind (app x8_13 [(b8 x9_0b.W)]) fun x12r1_6 =>
  Option.bind (app x12r1_6 [(b8 x9_0b.HFront)]) fun x12r2_6 =>
  Option.bind (app x12r2_6 [(b8 x9_0b.HSync)]) fun x12r3_6 =>
  Option.bind (app x12r3_6 [(b8 x9_0b.HBack)]) fun x12r4_6 =>
  Option.bind (app x12r4_6 [(b8 x9_0b.H)]) fun x12r5_6 =>
  Option.bind (app x12r5_6 [(b8 x9_0b.VFront)]) fun x12r6_6 =>
  Option.bind (app x12r6_6 [(b8 x9_0b.VSync)]) fun x12r7_6 =>
  Option.bind (app x12r7_6 [(b8 x9_0b.VBack)]) fun x12r8_6 =>
  some (.inl (x12r8_6, (wr (v1_0 + 1)))))
  (some (.inr v_0))
noncomputable def impl_BuildDescriptor (a_p0 : MonitorT) : Option (ByteArray × Bool) :=
  Option.bind (impl_MonitorOk a_p0) fun x1_1 =>
  ifO (!x1_1)
  (some ((⟨#[]⟩ : ByteArray), false))
  (Option.bind (app [0, 255, 255, 0, (b8 (a_p0.Name.size : Int))] (bytesL a_p0.Name)) fun x3_7 =>
  Option.bind (app x3_7 [(b8 a_p0.Stretch), (b8 (a_p0.Modes.length : Int))]) fun x4_9 =>
  Option.bind (loopO (fun (v_0, v1_0) => impl_BuildDescriptor_L0 a_p0 v_0 v1_0) (x4_9, 0)) fun v_0e =>
  Option.bind (impl_ByteSum (strB v_0e)) fun x15_3 =>
  Option.bind (app v_0e [(b8 (wr (0 - x15_3)))]) fun x15_7 =>
  some ((strB x15_7), true))
noncomputable def laws_eqMode (a_p0 : ModeT) (b_p1 : ModeT) : Option Bool :=
  ifO (!decide (a_p0.Clock = b_p1.Clock))
  (some false)
  (ifO (!decide (a_p0.W = b_p1.W))
  (some false)
  (ifO (!decide (a_p0.HFront = b_p1.HFront))
  (some false)
  (ifO (!decide (a_p0.HSync = b_p1.HSync))
  (some false)
  (ifO (!decide (a_p0.HBack = b_p1.HBack))
  (some false)
  (ifO (!decide (a_p0.H = b_p1.H))
  (some false)
  (ifO (!decide (a_p0.VFront = b_p1.VFront))
  (some false)
  (ifO (!decide (a_p0.VSync = b_p1.VSync))
  (some false)
  (ifO (!decide (a_p0.VBack = b_p1.VBack))
  (some false)
  (some true)))))))))
noncomputable def laws_eqModeS_L0 (a_p0 : List ModeT) (b_p1 : List ModeT) (i_0 : Int) : Option (Int ⊕ (Unit ⊕ Bool)) :=
  ifO (decide (i_0 < (a_p0.length : Int)))
  (Option.bind (idx a_p0 i_0) fun x6_2 =>
  Option.bind (idx b_p1 i_0) fun x6_6 =>
  Option.bind (laws_eqMode x6_2 x6_6) fun x6_8 =>
  ifO (!x6_8)
  (some (.inr (.inr (false))))
  (some (.inl (wr (i_0 + 1)))))
  (some (.inr (.inl ())))
noncomputable def laws_eqModeS (a_p0 : List ModeT) (b_p1 : List ModeT) : Option Bool :=
  ifO (!decide ((a_p0.length : Int) = (b_p1.length : Int)))
  (some false)
  (Option.bind (loopO (fun i_0 => laws_eqModeS_L0 a_p0 b_p1 i_0) 0) fun y => fork y (fun () => some true) (fun r => some r))
noncomputable def laws_eqMonitor (a_p0 : MonitorT) (b_p1 : MonitorT) : Option Bool :=
  ifO (!(decide (a_p0.Name = b_p1.Name)))
  (some false)
  (Option.bind (laws_eqModeS a_p0.Modes b_p1.Modes) fun x3_4 =>
  ifO (!x3_4)
  (some false)
  (ifO (!decide (a_p0.Stretch = b_p1.Stretch))
  (some false)
  (some true)))
noncomputable def laws_FnExactBuildDescriptor (aM_p0 : MonitorT) : Option Bool :=
  Option.bind (laws_szMonitor aM_p0 1048576) fun x2_2 =>
  ifO (decide (x2_2 < 0))
  (some true)
  (Option.bind (laws_toMonitor aM_p0) fun x5_1 =>
  Option.bind (spec_BuildDescriptor x5_1) fun (x5_2a, x5_2b) =>
  Option.bind (laws_toMonitor aM_p0) fun x6_1 =>
  Option.bind (impl_BuildDescriptor x6_1) fun (x7_1a, x7_1b) =>
  ifO ((!(decide (x7_1a = x5_2a))) || (!(x7_1b == x5_2b)))
  (some false)
  (Option.bind (laws_toMonitor aM_p0) fun x10_2 =>
  Option.bind (laws_eqMonitor x6_1 x10_2) fun x10_3 =>
  ifO (!x10_3)
  (some false)
  (some true)))
noncomputable def spec_ParseDescriptor_L0 (a_p0 : ByteArray) (x_0 : List ModeT) (v_0 : Int) : Option (((List ModeT) × Int) ⊕ (List ModeT)) :=
  ifO ((decide ((wr (v_0 + 11)) < (a_p0.size : Int))) && (decide ((x_0.length : Int) < 4)))
  (Option.bind (sidx a_p0 v_0) fun x8_4 =>
  Option.bind (sidx a_p0 (wr (v_0 + 1))) fun x8_10 =>
  Option.bind (sidx a_p0 (wr (v_0 + 2))) fun x8_17 =>
  Option.bind (sidx a_p0 (wr (v_0 + 3))) fun x8_23 =>
  Option.bind (sidx a_p0 (wr (v_0 + 4))) fun x8_28 =>
  Option.bind (sidx a_p0 (wr (v_0 + 5))) fun x8_33 =>
  Option.bind (sidx a_p0 (wr (v_0 + 6))) fun x8_38 =>
  Option.bind (sidx a_p0 (wr (v_0 + 7))) fun x8_43 =>
  Option.bind (sidx a_p0 (wr (v_0 + 8))) fun x8_48 =>
  Option.bind (sidx a_p0 (wr (v_0 + 9))) fun x8_53 =>
  Option.bind (sidx a_p0 (wr (v_0 + 10))) fun x8_58 =>
  Option.bind (app x_0 [(ModeT.mk (wr ((wr ((shl (wr x8_4) 16) + (shl (wr x8_10) 8))) + (wr x8_17))) (wr x8_23) (wr x8_28) (wr x8_33) (wr x8_38) (wr x8_43) (wr x8_48) (wr x8_53) (wr x8_58))]) fun x8_62 =>
  some (.inl (x8_62, (wr (v_0 + 11)))))
  (some (.inr x_0))
noncomputable def spec_ParseDescriptor (a_p0 : ByteArray) : Option (MonitorT × Bool) :=
  Option.bind (orO (decide ((a_p0.size : Int) < 8)) (Option.bind (sidx a_p0 4) fun x1_7 =>
  some (decide ((a_p0.size : Int) < (wr (8 + (wr x1_7))))))) fun q1_11 =>
  ifO q1_11
  (some ((MonitorT.mk (⟨#[]⟩ : ByteArray) [] 0), false))
  (Option.bind (sidx a_p0 4) fun x3_1 =>
  Option.bind (ssub a_p0 5 (wr (5 + (wr x3_1)))) fun x4_2 =>
  Option.bind (sidx a_p0 (wr (5 + (wr x3_1)))) fun x4_5 =>
  Option.bind (loopO (fun (x_0, v_0) => spec_ParseDescriptor_L0 a_p0 x_0 v_0) ([], (wr ((wr (5 + (wr x3_1))) + 2)))) fun x_0e =>
  Option.bind (spec_BuildDescriptor (MonitorT.mk x4_2 x_0e (wr x4_5))) fun (x9_1a, x9_1b) =>
  ifO ((!x9_1b) || (!(decide (x9_1a = a_p0))))
  (some ((MonitorT.mk (⟨#[]⟩ : ByteArray) [] 0), false))
  (some ((MonitorT.mk x4_2 x_0e (wr x4_5)), true)))
noncomputable def impl_readDescriptor_L0 (x6_3 : Int) (x_0 : List ModeT) (v_0 : ByteArray) (v1_0 : Int) : Option (((List ModeT) × ByteArray × Int) ⊕ ((List ModeT) ⊕ (MonitorT × Bool))) :=
  ifO (decide (v1_0 < (wr x6_3)))
  (ifO (decide ((v_0.size : Int) < 11))
  (some (.inr (.inr (((MonitorT.mk (⟨#[]⟩ : ByteArray) [] 0), false)))))
  (Option.bind (sidx v_0 0) fun x10_1 =>
  Option.bind (sidx v_0 1) fun x10_5 =>
  Option.bind (sidx v_0 2) fun x10_10 =>
  Option.bind (impl_modeNumbers (ModeT.mk (or64 (or64 (shl (wr x10_1) 16) (shl (wr x10_5) 8)) (wr x10_10)) 0 0 0 0 0 0 0 0)) fun (x11_0a, x11_0b) =>
  Option.bind (sidx v_0 3) fun x14r1_4 =>
  Option.bind (sidx v_0 4) fun x14r2_4 =>
  Option.bind (sidx v_0 5) fun x14r3_4 =>
  Option.bind (sidx v_0 6) fun x14r4_4 =>
  Option.bind (sidx v_0 7) fun x14r5_4 =>
  Option.bind (sidx v_0 8) fun x14r6_4 =>
  Option.bind (sidx v_0 9) fun x14r7_4 =>
  Option.bind (sidx v_0 10) fun x14r8_4 =>
  Option.bind (app x_0 [(ModeT.mk x11_0b.Clock (wr x14r1_4) (wr x14r2_4) (wr x14r3_4) (wr x14r4_4) (wr x14r5_4) (wr x14r6_4) (wr x14r7_4) (wr x14r8_4))]) fun x16_4 =>
  Option.bind (ssub v_0 11 v_0.size) fun x17_1 =>
  some (.inl (x16_4, x17_1, (wr (v1_0 + 1))))))
  (some (.inr (.inl x_0)))
noncomputable def impl_readDescriptor (a_p0 : ByteArray) : Option (MonitorT × Bool) :=
  Option.bind (orO (decide ((a_p0.size : Int) < 5)) (Option.bind (sidx a_p0 4) fun x1_7 =>
  some (decide ((a_p0.size : Int) < (wr (7 + (wr x1_7))))))) fun q1_11 =>
  ifO q1_11
  (some ((MonitorT.mk (⟨#[]⟩ : ByteArray) [] 0), false))
  (Option.bind (sidx a_p0 4) fun x3_1 =>
  Option.bind (ssub a_p0 5 (wr (5 + (wr x3_1)))) fun x4_2 =>
  Option.bind (sidx a_p0 (wr (5 + (wr x3_1)))) fun x4_5 =>
  Option.bind (ssub a_p0 (wr ((wr (5 + (wr x3_1))) + 2)) a_p0.size) fun x5_3 =>
  Option.bind (sidx a_p0 (wr ((wr (5 + (wr x3_1))) + 1))) fun x6_3 =>
  Option.bind (loopO (fun (x_0, v_0, v1_0) => impl_readDescriptor_L0 x6_3 x_0 v_0 v1_0) ([], x5_3, 0)) fun y => fork y (fun x_0e => some ((MonitorT.mk x4_2 x_0e (wr x4_5)), true)) (fun r => some r))
noncomputable def impl_ParseDescriptor (s_p0 : ByteArray) : Option (MonitorT × Bool) :=
  Option.bind (impl_readDescriptor s_p0) fun (x1_1a, x1_1b) =>
  ifO (!x1_1b)
  (some ((MonitorT.mk (⟨#[]⟩ : ByteArray) [] 0), false))
  (Option.bind (impl_BuildDescriptor x1_1a) fun (x4_1a, x4_1b) =>
  ifO ((!x4_1b) || (!(decide (x4_1a = s_p0))))
  (some ((MonitorT.mk (⟨#[]⟩ : ByteArray) [] 0), false))
  (some (x1_1a, true)))
noncomputable def laws_markModeS_L0  (v_0 : List ModeT) (v1_0 : Int) (v2_0 : Int) : Option (((List ModeT) × Int × Int) ⊕ (Int × (List ModeT))) :=
  ifO (decide (v2_0 < (v_0.length : Int)))
  (Option.bind (idx v_0 v2_0) fun x4_3 =>
  Option.bind (upd v_0 v2_0 (ModeT.mk v1_0 x4_3.W x4_3.HFront x4_3.HSync x4_3.HBack x4_3.H x4_3.VFront x4_3.VSync x4_3.VBack)) fun x4_5 =>
  Option.bind (idx x4_5 v2_0) fun x6_3 =>
  Option.bind (upd x4_5 v2_0 (ModeT.mk x6_3.Clock (wr (v1_0 + 1)) x6_3.HFront x6_3.HSync x6_3.HBack x6_3.H x6_3.VFront x6_3.VSync x6_3.VBack)) fun x6_5 =>
  Option.bind (idx x6_5 v2_0) fun x8_3 =>
  Option.bind (upd x6_5 v2_0 (ModeT.mk x8_3.Clock x8_3.W (wr ((wr (v1_0 + 1)) + 1)) x8_3.HSync x8_3.HBack x8_3.H x8_3.VFront x8_3.VSync x8_3.VBack)) fun x8_5 =>
  Option.bind (idx x8_5 v2_0) fun x10_3 =>
  Option.bind (upd x8_5 v2_0 (ModeT.mk x10_3.Clock x10_3.W x10_3.HFront (wr ((wr ((wr (v1_0 + 1)) + 1)) + 1)) x10_3.HBack x10_3.H x10_3.VFront x10_3.VSync x10_3.VBack)) fun x10_5 =>
  Option.bind (idx x10_5 v2_0) fun x12_3 =>
  Option.bind (upd x10_5 v2_0 (ModeT.mk x12_3.Clock x12_3.W x12_3.HFront x12_3.HSync (wr ((wr ((wr ((wr (v1_0 + 1)) + 1)) + 1)) + 1)) x12_3.H x12_3.VFront x12_3.VSync x12_3.VBack)) fun x12_5 =>
  Option.bind (idx x12_5 v2_0) fun x14_3 =>
  Option.bind (upd x12_5 v2_0 (ModeT.mk x14_3.Clock x14_3.W x14_3.HFront x14_3.HSync x14_3.HBack (wr ((wr ((wr ((wr ((wr (v1_0 + 1)) + 1)) + 1)) + 1)) + 1)) x14_3.VFront x14_3.VSync x14_3.VBack)) fun x14_5 =>
  Option.bind (idx x14_5 v2_0) fun x16_3 =>
  Option.bind (upd x14_5 v2_0 (ModeT.mk x16_3.Clock x16_3.W x16_3.HFront x16_3.HSync x16_3.HBack x16_3.H (wr ((wr ((wr ((wr ((wr ((wr (v1_0 + 1)) + 1)) + 1)) + 1)) + 1)) + 1)) x16_3.VSync x16_3.VBack)) fun x16_5 =>
  Option.bind (idx x16_5 v2_0) fun x18_3 =>
  Option.bind (upd x16_5 v2_0 (ModeT.mk x18_3.Clock x18_3.W x18_3.HFront x18_3.HSync x18_3.HBack x18_3.H x18_3.VFront (wr ((wr ((wr ((wr ((wr ((wr ((wr (v1_0 + 1)) + 1)) + 1)) + 1)) + 1)) + 1)) + 1)) x18_3.VBack)) fun x18_5 =>
  Option.bind (idx x18_5 v2_0) fun x20_3 =>
  Option.bind (upd x18_5 v2_0 (ModeT.mk x20_3.Clock x20_3.W x20_3.HFront x20_3.HSync x20_3.HBack x20_3.H x20_3.VFront x20_3.VSync (wr ((wr ((wr ((wr ((wr ((wr ((wr ((wr (v1_0 + 1)) + 1)) + 1)) + 1)) + 1)) + 1)) + 1)) + 1)))) fun x20_5 =>
  some (.inl (x20_5, (wr ((wr ((wr ((wr ((wr ((wr ((wr ((wr ((wr (v1_0 + 1)) + 1)) + 1)) + 1)) + 1)) + 1)) + 1)) + 1)) + 1)), (wr (v2_0 + 1)))))
  (some (.inr (v1_0, v_0)))
noncomputable def laws_markModeS (a_p0 : List ModeT) (a_p1 : Int) : Option (Int × (List ModeT)) :=
  Option.bind (loopO (fun (v_0, v1_0, v2_0) => laws_markModeS_L0 v_0 v1_0 v2_0) (a_p0, a_p1, 0)) fun (v_0e, p_0e) =>
  some (v_0e, p_0e)
noncomputable def laws_markMonitor (a_p0 : MonitorT) (k_p1 : Int) : Option (Int × (List ModeT)) :=
  Option.bind (laws_markModeS a_p0.Modes k_p1) fun (x1_3a, x1_3b) =>
  some (x1_3a, x1_3b)
noncomputable def laws_heldModeS_L0 (a_p0 : List ModeT) (v_0 : Int) (v1_0 : Int) : Option ((Int × Int) ⊕ (Int ⊕ Int)) :=
  ifO (decide (v1_0 < (a_p0.length : Int)))
  (Option.bind (idx a_p0 v1_0) fun x4_2 =>
  ifO (!decide (x4_2.Clock = v_0))
  (some (.inr (.inr ((-1)))))
  (Option.bind (idx a_p0 v1_0) fun x7_2 =>
  ifO (!decide (x7_2.W = (wr (v_0 + 1))))
  (some (.inr (.inr ((-1)))))
  (Option.bind (idx a_p0 v1_0) fun x10_2 =>
  ifO (!decide (x10_2.HFront = (wr ((wr (v_0 + 1)) + 1))))
  (some (.inr (.inr ((-1)))))
  (Option.bind (idx a_p0 v1_0) fun x13_2 =>
  ifO (!decide (x13_2.HSync = (wr ((wr ((wr (v_0 + 1)) + 1)) + 1))))
  (some (.inr (.inr ((-1)))))
  (Option.bind (idx a_p0 v1_0) fun x16_2 =>
  ifO (!decide (x16_2.HBack = (wr ((wr ((wr ((wr (v_0 + 1)) + 1)) + 1)) + 1))))
  (some (.inr (.inr ((-1)))))
  (Option.bind (idx a_p0 v1_0) fun x19_2 =>
  ifO (!decide (x19_2.H = (wr ((wr ((wr ((wr ((wr (v_0 + 1)) + 1)) + 1)) + 1)) + 1))))
  (some (.inr (.inr ((-1)))))
  (Option.bind (idx a_p0 v1_0) fun x22_2 =>
  ifO (!decide (x22_2.VFront = (wr ((wr ((wr ((wr ((wr ((wr (v_0 + 1)) + 1)) + 1)) + 1)) + 1)) + 1))))
  (some (.inr (.inr ((-1)))))
  (Option.bind (idx a_p0 v1_0) fun x25_2 =>
  ifO (!decide (x25_2.VSync = (wr ((wr ((wr ((wr ((wr ((wr ((wr (v_0 + 1)) + 1)) + 1)) + 1)) + 1)) + 1)) + 1))))
  (some (.inr (.inr ((-1)))))
  (Option.bind (idx a_p0 v1_0) fun x28_2 =>
  ifO (!decide (x28_2.VBack = (wr ((wr ((wr ((wr ((wr ((wr ((wr ((wr (v_0 + 1)) + 1)) + 1)) + 1)) + 1)) + 1)) + 1)) + 1))))
  (some (.inr (.inr ((-1)))))
  (some (.inl ((wr ((wr ((wr ((wr ((wr ((wr ((wr ((wr ((wr (v_0 + 1)) + 1)) + 1)) + 1)) + 1)) + 1)) + 1)) + 1)) + 1)), (wr (v1_0 + 1))))))))))))))
  (some (.inr (.inl v_0)))
noncomputable def laws_heldModeS (a_p0 : List ModeT) (a_p1 : Int) : Option Int :=
  Option.bind (loopO (fun (v_0, v1_0) => laws_heldModeS_L0 a_p0 v_0 v1_0) (a_p1, 0)) fun y => fork y (fun v_0e => some v_0e) (fun r => some r)
noncomputable def laws_heldMonitor (a_p0 : MonitorT) (k_p1 : Int) : Option Int :=
  Option.bind (laws_heldModeS a_p0.Modes k_p1) fun x1_3 =>
  ifO (decide (x1_3 < 0))
  (some (-1))
  (some x1_3)
noncomputable def laws_FnExactParseDescriptor (a_p0 : ByteArray) : Option Bool :=
  ifO (decide (1048576 < (a_p0.size : Int)))
  (some true)
  (Option.bind (spec_ParseDescriptor a_p0) fun (x3_1a, x3_1b) =>
  Option.bind (impl_ParseDescriptor a_p0) fun (x4_1a, x4_1b) =>
  Option.bind (laws_eqMonitor x4_1a x3_1a) fun x5_2 =>
  ifO ((!x5_2) || (!(x4_1b == x3_1b)))
  (some false)
  (Option.bind (laws_markMonitor x4_1a 1) fun (x8_2a, x8_2b) =>
  Option.bind (laws_heldMonitor (MonitorT.mk x4_1a.Name x8_2b x4_1a.Stretch) 1) fun x10_2 =>
  ifO (decide (x10_2 < 0))
  (some false)
  (ifO (!decide (x10_2 = x8_2a))
  (some false)
  (Option.bind (impl_ParseDescriptor a_p0) fun (x15_1a, x15_1b) =>
  Option.bind (laws_eqMonitor x15_1a x3_1a) fun x16_2 =>
  ifO ((!x16_2) || (!(x15_1b == x3_1b)))
  (some false)
  (Option.bind (laws_heldMonitor (MonitorT.mk x4_1a.Name x8_2b x4_1a.Stretch) 1) fun x19_2 =>
  ifO (decide (x19_2 < 0))
  (some false)
  (ifO (!decide (x19_2 = x8_2a))
  (some false)
  (some true)))))))
noncomputable def laws_FnDescriptors_L0 (x3_1 : MonitorT) (x5_1a : MonitorT) (v_0 : Int) : Option (Int ⊕ (Unit ⊕ Bool)) :=
  ifO (decide (v_0 < (x3_1.Modes.length : Int)))
  (Option.bind (idx x5_1a.Modes v_0) fun x11_3 =>
  Option.bind (idx x3_1.Modes v_0) fun x11_8 =>
  ifO (!(decide (x11_3.Clock = x11_8.Clock) && decide (x11_3.W = x11_8.W) && decide (x11_3.HFront = x11_8.HFront) && decide (x11_3.HSync = x11_8.HSync) && decide (x11_3.HBack = x11_8.HBack) && decide (x11_3.H = x11_8.H) && decide (x11_3.VFront = x11_8.VFront) && decide (x11_3.VSync = x11_8.VSync) && decide (x11_3.VBack = x11_8.VBack)))
  (some (.inr (.inr (false))))
  (some (.inl (wr (v_0 + 1)))))
  (some (.inr (.inl ())))
noncomputable def laws_FnDescriptors (a_p0 : List Int) : Option Bool :=
  Option.bind (laws_big a_p0) fun x1_1 =>
  ifO x1_1
  (some true)
  (Option.bind (spec_DrawMonitor a_p0) fun x3_1 =>
  Option.bind (impl_BuildDescriptor x3_1) fun (x4_1a, x4_1b) =>
  Option.bind (impl_ParseDescriptor x4_1a) fun (x5_1a, x5_1b) =>
  Option.bind (orO (((((!x4_1b) || (!x5_1b)) || (!(decide (x5_1a.Name = x3_1.Name)))) || (!decide (x5_1a.Stretch = x3_1.Stretch))) || (!decide ((x5_1a.Modes.length : Int) = (x3_1.Modes.length : Int)))) (Option.bind (impl_ByteSum x4_1a) fun x6_31 =>
  some (!decide (x6_31 = 0)))) fun q6_33 =>
  ifO q6_33
  (some false)
  (Option.bind (loopO (fun v_0 => laws_FnDescriptors_L0 x3_1 x5_1a v_0) 0) fun y => fork y (fun () => Option.bind (laws_at a_p0 0) fun x13_1 =>
  Option.bind (remO x13_1 (x4_1a.size : Int)) fun x13_4 =>
  Option.bind (sidx x4_1a x13_4) fun x14_2 =>
  Option.bind (laws_at a_p0 1) fun x14_4 =>
  Option.bind (ssub x4_1a 0 x13_4) fun x15_2 =>
  Option.bind (sapp x15_2 (strB [(xor8 x14_2 (b8 (wr (1 + (Int.tmod x14_4 255)))))])) fun x15_4 =>
  Option.bind (ssub x4_1a (wr (x13_4 + 1)) x4_1a.size) fun x15_8 =>
  Option.bind (sapp x15_4 x15_8) fun x15_9 =>
  Option.bind (impl_ParseDescriptor x15_9) fun (x15_10a, x15_10b) =>
  Option.bind (andO (!x15_10b) (Option.bind (impl_MonitorOk x5_1a) fun x16_4 =>
  some x16_4)) fun q16_5 =>
  some q16_5) (fun r => some r)))
end Go.Proofs.Ytmbohhfhhdopiaa
