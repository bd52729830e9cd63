/- The pure functions that the walks bring out of the program. -/
import Derived.Test.YtfgkgkkcaclfpaaStructs
namespace Go.Proofs.Ytfgkgkkcaclfpaa
open Go.RowKit K
set_option maxRecDepth 100000
set_option maxHeartbeats 4000000
set_option linter.unusedVariables false

noncomputable def laws_szModeS (a_p0 : List ModeT) (left_p1 : Int) : Option Int :=
  ifO (decide ((wr (left_p1 - (a_p0.length : Int))) < 0))
  (some (-1))
  (some (wr (left_p1 - (a_p0.length : Int))))
noncomputable def laws_szMonitor (a_p0 : MonitorT) (left_p1 : Int) : Option Int :=
  ifO (decide ((wr (left_p1 - (a_p0.Name.size : Int))) < 0))
  (some (-1))
  (Option.bind (laws_szModeS a_p0.Modes (wr (left_p1 - (a_p0.Name.size : Int)))) fun x4_3 =>
  ifO (decide (x4_3 < 0))
  (some (-1))
  (some x4_3))
noncomputable def laws_toMode (a_p0 : ModeT) : Option ModeT :=
  some a_p0
noncomputable def laws_toModeS_L0 (a_p0 : List ModeT) (out_0 : List ModeT) (i_0 : Int) : Option (((List ModeT) × Int) ⊕ (List ModeT)) :=
  ifO (decide (i_0 < (a_p0.length : Int)))
  (Option.bind (idx a_p0 i_0) fun x5_4 =>
  Option.bind (laws_toMode x5_4) fun x5_6 =>
  Option.bind (upd out_0 i_0 x5_6) fun x5_8 =>
  some (.inl (x5_8, (wr (i_0 + 1)))))
  (some (.inr out_0))
noncomputable def laws_toModeS (a_p0 : List ModeT) : Option (List ModeT) :=
  Option.bind (mkO (a_p0.length : Int) (ModeT.mk 0 0 0 0 0 0 0 0 0)) fun x1_2 =>
  Option.bind (loopO (fun (out_0, i_0) => laws_toModeS_L0 a_p0 out_0 i_0) (x1_2, 0)) fun out_0e =>
  some out_0e
noncomputable def laws_toMonitor (a_p0 : MonitorT) : Option MonitorT :=
  Option.bind (laws_toModeS a_p0.Modes) fun x3_2 =>
  some (MonitorT.mk a_p0.Name x3_2 a_p0.Stretch)
noncomputable def spec_l01In (x_p0 : Int) (least_p1 : Int) (most_p2 : Int) : Option Bool :=
  some ((decide (least_p1 ≤ x_p0)) && (decide (x_p0 ≤ most_p2)))
noncomputable def spec_ModeOk (m_p0 : ModeT) : Option Bool :=
  Option.bind (spec_l01In m_p0.Clock 1 1000000) fun x1_2 =>
  Option.bind (andO x1_2 (Option.bind (spec_l01In m_p0.W 1 16) fun x1_6 =>
  some x1_6)) fun q1_7 =>
  Option.bind (andO q1_7 (Option.bind (spec_l01In m_p0.H 1 16) fun x1_11 =>
  some x1_11)) fun q1_12 =>
  Option.bind (andO q1_12 (Option.bind (spec_l01In m_p0.HSync 1 40) fun x1_16 =>
  some x1_16)) fun q1_17 =>
  Option.bind (andO q1_17 (Option.bind (spec_l01In m_p0.VSync 1 40) fun x1_21 =>
  some x1_21)) fun q1_22 =>
  Option.bind (andO q1_22 (Option.bind (spec_l01In m_p0.HFront 0 40) fun x1_26 =>
  some x1_26)) fun q1_27 =>
  Option.bind (andO q1_27 (Option.bind (spec_l01In m_p0.HBack 0 40) fun x1_31 =>
  some x1_31)) fun q1_32 =>
  Option.bind (andO q1_32 (Option.bind (spec_l01In m_p0.VFront 0 40) fun x1_36 =>
  some x1_36)) fun q1_37 =>
  Option.bind (andO q1_37 (Option.bind (spec_l01In m_p0.VBack 0 40) fun x1_41 =>
  some x1_41)) fun q1_42 =>
  some q1_42
noncomputable def spec_MonitorOk_L1 (m_p0 : MonitorT) (k_1 : Int) : Option (Int ⊕ (Unit ⊕ Bool)) :=
  ifO (decide (k_1 < (m_p0.Modes.length : Int)))
  (Option.bind (idx m_p0.Modes k_1) fun x11_3 =>
  Option.bind (spec_ModeOk x11_3) fun x11_5 =>
  ifO (!x11_5)
  (some (.inr (.inr (false))))
  (some (.inl (wr (k_1 + 1)))))
  (some (.inr (.inl ())))
noncomputable def spec_MonitorOk_L0 (m_p0 : MonitorT) (k_0 : Int) : Option (Int ⊕ (Unit ⊕ Bool)) :=
  ifO (decide (k_0 < (m_p0.Name.size : Int)))
  (Option.bind (sidx m_p0.Name k_0) fun x6_3 =>
  Option.bind (orO (decide (x6_3 < 33)) (Option.bind (sidx m_p0.Name k_0) fun x6_9 =>
  some (decide (126 < x6_9)))) fun q6_11 =>
  ifO q6_11
  (some (.inr (.inr (false))))
  (some (.inl (wr (k_0 + 1)))))
  (some (.inr (.inl ())))
noncomputable def spec_MonitorOk (m_p0 : MonitorT) : Option Bool :=
  Option.bind (spec_l01In (m_p0.Name.size : Int) 1 8) fun x1_3 =>
  Option.bind (orO (!x1_3) (Option.bind (spec_l01In (m_p0.Modes.length : Int) 1 4) fun x1_9 =>
  some (!x1_9))) fun q1_11 =>
  Option.bind (orO q1_11 (Option.bind (spec_l01In m_p0.Stretch 0 255) fun x1_15 =>
  some (!x1_15))) fun q1_17 =>
  ifO q1_17
  (some false)
  (Option.bind (loopO (fun k_0 => spec_MonitorOk_L0 m_p0 k_0) 0) fun y => fork y (fun () => Option.bind (loopO (fun k_1 => spec_MonitorOk_L1 m_p0 k_1) 0) fun y => fork y (fun () => some true) (fun r => some r)) (fun r => some r))
noncomputable def impl_within (n_p0 : Int) (low_p1 : Int) (high_p2 : Int) : Option Bool :=
  some ((decide (low_p1 ≤ n_p0)) && (decide (n_p0 ≤ high_p2)))
noncomputable def impl_isSide (n_p0 : Int) : Option Bool :=
  Option.bind (impl_within n_p0 1 16) fun x1_1 =>
  some x1_1
noncomputable def impl_ModeOk (m_p0 : ModeT) : Option Bool :=
  Option.bind (impl_within m_p0.Clock 1 1000000) fun x1_2 =>
  Option.bind (andO x1_2 (Option.bind (impl_isSide m_p0.W) fun x1_6 =>
  some x1_6)) fun q1_7 =>
  Option.bind (andO q1_7 (Option.bind (impl_isSide m_p0.H) fun x1_11 =>
  some x1_11)) fun q1_12 =>
  Option.bind (andO q1_12 (Option.bind (impl_within m_p0.HSync 1 40) fun x1_16 =>
  some x1_16)) fun q1_17 =>
  Option.bind (andO q1_17 (Option.bind (impl_within m_p0.VSync 1 40) fun x1_21 =>
  some x1_21)) fun q1_22 =>
  Option.bind (andO q1_22 (Option.bind (impl_within m_p0.HFront 0 40) fun x1_26 =>
  some x1_26)) fun q1_27 =>
  Option.bind (andO q1_27 (Option.bind (impl_within m_p0.HBack 0 40) fun x1_31 =>
  some x1_31)) fun q1_32 =>
  Option.bind (andO q1_32 (Option.bind (impl_within m_p0.VFront 0 40) fun x1_36 =>
  some x1_36)) fun q1_37 =>
  Option.bind (andO q1_37 (Option.bind (impl_within m_p0.VBack 0 40) fun x1_41 =>
  some x1_41)) fun q1_42 =>
  some q1_42
noncomputable def impl_MonitorOk_L1 (m_p0 : MonitorT) (v_1 : Int) : Option (Int ⊕ (Unit ⊕ Bool)) :=
  ifO (decide (v_1 < (m_p0.Modes.length : Int)))
  (Option.bind (idx m_p0.Modes v_1) fun x11_0 =>
  Option.bind (impl_ModeOk x11_0) fun x12_1 =>
  ifO (!x12_1)
  (some (.inr (.inr (false))))
  (some (.inl (wr (v_1 + 1)))))
  (some (.inr (.inl ())))
noncomputable def impl_MonitorOk_L0 (m_p0 : MonitorT) (v_0 : Int) : Option (Int ⊕ (Unit ⊕ Bool)) :=
  ifO (decide (v_0 < (m_p0.Name.size : Int)))
  (Option.bind (sidx m_p0.Name v_0) fun x6_3 =>
  Option.bind (impl_within (wr x6_3) 33 126) fun x6_5 =>
  ifO (!x6_5)
  (some (.inr (.inr (false))))
  (some (.inl (wr (v_0 + 1)))))
  (some (.inr (.inl ())))
noncomputable def impl_MonitorOk (m_p0 : MonitorT) : Option Bool :=
  Option.bind (impl_within (m_p0.Name.size : Int) 1 8) fun x1_3 =>
  Option.bind (orO (!x1_3) (Option.bind (impl_within (m_p0.Modes.length : Int) 1 4) fun x1_9 =>
  some (!x1_9))) fun q1_11 =>
  Option.bind (orO q1_11 (Option.bind (impl_within m_p0.Stretch 0 255) fun x1_15 =>
  some (!x1_15))) fun q1_17 =>
  ifO q1_17
  (some false)
  (Option.bind (loopO (fun v_0 => impl_MonitorOk_L0 m_p0 v_0) 0) fun y => fork y (fun () => Option.bind (loopO (fun v_1 => impl_MonitorOk_L1 m_p0 v_1) 0) fun y => fork y (fun () => some true) (fun r => some r)) (fun r => some r))
noncomputable def laws_eqMode (a_p0 : ModeT) (b_p1 : ModeT) : Option Bool :=
  ifO (!decide (a_p0.Clock = b_p1.Clock))
  (some false)
  (ifO (!decide (a_p0.W = b_p1.W))
  (some false)
  (ifO (!decide (a_p0.HFront = b_p1.HFront))
  (some false)
  (ifO (!decide (a_p0.HSync = b_p1.HSync))
  (some false)
  (ifO (!decide (a_p0.HBack = b_p1.HBack))
  (some false)
  (ifO (!decide (a_p0.H = b_p1.H))
  (some false)
  (ifO (!decide (a_p0.VFront = b_p1.VFront))
  (some false)
  (ifO (!decide (a_p0.VSync = b_p1.VSync))
  (some false)
  (ifO (!decide (a_p0.VBack = b_p1.VBack))
  (some false)
  (some true)))))))))
noncomputable def laws_eqModeS_L0 (a_p0 : List ModeT) (b_p1 : List ModeT) (i_0 : Int) : Option (Int ⊕ (Unit ⊕ Bool)) :=
  ifO (decide (i_0 < (a_p0.length : Int)))
  (Option.bind (idx a_p0 i_0) fun x6_2 =>
  Option.bind (idx b_p1 i_0) fun x6_6 =>
  Option.bind (laws_eqMode x6_2 x6_6) fun x6_8 =>
  ifO (!x6_8)
  (some (.inr (.inr (false))))
  (some (.inl (wr (i_0 + 1)))))
  (some (.inr (.inl ())))
noncomputable def laws_eqModeS (a_p0 : List ModeT) (b_p1 : List ModeT) : Option Bool :=
  ifO (!decide ((a_p0.length : Int) = (b_p1.length : Int)))
  (some false)
  (Option.bind (loopO (fun i_0 => laws_eqModeS_L0 a_p0 b_p1 i_0) 0) fun y => fork y (fun () => some true) (fun r => some r))
noncomputable def laws_eqMonitor (a_p0 : MonitorT) (b_p1 : MonitorT) : Option Bool :=
  ifO (!(decide (a_p0.Name = b_p1.Name)))
  (some false)
  (Option.bind (laws_eqModeS a_p0.Modes b_p1.Modes) fun x3_4 =>
  ifO (!x3_4)
  (some false)
  (ifO (!decide (a_p0.Stretch = b_p1.Stretch))
  (some false)
  (some true)))
noncomputable def laws_FnExactMonitorOk (aM_p0 : MonitorT) : Option Bool :=
  Option.bind (laws_szMonitor aM_p0 1048576) fun x2_2 =>
  ifO (decide (x2_2 < 0))
  (some true)
  (Option.bind (laws_toMonitor aM_p0) fun x5_1 =>
  Option.bind (spec_MonitorOk x5_1) fun x5_2 =>
  Option.bind (laws_toMonitor aM_p0) fun x6_1 =>
  Option.bind (impl_MonitorOk x6_1) fun x7_1 =>
  ifO (!(x7_1 == x5_2))
  (some false)
  (Option.bind (laws_toMonitor aM_p0) fun x10_2 =>
  Option.bind (laws_eqMonitor x6_1 x10_2) fun x10_3 =>
  ifO (!x10_3)
  (some false)
  (some true)))
end Go.Proofs.Ytfgkgkkcaclfpaa
