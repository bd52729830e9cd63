/- The pure functions that the walks bring out of the program. -/
import Derived.Test.YtfgkgkkcaclfpaaStructs
namespace Go.Proofs.Ytfgkgkkcaclfpaa
open Go.RowKit K
set_option maxRecDepth 100000
set_option maxHeartbeats 4000000

noncomputable def laws_szModeS (a_p0 : List ModeT) (left_p1 : Int) : Option Int :=
  ifO (decide ((wr (left_p1 - (a_p0.length : Int))) < 0))
  (some (-1))
  (some (wr (left_p1 - (a_p0.length : Int))))
noncomputable def laws_szMonitor (a_p0 : MonitorT) (left_p1 : Int) : Option Int :=
  ifO (decide ((wr (left_p1 - (a_p0.Name.size : Int))) < 0))
  (some (-1))
  (Option.bind (laws_szModeS a_p0.Modes (wr (left_p1 - (a_p0.Name.size : Int)))) fun x4_3 =>
  ifO (decide (x4_3 < 0))
  (some (-1))
  (some x4_3))
noncomputable def laws_toMode (a_p0 : ModeT) : Option ModeT :=
  some a_p0
noncomputable def laws_toModeS_L0 (a_p0 : List ModeT) (out_0 : List ModeT) (i_0 : Int) : Option (((List ModeT) × Int) ⊕ (List ModeT)) :=
  ifO (decide (i_0 < (a_p0.length : Int)))
  (Option.bind (idx a_p0 i_0) fun x5_4 =>
  Option.bind (laws_toMode x5_4) fun x5_6 =>
  Option.bind (upd out_0 i_0 x5_6) fun x5_8 =>
  some (.inl (x5_8, (wr (i_0 + 1)))))
  (some (.inr out_0))
noncomputable def laws_toModeS (a_p0 : List ModeT) : Option (List ModeT) :=
  Option.bind (mkO (a_p0.length : Int) (ModeT.mk 0 0 0 0 0 0 0 0 0)) fun x1_2 =>
  Option.bind (loopO (fun (out_0, i_0) => laws_toModeS_L0 a_p0 out_0 i_0) (x1_2, 0)) fun out_0e =>
  some out_0e
noncomputable def laws_toMonitor (a_p0 : MonitorT) : Option MonitorT :=
  Option.bind (laws_toModeS a_p0.Modes) fun x3_2 =>
  some (MonitorT.mk a_p0.Name x3_2 a_p0.Stretch)
noncomputable def spec_l01In (x_p0 : Int) (least_p1 : Int) (most_p2 : Int) : Option Bool :=
  some ((decide (least_p1 ≤ x_p0)) && (decide (x_p0 ≤ most_p2)))
noncomputable def spec_ModeOk (m_p0 : ModeT) : Option Bool :=
  Option.bind (spec_l01In m_p0.Clock 1 1000000) fun x1_2 =>
  Option.bind (andO x1_2 (Option.bind (spec_l01In m_p0.W 1 16) fun x1_6 =>
  some x1_6)) fun q1_7 =>
  Option.bind (andO q1_7 (Option.bind (spec_l01In m_p0.H 1 16) fun x1_11 =>
  some x1_11)) fun q1_12 =>
  Option.bind (andO q1_12 (Option.bind (spec_l01In m_p0.HSync 1 40) fun x1_16 =>
  some x1_16)) fun q1_17 =>
  Option.bind (andO q1_17 (Option.bind (spec_l01In m_p0.VSync 1 40) fun x1_21 =>
  some x1_21)) fun q1_22 =>
  Option.bind (andO q1_22 (Option.bind (spec_l01In m_p0.HFront 0 40) fun x1_26 =>
  some x1_26)) fun q1_27 =>
  Option.bind (andO q1_27 (Option.bind (spec_l01In m_p0.HBack 0 40) fun x1_31 =>
  some x1_31)) fun q1_32 =>
  Option.bind (andO q1_32 (Option.bind (spec_l01In m_p0.VFront 0 40) fun x1_36 =>
  some x1_36)) fun q1_37 =>
  Option.bind (andO q1_37 (Option.bind (spec_l01In m_p0.VBack 0 40) fun x1_41 =>
  some x1_41)) fun q1_42 =>
  some q1_42
noncomputable def spec_MonitorOk_L1 (m_p0 : MonitorT) (k_1 : Int) : Option (Int ⊕ (Unit ⊕ Bool)) :=
  ifO (decide (k_1 < (m_p0.Modes.length : Int)))
  (Option.bind (idx m_p0.Modes k_1) fun x11_3 =>
  Option.bind (spec_ModeOk x11_3) fun x11_5 =>
  ifO (!x11_5)
  (some (.inr (.inr (false))))
  (some (.inl (wr (k_1 + 1)))))
  (some (.inr (.inl ())))
noncomputable def spec_MonitorOk_L0 (m_p0 : MonitorT) (k_0 : Int) : Option (Int ⊕ (Unit ⊕ Bool)) :=
  ifO (decide (k_0 < (m_p0.Name.size : Int)))
  (Option.bind (sidx m_p0.Name k_0) fun x6_3 =>
  Option.bind (orO (decide (x6_3 < 33)) (Option.bind (sidx m_p0.Name k_0) fun x6_9 =>
  some (decide (126 < x6_9)))) fun q6_11 =>
  ifO q6_11
  (some (.inr (.inr (false))))
  (some (.inl (wr (k_0 + 1)))))
  (some (.inr (.inl ())))
noncomputable def spec_MonitorOk (m_p0 : MonitorT) : Option Bool :=
  Option.bind (spec_l01In (m_p0.Name.size : Int) 1 8) fun x1_3 =>
  Option.bind (orO (!x1_3) (Option.bind (spec_l01In (m_p0.Modes.length : Int) 1 4) fun x1_9 =>
  some (!x1_9))) fun q1_11 =>
  Option.bind (orO q1_11 (Option.bind (spec_l01In m_p0.Stretch 0 255) fun x1_15 =>
  some (!x1_15))) fun q1_17 =>
  ifO q1_17
  (some false)
  (Option.bind (loopO (fun k_0 => spec_MonitorOk_L0 m_p0 k_0) 0) fun y => fork y (fun () => Option.bind (loopO (fun k_1 => spec_MonitorOk_L1 m_p0 k_1) 0) fun y => fork y (fun () => some true) (fun r => some r)) (fun r => some r))
noncomputable def impl_within (n_p0 : Int) (low_p1 : Int) (high_p2 : Int) : Option Bool :=
  some ((decide (low_p1 ≤ n_p0)) && (decide (n_p0 ≤ high_p2)))
noncomputable def impl_isSide (n_p0 : Int) : Option Bool :=
  Option.bind (impl_within n_p0 1 16) fun x1_1 =>
  some x1_1
noncomputable def impl_ModeOk (m_p0 : ModeT) : Option Bool :=
  Option.bind (impl_within m_p0.Clock 1 1000000) fun x1_2 =>
  Option.bind (andO x1_2 (Option.bind (impl_isSide m_p0.W) fun x1_6 =>
  some x1_6)) fun q1_7 =>
  Option.bind (andO q1_7 (Option.bind (impl_isSide m_p0.H) fun x1_11 =>
  some x1_11)) fun q1_12 =>
  Option.bind (andO q1_12 (Option.bind (impl_within m_p0.HSync 1 40) fun x1_16 =>
  some x1_16)) fun q1_17 =>
  Option.bind (andO q1_17 (Option.bind (impl_within m_p0.VSync 1 40) fun x1_21 =>
  some x1_21)) fun q1_22 =>
  Option.bind (andO q1_22 (Option.bind (impl_within m_p0.HFront 0 40) fun x1_26 =>
  some x1_26)) fun q1_27 =>
  Option.bind (andO q1_27 (Option.bind (impl_within m_p0.HBack 0 40) fun x1_31 =>
  some x1_31)) fun q1_32 =>
  Option.bind (andO q1_32 (Option.bind (impl_within m_p0.VFront 0 40) fun x1_36 =>
  some x1_36)) fun q1_37 =>
  Option.bind (andO q1_37 (Option.bind (impl_within m_p0.VBack 0 40) fun x1_41 =>
  some x1_41)) fun q1_42 =>
  some q1_42
noncomputable def impl_MonitorOk_L1 (m_p0 : MonitorT) (v_1 : Int) : Option (Int ⊕ (Unit ⊕ Bool)) :=
  ifO (decide (v_1 < (m_p0.Modes.length : Int)))
  (Option.bind (idx m_p0.Modes v_1) fun x11_0 =>
  Option.bind (impl_ModeOk x11_0) fun x12_1 =>
  ifO (!x12_1)
  (some (.inr (.inr (false))))
  (some (.inl (wr (v_1 + 1)))))
  (some (.inr (.inl ())))
noncomputable def impl_MonitorOk_L0 (m_p0 : MonitorT) (v_0 : Int) : Option (Int ⊕ (Unit ⊕ Bool)) :=
  ifO (decide (v_0 < (m_p0.Name.size : Int)))
  (Option.bind (sidx m_p0.Name v_0) fun x6_3 =>
  Option.bind (impl_within (wr x6_3) 33 126) fun x6_5 =>
  ifO (!x6_5)
  (some (.inr (.inr (false))))
  (some (.inl (wr (v_0 + 1)))))
  (some (.inr (.inl ())))
noncomputable def impl_MonitorOk (m_p0 : MonitorT) : Option Bool :=
  Option.bind (impl_within (m_p0.Name.size : Int) 1 8) fun x1_3 =>
  Option.bind (orO (!x1_3) (Option.bind (impl_within (m_p0.Modes.length : Int) 1 4) fun x1_9 =>
  some (!x1_9))) fun q1_11 =>
  Option.bind (orO q1_11 (Option.bind (impl_within m_p0.Stretch 0 255) fun x1_15 =>
  some (!x1_15))) fun q1_17 =>
  ifO q1_17
  (some false)
  (Option.bind (loopO (fun v_0 => impl_MonitorOk_L0 m_p0 v_0) 0) fun y => fork y (fun () => Option.bind (loopO (fun v_1 => impl_MonitorOk_L1 m_p0 v_1) 0) fun y => fork y (fun () => some true) (fun r => some r)) (fun r => some r))
noncomputable def laws_eqMode (a_p0 : ModeT) (b_p1 : ModeT) : Option Bool :=
  ifO (!decide (a_p0.Clock = b_p1.Clock))
  (some false)
  (ifO (!decide (a_p0.W = b_p1.W))
  (some false)
  (ifO (!decide (a_p0.HFront = b_p1.HFront))
  (some false)
  (ifO (!decide (a_p0.HSync = b_p1.HSync))
  (some false)
  (ifO (!decide (a_p0.HBack = b_p1.HBack))
  (some false)
  (ifO (!decide (a_p0.H = b_p1.H))
  (some false)
  (ifO (!decide (a_p0.VFront = b_p1.VFront))
  (some false)
  (ifO (!decide (a_p0.VSync = b_p1.VSync))
  (some false)
  (ifO (!decide (a_p0.VBack = b_p1.VBack))
  (some false)
  (some true)))))))))
noncomputable def laws_eqModeS_L0 (a_p0 : List ModeT) (b_p1 : List ModeT) (i_0 : Int) : Option (Int ⊕ (Unit ⊕ Bool)) :=
  ifO (decide (i_0 < (a_p0.length : Int)))
  (Option.bind (idx a_p0 i_0) fun x6_2 =>
  Option.bind (idx b_p1 i_0) fun x6_6 =>
  Option.bind (laws_eqMode x6_2 x6_6) fun x6_8 =>
  ifO (!x6_8)
  (some (.inr (.inr (false))))
  (some (.inl (wr (i_0 + 1)))))
  (some (.inr (.inl ())))
noncomputable def laws_eqModeS (a_p0 : List ModeT) (b_p1 : List ModeT) : Option Bool :=
  ifO (!decide ((a_p0.length : Int) = (b_p1.length : Int)))
  (some false)
  (Option.bind (loopO (fun i_0 => laws_eqModeS_L0 a_p0 b_p1 i_0) 0) fun y => fork y (fun () => some true) (fun r => some r))
noncomputable def laws_eqMonitor (a_p0 : MonitorT) (b_p1 : MonitorT) : Option Bool :=
  ifO (!(decide (a_p0.Name = b_p1.Name)))
  (some false)
  (Option.bind (laws_eqModeS a_p0.Modes b_p1.Modes) fun x3_4 =>
  ifO (!x3_4)
  (some false)
  (ifO (!decide (a_p0.Stretch = b_p1.Stretch))
  (some false)
  (some true)))
noncomputable def laws_FnExactMonitorOk (aM_p0 : MonitorT) : Option Bool :=
  Option.bind (laws_szMonitor aM_p0 1048576) fun x2_2 =>
  ifO (decide (x2_2 < 0))
  (some true)
  (Option.bind (laws_toMonitor aM_p0) fun x5_1 =>
  Option.bind (spec_MonitorOk x5_1) fun x5_2 =>
  Option.bind (laws_toMonitor aM_p0) fun x6_1 =>
  Option.bind (impl_MonitorOk x6_1) fun x7_1 =>
  ifO (!(x7_1 == x5_2))
  (some false)
  (Option.bind (laws_toMonitor aM_p0) fun x10_2 =>
  Option.bind (laws_eqMonitor x6_1 x10_2) fun x10_3 =>
  ifO (!x10_3)
  (some false)
  (some true)))
noncomputable def spec_ChooseMode_L0 (m_p0 : MonitorT) (w_p1 : Int) (h_p2 : Int) (best_0 : ModeT) (k_0 : Int) : Option ((ModeT × Int) ⊕ (ModeT ⊕ (ModeT × Bool))) :=
  ifO (decide (k_0 < (m_p0.Modes.length : Int)))
  (Option.bind (idx m_p0.Modes k_0) fun x7_3 =>
  ifO ((decide (x7_3.W = w_p1)) && (decide (x7_3.H = h_p2)))
  (some (.inr (.inr ((x7_3, true)))))
  (ifO (decide ((wr (best_0.W * best_0.H)) < (wr (x7_3.W * x7_3.H))))
  (some (.inl (x7_3, (wr (k_0 + 1)))))
  (some (.inl (best_0, (wr (k_0 + 1)))))))
  (some (.inr (.inl best_0)))
noncomputable def spec_ChooseMode (m_p0 : MonitorT) (w_p1 : Int) (h_p2 : Int) : Option (ModeT × Bool) :=
  Option.bind (spec_MonitorOk m_p0) fun x1_1 =>
  ifO (!x1_1)
  (some ((ModeT.mk 0 0 0 0 0 0 0 0 0), false))
  (Option.bind (idx m_p0.Modes 0) fun x3_2 =>
  Option.bind (loopO (fun (best_0, k_0) => spec_ChooseMode_L0 m_p0 w_p1 h_p2 best_0 k_0) (x3_2, 0)) fun y => fork y (fun best_0e => some (best_0e, true)) (fun r => some r))
noncomputable def impl_ChooseMode_L0 (m_p0 : MonitorT) (w_p1 : Int) (h_p2 : Int) (best_0 : ModeT) (v_0 : Int) : Option ((ModeT × Int) ⊕ (ModeT ⊕ (ModeT × Bool))) :=
  ifO (decide (v_0 < (m_p0.Modes.length : Int)))
  (Option.bind (idx m_p0.Modes v_0) fun x6_0 =>
  ifO ((decide (x6_0.W = w_p1)) && (decide (x6_0.H = h_p2)))
  (some (.inr (.inr ((x6_0, true)))))
  (ifO (decide ((wr (best_0.W * best_0.H)) < (wr (x6_0.W * x6_0.H))))
  (some (.inl (x6_0, (wr (v_0 + 1)))))
  (some (.inl (best_0, (wr (v_0 + 1)))))))
  (some (.inr (.inl best_0)))
noncomputable def impl_ChooseMode (m_p0 : MonitorT) (w_p1 : Int) (h_p2 : Int) : Option (ModeT × Bool) :=
  Option.bind (impl_MonitorOk m_p0) fun x1_1 =>
  ifO (!x1_1)
  (some ((ModeT.mk 0 0 0 0 0 0 0 0 0), false))
  (Option.bind (idx m_p0.Modes 0) fun x3_2 =>
  Option.bind (loopO (fun (best_0, v_0) => impl_ChooseMode_L0 m_p0 w_p1 h_p2 best_0 v_0) (x3_2, 0)) fun y => fork y (fun best_0e => some (best_0e, true)) (fun r => some r))
noncomputable def laws_FnExactChooseMode (aM_p0 : MonitorT) (aW_p1 : Int) (aH_p2 : Int) : Option Bool :=
  Option.bind (laws_szMonitor aM_p0 1048576) fun x2_2 =>
  ifO (decide (x2_2 < 0))
  (some true)
  (Option.bind (laws_toMonitor aM_p0) fun x5_1 =>
  Option.bind (spec_ChooseMode x5_1 aW_p1 aH_p2) fun (x5_4a, x5_4b) =>
  Option.bind (laws_toMonitor aM_p0) fun x6_1 =>
  Option.bind (impl_ChooseMode x6_1 aW_p1 aH_p2) fun (x7_3a, x7_3b) =>
  Option.bind (laws_eqMode x7_3a x5_4a) fun x8_2 =>
  ifO ((!x8_2) || (!(x7_3b == x5_4b)))
  (some false)
  (Option.bind (laws_toMonitor aM_p0) fun x10_2 =>
  Option.bind (laws_eqMonitor x6_1 x10_2) fun x10_3 =>
  ifO (!x10_3)
  (some false)
  (some true)))
noncomputable def laws_szIntS (a_p0 : List Int) (left_p1 : Int) : Option Int :=
  ifO (decide ((wr (left_p1 - (a_p0.length : Int))) < 0))
  (some (-1))
  (some (wr (left_p1 - (a_p0.length : Int))))
noncomputable def laws_szImage (a_p0 : ImageT) (left_p1 : Int) : Option Int :=
  Option.bind (laws_szIntS a_p0.Data left_p1) fun x1_3 =>
  ifO (decide (x1_3 < 0))
  (some (-1))
  (some x1_3)
noncomputable def laws_szSurface (a_p0 : SurfaceT) (left_p1 : Int) : Option Int :=
  Option.bind (laws_szImage a_p0.Buffer left_p1) fun x1_3 =>
  ifO (decide (x1_3 < 0))
  (some (-1))
  (some x1_3)
noncomputable def laws_toIntS_L0 (a_p0 : List Int) (out_0 : List Int) (i_0 : Int) : Option (((List Int) × Int) ⊕ (List Int)) :=
  ifO (decide (i_0 < (a_p0.length : Int)))
  (Option.bind (idx a_p0 i_0) fun x5_4 =>
  Option.bind (upd out_0 i_0 x5_4) fun x5_7 =>
  some (.inl (x5_7, (wr (i_0 + 1)))))
  (some (.inr out_0))
noncomputable def laws_toIntS (a_p0 : List Int) : Option (List Int) :=
  Option.bind (mkO (a_p0.length : Int) 0) fun x1_2 =>
  Option.bind (loopO (fun (out_0, i_0) => laws_toIntS_L0 a_p0 out_0 i_0) (x1_2, 0)) fun out_0e =>
  some out_0e
noncomputable def laws_toImage (a_p0 : ImageT) : Option ImageT :=
  Option.bind (laws_toIntS a_p0.Data) fun x4_2 =>
  some (ImageT.mk a_p0.W a_p0.H x4_2)
noncomputable def laws_toSurface (a_p0 : SurfaceT) : Option SurfaceT :=
  Option.bind (laws_toImage a_p0.Buffer) fun x10_2 =>
  some (SurfaceT.mk a_p0.Id a_p0.X a_p0.Y a_p0.W a_p0.H a_p0.Alpha a_p0.Orient a_p0.Visible x10_2)
noncomputable def spec_l04Pixel (p_p0 : Int) : Option Bool :=
  Option.bind (spec_l01In p_p0 0 4294967295) fun x1_1 =>
  some x1_1
noncomputable def spec_ImageOk_L0 (i_p0 : ImageT) (k_0 : Int) : Option (Int ⊕ (Unit ⊕ Bool)) :=
  ifO (decide (k_0 < (i_p0.Data.length : Int)))
  (Option.bind (idx i_p0.Data k_0) fun x6_3 =>
  Option.bind (spec_l04Pixel x6_3) fun x6_5 =>
  ifO (!x6_5)
  (some (.inr (.inr (false))))
  (some (.inl (wr (k_0 + 1)))))
  (some (.inr (.inl ())))
noncomputable def spec_ImageOk (i_p0 : ImageT) : Option Bool :=
  Option.bind (spec_l01In i_p0.W 1 16) fun x1_2 =>
  Option.bind (orO (!x1_2) (Option.bind (spec_l01In i_p0.H 1 16) fun x1_7 =>
  some (!x1_7))) fun q1_9 =>
  ifO (q1_9 || (!decide ((i_p0.Data.length : Int) = (wr (i_p0.W * i_p0.H)))))
  (some false)
  (Option.bind (loopO (fun k_0 => spec_ImageOk_L0 i_p0 k_0) 0) fun y => fork y (fun () => some true) (fun r => some r))
noncomputable def spec_SurfaceOk (s_p0 : SurfaceT) : Option Bool :=
  Option.bind (spec_l01In s_p0.Id 1 99) fun x1_2 =>
  Option.bind (orO (!x1_2) (Option.bind (spec_l01In s_p0.X (-32) 32) fun x1_7 =>
  some (!x1_7))) fun q1_9 =>
  Option.bind (orO q1_9 (Option.bind (spec_l01In s_p0.Y (-32) 32) fun x1_13 =>
  some (!x1_13))) fun q1_15 =>
  Option.bind (orO q1_15 (Option.bind (spec_l01In s_p0.Alpha 0 255) fun x1_19 =>
  some (!x1_19))) fun q1_21 =>
  Option.bind (orO q1_21 (Option.bind (spec_l01In s_p0.Orient 0 7) fun x1_25 =>
  some (!x1_25))) fun q1_27 =>
  Option.bind (orO q1_27 (Option.bind (spec_ImageOk s_p0.Buffer) fun x1_31 =>
  some (!x1_31))) fun q1_33 =>
  ifO q1_33
  (some false)
  (Option.bind (orO ((decide (s_p0.W = 0)) && (decide (s_p0.H = 0))) (Option.bind (spec_l01In s_p0.W 1 16) fun x3_11 =>
  Option.bind (andO x3_11 (Option.bind (spec_l01In s_p0.H 1 16) fun x3_15 =>
  some x3_15)) fun q3_16 =>
  some q3_16)) fun q3_17 =>
  some q3_17)
noncomputable def spec_FitsCursor (s_p0 : SurfaceT) : Option Bool :=
  Option.bind (spec_SurfaceOk s_p0) fun x1_1 =>
  some ((((((x1_1 && (decide (s_p0.Alpha = 255))) && (decide (s_p0.Orient = 0))) && (decide (s_p0.W = 0))) && (decide (s_p0.H = 0))) && (decide (s_p0.Buffer.W ≤ 4))) && (decide (s_p0.Buffer.H ≤ 4)))
noncomputable def impl_isOrient (o_p0 : Int) : Option Bool :=
  Option.bind (impl_within o_p0 0 7) fun x1_1 =>
  some x1_1
noncomputable def impl_isPixel (p_p0 : Int) : Option Bool :=
  Option.bind (impl_within p_p0 0 4294967295) fun x1_1 =>
  some x1_1
noncomputable def impl_ImageOk_L0 (i_p0 : ImageT) (v_0 : Int) : Option (Int ⊕ (Unit ⊕ Bool)) :=
  ifO (decide (v_0 < (i_p0.Data.length : Int)))
  (Option.bind (idx i_p0.Data v_0) fun x5_0 =>
  Option.bind (impl_isPixel x5_0) fun x6_1 =>
  ifO (!x6_1)
  (some (.inr (.inr (false))))
  (some (.inl (wr (v_0 + 1)))))
  (some (.inr (.inl ())))
noncomputable def impl_ImageOk (i_p0 : ImageT) : Option Bool :=
  Option.bind (impl_isSide i_p0.W) fun x1_2 =>
  Option.bind (orO (!x1_2) (Option.bind (impl_isSide i_p0.H) fun x1_7 =>
  some (!x1_7))) fun q1_9 =>
  ifO (q1_9 || (!decide ((i_p0.Data.length : Int) = (wr (i_p0.W * i_p0.H)))))
  (some false)
  (Option.bind (loopO (fun v_0 => impl_ImageOk_L0 i_p0 v_0) 0) fun y => fork y (fun () => some true) (fun r => some r))
noncomputable def impl_SurfaceOk (s_p0 : SurfaceT) : Option Bool :=
  Option.bind (impl_isSide s_p0.W) fun x1_2 =>
  Option.bind (andO x1_2 (Option.bind (impl_isSide s_p0.H) fun x1_6 =>
  some x1_6)) fun q1_7 =>
  Option.bind (impl_within s_p0.Id 1 99) fun x2_2 =>
  Option.bind (andO x2_2 (Option.bind (impl_within s_p0.X (-32) 32) fun x2_6 =>
  some x2_6)) fun q2_7 =>
  Option.bind (andO q2_7 (Option.bind (impl_within s_p0.Y (-32) 32) fun x2_11 =>
  some x2_11)) fun q2_12 =>
  Option.bind (andO (q2_12 && (q1_7 || ((decide (s_p0.W = 0)) && (decide (s_p0.H = 0))))) (Option.bind (impl_within s_p0.Alpha 0 255) fun x2_19 =>
  some x2_19)) fun q2_20 =>
  Option.bind (andO q2_20 (Option.bind (impl_isOrient s_p0.Orient) fun x2_24 =>
  some x2_24)) fun q2_25 =>
  Option.bind (andO q2_25 (Option.bind (impl_ImageOk s_p0.Buffer) fun x2_29 =>
  some x2_29)) fun q2_30 =>
  some q2_30
noncomputable def impl_FitsCursor (s_p0 : SurfaceT) : Option Bool :=
  Option.bind (impl_SurfaceOk s_p0) fun x1_1 =>
  some ((((((x1_1 && (decide (s_p0.Alpha = 255))) && (decide (s_p0.Orient = 0))) && (decide (s_p0.W = 0))) && (decide (s_p0.H = 0))) && (decide (s_p0.Buffer.W ≤ 4))) && (decide (s_p0.Buffer.H ≤ 4)))
noncomputable def laws_eqIntS_L0 (a_p0 : List Int) (b_p1 : List Int) (i_0 : Int) : Option (Int ⊕ (Unit ⊕ Bool)) :=
  ifO (decide (i_0 < (a_p0.length : Int)))
  (Option.bind (idx a_p0 i_0) fun x6_2 =>
  Option.bind (idx b_p1 i_0) fun x6_6 =>
  ifO (!decide (x6_2 = x6_6))
  (some (.inr (.inr (false))))
  (some (.inl (wr (i_0 + 1)))))
  (some (.inr (.inl ())))
noncomputable def laws_eqIntS (a_p0 : List Int) (b_p1 : List Int) : Option Bool :=
  ifO (!decide ((a_p0.length : Int) = (b_p1.length : Int)))
  (some false)
  (Option.bind (loopO (fun i_0 => laws_eqIntS_L0 a_p0 b_p1 i_0) 0) fun y => fork y (fun () => some true) (fun r => some r))
noncomputable def laws_eqImage (a_p0 : ImageT) (b_p1 : ImageT) : Option Bool :=
  ifO (!decide (a_p0.W = b_p1.W))
  (some false)
  (ifO (!decide (a_p0.H = b_p1.H))
  (some false)
  (Option.bind (laws_eqIntS a_p0.Data b_p1.Data) fun x5_4 =>
  ifO (!x5_4)
  (some false)
  (some true)))
noncomputable def laws_eqSurface (a_p0 : SurfaceT) (b_p1 : SurfaceT) : Option Bool :=
  ifO (!decide (a_p0.Id = b_p1.Id))
  (some false)
  (ifO (!decide (a_p0.X = b_p1.X))
  (some false)
  (ifO (!decide (a_p0.Y = b_p1.Y))
  (some false)
  (ifO (!decide (a_p0.W = b_p1.W))
  (some false)
  (ifO (!decide (a_p0.H = b_p1.H))
  (some false)
  (ifO (!decide (a_p0.Alpha = b_p1.Alpha))
  (some false)
  (ifO (!decide (a_p0.Orient = b_p1.Orient))
  (some false)
  (ifO (!(a_p0.Visible == b_p1.Visible))
  (some false)
  (Option.bind (laws_eqImage a_p0.Buffer b_p1.Buffer) fun x17_4 =>
  ifO (!x17_4)
  (some false)
  (some true)))))))))
noncomputable def laws_FnExactFitsCursor (aS_p0 : SurfaceT) : Option Bool :=
  Option.bind (laws_szSurface aS_p0 1048576) fun x2_2 =>
  ifO (decide (x2_2 < 0))
  (some true)
  (Option.bind (laws_toSurface aS_p0) fun x5_1 =>
  Option.bind (spec_FitsCursor x5_1) fun x5_2 =>
  Option.bind (laws_toSurface aS_p0) fun x6_1 =>
  Option.bind (impl_FitsCursor x6_1) fun x7_1 =>
  ifO (!(x7_1 == x5_2))
  (some false)
  (Option.bind (laws_toSurface aS_p0) fun x10_2 =>
  Option.bind (laws_eqSurface x6_1 x10_2) fun x10_3 =>
  ifO (!x10_3)
  (some false)
  (some true)))
noncomputable def laws_szPlane (a_p0 : PlaneT) (left_p1 : Int) : Option Int :=
  Option.bind (laws_szIntS a_p0.Words left_p1) fun x1_3 =>
  ifO (decide (x1_3 < 0))
  (some (-1))
  (some x1_3)
noncomputable def laws_szColorMap (a_p0 : ColorMapT) (left_p1 : Int) : Option Int :=
  Option.bind (laws_szIntS a_p0.Matrix left_p1) fun x1_3 =>
  ifO (decide (x1_3 < 0))
  (some (-1))
  (Option.bind (laws_szIntS a_p0.Curve x1_3) fun x4_3 =>
  ifO (decide (x4_3 < 0))
  (some (-1))
  (some x4_3))
noncomputable def laws_szChange (a_p0 : ChangeT) (left_p1 : Int) : Option Int :=
  Option.bind (laws_szPlane a_p0.Value left_p1) fun x1_3 =>
  ifO (decide (x1_3 < 0))
  (some (-1))
  (Option.bind (laws_szColorMap a_p0.Color x1_3) fun x4_3 =>
  ifO (decide (x4_3 < 0))
  (some (-1))
  (some x4_3))
noncomputable def laws_toPlane (a_p0 : PlaneT) : Option PlaneT :=
  Option.bind (laws_toIntS a_p0.Words) fun x8_2 =>
  some (PlaneT.mk a_p0.On a_p0.X a_p0.Y a_p0.W a_p0.H a_p0.Layout x8_2 a_p0.Alpha a_p0.Orient a_p0.ToW a_p0.ToH)
noncomputable def laws_toColorMap (a_p0 : ColorMapT) : Option ColorMapT :=
  Option.bind (laws_toIntS a_p0.Matrix) fun x2_2 =>
  Option.bind (laws_toIntS a_p0.Curve) fun x3_2 =>
  some (ColorMapT.mk x2_2 x3_2)
noncomputable def laws_toChange (a_p0 : ChangeT) : Option ChangeT :=
  Option.bind (laws_toPlane a_p0.Value) fun x3_2 =>
  Option.bind (laws_toColorMap a_p0.Color) fun x4_2 =>
  some (ChangeT.mk a_p0.Plane x3_2 x4_2)
noncomputable def spec_l19Zero (p_p0 : PlaneT) : Option Bool :=
  some ((((((((((decide (p_p0.X = 0)) && (decide (p_p0.Y = 0))) && (decide (p_p0.W = 0))) && (decide (p_p0.H = 0))) && (decide (p_p0.Layout = 0))) && (decide ((p_p0.Words.length : Int) = 0))) && (decide (p_p0.Alpha = 0))) && (decide (p_p0.Orient = 0))) && (decide (p_p0.ToW = 0))) && (decide (p_p0.ToH = 0)))
noncomputable def spec_ChangeOk (x_p0 : ChangeT) : Option Bool :=
  Option.bind (spec_l01In x_p0.Plane (-1) 3) fun x1_2 =>
  ifO (!x1_2)
  (some false)
  (ifO (decide (x_p0.Plane < 0))
  (Option.bind (spec_l19Zero x_p0.Value) fun x4_2 =>
  some (x4_2 && (!x_p0.Value.On)))
  (some ((decide ((x_p0.Color.Matrix.length : Int) = 0)) && (decide ((x_p0.Color.Curve.length : Int) = 0)))))
noncomputable def slices_Equal_S_int_int_L0 (s1_p0 : List Int) (s2_p1 : List Int) (v_0 : Int) : Option (Int ⊕ (Unit ⊕ Bool)) :=
  ifO (decide (v_0 < (s1_p0.length : Int)))
  (Option.bind (idx s1_p0 v_0) fun x6_2 =>
  Option.bind (idx s2_p1 v_0) fun x6_6 =>
  ifO (!decide (x6_2 = x6_6))
  (some (.inr (.inr (false))))
  (some (.inl (wr (v_0 + 1)))))
  (some (.inr (.inl ())))
noncomputable def slices_Equal_S_int_int (s1_p0 : List Int) (s2_p1 : List Int) : Option Bool :=
  ifO (!decide ((s1_p0.length : Int) = (s2_p1.length : Int)))
  (some false)
  (Option.bind (loopO (fun v_0 => slices_Equal_S_int_int_L0 s1_p0 s2_p1 v_0) 0) fun y => fork y (fun () => some true) (fun r => some r))
noncomputable def impl_samePlane (a_p0 : PlaneT) (a_p1 : PlaneT) : Option Bool :=
  Option.bind (andO ((((((((((a_p0.On == a_p1.On) && (decide (a_p0.X = a_p1.X))) && (decide (a_p0.Y = a_p1.Y))) && (decide (a_p0.W = a_p1.W))) && (decide (a_p0.H = a_p1.H))) && (decide (a_p0.Layout = a_p1.Layout))) && (decide (a_p0.Alpha = a_p1.Alpha))) && (decide (a_p0.Orient = a_p1.Orient))) && (decide (a_p0.ToW = a_p1.ToW))) && (decide (a_p0.ToH = a_p1.ToH))) (Option.bind (slices_Equal_S_int_int a_p0.Words a_p1.Words) fun x1_73 =>
  some x1_73)) fun q1_74 =>
  some q1_74
noncomputable def impl_ChangeOk (x_p0 : ChangeT) : Option Bool :=
  ifO (decide (x_p0.Plane = (-1)))
  (Option.bind (impl_samePlane x_p0.Value (PlaneT.mk false 0 0 0 0 0 [] 0 0 0 0)) fun x2_3 =>
  some x2_3)
  (Option.bind (impl_within x_p0.Plane 0 3) fun x3_2 =>
  some ((x3_2 && (decide ((x_p0.Color.Matrix.length : Int) = 0))) && (decide ((x_p0.Color.Curve.length : Int) = 0))))
noncomputable def laws_eqPlane (a_p0 : PlaneT) (b_p1 : PlaneT) : Option Bool :=
  ifO (!(a_p0.On == b_p1.On))
  (some false)
  (ifO (!decide (a_p0.X = b_p1.X))
  (some false)
  (ifO (!decide (a_p0.Y = b_p1.Y))
  (some false)
  (ifO (!decide (a_p0.W = b_p1.W))
  (some false)
  (ifO (!decide (a_p0.H = b_p1.H))
  (some false)
  (ifO (!decide (a_p0.Layout = b_p1.Layout))
  (some false)
  (Option.bind (laws_eqIntS a_p0.Words b_p1.Words) fun x13_4 =>
  ifO (!x13_4)
  (some false)
  (ifO (!decide (a_p0.Alpha = b_p1.Alpha))
  (some false)
  (ifO (!decide (a_p0.Orient = b_p1.Orient))
  (some false)
  (ifO (!decide (a_p0.ToW = b_p1.ToW))
  (some false)
  (ifO (!decide (a_p0.ToH = b_p1.ToH))
  (some false)
  (some true)))))))))))
noncomputable def laws_eqColorMap (a_p0 : ColorMapT) (b_p1 : ColorMapT) : Option Bool :=
  Option.bind (laws_eqIntS a_p0.Matrix b_p1.Matrix) fun x1_4 =>
  ifO (!x1_4)
  (some false)
  (Option.bind (laws_eqIntS a_p0.Curve b_p1.Curve) fun x3_4 =>
  ifO (!x3_4)
  (some false)
  (some true))
noncomputable def laws_eqChange (a_p0 : ChangeT) (b_p1 : ChangeT) : Option Bool :=
  ifO (!decide (a_p0.Plane = b_p1.Plane))
  (some false)
  (Option.bind (laws_eqPlane a_p0.Value b_p1.Value) fun x3_4 =>
  ifO (!x3_4)
  (some false)
  (Option.bind (laws_eqColorMap a_p0.Color b_p1.Color) fun x5_4 =>
  ifO (!x5_4)
  (some false)
  (some true)))
noncomputable def laws_FnExactChangeOk (aX_p0 : ChangeT) : Option Bool :=
  Option.bind (laws_szChange aX_p0 1048576) fun x2_2 =>
  ifO (decide (x2_2 < 0))
  (some true)
  (Option.bind (laws_toChange aX_p0) fun x5_1 =>
  Option.bind (spec_ChangeOk x5_1) fun x5_2 =>
  Option.bind (laws_toChange aX_p0) fun x6_1 =>
  Option.bind (impl_ChangeOk x6_1) fun x7_1 =>
  ifO (!(x7_1 == x5_2))
  (some false)
  (Option.bind (laws_toChange aX_p0) fun x10_2 =>
  Option.bind (laws_eqChange x6_1 x10_2) fun x10_3 =>
  ifO (!x10_3)
  (some false)
  (some true)))
noncomputable def laws_szPlaneS_L0 (a_p0 : List PlaneT) (left_0 : Int) (i_0 : Int) : Option ((Int × Int) ⊕ (Int ⊕ Int)) :=
  ifO (decide (i_0 < (a_p0.length : Int)))
  (Option.bind (idx a_p0 i_0) fun x7_2 =>
  Option.bind (laws_szPlane x7_2 left_0) fun x7_5 =>
  ifO (decide (x7_5 < 0))
  (some (.inr (.inr ((-1)))))
  (some (.inl (x7_5, (wr (i_0 + 1))))))
  (some (.inr (.inl left_0)))
noncomputable def laws_szPlaneS (a_p0 : List PlaneT) (left_p1 : Int) : Option Int :=
  ifO (decide ((wr (left_p1 - (a_p0.length : Int))) < 0))
  (some (-1))
  (Option.bind (loopO (fun (left_0, i_0) => laws_szPlaneS_L0 a_p0 left_0 i_0) ((wr (left_p1 - (a_p0.length : Int))), 0)) fun y => fork y (fun left_0e => some left_0e) (fun r => some r))
noncomputable def laws_szCrtc (a_p0 : CrtcT) (left_p1 : Int) : Option Int :=
  Option.bind (laws_szPlaneS a_p0.Planes left_p1) fun x1_3 =>
  ifO (decide (x1_3 < 0))
  (some (-1))
  (Option.bind (laws_szColorMap a_p0.Color x1_3) fun x4_3 =>
  ifO (decide (x4_3 < 0))
  (some (-1))
  (some x4_3))
noncomputable def laws_toPlaneS_L0 (a_p0 : List PlaneT) (out_0 : List PlaneT) (i_0 : Int) : Option (((List PlaneT) × Int) ⊕ (List PlaneT)) :=
  ifO (decide (i_0 < (a_p0.length : Int)))
  (Option.bind (idx a_p0 i_0) fun x5_4 =>
  Option.bind (laws_toPlane x5_4) fun x5_6 =>
  Option.bind (upd out_0 i_0 x5_6) fun x5_8 =>
  some (.inl (x5_8, (wr (i_0 + 1)))))
  (some (.inr out_0))
noncomputable def laws_toPlaneS (a_p0 : List PlaneT) : Option (List PlaneT) :=
  Option.bind (mkO (a_p0.length : Int) (PlaneT.mk false 0 0 0 0 0 [] 0 0 0 0)) fun x1_2 =>
  Option.bind (loopO (fun (out_0, i_0) => laws_toPlaneS_L0 a_p0 out_0 i_0) (x1_2, 0)) fun out_0e =>
  some out_0e
noncomputable def laws_toCrtc (a_p0 : CrtcT) : Option CrtcT :=
  Option.bind (laws_toPlaneS a_p0.Planes) fun x4_2 =>
  Option.bind (laws_toColorMap a_p0.Color) fun x5_2 =>
  some (CrtcT.mk a_p0.W a_p0.H x4_2 x5_2)
noncomputable def spec_l05Ints_L0 (a_p0 : List Int) (b_p1 : List Int) (k_0 : Int) : Option (Int ⊕ (Unit ⊕ Bool)) :=
  ifO (decide (k_0 < (a_p0.length : Int)))
  (Option.bind (idx a_p0 k_0) fun x6_2 =>
  Option.bind (idx b_p1 k_0) fun x6_6 =>
  ifO (!decide (x6_2 = x6_6))
  (some (.inr (.inr (false))))
  (some (.inl (wr (k_0 + 1)))))
  (some (.inr (.inl ())))
noncomputable def spec_l05Ints (a_p0 : List Int) (b_p1 : List Int) : Option Bool :=
  ifO (!decide ((a_p0.length : Int) = (b_p1.length : Int)))
  (some false)
  (Option.bind (loopO (fun k_0 => spec_l05Ints_L0 a_p0 b_p1 k_0) 0) fun y => fork y (fun () => some true) (fun r => some r))
noncomputable def spec_l22SameColor (a_p0 : ColorMapT) (b_p1 : ColorMapT) : Option Bool :=
  Option.bind (spec_l05Ints a_p0.Matrix b_p1.Matrix) fun x1_4 =>
  Option.bind (andO x1_4 (Option.bind (spec_l05Ints a_p0.Curve b_p1.Curve) fun x1_10 =>
  some x1_10)) fun q1_11 =>
  some q1_11
noncomputable def spec_l22SamePlane (a_p0 : PlaneT) (a_p1 : PlaneT) : Option Bool :=
  Option.bind (andO ((((((((((a_p0.On == a_p1.On) && (decide (a_p0.X = a_p1.X))) && (decide (a_p0.Y = a_p1.Y))) && (decide (a_p0.W = a_p1.W))) && (decide (a_p0.H = a_p1.H))) && (decide (a_p0.Layout = a_p1.Layout))) && (decide (a_p0.Alpha = a_p1.Alpha))) && (decide (a_p0.Orient = a_p1.Orient))) && (decide (a_p0.ToW = a_p1.ToW))) && (decide (a_p0.ToH = a_p1.ToH))) (Option.bind (spec_l05Ints a_p0.Words a_p1.Words) fun x1_73 =>
  some x1_73)) fun q1_74 =>
  some q1_74
noncomputable def spec_SameCrtc_L0 (a_p0 : CrtcT) (b_p1 : CrtcT) (k_0 : Int) : Option (Int ⊕ (Unit ⊕ Bool)) :=
  ifO (decide (k_0 < (a_p0.Planes.length : Int)))
  (Option.bind (idx a_p0.Planes k_0) fun x6_3 =>
  Option.bind (idx b_p1.Planes k_0) fun x6_8 =>
  Option.bind (spec_l22SamePlane x6_3 x6_8) fun x6_10 =>
  ifO (!x6_10)
  (some (.inr (.inr (false))))
  (some (.inl (wr (k_0 + 1)))))
  (some (.inr (.inl ())))
noncomputable def spec_SameCrtc (a_p0 : CrtcT) (b_p1 : CrtcT) : Option Bool :=
  Option.bind (orO (((!decide (a_p0.W = b_p1.W)) || (!decide (a_p0.H = b_p1.H))) || (!decide ((a_p0.Planes.length : Int) = (b_p1.Planes.length : Int)))) (Option.bind (spec_l22SameColor a_p0.Color b_p1.Color) fun x1_26 =>
  some (!x1_26))) fun q1_28 =>
  ifO q1_28
  (some false)
  (Option.bind (loopO (fun k_0 => spec_SameCrtc_L0 a_p0 b_p1 k_0) 0) fun y => fork y (fun () => some true) (fun r => some r))
noncomputable def slices_EqualFunc_S_impl_Plane_S_impl_Plane_impl_Plane_impl_Plane_L0 (s1_p0 : List PlaneT) (s2_p1 : List PlaneT) (eq_p2 : (PlaneT → PlaneT → Option Bool)) (v_0 : Int) : Option (Int ⊕ (Unit ⊕ Bool)) :=
  ifO (decide (v_0 < (s1_p0.length : Int)))
  (Option.bind (idx s1_p0 v_0) fun x5_1 =>
  Option.bind (idx s2_p1 v_0) fun x6_2 =>
  Option.bind (eq_p2 x5_1 x6_2) fun x7_3 =>
  ifO (!x7_3)
  (some (.inr (.inr (false))))
  (some (.inl (wr (v_0 + 1)))))
  (some (.inr (.inl ())))
noncomputable def slices_EqualFunc_S_impl_Plane_S_impl_Plane_impl_Plane_impl_Plane (s1_p0 : List PlaneT) (s2_p1 : List PlaneT) (eq_p2 : PlaneT → PlaneT → Option Bool) : Option Bool :=
  ifO (!decide ((s1_p0.length : Int) = (s2_p1.length : Int)))
  (some false)
  (Option.bind (loopO (fun v_0 => slices_EqualFunc_S_impl_Plane_S_impl_Plane_impl_Plane_impl_Plane_L0 s1_p0 s2_p1 eq_p2 v_0) 0) fun y => fork y (fun () => some true) (fun r => some r))
noncomputable def impl_sameColor (a_p0 : ColorMapT) (b_p1 : ColorMapT) : Option Bool :=
  Option.bind (slices_Equal_S_int_int a_p0.Matrix b_p1.Matrix) fun x1_4 =>
  Option.bind (andO x1_4 (Option.bind (slices_Equal_S_int_int a_p0.Curve b_p1.Curve) fun x1_10 =>
  some x1_10)) fun q1_11 =>
  some q1_11
noncomputable def impl_SameCrtc (a_p0 : CrtcT) (b_p1 : CrtcT) : Option Bool :=
  Option.bind (andO ((decide (a_p0.W = b_p1.W)) && (decide (a_p0.H = b_p1.H))) (Option.bind (slices_EqualFunc_S_impl_Plane_S_impl_Plane_impl_Plane_impl_Plane a_p0.Planes b_p1.Planes impl_samePlane) fun x1_17 =>
  some x1_17)) fun q1_18 =>
  Option.bind (andO q1_18 (Option.bind (impl_sameColor a_p0.Color b_p1.Color) fun x1_24 =>
  some x1_24)) fun q1_25 =>
  some q1_25
noncomputable def laws_eqPlaneS_L0 (a_p0 : List PlaneT) (b_p1 : List PlaneT) (i_0 : Int) : Option (Int ⊕ (Unit ⊕ Bool)) :=
  ifO (decide (i_0 < (a_p0.length : Int)))
  (Option.bind (idx a_p0 i_0) fun x6_2 =>
  Option.bind (idx b_p1 i_0) fun x6_6 =>
  Option.bind (laws_eqPlane x6_2 x6_6) fun x6_8 =>
  ifO (!x6_8)
  (some (.inr (.inr (false))))
  (some (.inl (wr (i_0 + 1)))))
  (some (.inr (.inl ())))
noncomputable def laws_eqPlaneS (a_p0 : List PlaneT) (b_p1 : List PlaneT) : Option Bool :=
  ifO (!decide ((a_p0.length : Int) = (b_p1.length : Int)))
  (some false)
  (Option.bind (loopO (fun i_0 => laws_eqPlaneS_L0 a_p0 b_p1 i_0) 0) fun y => fork y (fun () => some true) (fun r => some r))
noncomputable def laws_eqCrtc (a_p0 : CrtcT) (b_p1 : CrtcT) : Option Bool :=
  ifO (!decide (a_p0.W = b_p1.W))
  (some false)
  (ifO (!decide (a_p0.H = b_p1.H))
  (some false)
  (Option.bind (laws_eqPlaneS a_p0.Planes b_p1.Planes) fun x5_4 =>
  ifO (!x5_4)
  (some false)
  (Option.bind (laws_eqColorMap a_p0.Color b_p1.Color) fun x7_4 =>
  ifO (!x7_4)
  (some false)
  (some true))))
noncomputable def laws_FnExactSameCrtc (aA_p0 : CrtcT) (aB_p1 : CrtcT) : Option Bool :=
  Option.bind (laws_szCrtc aA_p0 1048576) fun x2_2 =>
  ifO (decide (x2_2 < 0))
  (some true)
  (Option.bind (laws_szCrtc aB_p1 x2_2) fun x5_2 =>
  ifO (decide (x5_2 < 0))
  (some true)
  (Option.bind (laws_toCrtc aA_p0) fun x8_1 =>
  Option.bind (laws_toCrtc aB_p1) fun x8_3 =>
  Option.bind (spec_SameCrtc x8_1 x8_3) fun x8_4 =>
  Option.bind (laws_toCrtc aA_p0) fun x9_1 =>
  Option.bind (laws_toCrtc aB_p1) fun x10_1 =>
  Option.bind (impl_SameCrtc x9_1 x10_1) fun x11_2 =>
  ifO (!(x11_2 == x8_4))
  (some false)
  (Option.bind (laws_toCrtc aA_p0) fun x14_2 =>
  Option.bind (laws_eqCrtc x9_1 x14_2) fun x14_3 =>
  ifO (!x14_3)
  (some false)
  (Option.bind (laws_toCrtc aB_p1) fun x16_2 =>
  Option.bind (laws_eqCrtc x10_1 x16_2) fun x16_3 =>
  ifO (!x16_3)
  (some false)
  (some true)))))
noncomputable def spec_WordCount (w_p0 : Int) (h_p1 : Int) (layout_p2 : Int) : Option Int :=
  Option.bind (spec_l01In w_p0 1 16) fun x1_1 =>
  Option.bind (orO (!x1_1) (Option.bind (spec_l01In h_p1 1 16) fun x1_5 =>
  some (!x1_5))) fun q1_7 =>
  ifO q1_7
  (some (-1))
  (ifO (decide (layout_p2 = 0))
  (some (wr (w_p0 * h_p1)))
  (ifO (decide (layout_p2 = 1))
  (some (wr ((wr ((wr (Int.tdiv (wr (w_p0 + 3)) 4)) * 4)) * (wr ((wr (Int.tdiv (wr (h_p1 + 3)) 4)) * 4)))))
  (some (-1))))
noncomputable def spec_WordPlace (w_p0 : Int) (h_p1 : Int) (layout_p2 : Int) (x_p3 : Int) (y_p4 : Int) : Option Int :=
  Option.bind (spec_WordCount w_p0 h_p1 layout_p2) fun x1_3 =>
  Option.bind (orO (decide (x1_3 < 0)) (Option.bind (spec_l01In x_p3 0 (wr (w_p0 - 1))) fun x1_9 =>
  some (!x1_9))) fun q1_11 =>
  Option.bind (orO q1_11 (Option.bind (spec_l01In y_p4 0 (wr (h_p1 - 1))) fun x1_16 =>
  some (!x1_16))) fun q1_18 =>
  ifO q1_18
  (some (-1))
  (ifO (decide (layout_p2 = 0))
  (some (wr ((wr (y_p4 * w_p0)) + x_p3)))
  (some (wr ((wr ((wr ((wr ((wr ((wr (Int.tdiv y_p4 4)) * (wr (Int.tdiv (wr (w_p0 + 3)) 4)))) + (wr (Int.tdiv x_p3 4)))) * 16)) + (wr ((Int.tmod y_p4 4) * 4)))) + (Int.tmod x_p3 4)))))
noncomputable def spec_StoreImage_L2 (a_p0 : ImageT) (v1_0 : Int) (v1_1 : Int) (v_2 : Int) : Option (Int ⊕ Int) :=
  Option.bind (andO (decide ((wr (v1_1 + v_2)) < a_p0.W)) (Option.bind (idx a_p0.Data (wr ((wr ((wr (v1_0 * a_p0.W)) + v1_1)) + v_2))) fun x11_17 =>
  Option.bind (idx a_p0.Data (wr ((wr (v1_0 * a_p0.W)) + v1_1))) fun x11_27 =>
  some (decide (x11_17 = x11_27)))) fun q11_30 =>
  ifO q11_30
  (some (.inl (wr (v_2 + 1))))
  (some (.inr v_2))
noncomputable def spec_StoreImage_L1 (a_p0 : ImageT) (v1_0 : Int) (v_1 : List Int) (v1_1 : Int) : Option (((List Int) × Int) ⊕ (List Int)) :=
  ifO (decide (v1_1 < a_p0.W))
  (Option.bind (loopO (fun v_2 => spec_StoreImage_L2 a_p0 v1_0 v1_1 v_2) 1) fun v_2e =>
  Option.bind (idx a_p0.Data (wr ((wr (v1_0 * a_p0.W)) + v1_1))) fun x13_10 =>
  Option.bind (app v_1 [v_2e, x13_10]) fun x13_13 =>
  some (.inl (x13_13, (wr (v1_1 + v_2e)))))
  (some (.inr v_1))
noncomputable def spec_StoreImage_L0 (a_p0 : ImageT) (v_0 : List Int) (v1_0 : Int) : Option (((List Int) × Int) ⊕ (List Int)) :=
  ifO (decide (v1_0 < a_p0.H))
  (Option.bind (loopO (fun (v_1, v1_1) => spec_StoreImage_L1 a_p0 v1_0 v_1 v1_1) (v_0, 0)) fun v_1e =>
  some (.inl (v_1e, (wr (v1_0 + 1)))))
  (some (.inr v_0))
noncomputable def spec_StoreImage_L4 (a_p0 : ImageT) (a_p1 : Int) (v1_3 : Int) (v_4 : List Int) (v1_4 : Int) : Option (((List Int) × Int) ⊕ (List Int)) :=
  ifO (decide (v1_4 < a_p0.W))
  (Option.bind (spec_WordPlace a_p0.W a_p0.H a_p1 v1_4 v1_3) fun x23_8 =>
  Option.bind (idx a_p0.Data (wr ((wr (v1_3 * a_p0.W)) + v1_4))) fun x23_17 =>
  Option.bind (upd v_4 x23_8 x23_17) fun x23_20 =>
  some (.inl (x23_20, (wr (v1_4 + 1)))))
  (some (.inr v_4))
noncomputable def spec_StoreImage_L3 (a_p0 : ImageT) (a_p1 : Int) (v_3 : List Int) (v1_3 : Int) : Option (((List Int) × Int) ⊕ (List Int)) :=
  ifO (decide (v1_3 < a_p0.H))
  (Option.bind (loopO (fun (v_4, v1_4) => spec_StoreImage_L4 a_p0 a_p1 v1_3 v_4 v1_4) (v_3, 0)) fun v_4e =>
  some (.inl (v_4e, (wr (v1_3 + 1)))))
  (some (.inr v_3))
noncomputable def spec_StoreImage (a_p0 : ImageT) (a_p1 : Int) : Option ((List Int) × Bool) :=
  Option.bind (spec_ImageOk a_p0) fun x1_1 =>
  Option.bind (orO (!x1_1) (Option.bind (spec_l01In a_p1 0 2) fun x1_5 =>
  some (!x1_5))) fun q1_7 =>
  ifO q1_7
  (some (([] : List Int), false))
  (ifO (decide (a_p1 = 2))
  (Option.bind (loopO (fun (v_0, v1_0) => spec_StoreImage_L0 a_p0 v_0 v1_0) (([] : List Int), 0)) fun v_0e =>
  some (v_0e, true))
  (Option.bind (spec_WordCount a_p0.W a_p0.H a_p1) fun x16_5 =>
  Option.bind (mkO x16_5 0) fun x16_6 =>
  Option.bind (loopO (fun (v_3, v1_3) => spec_StoreImage_L3 a_p0 a_p1 v_3 v1_3) (x16_6, 0)) fun v_3e =>
  some (v_3e, true)))
noncomputable def spec_PlaneOf (i_p0 : ImageT) (x_p1 : Int) (y_p2 : Int) (layout_p3 : Int) : Option PlaneT :=
  Option.bind (spec_StoreImage i_p0 layout_p3) fun (x1_2a, x1_2b) =>
  ifO (!x1_2b)
  (some (PlaneT.mk false 0 0 0 0 0 [] 0 0 0 0))
  (some (PlaneT.mk true x_p1 y_p2 i_p0.W i_p0.H layout_p3 x1_2a 255 0 0 0))
noncomputable def impl_runsOf_L1 (i_p0 : ImageT) (k_0 : Int) (end_1 : Int) : Option (Int ⊕ Int) :=
  Option.bind (remO end_1 i_p0.W) fun x5_3 =>
  Option.bind (andO (!decide (x5_3 = 0)) (Option.bind (idx i_p0.Data end_1) fun x5_9 =>
  Option.bind (idx i_p0.Data k_0) fun x5_14 =>
  some (decide (x5_9 = x5_14)))) fun q5_17 =>
  ifO q5_17
  (some (.inl (wr (end_1 + 1))))
  (some (.inr end_1))
noncomputable def impl_runsOf_L0 (i_p0 : ImageT) (out_0 : List Int) (k_0 : Int) : Option (((List Int) × Int) ⊕ (List Int)) :=
  ifO (decide (k_0 < (i_p0.Data.length : Int)))
  (Option.bind (loopO (fun end_1 => impl_runsOf_L1 i_p0 k_0 end_1) (wr (k_0 + 1))) fun end_1e =>
  Option.bind (idx i_p0.Data k_0) fun x7_7 =>
  Option.bind (app out_0 [(wr (end_1e - k_0)), x7_7]) fun x7_10 =>
  some (.inl (x7_10, end_1e)))
  (some (.inr out_0))
noncomputable def impl_runsOf (i_p0 : ImageT) : Option (List Int) :=
  Option.bind (loopO (fun (out_0, k_0) => impl_runsOf_L0 i_p0 out_0 k_0) (([] : List Int), 0)) fun out_0e =>
  some out_0e
noncomputable def impl_tilesOf (n_p0 : Int) : Option Int :=
  some (wr (Int.tdiv (wr ((wr (n_p0 + 4)) - 1)) 4))
noncomputable def impl_WordCount (w_p0 : Int) (h_p1 : Int) (layout_p2 : Int) : Option Int :=
  Option.bind (impl_isSide w_p0) fun x1_1 =>
  Option.bind (orO (!x1_1) (Option.bind (impl_isSide h_p1) fun x1_5 =>
  some (!x1_5))) fun q1_7 =>
  ifO q1_7
  (some (-1))
  (ifO (decide (layout_p2 = 0))
  (some (wr (w_p0 * h_p1)))
  (ifO (decide (layout_p2 = 1))
  (Option.bind (impl_tilesOf w_p0) fun x7_1 =>
  Option.bind (impl_tilesOf h_p1) fun x7_3 =>
  some (wr ((wr ((wr (x7_1 * x7_3)) * 4)) * 4)))
  (some (-1))))
noncomputable def impl_wordPlace (w_p0 : Int) (layout_p1 : Int) (x_p2 : Int) (y_p3 : Int) : Option Int :=
  ifO (decide (layout_p1 = 0))
  (some (wr ((wr (y_p3 * w_p0)) + x_p2)))
  (Option.bind (impl_tilesOf w_p0) fun x3_3 =>
  some (wr ((wr ((wr ((wr ((wr ((wr ((wr (Int.tdiv y_p3 4)) * x3_3)) + (wr (Int.tdiv x_p2 4)))) * 4)) * 4)) + (wr ((Int.tmod y_p3 4) * 4)))) + (Int.tmod x_p2 4))))
noncomputable def impl_StoreImage_L0 (i_p0 : ImageT) (layout_p1 : Int) (out_0 : List Int) (v_0 : Int) : Option (((List Int) × Int) ⊕ (List Int)) :=
  ifO (decide (v_0 < (i_p0.Data.length : Int)))
  (Option.bind (idx i_p0.Data v_0) fun x8_1 =>
  Option.bind (remO v_0 i_p0.W) fun x9_7 =>
  Option.bind (quoO v_0 i_p0.W) fun x9_11 =>
  Option.bind (impl_wordPlace i_p0.W layout_p1 x9_7 x9_11) fun x9_12 =>
  Option.bind (upd out_0 x9_12 x8_1) fun x9_15 =>
  some (.inl (x9_15, (wr (v_0 + 1)))))
  (some (.inr out_0))
noncomputable def impl_StoreImage (i_p0 : ImageT) (layout_p1 : Int) : Option ((List Int) × Bool) :=
  Option.bind (impl_ImageOk i_p0) fun x1_1 =>
  Option.bind (orO (!x1_1) (Option.bind (impl_within layout_p1 0 2) fun x1_5 =>
  some (!x1_5))) fun q1_7 =>
  ifO q1_7
  (some (([] : List Int), false))
  (ifO (decide (layout_p1 = 2))
  (Option.bind (impl_runsOf i_p0) fun x4_1 =>
  some (x4_1, true))
  (Option.bind (impl_WordCount i_p0.W i_p0.H layout_p1) fun x5_5 =>
  Option.bind (mkO x5_5 0) fun x5_6 =>
  Option.bind (loopO (fun (out_0, v_0) => impl_StoreImage_L0 i_p0 layout_p1 out_0 v_0) (x5_6, 0)) fun out_0e =>
  some (out_0e, true)))
noncomputable def impl_PlaneOf (i_p0 : ImageT) (x_p1 : Int) (y_p2 : Int) (layout_p3 : Int) : Option PlaneT :=
  Option.bind (impl_StoreImage i_p0 layout_p3) fun (x1_2a, x1_2b) =>
  ifO (!x1_2b)
  (some (PlaneT.mk false 0 0 0 0 0 [] 0 0 0 0))
  (some (PlaneT.mk true x_p1 y_p2 i_p0.W i_p0.H layout_p3 x1_2a 255 0 0 0))
noncomputable def laws_markIntS_L0  (a_0 : List Int) (k_0 : Int) (i_0 : Int) : Option (((List Int) × Int × Int) ⊕ (Int × (List Int))) :=
  ifO (decide (i_0 < (a_0.length : Int)))
  (Option.bind (upd a_0 i_0 k_0) fun x4_4 =>
  some (.inl (x4_4, (wr (k_0 + 1)), (wr (i_0 + 1)))))
  (some (.inr (k_0, a_0)))
noncomputable def laws_markIntS (a_p0 : List Int) (k_p1 : Int) : Option (Int × (List Int)) :=
  Option.bind (loopO (fun (a_0, k_0, i_0) => laws_markIntS_L0 a_0 k_0 i_0) (a_p0, k_p1, 0)) fun (k_0e, p_0e) =>
  some (k_0e, p_0e)
noncomputable def laws_markImage (a_p0 : ImageT) (k_p1 : Int) : Option (Int × (List Int)) :=
  Option.bind (laws_markIntS a_p0.Data k_p1) fun (x1_3a, x1_3b) =>
  some (x1_3a, x1_3b)
noncomputable def laws_markPlane (a_p0 : PlaneT) (k_p1 : Int) : Option (Int × (List Int)) :=
  Option.bind (laws_markIntS a_p0.Words k_p1) fun (x1_3a, x1_3b) =>
  some (x1_3a, x1_3b)
noncomputable def laws_heldIntS_L0 (a_p0 : List Int) (k_0 : Int) (i_0 : Int) : Option ((Int × Int) ⊕ (Int ⊕ Int)) :=
  ifO (decide (i_0 < (a_p0.length : Int)))
  (Option.bind (idx a_p0 i_0) fun x4_2 =>
  ifO (!decide (x4_2 = k_0))
  (some (.inr (.inr ((-1)))))
  (some (.inl ((wr (k_0 + 1)), (wr (i_0 + 1))))))
  (some (.inr (.inl k_0)))
noncomputable def laws_heldIntS (a_p0 : List Int) (k_p1 : Int) : Option Int :=
  Option.bind (loopO (fun (k_0, i_0) => laws_heldIntS_L0 a_p0 k_0 i_0) (k_p1, 0)) fun y => fork y (fun k_0e => some k_0e) (fun r => some r)
noncomputable def laws_heldPlane (a_p0 : PlaneT) (k_p1 : Int) : Option Int :=
  Option.bind (laws_heldIntS a_p0.Words k_p1) fun x1_3 =>
  ifO (decide (x1_3 < 0))
  (some (-1))
  (some x1_3)
noncomputable def laws_FnExactPlaneOf (a_p0 : ImageT) (a_p1 : Int) (a_p2 : Int) (a_p3 : Int) : Option Bool :=
  Option.bind (laws_szImage a_p0 1048576) fun x2_2 =>
  ifO (decide (x2_2 < 0))
  (some true)
  (Option.bind (laws_toImage a_p0) fun x5_1 =>
  Option.bind (spec_PlaneOf x5_1 a_p1 a_p2 a_p3) fun x5_5 =>
  Option.bind (laws_toImage a_p0) fun x6_1 =>
  Option.bind (impl_PlaneOf x6_1 a_p1 a_p2 a_p3) fun x7_4 =>
  Option.bind (laws_eqPlane x7_4 x5_5) fun x8_2 =>
  ifO (!x8_2)
  (some false)
  (Option.bind (laws_toImage a_p0) fun x10_2 =>
  Option.bind (laws_eqImage x6_1 x10_2) fun x10_3 =>
  ifO (!x10_3)
  (some false)
  (Option.bind (laws_markImage x6_1 1) fun (x13_2a, x13_2b) =>
  Option.bind (orO (decide (x13_2a < 0)) (Option.bind (laws_eqPlane x7_4 x5_5) fun x14_5 =>
  some (!x14_5))) fun q14_7 =>
  ifO q14_7
  (some false)
  (Option.bind (laws_markPlane x7_4 1) fun (x17_2a, x17_2b) =>
  Option.bind (laws_heldPlane (PlaneT.mk x7_4.On x7_4.X x7_4.Y x7_4.W x7_4.H x7_4.Layout x17_2b x7_4.Alpha x7_4.Orient x7_4.ToW x7_4.ToH) 1) fun x19_2 =>
  ifO (decide (x19_2 < 0))
  (some false)
  (ifO (!decide (x19_2 = x17_2a))
  (some false)
  (Option.bind (laws_toImage a_p0) fun x24_1 =>
  Option.bind (impl_PlaneOf x24_1 a_p1 a_p2 a_p3) fun x24_5 =>
  Option.bind (laws_eqPlane x24_5 x5_5) fun x25_2 =>
  ifO (!x25_2)
  (some false)
  (Option.bind (laws_heldPlane (PlaneT.mk x7_4.On x7_4.X x7_4.Y x7_4.W x7_4.H x7_4.Layout x17_2b x7_4.Alpha x7_4.Orient x7_4.ToW x7_4.ToH) 1) fun x28_2 =>
  ifO (decide (x28_2 < 0))
  (some false)
  (ifO (!decide (x28_2 = x17_2a))
  (some false)
  (some true)))))))))
noncomputable def laws_szSurfaceS_L0 (a_p0 : List SurfaceT) (left_0 : Int) (i_0 : Int) : Option ((Int × Int) ⊕ (Int ⊕ Int)) :=
  ifO (decide (i_0 < (a_p0.length : Int)))
  (Option.bind (idx a_p0 i_0) fun x7_2 =>
  Option.bind (laws_szSurface x7_2 left_0) fun x7_5 =>
  ifO (decide (x7_5 < 0))
  (some (.inr (.inr ((-1)))))
  (some (.inl (x7_5, (wr (i_0 + 1))))))
  (some (.inr (.inl left_0)))
noncomputable def laws_szSurfaceS (a_p0 : List SurfaceT) (left_p1 : Int) : Option Int :=
  ifO (decide ((wr (left_p1 - (a_p0.length : Int))) < 0))
  (some (-1))
  (Option.bind (loopO (fun (left_0, i_0) => laws_szSurfaceS_L0 a_p0 left_0 i_0) ((wr (left_p1 - (a_p0.length : Int))), 0)) fun y => fork y (fun left_0e => some left_0e) (fun r => some r))
noncomputable def laws_szScene (a_p0 : SceneT) (left_p1 : Int) : Option Int :=
  Option.bind (laws_szSurfaceS a_p0.Surfaces left_p1) fun x1_3 =>
  ifO (decide (x1_3 < 0))
  (some (-1))
  (some x1_3)
noncomputable def laws_toSurfaceS_L0 (a_p0 : List SurfaceT) (out_0 : List SurfaceT) (i_0 : Int) : Option (((List SurfaceT) × Int) ⊕ (List SurfaceT)) :=
  ifO (decide (i_0 < (a_p0.length : Int)))
  (Option.bind (idx a_p0 i_0) fun x5_4 =>
  Option.bind (laws_toSurface x5_4) fun x5_6 =>
  Option.bind (upd out_0 i_0 x5_6) fun x5_8 =>
  some (.inl (x5_8, (wr (i_0 + 1)))))
  (some (.inr out_0))
noncomputable def laws_toSurfaceS (a_p0 : List SurfaceT) : Option (List SurfaceT) :=
  Option.bind (mkO (a_p0.length : Int) (SurfaceT.mk 0 0 0 0 0 0 0 false (ImageT.mk 0 0 []))) fun x1_2 =>
  Option.bind (loopO (fun (out_0, i_0) => laws_toSurfaceS_L0 a_p0 out_0 i_0) (x1_2, 0)) fun out_0e =>
  some out_0e
noncomputable def laws_toScene (a_p0 : SceneT) : Option SceneT :=
  Option.bind (laws_toSurfaceS a_p0.Surfaces) fun x5_2 =>
  some (SceneT.mk a_p0.W a_p0.H a_p0.Back x5_2)
noncomputable def spec_ChannelOf (p_p0 : Int) (k_p1 : Int) : Option Int :=
  Option.bind (spec_l04Pixel p_p0) fun x1_1 =>
  Option.bind (orO (!x1_1) (Option.bind (spec_l01In k_p1 0 3) fun x1_5 =>
  some (!x1_5))) fun q1_7 =>
  ifO q1_7
  (some (-1))
  (Option.bind (shrO p_p0 (wr (24 - (wr (8 * k_p1))))) fun x3_4 =>
  some (and64 x3_4 255))
noncomputable def spec_l10Opaque (p_p0 : Int) : Option Bool :=
  Option.bind (spec_l04Pixel p_p0) fun x1_1 =>
  Option.bind (andO x1_1 (Option.bind (spec_ChannelOf p_p0 0) fun x1_4 =>
  some (decide (x1_4 = 255)))) fun q1_6 =>
  some q1_6
noncomputable def spec_SurfaceIndex_L0 (s_p0 : SceneT) (id_p1 : Int) (k_0 : Int) : Option (Int ⊕ (Unit ⊕ Int)) :=
  ifO (decide (k_0 < (s_p0.Surfaces.length : Int)))
  (Option.bind (idx s_p0.Surfaces k_0) fun x4_3 =>
  ifO (decide (x4_3.Id = id_p1))
  (some (.inr (.inr (k_0))))
  (some (.inl (wr (k_0 + 1)))))
  (some (.inr (.inl ())))
noncomputable def spec_SurfaceIndex (s_p0 : SceneT) (id_p1 : Int) : Option Int :=
  Option.bind (loopO (fun k_0 => spec_SurfaceIndex_L0 s_p0 id_p1 k_0) 0) fun y => fork y (fun () => some (-1)) (fun r => some r)
noncomputable def spec_SceneOk_L0 (s_p0 : SceneT) (k_0 : Int) : Option (Int ⊕ (Unit ⊕ Bool)) :=
  ifO (decide (k_0 < (s_p0.Surfaces.length : Int)))
  (Option.bind (idx s_p0.Surfaces k_0) fun x6_3 =>
  Option.bind (spec_SurfaceOk x6_3) fun x6_5 =>
  Option.bind (orO (!x6_5) (Option.bind (idx s_p0.Surfaces k_0) fun x6_12 =>
  Option.bind (spec_SurfaceIndex s_p0 x6_12.Id) fun x6_15 =>
  some (!decide (x6_15 = k_0)))) fun q6_18 =>
  ifO q6_18
  (some (.inr (.inr (false))))
  (some (.inl (wr (k_0 + 1)))))
  (some (.inr (.inl ())))
noncomputable def spec_SceneOk (s_p0 : SceneT) : Option Bool :=
  Option.bind (spec_l01In s_p0.W 1 16) fun x1_2 =>
  Option.bind (orO (!x1_2) (Option.bind (spec_l01In s_p0.H 1 16) fun x1_7 =>
  some (!x1_7))) fun q1_9 =>
  Option.bind (orO q1_9 (Option.bind (spec_l10Opaque s_p0.Back) fun x1_13 =>
  some (!x1_13))) fun q1_15 =>
  ifO (q1_15 || (decide (6 < (s_p0.Surfaces.length : Int))))
  (some false)
  (Option.bind (loopO (fun k_0 => spec_SceneOk_L0 s_p0 k_0) 0) fun y => fork y (fun () => some true) (fun r => some r))
noncomputable def spec_TopVisible_L0 (s_p0 : SceneT) (n_0 : Int) (k_0 : Int) : Option ((Int × Int) ⊕ (Unit ⊕ Int)) :=
  ifO (decide (0 ≤ k_0))
  (Option.bind (idx s_p0.Surfaces k_0) fun x6_3 =>
  ifO x6_3.Visible
  (ifO (decide (n_0 = 0))
  (some (.inr (.inr (k_0))))
  (some (.inl ((wr (n_0 - 1)), (wr (k_0 - 1))))))
  (some (.inl (n_0, (wr (k_0 - 1))))))
  (some (.inr (.inl ())))
noncomputable def spec_TopVisible (s_p0 : SceneT) (n_p1 : Int) : Option Int :=
  Option.bind (spec_SceneOk s_p0) fun x1_1 =>
  ifO ((!x1_1) || (decide (n_p1 < 0)))
  (some (-1))
  (Option.bind (loopO (fun (n_0, k_0) => spec_TopVisible_L0 s_p0 n_0 k_0) (n_p1, (wr ((s_p0.Surfaces.length : Int) - 1)))) fun y => fork y (fun () => some (-1)) (fun r => some r))
noncomputable def impl_channel (p_p0 : Int) (k_p1 : Int) : Option Int :=
  Option.bind (shrO p_p0 (wr (24 - (wr (8 * k_p1))))) fun x1_4 =>
  some (and64 x1_4 255)
noncomputable def impl_isOpaquePixel (p_p0 : Int) : Option Bool :=
  Option.bind (impl_isPixel p_p0) fun x1_1 =>
  Option.bind (andO x1_1 (Option.bind (impl_channel p_p0 0) fun x1_4 =>
  some (decide (x1_4 = 255)))) fun q1_6 =>
  some q1_6
noncomputable def impl_SceneOk_L0 (s_p0 : SceneT) (seen_0 : List (Int × Bool)) (v_0 : Int) : Option (((List (Int × Bool)) × Int) ⊕ (Unit ⊕ Bool)) :=
  ifO (decide (v_0 < (s_p0.Surfaces.length : Int)))
  (Option.bind (idx s_p0.Surfaces v_0) fun x6_0 =>
  Option.bind (orO (mget seen_0 x6_0.Id) (Option.bind (impl_SurfaceOk x6_0) fun x7_6 =>
  some (!x7_6))) fun q7_8 =>
  ifO q7_8
  (some (.inr (.inr (false))))
  (some (.inl ((mset seen_0 x6_0.Id true), (wr (v_0 + 1))))))
  (some (.inr (.inl ())))
noncomputable def impl_SceneOk (s_p0 : SceneT) : Option Bool :=
  Option.bind (impl_isSide s_p0.W) fun x1_2 =>
  Option.bind (orO (!x1_2) (Option.bind (impl_isSide s_p0.H) fun x1_7 =>
  some (!x1_7))) fun q1_9 =>
  Option.bind (orO q1_9 (Option.bind (impl_isOpaquePixel s_p0.Back) fun x1_13 =>
  some (!x1_13))) fun q1_15 =>
  ifO (q1_15 || (decide (6 < (s_p0.Surfaces.length : Int))))
  (some false)
  (Option.bind (loopO (fun (seen_0, v_0) => impl_SceneOk_L0 s_p0 seen_0 v_0) (([] : List (Int × Bool)), 0)) fun y => fork y (fun () => some true) (fun r => some r))
noncomputable def impl_TopVisible_L0 (s_p0 : SceneT) (n_0 : Int) (k_0 : Int) : Option ((Int × Int) ⊕ (Unit ⊕ Int)) :=
  ifO (decide (0 ≤ k_0))
  (Option.bind (idx s_p0.Surfaces k_0) fun x6_3 =>
  ifO (!x6_3.Visible)
  (some (.inl (n_0, (wr (k_0 - 1)))))
  (ifO (decide (n_0 = 0))
  (some (.inr (.inr (k_0))))
  (some (.inl ((wr (n_0 - 1)), (wr (k_0 - 1)))))))
  (some (.inr (.inl ())))
noncomputable def impl_TopVisible (s_p0 : SceneT) (n_p1 : Int) : Option Int :=
  Option.bind (impl_SceneOk s_p0) fun x1_1 =>
  ifO ((!x1_1) || (decide (n_p1 < 0)))
  (some (-1))
  (Option.bind (loopO (fun (n_0, k_0) => impl_TopVisible_L0 s_p0 n_0 k_0) (n_p1, (wr ((s_p0.Surfaces.length : Int) - 1)))) fun y => fork y (fun () => some (-1)) (fun r => some r))
noncomputable def laws_eqSurfaceS_L0 (a_p0 : List SurfaceT) (b_p1 : List SurfaceT) (i_0 : Int) : Option (Int ⊕ (Unit ⊕ Bool)) :=
  ifO (decide (i_0 < (a_p0.length : Int)))
  (Option.bind (idx a_p0 i_0) fun x6_2 =>
  Option.bind (idx b_p1 i_0) fun x6_6 =>
  Option.bind (laws_eqSurface x6_2 x6_6) fun x6_8 =>
  ifO (!x6_8)
  (some (.inr (.inr (false))))
  (some (.inl (wr (i_0 + 1)))))
  (some (.inr (.inl ())))
noncomputable def laws_eqSurfaceS (a_p0 : List SurfaceT) (b_p1 : List SurfaceT) : Option Bool :=
  ifO (!decide ((a_p0.length : Int) = (b_p1.length : Int)))
  (some false)
  (Option.bind (loopO (fun i_0 => laws_eqSurfaceS_L0 a_p0 b_p1 i_0) 0) fun y => fork y (fun () => some true) (fun r => some r))
noncomputable def laws_eqScene (a_p0 : SceneT) (b_p1 : SceneT) : Option Bool :=
  ifO (!decide (a_p0.W = b_p1.W))
  (some false)
  (ifO (!decide (a_p0.H = b_p1.H))
  (some false)
  (ifO (!decide (a_p0.Back = b_p1.Back))
  (some false)
  (Option.bind (laws_eqSurfaceS a_p0.Surfaces b_p1.Surfaces) fun x7_4 =>
  ifO (!x7_4)
  (some false)
  (some true))))
noncomputable def laws_FnExactTopVisible (aS_p0 : SceneT) (aN_p1 : Int) : Option Bool :=
  Option.bind (laws_szScene aS_p0 1048576) fun x2_2 =>
  ifO (decide (x2_2 < 0))
  (some true)
  (Option.bind (laws_toScene aS_p0) fun x5_1 =>
  Option.bind (spec_TopVisible x5_1 aN_p1) fun x5_3 =>
  Option.bind (laws_toScene aS_p0) fun x6_1 =>
  Option.bind (impl_TopVisible x6_1 aN_p1) fun x7_2 =>
  ifO (!decide (x7_2 = x5_3))
  (some false)
  (Option.bind (laws_toScene aS_p0) fun x10_2 =>
  Option.bind (laws_eqScene x6_1 x10_2) fun x10_3 =>
  ifO (!x10_3)
  (some false)
  (some true)))
end Go.Proofs.Ytfgkgkkcaclfpaa
