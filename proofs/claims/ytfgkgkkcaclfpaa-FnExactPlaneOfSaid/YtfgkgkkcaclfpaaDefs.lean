/- The pure functions that the walks bring out of the program. -/
import Derived.Test.YtfgkgkkcaclfpaaStructs
namespace Go.Proofs.Ytfgkgkkcaclfpaa
open Go.RowKit K
set_option maxRecDepth 100000
set_option maxHeartbeats 4000000

noncomputable def laws_szIntS (a_p0 : List Int) (left_p1 : Int) : Option Int :=
  ifO (decide ((wr (left_p1 - (a_p0.length : Int))) < 0))
  (some (-1))
  (some (wr (left_p1 - (a_p0.length : Int))))
noncomputable def laws_szImage (a_p0 : ImageT) (left_p1 : Int) : Option Int :=
  Option.bind (laws_szIntS a_p0.Data left_p1) fun x1_3 =>
  ifO (decide (x1_3 < 0))
  (some (-1))
  (some x1_3)
noncomputable def laws_toIntS_L0 (a_p0 : List Int) (out_0 : List Int) (i_0 : Int) : Option (((List Int) × Int) ⊕ (List Int)) :=
  ifO (decide (i_0 < (a_p0.length : Int)))
  (Option.bind (idx a_p0 i_0) fun x5_4 =>
  Option.bind (upd out_0 i_0 x5_4) fun x5_7 =>
  some (.inl (x5_7, (wr (i_0 + 1)))))
  (some (.inr out_0))
noncomputable def laws_toIntS (a_p0 : List Int) : Option (List Int) :=
  Option.bind (mkO (a_p0.length : Int) 0) fun x1_2 =>
  Option.bind (loopO (fun (out_0, i_0) => laws_toIntS_L0 a_p0 out_0 i_0) (x1_2, 0)) fun out_0e =>
  some out_0e
noncomputable def laws_toImage (a_p0 : ImageT) : Option ImageT :=
  Option.bind (laws_toIntS a_p0.Data) fun x4_2 =>
  some (ImageT.mk a_p0.W a_p0.H x4_2)
noncomputable def spec_l01In (x_p0 : Int) (least_p1 : Int) (most_p2 : Int) : Option Bool :=
  some ((decide (least_p1 ≤ x_p0)) && (decide (x_p0 ≤ most_p2)))
noncomputable def spec_l04Pixel (p_p0 : Int) : Option Bool :=
  Option.bind (spec_l01In p_p0 0 4294967295) fun x1_1 =>
  some x1_1
noncomputable def spec_ImageOk_L0 (i_p0 : ImageT) (k_0 : Int) : Option (Int ⊕ (Unit ⊕ Bool)) :=
  ifO (decide (k_0 < (i_p0.Data.length : Int)))
  (Option.bind (idx i_p0.Data k_0) fun x6_3 =>
  Option.bind (spec_l04Pixel x6_3) fun x6_5 =>
  ifO (!x6_5)
  (some (.inr (.inr (false))))
  (some (.inl (wr (k_0 + 1)))))
  (some (.inr (.inl ())))
noncomputable def spec_ImageOk (i_p0 : ImageT) : Option Bool :=
  Option.bind (spec_l01In i_p0.W 1 16) fun x1_2 =>
  Option.bind (orO (!x1_2) (Option.bind (spec_l01In i_p0.H 1 16) fun x1_7 =>
  some (!x1_7))) fun q1_9 =>
  ifO (q1_9 || (!decide ((i_p0.Data.length : Int) = (wr (i_p0.W * i_p0.H)))))
  (some false)
  (Option.bind (loopO (fun k_0 => spec_ImageOk_L0 i_p0 k_0) 0) fun y => fork y (fun () => some true) (fun r => some r))
noncomputable def spec_WordCount (w_p0 : Int) (h_p1 : Int) (layout_p2 : Int) : Option Int :=
  Option.bind (spec_l01In w_p0 1 16) fun x1_1 =>
  Option.bind (orO (!x1_1) (Option.bind (spec_l01In h_p1 1 16) fun x1_5 =>
  some (!x1_5))) fun q1_7 =>
  ifO q1_7
  (some (-1))
  (ifO (decide (layout_p2 = 0))
  (some (wr (w_p0 * h_p1)))
  (ifO (decide (layout_p2 = 1))
  (some (wr ((wr ((wr (Int.tdiv (wr (w_p0 + 3)) 4)) * 4)) * (wr ((wr (Int.tdiv (wr (h_p1 + 3)) 4)) * 4)))))
  (some (-1))))
noncomputable def spec_WordPlace (w_p0 : Int) (h_p1 : Int) (layout_p2 : Int) (x_p3 : Int) (y_p4 : Int) : Option Int :=
  Option.bind (spec_WordCount w_p0 h_p1 layout_p2) fun x1_3 =>
  Option.bind (orO (decide (x1_3 < 0)) (Option.bind (spec_l01In x_p3 0 (wr (w_p0 - 1))) fun x1_9 =>
  some (!x1_9))) fun q1_11 =>
  Option.bind (orO q1_11 (Option.bind (spec_l01In y_p4 0 (wr (h_p1 - 1))) fun x1_16 =>
  some (!x1_16))) fun q1_18 =>
  ifO q1_18
  (some (-1))
  (ifO (decide (layout_p2 = 0))
  (some (wr ((wr (y_p4 * w_p0)) + x_p3)))
  (some (wr ((wr ((wr ((wr ((wr ((wr (Int.tdiv y_p4 4)) * (wr (Int.tdiv (wr (w_p0 + 3)) 4)))) + (wr (Int.tdiv x_p3 4)))) * 16)) + (wr ((Int.tmod y_p4 4) * 4)))) + (Int.tmod x_p3 4)))))
noncomputable def spec_StoreImage_L2 (a_p0 : ImageT) (v1_0 : Int) (v1_1 : Int) (v_2 : Int) : Option (Int ⊕ Int) :=
  Option.bind (andO (decide ((wr (v1_1 + v_2)) < a_p0.W)) (Option.bind (idx a_p0.Data (wr ((wr ((wr (v1_0 * a_p0.W)) + v1_1)) + v_2))) fun x11_17 =>
  Option.bind (idx a_p0.Data (wr ((wr (v1_0 * a_p0.W)) + v1_1))) fun x11_27 =>
  some (decide (x11_17 = x11_27)))) fun q11_30 =>
  ifO q11_30
  (some (.inl (wr (v_2 + 1))))
  (some (.inr v_2))
noncomputable def spec_StoreImage_L1 (a_p0 : ImageT) (v1_0 : Int) (v_1 : List Int) (v1_1 : Int) : Option (((List Int) × Int) ⊕ (List Int)) :=
  ifO (decide (v1_1 < a_p0.W))
  (Option.bind (loopO (fun v_2 => spec_StoreImage_L2 a_p0 v1_0 v1_1 v_2) 1) fun v_2e =>
  Option.bind (idx a_p0.Data (wr ((wr (v1_0 * a_p0.W)) + v1_1))) fun x13_10 =>
  Option.bind (app v_1 [v_2e, x13_10]) fun x13_13 =>
  some (.inl (x13_13, (wr (v1_1 + v_2e)))))
  (some (.inr v_1))
noncomputable def spec_StoreImage_L0 (a_p0 : ImageT) (v_0 : List Int) (v1_0 : Int) : Option (((List Int) × Int) ⊕ (List Int)) :=
  ifO (decide (v1_0 < a_p0.H))
  (Option.bind (loopO (fun (v_1, v1_1) => spec_StoreImage_L1 a_p0 v1_0 v_1 v1_1) (v_0, 0)) fun v_1e =>
  some (.inl (v_1e, (wr (v1_0 + 1)))))
  (some (.inr v_0))
noncomputable def spec_StoreImage_L4 (a_p0 : ImageT) (a_p1 : Int) (v1_3 : Int) (v_4 : List Int) (v1_4 : Int) : Option (((List Int) × Int) ⊕ (List Int)) :=
  ifO (decide (v1_4 < a_p0.W))
  (Option.bind (spec_WordPlace a_p0.W a_p0.H a_p1 v1_4 v1_3) fun x23_8 =>
  Option.bind (idx a_p0.Data (wr ((wr (v1_3 * a_p0.W)) + v1_4))) fun x23_17 =>
  Option.bind (upd v_4 x23_8 x23_17) fun x23_20 =>
  some (.inl (x23_20, (wr (v1_4 + 1)))))
  (some (.inr v_4))
noncomputable def spec_StoreImage_L3 (a_p0 : ImageT) (a_p1 : Int) (v_3 : List Int) (v1_3 : Int) : Option (((List Int) × Int) ⊕ (List Int)) :=
  ifO (decide (v1_3 < a_p0.H))
  (Option.bind (loopO (fun (v_4, v1_4) => spec_StoreImage_L4 a_p0 a_p1 v1_3 v_4 v1_4) (v_3, 0)) fun v_4e =>
  some (.inl (v_4e, (wr (v1_3 + 1)))))
  (some (.inr v_3))
noncomputable def spec_StoreImage (a_p0 : ImageT) (a_p1 : Int) : Option ((List Int) × Bool) :=
  Option.bind (spec_ImageOk a_p0) fun x1_1 =>
  Option.bind (orO (!x1_1) (Option.bind (spec_l01In a_p1 0 2) fun x1_5 =>
  some (!x1_5))) fun q1_7 =>
  ifO q1_7
  (some (([] : List Int), false))
  (ifO (decide (a_p1 = 2))
  (Option.bind (loopO (fun (v_0, v1_0) => spec_StoreImage_L0 a_p0 v_0 v1_0) (([] : List Int), 0)) fun v_0e =>
  some (v_0e, true))
  (Option.bind (spec_WordCount a_p0.W a_p0.H a_p1) fun x16_5 =>
  Option.bind (mkO x16_5 0) fun x16_6 =>
  Option.bind (loopO (fun (v_3, v1_3) => spec_StoreImage_L3 a_p0 a_p1 v_3 v1_3) (x16_6, 0)) fun v_3e =>
  some (v_3e, true)))
noncomputable def spec_PlaneOf (i_p0 : ImageT) (x_p1 : Int) (y_p2 : Int) (layout_p3 : Int) : Option PlaneT :=
  Option.bind (spec_StoreImage i_p0 layout_p3) fun (x1_2a, x1_2b) =>
  ifO (!x1_2b)
  (some (PlaneT.mk false 0 0 0 0 0 [] 0 0 0 0))
  (some (PlaneT.mk true x_p1 y_p2 i_p0.W i_p0.H layout_p3 x1_2a 255 0 0 0))
noncomputable def impl_within (n_p0 : Int) (low_p1 : Int) (high_p2 : Int) : Option Bool :=
  some ((decide (low_p1 ≤ n_p0)) && (decide (n_p0 ≤ high_p2)))
noncomputable def impl_isSide (n_p0 : Int) : Option Bool :=
  Option.bind (impl_within n_p0 1 16) fun x1_1 =>
  some x1_1
noncomputable def impl_isPixel (p_p0 : Int) : Option Bool :=
  Option.bind (impl_within p_p0 0 4294967295) fun x1_1 =>
  some x1_1
noncomputable def impl_ImageOk_L0 (i_p0 : ImageT) (v_0 : Int) : Option (Int ⊕ (Unit ⊕ Bool)) :=
  ifO (decide (v_0 < (i_p0.Data.length : Int)))
  (Option.bind (idx i_p0.Data v_0) fun x5_0 =>
  Option.bind (impl_isPixel x5_0) fun x6_1 =>
  ifO (!x6_1)
  (some (.inr (.inr (false))))
  (some (.inl (wr (v_0 + 1)))))
  (some (.inr (.inl ())))
noncomputable def impl_ImageOk (i_p0 : ImageT) : Option Bool :=
  Option.bind (impl_isSide i_p0.W) fun x1_2 =>
  Option.bind (orO (!x1_2) (Option.bind (impl_isSide i_p0.H) fun x1_7 =>
  some (!x1_7))) fun q1_9 =>
  ifO (q1_9 || (!decide ((i_p0.Data.length : Int) = (wr (i_p0.W * i_p0.H)))))
  (some false)
  (Option.bind (loopO (fun v_0 => impl_ImageOk_L0 i_p0 v_0) 0) fun y => fork y (fun () => some true) (fun r => some r))
noncomputable def impl_runsOf_L1 (i_p0 : ImageT) (k_0 : Int) (end_1 : Int) : Option (Int ⊕ Int) :=
  Option.bind (remO end_1 i_p0.W) fun x5_3 =>
  Option.bind (andO (!decide (x5_3 = 0)) (Option.bind (idx i_p0.Data end_1) fun x5_9 =>
  Option.bind (idx i_p0.Data k_0) fun x5_14 =>
  some (decide (x5_9 = x5_14)))) fun q5_17 =>
  ifO q5_17
  (some (.inl (wr (end_1 + 1))))
  (some (.inr end_1))
noncomputable def impl_runsOf_L0 (i_p0 : ImageT) (out_0 : List Int) (k_0 : Int) : Option (((List Int) × Int) ⊕ (List Int)) :=
  ifO (decide (k_0 < (i_p0.Data.length : Int)))
  (Option.bind (loopO (fun end_1 => impl_runsOf_L1 i_p0 k_0 end_1) (wr (k_0 + 1))) fun end_1e =>
  Option.bind (idx i_p0.Data k_0) fun x7_7 =>
  Option.bind (app out_0 [(wr (end_1e - k_0)), x7_7]) fun x7_10 =>
  some (.inl (x7_10, end_1e)))
  (some (.inr out_0))
noncomputable def impl_runsOf (i_p0 : ImageT) : Option (List Int) :=
  Option.bind (loopO (fun (out_0, k_0) => impl_runsOf_L0 i_p0 out_0 k_0) (([] : List Int), 0)) fun out_0e =>
  some out_0e
noncomputable def impl_tilesOf (n_p0 : Int) : Option Int :=
  some (wr (Int.tdiv (wr ((wr (n_p0 + 4)) - 1)) 4))
noncomputable def impl_WordCount (w_p0 : Int) (h_p1 : Int) (layout_p2 : Int) : Option Int :=
  Option.bind (impl_isSide w_p0) fun x1_1 =>
  Option.bind (orO (!x1_1) (Option.bind (impl_isSide h_p1) fun x1_5 =>
  some (!x1_5))) fun q1_7 =>
  ifO q1_7
  (some (-1))
  (ifO (decide (layout_p2 = 0))
  (some (wr (w_p0 * h_p1)))
  (ifO (decide (layout_p2 = 1))
  (Option.bind (impl_tilesOf w_p0) fun x7_1 =>
  Option.bind (impl_tilesOf h_p1) fun x7_3 =>
  some (wr ((wr ((wr (x7_1 * x7_3)) * 4)) * 4)))
  (some (-1))))
noncomputable def impl_wordPlace (w_p0 : Int) (layout_p1 : Int) (x_p2 : Int) (y_p3 : Int) : Option Int :=
  ifO (decide (layout_p1 = 0))
  (some (wr ((wr (y_p3 * w_p0)) + x_p2)))
  (Option.bind (impl_tilesOf w_p0) fun x3_3 =>
  some (wr ((wr ((wr ((wr ((wr ((wr ((wr (Int.tdiv y_p3 4)) * x3_3)) + (wr (Int.tdiv x_p2 4)))) * 4)) * 4)) + (wr ((Int.tmod y_p3 4) * 4)))) + (Int.tmod x_p2 4))))
noncomputable def impl_StoreImage_L0 (i_p0 : ImageT) (layout_p1 : Int) (out_0 : List Int) (v_0 : Int) : Option (((List Int) × Int) ⊕ (List Int)) :=
  ifO (decide (v_0 < (i_p0.Data.length : Int)))
  (Option.bind (idx i_p0.Data v_0) fun x8_1 =>
  Option.bind (remO v_0 i_p0.W) fun x9_7 =>
  Option.bind (quoO v_0 i_p0.W) fun x9_11 =>
  Option.bind (impl_wordPlace i_p0.W layout_p1 x9_7 x9_11) fun x9_12 =>
  Option.bind (upd out_0 x9_12 x8_1) fun x9_15 =>
  some (.inl (x9_15, (wr (v_0 + 1)))))
  (some (.inr out_0))
noncomputable def impl_StoreImage (i_p0 : ImageT) (layout_p1 : Int) : Option ((List Int) × Bool) :=
  Option.bind (impl_ImageOk i_p0) fun x1_1 =>
  Option.bind (orO (!x1_1) (Option.bind (impl_within layout_p1 0 2) fun x1_5 =>
  some (!x1_5))) fun q1_7 =>
  ifO q1_7
  (some (([] : List Int), false))
  (ifO (decide (layout_p1 = 2))
  (Option.bind (impl_runsOf i_p0) fun x4_1 =>
  some (x4_1, true))
  (Option.bind (impl_WordCount i_p0.W i_p0.H layout_p1) fun x5_5 =>
  Option.bind (mkO x5_5 0) fun x5_6 =>
  Option.bind (loopO (fun (out_0, v_0) => impl_StoreImage_L0 i_p0 layout_p1 out_0 v_0) (x5_6, 0)) fun out_0e =>
  some (out_0e, true)))
noncomputable def impl_PlaneOf (i_p0 : ImageT) (x_p1 : Int) (y_p2 : Int) (layout_p3 : Int) : Option PlaneT :=
  Option.bind (impl_StoreImage i_p0 layout_p3) fun (x1_2a, x1_2b) =>
  ifO (!x1_2b)
  (some (PlaneT.mk false 0 0 0 0 0 [] 0 0 0 0))
  (some (PlaneT.mk true x_p1 y_p2 i_p0.W i_p0.H layout_p3 x1_2a 255 0 0 0))
noncomputable def laws_eqIntS_L0 (a_p0 : List Int) (b_p1 : List Int) (i_0 : Int) : Option (Int ⊕ (Unit ⊕ Bool)) :=
  ifO (decide (i_0 < (a_p0.length : Int)))
  (Option.bind (idx a_p0 i_0) fun x6_2 =>
  Option.bind (idx b_p1 i_0) fun x6_6 =>
  ifO (!decide (x6_2 = x6_6))
  (some (.inr (.inr (false))))
  (some (.inl (wr (i_0 + 1)))))
  (some (.inr (.inl ())))
noncomputable def laws_eqIntS (a_p0 : List Int) (b_p1 : List Int) : Option Bool :=
  ifO (!decide ((a_p0.length : Int) = (b_p1.length : Int)))
  (some false)
  (Option.bind (loopO (fun i_0 => laws_eqIntS_L0 a_p0 b_p1 i_0) 0) fun y => fork y (fun () => some true) (fun r => some r))
noncomputable def laws_eqPlane (a_p0 : PlaneT) (b_p1 : PlaneT) : Option Bool :=
  ifO (!(a_p0.On == b_p1.On))
  (some false)
  (ifO (!decide (a_p0.X = b_p1.X))
  (some false)
  (ifO (!decide (a_p0.Y = b_p1.Y))
  (some false)
  (ifO (!decide (a_p0.W = b_p1.W))
  (some false)
  (ifO (!decide (a_p0.H = b_p1.H))
  (some false)
  (ifO (!decide (a_p0.Layout = b_p1.Layout))
  (some false)
  (Option.bind (laws_eqIntS a_p0.Words b_p1.Words) fun x13_4 =>
  ifO (!x13_4)
  (some false)
  (ifO (!decide (a_p0.Alpha = b_p1.Alpha))
  (some false)
  (ifO (!decide (a_p0.Orient = b_p1.Orient))
  (some false)
  (ifO (!decide (a_p0.ToW = b_p1.ToW))
  (some false)
  (ifO (!decide (a_p0.ToH = b_p1.ToH))
  (some false)
  (some true)))))))))))
noncomputable def laws_eqImage (a_p0 : ImageT) (b_p1 : ImageT) : Option Bool :=
  ifO (!decide (a_p0.W = b_p1.W))
  (some false)
  (ifO (!decide (a_p0.H = b_p1.H))
  (some false)
  (Option.bind (laws_eqIntS a_p0.Data b_p1.Data) fun x5_4 =>
  ifO (!x5_4)
  (some false)
  (some true)))
noncomputable def laws_markIntS_L0  (a_0 : List Int) (k_0 : Int) (i_0 : Int) : Option (((List Int) × Int × Int) ⊕ (Int × (List Int))) :=
  ifO (decide (i_0 < (a_0.length : Int)))
  (Option.bind (upd a_0 i_0 k_0) fun x4_4 =>
  some (.inl (x4_4, (wr (k_0 + 1)), (wr (i_0 + 1)))))
  (some (.inr (k_0, a_0)))
noncomputable def laws_markIntS (a_p0 : List Int) (k_p1 : Int) : Option (Int × (List Int)) :=
  Option.bind (loopO (fun (a_0, k_0, i_0) => laws_markIntS_L0 a_0 k_0 i_0) (a_p0, k_p1, 0)) fun (k_0e, p_0e) =>
  some (k_0e, p_0e)
noncomputable def laws_markImage (a_p0 : ImageT) (k_p1 : Int) : Option (Int × (List Int)) :=
  Option.bind (laws_markIntS a_p0.Data k_p1) fun (x1_3a, x1_3b) =>
  some (x1_3a, x1_3b)
noncomputable def laws_markPlane (a_p0 : PlaneT) (k_p1 : Int) : Option (Int × (List Int)) :=
  Option.bind (laws_markIntS a_p0.Words k_p1) fun (x1_3a, x1_3b) =>
  some (x1_3a, x1_3b)
noncomputable def laws_heldIntS_L0 (a_p0 : List Int) (k_0 : Int) (i_0 : Int) : Option ((Int × Int) ⊕ (Int ⊕ Int)) :=
  ifO (decide (i_0 < (a_p0.length : Int)))
  (Option.bind (idx a_p0 i_0) fun x4_2 =>
  ifO (!decide (x4_2 = k_0))
  (some (.inr (.inr ((-1)))))
  (some (.inl ((wr (k_0 + 1)), (wr (i_0 + 1))))))
  (some (.inr (.inl k_0)))
noncomputable def laws_heldIntS (a_p0 : List Int) (k_p1 : Int) : Option Int :=
  Option.bind (loopO (fun (k_0, i_0) => laws_heldIntS_L0 a_p0 k_0 i_0) (k_p1, 0)) fun y => fork y (fun k_0e => some k_0e) (fun r => some r)
noncomputable def laws_heldPlane (a_p0 : PlaneT) (k_p1 : Int) : Option Int :=
  Option.bind (laws_heldIntS a_p0.Words k_p1) fun x1_3 =>
  ifO (decide (x1_3 < 0))
  (some (-1))
  (some x1_3)
noncomputable def laws_FnExactPlaneOf (a_p0 : ImageT) (a_p1 : Int) (a_p2 : Int) (a_p3 : Int) : Option Bool :=
  Option.bind (laws_szImage a_p0 1048576) fun x2_2 =>
  ifO (decide (x2_2 < 0))
  (some true)
  (Option.bind (laws_toImage a_p0) fun x5_1 =>
  Option.bind (spec_PlaneOf x5_1 a_p1 a_p2 a_p3) fun x5_5 =>
  Option.bind (laws_toImage a_p0) fun x6_1 =>
  Option.bind (impl_PlaneOf x6_1 a_p1 a_p2 a_p3) fun x7_4 =>
  Option.bind (laws_eqPlane x7_4 x5_5) fun x8_2 =>
  ifO (!x8_2)
  (some false)
  (Option.bind (laws_toImage a_p0) fun x10_2 =>
  Option.bind (laws_eqImage x6_1 x10_2) fun x10_3 =>
  ifO (!x10_3)
  (some false)
  (Option.bind (laws_markImage x6_1 1) fun (x13_2a, x13_2b) =>
  Option.bind (orO (decide (x13_2a < 0)) (Option.bind (laws_eqPlane x7_4 x5_5) fun x14_5 =>
  some (!x14_5))) fun q14_7 =>
  ifO q14_7
  (some false)
  (Option.bind (laws_markPlane x7_4 1) fun (x17_2a, x17_2b) =>
  Option.bind (laws_heldPlane (PlaneT.mk x7_4.On x7_4.X x7_4.Y x7_4.W x7_4.H x7_4.Layout x17_2b x7_4.Alpha x7_4.Orient x7_4.ToW x7_4.ToH) 1) fun x19_2 =>
  ifO (decide (x19_2 < 0))
  (some false)
  (ifO (!decide (x19_2 = x17_2a))
  (some false)
  (Option.bind (laws_toImage a_p0) fun x24_1 =>
  Option.bind (impl_PlaneOf x24_1 a_p1 a_p2 a_p3) fun x24_5 =>
  Option.bind (laws_eqPlane x24_5 x5_5) fun x25_2 =>
  ifO (!x25_2)
  (some false)
  (Option.bind (laws_heldPlane (PlaneT.mk x7_4.On x7_4.X x7_4.Y x7_4.W x7_4.H x7_4.Layout x17_2b x7_4.Alpha x7_4.Orient x7_4.ToW x7_4.ToH) 1) fun x28_2 =>
  ifO (decide (x28_2 < 0))
  (some false)
  (ifO (!decide (x28_2 = x17_2a))
  (some false)
  (some true)))))))))
end Go.Proofs.Ytfgkgkkcaclfpaa
