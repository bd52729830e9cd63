/- The pure functions that the walks bring out of the program. -/
import Derived.Test.YtmhalmnbgkpmnaaGreatStructs
namespace Go.Proofs.YtmhalmnbgkpmnaaGreat
open Go.RowKit K
set_option maxRecDepth 100000
set_option maxHeartbeats 4000000

noncomputable def laws_szIntS (a_p0 : List Int) (left_p1 : Int) : Option Int :=
  ifO (decide ((wr (left_p1 - (a_p0.length : Int))) < 0))
  (some (-1))
  (some (wr (left_p1 - (a_p0.length : Int))))
noncomputable def laws_szPlane (a_p0 : PlaneT) (left_p1 : Int) : Option Int :=
  Option.bind (laws_szIntS a_p0.Words left_p1) fun x1_3 =>
  ifO (decide (x1_3 < 0))
  (some (-1))
  (some x1_3)
noncomputable def laws_szPlaneS_L0 (a_p0 : List PlaneT) (left_0 : Int) (i_0 : Int) : Option ((Int × Int) ⊕ (Int ⊕ Int)) :=
  ifO (decide (i_0 < (a_p0.length : Int)))
  (Option.bind (idx a_p0 i_0) fun x7_2 =>
  Option.bind (laws_szPlane x7_2 left_0) fun x7_5 =>
  ifO (decide (x7_5 < 0))
  (some (.inr (.inr ((-1)))))
  (some (.inl (x7_5, (wr (i_0 + 1))))))
  (some (.inr (.inl left_0)))
noncomputable def laws_szPlaneS (a_p0 : List PlaneT) (left_p1 : Int) : Option Int :=
  ifO (decide ((wr (left_p1 - (a_p0.length : Int))) < 0))
  (some (-1))
  (Option.bind (loopO (fun (left_0, i_0) => laws_szPlaneS_L0 a_p0 left_0 i_0) ((wr (left_p1 - (a_p0.length : Int))), 0)) fun y => fork y (fun left_0e => some left_0e) (fun r => some r))
noncomputable def laws_szColorMap (a_p0 : ColorMapT) (left_p1 : Int) : Option Int :=
  Option.bind (laws_szIntS a_p0.Matrix left_p1) fun x1_3 =>
  ifO (decide (x1_3 < 0))
  (some (-1))
  (Option.bind (laws_szIntS a_p0.Curve x1_3) fun x4_3 =>
  ifO (decide (x4_3 < 0))
  (some (-1))
  (some x4_3))
noncomputable def laws_szCrtc (a_p0 : CrtcT) (left_p1 : Int) : Option Int :=
  Option.bind (laws_szPlaneS a_p0.Planes left_p1) fun x1_3 =>
  ifO (decide (x1_3 < 0))
  (some (-1))
  (Option.bind (laws_szColorMap a_p0.Color x1_3) fun x4_3 =>
  ifO (decide (x4_3 < 0))
  (some (-1))
  (some x4_3))
noncomputable def laws_szFlip (a_p0 : FlipT) (left_p1 : Int) : Option Int :=
  Option.bind (laws_szCrtc a_p0.State left_p1) fun x1_3 =>
  ifO (decide (x1_3 < 0))
  (some (-1))
  (some x1_3)
noncomputable def laws_szFlipS_L0 (a_p0 : List FlipT) (left_0 : Int) (i_0 : Int) : Option ((Int × Int) ⊕ (Int ⊕ Int)) :=
  ifO (decide (i_0 < (a_p0.length : Int)))
  (Option.bind (idx a_p0 i_0) fun x7_2 =>
  Option.bind (laws_szFlip x7_2 left_0) fun x7_5 =>
  ifO (decide (x7_5 < 0))
  (some (.inr (.inr ((-1)))))
  (some (.inl (x7_5, (wr (i_0 + 1))))))
  (some (.inr (.inl left_0)))
noncomputable def laws_szFlipS (a_p0 : List FlipT) (left_p1 : Int) : Option Int :=
  ifO (decide ((wr (left_p1 - (a_p0.length : Int))) < 0))
  (some (-1))
  (Option.bind (loopO (fun (left_0, i_0) => laws_szFlipS_L0 a_p0 left_0 i_0) ((wr (left_p1 - (a_p0.length : Int))), 0)) fun y => fork y (fun left_0e => some left_0e) (fun r => some r))
noncomputable def laws_szFlips (a_p0 : FlipsT) (left_p1 : Int) : Option Int :=
  Option.bind (laws_szFlipS a_p0.Pending left_p1) fun x1_3 =>
  ifO (decide (x1_3 < 0))
  (some (-1))
  (Option.bind (laws_szIntS a_p0.Signalled x1_3) fun x4_3 =>
  ifO (decide (x4_3 < 0))
  (some (-1))
  (Option.bind (laws_szIntS a_p0.Events x4_3) fun x7_3 =>
  ifO (decide (x7_3 < 0))
  (some (-1))
  (some x7_3)))
noncomputable def laws_toIntS_L0 (a_p0 : List Int) (out_0 : List Int) (i_0 : Int) : Option (((List Int) × Int) ⊕ (List Int)) :=
  ifO (decide (i_0 < (a_p0.length : Int)))
  (Option.bind (idx a_p0 i_0) fun x5_4 =>
  Option.bind (upd out_0 i_0 x5_4) fun x5_7 =>
  some (.inl (x5_7, (wr (i_0 + 1)))))
  (some (.inr out_0))
noncomputable def laws_toIntS (a_p0 : List Int) : Option (List Int) :=
  Option.bind (mkO (a_p0.length : Int) 0) fun x1_2 =>
  Option.bind (loopO (fun (out_0, i_0) => laws_toIntS_L0 a_p0 out_0 i_0) (x1_2, 0)) fun out_0e =>
  some out_0e
noncomputable def laws_toPlane (a_p0 : PlaneT) : Option PlaneT :=
  Option.bind (laws_toIntS a_p0.Words) fun x8_2 =>
  some (PlaneT.mk a_p0.On a_p0.X a_p0.Y a_p0.W a_p0.H a_p0.Layout x8_2 a_p0.Alpha a_p0.Orient a_p0.ToW a_p0.ToH)
noncomputable def laws_toPlaneS_L0 (a_p0 : List PlaneT) (out_0 : List PlaneT) (i_0 : Int) : Option (((List PlaneT) × Int) ⊕ (List PlaneT)) :=
  ifO (decide (i_0 < (a_p0.length : Int)))
  (Option.bind (idx a_p0 i_0) fun x5_4 =>
  Option.bind (laws_toPlane x5_4) fun x5_6 =>
  Option.bind (upd out_0 i_0 x5_6) fun x5_8 =>
  some (.inl (x5_8, (wr (i_0 + 1)))))
  (some (.inr out_0))
noncomputable def laws_toPlaneS (a_p0 : List PlaneT) : Option (List PlaneT) :=
  Option.bind (mkO (a_p0.length : Int) (PlaneT.mk false 0 0 0 0 0 [] 0 0 0 0)) fun x1_2 =>
  Option.bind (loopO (fun (out_0, i_0) => laws_toPlaneS_L0 a_p0 out_0 i_0) (x1_2, 0)) fun out_0e =>
  some out_0e
noncomputable def laws_toColorMap (a_p0 : ColorMapT) : Option ColorMapT :=
  Option.bind (laws_toIntS a_p0.Matrix) fun x2_2 =>
  Option.bind (laws_toIntS a_p0.Curve) fun x3_2 =>
  some (ColorMapT.mk x2_2 x3_2)
noncomputable def laws_toCrtc (a_p0 : CrtcT) : Option CrtcT :=
  Option.bind (laws_toPlaneS a_p0.Planes) fun x4_2 =>
  Option.bind (laws_toColorMap a_p0.Color) fun x5_2 =>
  some (CrtcT.mk a_p0.W a_p0.H x4_2 x5_2)
noncomputable def laws_toFlip (a_p0 : FlipT) : Option FlipT :=
  Option.bind (laws_toCrtc a_p0.State) fun x4_2 =>
  some (FlipT.mk a_p0.Seq a_p0.Fence x4_2)
noncomputable def laws_toFlipS_L0 (a_p0 : List FlipT) (out_0 : List FlipT) (i_0 : Int) : Option (((List FlipT) × Int) ⊕ (List FlipT)) :=
  ifO (decide (i_0 < (a_p0.length : Int)))
  (Option.bind (idx a_p0 i_0) fun x5_4 =>
  Option.bind (laws_toFlip x5_4) fun x5_6 =>
  Option.bind (upd out_0 i_0 x5_6) fun x5_8 =>
  some (.inl (x5_8, (wr (i_0 + 1)))))
  (some (.inr out_0))
noncomputable def laws_toFlipS (a_p0 : List FlipT) : Option (List FlipT) :=
  Option.bind (mkO (a_p0.length : Int) (FlipT.mk 0 0 (CrtcT.mk 0 0 [] (ColorMapT.mk [] [])))) fun x1_2 =>
  Option.bind (loopO (fun (out_0, i_0) => laws_toFlipS_L0 a_p0 out_0 i_0) (x1_2, 0)) fun out_0e =>
  some out_0e
noncomputable def laws_toFlips (a_p0 : FlipsT) : Option FlipsT :=
  Option.bind (laws_toFlipS a_p0.Pending) fun x2_2 =>
  Option.bind (laws_toIntS a_p0.Signalled) fun x3_2 =>
  Option.bind (laws_toIntS a_p0.Events) fun x5_2 =>
  some (FlipsT.mk x2_2 x3_2 a_p0.Next x5_2)
noncomputable def spec_l19Copy (p_p0 : PlaneT) : Option PlaneT :=
  Option.bind (app ([] : List Int) p_p0.Words) fun x1_3 =>
  some (PlaneT.mk p_p0.On p_p0.X p_p0.Y p_p0.W p_p0.H p_p0.Layout x1_3 p_p0.Alpha p_p0.Orient p_p0.ToW p_p0.ToH)
noncomputable def spec_l19CopyAll_L0 (list_p0 : List PlaneT) (out_0 : List PlaneT) (k_0 : Int) : Option (((List PlaneT) × Int) ⊕ (List PlaneT)) :=
  ifO (decide (k_0 < (list_p0.length : Int)))
  (Option.bind (idx list_p0 k_0) fun x5_3 =>
  Option.bind (spec_l19Copy x5_3) fun x5_5 =>
  Option.bind (app out_0 [x5_5]) fun x5_7 =>
  some (.inl (x5_7, (wr (k_0 + 1)))))
  (some (.inr out_0))
noncomputable def spec_l19CopyAll (list_p0 : List PlaneT) : Option (List PlaneT) :=
  Option.bind (loopO (fun (out_0, k_0) => spec_l19CopyAll_L0 list_p0 out_0 k_0) (([] : List PlaneT), 0)) fun out_0e =>
  some out_0e
noncomputable def spec_l22CopyColor (m_p0 : ColorMapT) : Option ColorMapT :=
  Option.bind (app ([] : List Int) m_p0.Matrix) fun x1_3 =>
  Option.bind (app ([] : List Int) m_p0.Curve) fun x1_7 =>
  some (ColorMapT.mk x1_3 x1_7)
noncomputable def spec_l22Copy (c_p0 : CrtcT) : Option CrtcT :=
  Option.bind (spec_l19CopyAll c_p0.Planes) fun x1_6 =>
  Option.bind (spec_l22CopyColor c_p0.Color) fun x1_9 =>
  some (CrtcT.mk c_p0.W c_p0.H x1_6 x1_9)
noncomputable def spec_l23CopyFlip (x_p0 : FlipT) : Option FlipT :=
  Option.bind (spec_l22Copy x_p0.State) fun x1_6 =>
  some (FlipT.mk x_p0.Seq x_p0.Fence x1_6)
noncomputable def spec_l23Copy_L0 (f_p0 : FlipsT) (out_0 : List FlipT) (k_0 : Int) : Option (((List FlipT) × Int) ⊕ (List FlipT)) :=
  ifO (decide (k_0 < (f_p0.Pending.length : Int)))
  (Option.bind (idx f_p0.Pending k_0) fun x5_5 =>
  Option.bind (spec_l23CopyFlip x5_5) fun x5_7 =>
  Option.bind (app out_0 [x5_7]) fun x5_9 =>
  some (.inl (x5_9, (wr (k_0 + 1)))))
  (some (.inr out_0))
noncomputable def spec_l23Copy (f_p0 : FlipsT) : Option FlipsT :=
  Option.bind (app ([] : List Int) f_p0.Signalled) fun x1_3 =>
  Option.bind (app ([] : List Int) f_p0.Events) fun x1_9 =>
  Option.bind (loopO (fun (out_0, k_0) => spec_l23Copy_L0 f_p0 out_0 k_0) ([], 0)) fun out_0e =>
  some (FlipsT.mk out_0e x1_3 f_p0.Next x1_9)
noncomputable def spec_l01In (x_p0 : Int) (least_p1 : Int) (most_p2 : Int) : Option Bool :=
  some ((decide (least_p1 ≤ x_p0)) && (decide (x_p0 ≤ most_p2)))
noncomputable def spec_l19Zero (p_p0 : PlaneT) : Option Bool :=
  some ((((((((((decide (p_p0.X = 0)) && (decide (p_p0.Y = 0))) && (decide (p_p0.W = 0))) && (decide (p_p0.H = 0))) && (decide (p_p0.Layout = 0))) && (decide ((p_p0.Words.length : Int) = 0))) && (decide (p_p0.Alpha = 0))) && (decide (p_p0.Orient = 0))) && (decide (p_p0.ToW = 0))) && (decide (p_p0.ToH = 0)))
noncomputable def spec_l15Expand_L1 (words_p0 : List Int) (k_0 : Int) (out_1 : List Int) (n_1 : Int) : Option (((List Int) × Int) ⊕ (List Int)) :=
  ifO (decide (0 < n_1))
  (Option.bind (idx words_p0 (wr (k_0 + 1))) fun x10_4 =>
  Option.bind (app out_1 [x10_4]) fun x10_7 =>
  some (.inl (x10_7, (wr (n_1 - 1)))))
  (some (.inr out_1))
noncomputable def spec_l15Expand_L0 (words_p0 : List Int) (most_p1 : Int) (out_0 : List Int) (k_0 : Int) : Option (((List Int) × Int) ⊕ ((List Int) ⊕ (List Int))) :=
  ifO (decide ((wr (k_0 + 1)) < (words_p0.length : Int)))
  (Option.bind (idx words_p0 k_0) fun x5_2 =>
  Option.bind (spec_l01In x5_2 1 (wr (most_p1 - (out_0.length : Int)))) fun x5_8 =>
  ifO (!x5_8)
  (some (.inr (.inr (([] : List Int)))))
  (Option.bind (idx words_p0 k_0) fun x7_2 =>
  Option.bind (loopO (fun (out_1, n_1) => spec_l15Expand_L1 words_p0 k_0 out_1 n_1) (out_0, x7_2)) fun out_1e =>
  some (.inl (out_1e, (wr (k_0 + 2))))))
  (some (.inr (.inl out_0)))
noncomputable def spec_l15Expand (words_p0 : List Int) (most_p1 : Int) : Option (List Int) :=
  Option.bind (loopO (fun (out_0, k_0) => spec_l15Expand_L0 words_p0 most_p1 out_0 k_0) (([] : List Int), 0)) fun y => fork y (fun out_0e => some out_0e) (fun r => some r)
noncomputable def spec_WordCount (w_p0 : Int) (h_p1 : Int) (layout_p2 : Int) : Option Int :=
  Option.bind (spec_l01In w_p0 1 16) fun x1_1 =>
  Option.bind (orO (!x1_1) (Option.bind (spec_l01In h_p1 1 16) fun x1_5 =>
  some (!x1_5))) fun q1_7 =>
  ifO q1_7
  (some (-1))
  (ifO (decide (layout_p2 = 0))
  (some (wr (w_p0 * h_p1)))
  (ifO (decide (layout_p2 = 1))
  (some (wr ((wr ((wr (Int.tdiv (wr (w_p0 + 3)) 4)) * 4)) * (wr ((wr (Int.tdiv (wr (h_p1 + 3)) 4)) * 4)))))
  (some (-1))))
noncomputable def spec_WordPlace (w_p0 : Int) (h_p1 : Int) (layout_p2 : Int) (x_p3 : Int) (y_p4 : Int) : Option Int :=
  Option.bind (spec_WordCount w_p0 h_p1 layout_p2) fun x1_3 =>
  Option.bind (orO (decide (x1_3 < 0)) (Option.bind (spec_l01In x_p3 0 (wr (w_p0 - 1))) fun x1_9 =>
  some (!x1_9))) fun q1_11 =>
  Option.bind (orO q1_11 (Option.bind (spec_l01In y_p4 0 (wr (h_p1 - 1))) fun x1_16 =>
  some (!x1_16))) fun q1_18 =>
  ifO q1_18
  (some (-1))
  (ifO (decide (layout_p2 = 0))
  (some (wr ((wr (y_p4 * w_p0)) + x_p3)))
  (some (wr ((wr ((wr ((wr ((wr ((wr (Int.tdiv y_p4 4)) * (wr (Int.tdiv (wr (w_p0 + 3)) 4)))) + (wr (Int.tdiv x_p3 4)))) * 16)) + (wr ((Int.tmod y_p4 4) * 4)))) + (Int.tmod x_p3 4)))))
noncomputable def spec_l04Pixel (p_p0 : Int) : Option Bool :=
  Option.bind (spec_l01In p_p0 0 4294967295) fun x1_1 =>
  some x1_1
noncomputable def spec_ImageOk_L0 (i_p0 : ImageT) (k_0 : Int) : Option (Int ⊕ (Unit ⊕ Bool)) :=
  ifO (decide (k_0 < (i_p0.Data.length : Int)))
  (Option.bind (idx i_p0.Data k_0) fun x6_3 =>
  Option.bind (spec_l04Pixel x6_3) fun x6_5 =>
  ifO (!x6_5)
  (some (.inr (.inr (false))))
  (some (.inl (wr (k_0 + 1)))))
  (some (.inr (.inl ())))
noncomputable def spec_ImageOk (i_p0 : ImageT) : Option Bool :=
  Option.bind (spec_l01In i_p0.W 1 16) fun x1_2 =>
  Option.bind (orO (!x1_2) (Option.bind (spec_l01In i_p0.H 1 16) fun x1_7 =>
  some (!x1_7))) fun q1_9 =>
  ifO (q1_9 || (!decide ((i_p0.Data.length : Int) = (wr (i_p0.W * i_p0.H)))))
  (some false)
  (Option.bind (loopO (fun k_0 => spec_ImageOk_L0 i_p0 k_0) 0) fun y => fork y (fun () => some true) (fun r => some r))
noncomputable def spec_StoreImage_L2 (a_p0 : ImageT) (v1_0 : Int) (v1_1 : Int) (v_2 : Int) : Option (Int ⊕ Int) :=
  Option.bind (andO (decide ((wr (v1_1 + v_2)) < a_p0.W)) (Option.bind (idx a_p0.Data (wr ((wr ((wr (v1_0 * a_p0.W)) + v1_1)) + v_2))) fun x11_17 =>
  Option.bind (idx a_p0.Data (wr ((wr (v1_0 * a_p0.W)) + v1_1))) fun x11_27 =>
  some (decide (x11_17 = x11_27)))) fun q11_30 =>
  ifO q11_30
  (some (.inl (wr (v_2 + 1))))
  (some (.inr v_2))
noncomputable def spec_StoreImage_L1 (a_p0 : ImageT) (v1_0 : Int) (v_1 : List Int) (v1_1 : Int) : Option (((List Int) × Int) ⊕ (List Int)) :=
  ifO (decide (v1_1 < a_p0.W))
  (Option.bind (loopO (fun v_2 => spec_StoreImage_L2 a_p0 v1_0 v1_1 v_2) 1) fun v_2e =>
  Option.bind (idx a_p0.Data (wr ((wr (v1_0 * a_p0.W)) + v1_1))) fun x13_10 =>
  Option.bind (app v_1 [v_2e, x13_10]) fun x13_13 =>
  some (.inl (x13_13, (wr (v1_1 + v_2e)))))
  (some (.inr v_1))
noncomputable def spec_StoreImage_L0 (a_p0 : ImageT) (v_0 : List Int) (v1_0 : Int) : Option (((List Int) × Int) ⊕ (List Int)) :=
  ifO (decide (v1_0 < a_p0.H))
  (Option.bind (loopO (fun (v_1, v1_1) => spec_StoreImage_L1 a_p0 v1_0 v_1 v1_1) (v_0, 0)) fun v_1e =>
  some (.inl (v_1e, (wr (v1_0 + 1)))))
  (some (.inr v_0))
noncomputable def spec_StoreImage_L4 (a_p0 : ImageT) (a_p1 : Int) (v1_3 : Int) (v_4 : List Int) (v1_4 : Int) : Option (((List Int) × Int) ⊕ (List Int)) :=
  ifO (decide (v1_4 < a_p0.W))
  (Option.bind (spec_WordPlace a_p0.W a_p0.H a_p1 v1_4 v1_3) fun x23_8 =>
  Option.bind (idx a_p0.Data (wr ((wr (v1_3 * a_p0.W)) + v1_4))) fun x23_17 =>
  Option.bind (upd v_4 x23_8 x23_17) fun x23_20 =>
  some (.inl (x23_20, (wr (v1_4 + 1)))))
  (some (.inr v_4))
noncomputable def spec_StoreImage_L3 (a_p0 : ImageT) (a_p1 : Int) (v_3 : List Int) (v1_3 : Int) : Option (((List Int) × Int) ⊕ (List Int)) :=
  ifO (decide (v1_3 < a_p0.H))
  (Option.bind (loopO (fun (v_4, v1_4) => spec_StoreImage_L4 a_p0 a_p1 v1_3 v_4 v1_4) (v_3, 0)) fun v_4e =>
  some (.inl (v_4e, (wr (v1_3 + 1)))))
  (some (.inr v_3))
noncomputable def spec_StoreImage (a_p0 : ImageT) (a_p1 : Int) : Option ((List Int) × Bool) :=
  Option.bind (spec_ImageOk a_p0) fun x1_1 =>
  Option.bind (orO (!x1_1) (Option.bind (spec_l01In a_p1 0 2) fun x1_5 =>
  some (!x1_5))) fun q1_7 =>
  ifO q1_7
  (some (([] : List Int), false))
  (ifO (decide (a_p1 = 2))
  (Option.bind (loopO (fun (v_0, v1_0) => spec_StoreImage_L0 a_p0 v_0 v1_0) (([] : List Int), 0)) fun v_0e =>
  some (v_0e, true))
  (Option.bind (spec_WordCount a_p0.W a_p0.H a_p1) fun x16_5 =>
  Option.bind (mkO x16_5 0) fun x16_6 =>
  Option.bind (loopO (fun (v_3, v1_3) => spec_StoreImage_L3 a_p0 a_p1 v_3 v1_3) (x16_6, 0)) fun v_3e =>
  some (v_3e, true)))
noncomputable def spec_l05Ints_L0 (a_p0 : List Int) (b_p1 : List Int) (k_0 : Int) : Option (Int ⊕ (Unit ⊕ Bool)) :=
  ifO (decide (k_0 < (a_p0.length : Int)))
  (Option.bind (idx a_p0 k_0) fun x6_2 =>
  Option.bind (idx b_p1 k_0) fun x6_6 =>
  ifO (!decide (x6_2 = x6_6))
  (some (.inr (.inr (false))))
  (some (.inl (wr (k_0 + 1)))))
  (some (.inr (.inl ())))
noncomputable def spec_l05Ints (a_p0 : List Int) (b_p1 : List Int) : Option Bool :=
  ifO (!decide ((a_p0.length : Int) = (b_p1.length : Int)))
  (some false)
  (Option.bind (loopO (fun k_0 => spec_l05Ints_L0 a_p0 b_p1 k_0) 0) fun y => fork y (fun () => some true) (fun r => some r))
noncomputable def spec_LoadImage_L2 (a_p0 : List Int) (a_p1 : Int) (a_p2 : Int) (a_p3 : Int) (v_1 : Int) (x_2 : List Int) (v_2 : Int) : Option (((List Int) × Int) ⊕ (List Int)) :=
  ifO (decide (v_2 < a_p1))
  (Option.bind (spec_WordPlace a_p1 a_p2 a_p3 v_2 v_1) fun x13_8 =>
  Option.bind (idx a_p0 x13_8) fun x13_9 =>
  Option.bind (app x_2 [x13_9]) fun x13_12 =>
  some (.inl (x13_12, (wr (v_2 + 1)))))
  (some (.inr x_2))
noncomputable def spec_LoadImage_L1 (a_p0 : List Int) (a_p1 : Int) (a_p2 : Int) (a_p3 : Int) (x_1 : List Int) (v_1 : Int) : Option (((List Int) × Int) ⊕ (List Int)) :=
  ifO (decide (v_1 < a_p2))
  (Option.bind (loopO (fun (x_2, v_2) => spec_LoadImage_L2 a_p0 a_p1 a_p2 a_p3 v_1 x_2 v_2) (x_1, 0)) fun x_2e =>
  some (.inl (x_2e, (wr (v_1 + 1)))))
  (some (.inr x_1))
noncomputable def spec_LoadImage (a_p0 : List Int) (a_p1 : Int) (a_p2 : Int) (a_p3 : Int) : Option (ImageT × Bool) :=
  Option.bind (spec_l01In a_p1 1 16) fun x1_1 =>
  Option.bind (orO (!x1_1) (Option.bind (spec_l01In a_p2 1 16) fun x1_5 =>
  some (!x1_5))) fun q1_7 =>
  ifO q1_7
  (some ((ImageT.mk 0 0 []), false))
  (Option.bind (ifO (decide (a_p3 = 2))
  (Option.bind (spec_l15Expand a_p0 (wr (a_p1 * a_p2))) fun x5_4 =>
  some x5_4)
  (Option.bind (spec_WordCount a_p1 a_p2 a_p3) fun x6_3 =>
  ifO (decide (x6_3 = (a_p0.length : Int)))
  (Option.bind (loopO (fun (x_1, v_1) => spec_LoadImage_L1 a_p0 a_p1 a_p2 a_p3 x_1 v_1) ([], 0)) fun x_1e =>
  some x_1e)
  (some []))) fun x_0j =>
  Option.bind (spec_StoreImage (ImageT.mk a_p1 a_p2 x_0j) a_p3) fun (x14_2a, x14_2b) =>
  Option.bind (orO (!x14_2b) (Option.bind (spec_l05Ints x14_2a a_p0) fun x15_5 =>
  some (!x15_5))) fun q15_7 =>
  ifO q15_7
  (some ((ImageT.mk 0 0 []), false))
  (some ((ImageT.mk a_p1 a_p2 x_0j), true)))
noncomputable def spec_l19Loaded (p_p0 : PlaneT) : Option (ImageT × Bool) :=
  ifO (!p_p0.On)
  (some ((ImageT.mk 0 0 []), false))
  (Option.bind (spec_LoadImage p_p0.Words p_p0.W p_p0.H p_p0.Layout) fun (x3_8a, x3_8b) =>
  some (x3_8a, x3_8b))
noncomputable def spec_OrientSize (w_p0 : Int) (h_p1 : Int) (o_p2 : Int) : Option (Int × Int) :=
  Option.bind (spec_l01In w_p0 1 16) fun x1_1 =>
  Option.bind (orO (!x1_1) (Option.bind (spec_l01In h_p1 1 16) fun x1_5 =>
  some (!x1_5))) fun q1_7 =>
  Option.bind (orO q1_7 (Option.bind (spec_l01In o_p2 0 7) fun x1_10 =>
  some (!x1_10))) fun q1_12 =>
  ifO q1_12
  (some (0, 0))
  (ifO (decide ((Int.tmod o_p2 2) = 1))
  (some (h_p1, w_p0))
  (some (w_p0, h_p1)))
noncomputable def spec_OrientPoint_L0 (a_p2 : Int) (v_0 : Int) (v1_0 : Int) (v2_0 : Int) (v3_0 : Int) (v4_0 : Int) : Option ((Int × Int × Int × Int × Int) ⊕ (Int × Int)) :=
  ifO (decide (v4_0 < (Int.tmod a_p2 4)))
  (some (.inl (v1_0, v_0, (wr ((wr (v1_0 - 1)) - v3_0)), v2_0, (wr (v4_0 + 1)))))
  (some (.inr (v2_0, v3_0)))
noncomputable def spec_OrientPoint_L1 (a_p2 : Int) (v_1 : Int) (v1_1 : Int) (v2_1 : Int) (v3_1 : Int) (v4_1 : Int) : Option ((Int × Int × Int × Int × Int) ⊕ (Int × Int)) :=
  ifO (decide (v4_1 < (Int.tmod a_p2 4)))
  (some (.inl (v1_1, v_1, (wr ((wr (v1_1 - 1)) - v3_1)), v2_1, (wr (v4_1 + 1)))))
  (some (.inr (v2_1, v3_1)))
noncomputable def spec_OrientPoint (a_p0 : Int) (a_p1 : Int) (a_p2 : Int) (a_p3 : Int) (a_p4 : Int) : Option (Int × Int) :=
  Option.bind (spec_l01In a_p0 1 16) fun x1_1 =>
  Option.bind (orO (!x1_1) (Option.bind (spec_l01In a_p1 1 16) fun x1_5 =>
  some (!x1_5))) fun q1_7 =>
  Option.bind (orO q1_7 (Option.bind (spec_l01In a_p2 0 7) fun x1_10 =>
  some (!x1_10))) fun q1_12 =>
  Option.bind (orO q1_12 (Option.bind (spec_l01In a_p3 0 (wr (a_p0 - 1))) fun x1_17 =>
  some (!x1_17))) fun q1_19 =>
  Option.bind (orO q1_19 (Option.bind (spec_l01In a_p4 0 (wr (a_p1 - 1))) fun x1_24 =>
  some (!x1_24))) fun q1_26 =>
  ifO q1_26
  (some ((-1), (-1)))
  (ifO (decide (4 ≤ a_p2))
  (Option.bind (loopO (fun (v_0, v1_0, v2_0, v3_0, v4_0) => spec_OrientPoint_L0 a_p2 v_0 v1_0 v2_0 v3_0 v4_0) (a_p0, a_p1, (wr ((wr (a_p0 - 1)) - a_p3)), a_p4, 0)) fun (v_0e, v1_0e) =>
  some (v_0e, v1_0e))
  (Option.bind (loopO (fun (v_1, v1_1, v2_1, v3_1, v4_1) => spec_OrientPoint_L1 a_p2 v_1 v1_1 v2_1 v3_1 v4_1) (a_p0, a_p1, a_p3, a_p4, 0)) fun (v_1e, v1_1e) =>
  some (v_1e, v1_1e)))
noncomputable def spec_Oriented_L1 (a_p0 : ImageT) (a_p1 : Int) (x3_5a : Int) (v_0 : Int) (x_1 : List Int) (v_1 : Int) : Option (((List Int) × Int) ⊕ (List Int)) :=
  ifO (decide (v_1 < a_p0.W))
  (Option.bind (spec_OrientPoint a_p0.W a_p0.H a_p1 v_1 v_0) fun (x11_7a, x11_7b) =>
  Option.bind (idx a_p0.Data (wr ((wr (v_0 * a_p0.W)) + v_1))) fun x12_15 =>
  Option.bind (upd x_1 (wr ((wr (x11_7b * x3_5a)) + x11_7a)) x12_15) fun x12_18 =>
  some (.inl (x12_18, (wr (v_1 + 1)))))
  (some (.inr x_1))
noncomputable def spec_Oriented_L0 (a_p0 : ImageT) (a_p1 : Int) (x3_5a : Int) (x_0 : List Int) (v_0 : Int) : Option (((List Int) × Int) ⊕ (List Int)) :=
  ifO (decide (v_0 < a_p0.H))
  (Option.bind (loopO (fun (x_1, v_1) => spec_Oriented_L1 a_p0 a_p1 x3_5a v_0 x_1 v_1) (x_0, 0)) fun x_1e =>
  some (.inl (x_1e, (wr (v_0 + 1)))))
  (some (.inr x_0))
noncomputable def spec_Oriented (a_p0 : ImageT) (a_p1 : Int) : Option ImageT :=
  Option.bind (spec_ImageOk a_p0) fun x1_1 =>
  Option.bind (orO (!x1_1) (Option.bind (spec_l01In a_p1 0 7) fun x1_5 =>
  some (!x1_5))) fun q1_7 =>
  ifO q1_7
  (some (ImageT.mk 0 0 []))
  (Option.bind (spec_OrientSize a_p0.W a_p0.H a_p1) fun (x3_5a, x3_5b) =>
  Option.bind (mkO (wr (x3_5a * x3_5b)) 0) fun x4_5 =>
  Option.bind (loopO (fun (x_0, v_0) => spec_Oriented_L0 a_p0 a_p1 x3_5a x_0 v_0) (x4_5, 0)) fun x_0e =>
  some (ImageT.mk x3_5a x3_5b x_0e))
noncomputable def spec_ScalePoint (from_p0 : Int) (to_p1 : Int) (k_p2 : Int) : Option Int :=
  Option.bind (spec_l01In from_p0 1 16) fun x1_1 =>
  Option.bind (orO (!x1_1) (Option.bind (spec_l01In to_p1 1 16) fun x1_5 =>
  some (!x1_5))) fun q1_7 =>
  Option.bind (orO q1_7 (Option.bind (spec_l01In k_p2 0 (wr (to_p1 - 1))) fun x1_12 =>
  some (!x1_12))) fun q1_14 =>
  ifO q1_14
  (some (-1))
  (Option.bind (quoO (wr (k_p2 * from_p0)) to_p1) fun x3_4 =>
  some x3_4)
noncomputable def spec_Scaled_L1 (i_p0 : ImageT) (w_p1 : Int) (h_p2 : Int) (y_0 : Int) (out_1 : List Int) (x_1 : Int) : Option (((List Int) × Int) ⊕ (List Int)) :=
  ifO (decide (x_1 < w_p1))
  (Option.bind (spec_ScalePoint i_p0.H h_p2 y_0) fun x10_8 =>
  Option.bind (spec_ScalePoint i_p0.W w_p1 x_1) fun x10_16 =>
  Option.bind (idx i_p0.Data (wr ((wr (x10_8 * i_p0.W)) + x10_16))) fun x10_18 =>
  Option.bind (app out_1 [x10_18]) fun x10_21 =>
  some (.inl (x10_21, (wr (x_1 + 1)))))
  (some (.inr out_1))
noncomputable def spec_Scaled_L0 (i_p0 : ImageT) (w_p1 : Int) (h_p2 : Int) (out_0 : List Int) (y_0 : Int) : Option (((List Int) × Int) ⊕ (List Int)) :=
  ifO (decide (y_0 < h_p2))
  (Option.bind (loopO (fun (out_1, x_1) => spec_Scaled_L1 i_p0 w_p1 h_p2 y_0 out_1 x_1) (out_0, 0)) fun out_1e =>
  some (.inl (out_1e, (wr (y_0 + 1)))))
  (some (.inr out_0))
noncomputable def spec_Scaled (i_p0 : ImageT) (w_p1 : Int) (h_p2 : Int) : Option ImageT :=
  Option.bind (spec_ImageOk i_p0) fun x1_1 =>
  Option.bind (orO (!x1_1) (Option.bind (spec_l01In w_p1 1 16) fun x1_5 =>
  some (!x1_5))) fun q1_7 =>
  Option.bind (orO q1_7 (Option.bind (spec_l01In h_p2 1 16) fun x1_10 =>
  some (!x1_10))) fun q1_12 =>
  ifO q1_12
  (some (ImageT.mk 0 0 []))
  (Option.bind (loopO (fun (out_0, y_0) => spec_Scaled_L0 i_p0 w_p1 h_p2 out_0 y_0) ([], 0)) fun out_0e =>
  some (ImageT.mk w_p1 h_p2 out_0e))
noncomputable def spec_ChannelOf (p_p0 : Int) (k_p1 : Int) : Option Int :=
  Option.bind (spec_l04Pixel p_p0) fun x1_1 =>
  Option.bind (orO (!x1_1) (Option.bind (spec_l01In k_p1 0 3) fun x1_5 =>
  some (!x1_5))) fun q1_7 =>
  ifO q1_7
  (some (-1))
  (Option.bind (shrO p_p0 (wr (24 - (wr (8 * k_p1))))) fun x3_4 =>
  some (and64 x3_4 255))
noncomputable def spec_Part (a_p0 : Int) (b_p1 : Int) : Option Int :=
  Option.bind (spec_l01In a_p0 0 255) fun x1_1 =>
  Option.bind (orO (!x1_1) (Option.bind (spec_l01In b_p1 0 255) fun x1_5 =>
  some (!x1_5))) fun q1_7 =>
  ifO q1_7
  (some (-1))
  (some (wr (Int.tdiv (wr ((wr (a_p0 * b_p1)) + 127)) 255)))
noncomputable def spec_Fade (p_p0 : Int) (alpha_p1 : Int) : Option Int :=
  Option.bind (spec_l04Pixel p_p0) fun x1_1 =>
  Option.bind (orO (!x1_1) (Option.bind (spec_l01In alpha_p1 0 255) fun x1_5 =>
  some (!x1_5))) fun q1_7 =>
  ifO q1_7
  (some (-1))
  (Option.bind (spec_ChannelOf p_p0 0) fun x3_1 =>
  Option.bind (spec_Part x3_1 alpha_p1) fun x3_3 =>
  some (wr ((shl x3_3 24) + (and64 p_p0 16777215))))
noncomputable def spec_PlaneImage_L0 (p_p0 : PlaneT) (i_0 : List Int) (k_0 : Int) : Option (((List Int) × Int) ⊕ (List Int)) :=
  ifO (decide (k_0 < (i_0.length : Int)))
  (Option.bind (idx i_0 k_0) fun x12_6 =>
  Option.bind (spec_Fade x12_6 p_p0.Alpha) fun x12_10 =>
  Option.bind (upd i_0 k_0 x12_10) fun x12_12 =>
  some (.inl (x12_12, (wr (k_0 + 1)))))
  (some (.inr i_0))
noncomputable def spec_PlaneImage_L1 (p_p0 : PlaneT) (i_1 : List Int) (k_1 : Int) : Option (((List Int) × Int) ⊕ (List Int)) :=
  ifO (decide (k_1 < (i_1.length : Int)))
  (Option.bind (idx i_1 k_1) fun x12_6 =>
  Option.bind (spec_Fade x12_6 p_p0.Alpha) fun x12_10 =>
  Option.bind (upd i_1 k_1 x12_10) fun x12_12 =>
  some (.inl (x12_12, (wr (k_1 + 1)))))
  (some (.inr i_1))
noncomputable def spec_PlaneImage (p_p0 : PlaneT) : Option (ImageT × Bool) :=
  Option.bind (spec_l19Loaded p_p0) fun (x1_1a, x1_1b) =>
  Option.bind (orO (!x1_1b) (Option.bind (spec_l01In p_p0.Alpha 0 255) fun x2_5 =>
  some (!x2_5))) fun q2_7 =>
  ifO q2_7
  (some ((ImageT.mk 0 0 []), false))
  (Option.bind (spec_Oriented x1_1a p_p0.Orient) fun x4_3 =>
  ifO ((!decide (p_p0.ToW = 0)) || (!decide (p_p0.ToH = 0)))
  (Option.bind (spec_Scaled x4_3 p_p0.ToW p_p0.ToH) fun x6_5 =>
  Option.bind (spec_ImageOk x6_5) fun x7_1 =>
  ifO (!x7_1)
  (some ((ImageT.mk 0 0 []), false))
  (Option.bind (loopO (fun (i_0, k_0) => spec_PlaneImage_L0 p_p0 i_0 k_0) (x6_5.Data, 0)) fun i_0e =>
  some ((ImageT.mk x6_5.W x6_5.H i_0e), true)))
  (Option.bind (spec_ImageOk x4_3) fun x7_1 =>
  ifO (!x7_1)
  (some ((ImageT.mk 0 0 []), false))
  (Option.bind (loopO (fun (i_1, k_1) => spec_PlaneImage_L1 p_p0 i_1 k_1) (x4_3.Data, 0)) fun i_1e =>
  some ((ImageT.mk x4_3.W x4_3.H i_1e), true))))
noncomputable def spec_l10Opaque (p_p0 : Int) : Option Bool :=
  Option.bind (spec_l04Pixel p_p0) fun x1_1 =>
  Option.bind (andO x1_1 (Option.bind (spec_ChannelOf p_p0 0) fun x1_4 =>
  some (decide (x1_4 = 255)))) fun q1_6 =>
  some q1_6
noncomputable def spec_PlaneOk_L0 (x5_1a : ImageT) (v_0 : Int) : Option (Int ⊕ (Unit ⊕ Bool)) :=
  ifO (decide (v_0 < (x5_1a.Data.length : Int)))
  (Option.bind (idx x5_1a.Data v_0) fun x16_3 =>
  Option.bind (spec_l10Opaque x16_3) fun x16_5 =>
  ifO (!x16_5)
  (some (.inr (.inr (false))))
  (some (.inl (wr (v_0 + 1)))))
  (some (.inr (.inl ())))
noncomputable def spec_PlaneOk (a_p0 : Int) (a_p1 : PlaneT) (a_p2 : Int) (a_p3 : Int) : Option Bool :=
  Option.bind (spec_l01In a_p0 0 3) fun x1_1 =>
  Option.bind (orO (!x1_1) (Option.bind (spec_l01In a_p2 1 16) fun x1_5 =>
  some (!x1_5))) fun q1_7 =>
  Option.bind (orO q1_7 (Option.bind (spec_l01In a_p3 1 16) fun x1_10 =>
  some (!x1_10))) fun q1_12 =>
  ifO q1_12
  (some false)
  (ifO (!a_p1.On)
  (Option.bind (andO (!decide (a_p0 = 0)) (Option.bind (spec_l19Zero a_p1) fun x4_4 =>
  some x4_4)) fun q4_5 =>
  some q4_5)
  (Option.bind (spec_PlaneImage a_p1) fun (x5_1a, x5_1b) =>
  Option.bind (orO (!x5_1b) (Option.bind (spec_l01In a_p1.X (-32) 32) fun x6_5 =>
  some (!x6_5))) fun q6_7 =>
  Option.bind (orO q6_7 (Option.bind (spec_l01In a_p1.Y (-32) 32) fun x6_11 =>
  some (!x6_11))) fun q6_13 =>
  ifO q6_13
  (some false)
  (ifO (decide (a_p0 = 3))
  (some ((((((decide (a_p1.Orient = 0)) && (decide (a_p1.ToW = 0))) && (decide (a_p1.ToH = 0))) && (decide (a_p1.Alpha = 255))) && (decide (a_p1.W ≤ 4))) && (decide (a_p1.H ≤ 4))))
  (ifO (!decide (a_p0 = 0))
  (some true)
  (Option.bind (loopO (fun v_0 => spec_PlaneOk_L0 x5_1a v_0) 0) fun y => fork y (fun () => some ((((((((decide (a_p1.Orient = 0)) && (decide (a_p1.ToW = 0))) && (decide (a_p1.ToH = 0))) && (decide (a_p1.Alpha = 255))) && (decide (a_p1.X = 0))) && (decide (a_p1.Y = 0))) && (decide (a_p1.W = a_p2))) && (decide (a_p1.H = a_p3)))) (fun r => some r))))))
noncomputable def spec_PlanesOk_L0 (list_p0 : List PlaneT) (w_p1 : Int) (h_p2 : Int) (k_0 : Int) : Option (Int ⊕ (Unit ⊕ Bool)) :=
  ifO (decide (k_0 < (list_p0.length : Int)))
  (Option.bind (idx list_p0 k_0) fun x6_3 =>
  Option.bind (spec_PlaneOk k_0 x6_3 w_p1 h_p2) fun x6_7 =>
  ifO (!x6_7)
  (some (.inr (.inr (false))))
  (some (.inl (wr (k_0 + 1)))))
  (some (.inr (.inl ())))
noncomputable def spec_PlanesOk (list_p0 : List PlaneT) (w_p1 : Int) (h_p2 : Int) : Option Bool :=
  ifO (!decide ((list_p0.length : Int) = 4))
  (some false)
  (Option.bind (loopO (fun k_0 => spec_PlanesOk_L0 list_p0 w_p1 h_p2 k_0) 0) fun y => fork y (fun () => Option.bind (idx list_p0 1) fun x8_1 =>
  Option.bind (orO (decide (x8_1.ToW = 0)) (Option.bind (idx list_p0 2) fun x8_7 =>
  some (decide (x8_7.ToW = 0)))) fun q8_11 =>
  some q8_11) (fun r => some r))
noncomputable def spec_ColorOk_L1 (m_p0 : ColorMapT) (k_1 : Int) : Option (Int ⊕ (Unit ⊕ Bool)) :=
  ifO (decide (k_1 < 17))
  (Option.bind (idx m_p0.Curve k_1) fun x11_3 =>
  Option.bind (spec_l01In x11_3 0 256) fun x11_5 =>
  ifO (!x11_5)
  (some (.inr (.inr (false))))
  (some (.inl (wr (k_1 + 1)))))
  (some (.inr (.inl ())))
noncomputable def spec_ColorOk_L0 (m_p0 : ColorMapT) (k_0 : Int) : Option (Int ⊕ (Unit ⊕ Bool)) :=
  ifO (decide (k_0 < 9))
  (Option.bind (idx m_p0.Matrix k_0) fun x6_3 =>
  Option.bind (spec_l01In x6_3 (-1024) 1024) fun x6_5 =>
  ifO (!x6_5)
  (some (.inr (.inr (false))))
  (some (.inl (wr (k_0 + 1)))))
  (some (.inr (.inl ())))
noncomputable def spec_ColorOk (m_p0 : ColorMapT) : Option Bool :=
  ifO ((!decide ((m_p0.Matrix.length : Int) = 9)) || (!decide ((m_p0.Curve.length : Int) = 17)))
  (some false)
  (Option.bind (loopO (fun k_0 => spec_ColorOk_L0 m_p0 k_0) 0) fun y => fork y (fun () => Option.bind (loopO (fun k_1 => spec_ColorOk_L1 m_p0 k_1) 0) fun y => fork y (fun () => some true) (fun r => some r)) (fun r => some r))
noncomputable def spec_CrtcOk (c_p0 : CrtcT) : Option Bool :=
  Option.bind (spec_PlanesOk c_p0.Planes c_p0.W c_p0.H) fun x1_6 =>
  Option.bind (andO x1_6 (Option.bind (spec_ColorOk c_p0.Color) fun x1_10 =>
  some x1_10)) fun q1_11 =>
  some q1_11
noncomputable def spec_FlipsOk_L2 (a_p0 : FlipsT) (v_2 : Int) : Option (Int ⊕ (Unit ⊕ Bool)) :=
  ifO (decide (v_2 < (a_p0.Events.length : Int)))
  (Option.bind (idx a_p0.Events v_2) fun x18_3 =>
  Option.bind (spec_l01In x18_3 0 (wr ((wr (a_p0.Next - (a_p0.Pending.length : Int))) - 1))) fun x18_10 =>
  Option.bind (orO (!x18_10) (Option.bind (andO (decide (0 < v_2)) (Option.bind (idx a_p0.Events v_2) fun x18_19 =>
  Option.bind (idx a_p0.Events (wr (v_2 - 1))) fun x18_25 =>
  some (decide (x18_19 ≤ x18_25)))) fun q18_28 =>
  some q18_28)) fun q18_29 =>
  ifO q18_29
  (some (.inr (.inr (false))))
  (some (.inl (wr (v_2 + 1)))))
  (some (.inr (.inl ())))
noncomputable def spec_FlipsOk_L1 (a_p0 : FlipsT) (v_1 : Int) : Option (Int ⊕ (Unit ⊕ Bool)) :=
  ifO (decide (v_1 < (a_p0.Signalled.length : Int)))
  (Option.bind (idx a_p0.Signalled v_1) fun x13_3 =>
  Option.bind (spec_l01In x13_3 1 8) fun x13_5 =>
  Option.bind (orO (!x13_5) (Option.bind (andO (decide (0 < v_1)) (Option.bind (idx a_p0.Signalled v_1) fun x13_14 =>
  Option.bind (idx a_p0.Signalled (wr (v_1 - 1))) fun x13_20 =>
  some (decide (x13_14 ≤ x13_20)))) fun q13_23 =>
  some q13_23)) fun q13_24 =>
  ifO q13_24
  (some (.inr (.inr (false))))
  (some (.inl (wr (v_1 + 1)))))
  (some (.inr (.inl ())))
noncomputable def spec_FlipsOk_L0 (a_p0 : FlipsT) (v_0 : Int) : Option (Int ⊕ (Unit ⊕ Bool)) :=
  ifO (decide (v_0 < (a_p0.Pending.length : Int)))
  (Option.bind (idx a_p0.Pending v_0) fun x7_3 =>
  Option.bind (spec_CrtcOk x7_3.State) fun x8_2 =>
  Option.bind (orO (((!x8_2) || (!decide (x7_3.Seq = (wr ((wr (a_p0.Next - (a_p0.Pending.length : Int))) + v_0))))) || (decide (x7_3.Seq < 0))) (Option.bind (spec_l01In x7_3.Fence 0 8) fun x8_23 =>
  some (!x8_23))) fun q8_25 =>
  ifO q8_25
  (some (.inr (.inr (false))))
  (some (.inl (wr (v_0 + 1)))))
  (some (.inr (.inl ())))
noncomputable def spec_FlipsOk (a_p0 : FlipsT) : Option Bool :=
  Option.bind (orO (decide (2 < (a_p0.Pending.length : Int))) (Option.bind (spec_l01In a_p0.Next 0 1000000) fun x2_5 =>
  some (!x2_5))) fun q2_7 =>
  ifO q2_7
  (some false)
  (Option.bind (loopO (fun v_0 => spec_FlipsOk_L0 a_p0 v_0) 0) fun y => fork y (fun () => Option.bind (loopO (fun v_1 => spec_FlipsOk_L1 a_p0 v_1) 0) fun y => fork y (fun () => Option.bind (loopO (fun v_2 => spec_FlipsOk_L2 a_p0 v_2) 0) fun y => fork y (fun () => some true) (fun r => some r)) (fun r => some r)) (fun r => some r))
noncomputable def spec_l23Has_L0 (list_p0 : List Int) (k_p1 : Int) (i_0 : Int) : Option (Int ⊕ (Unit ⊕ Bool)) :=
  ifO (decide (i_0 < (list_p0.length : Int)))
  (Option.bind (idx list_p0 i_0) fun x4_2 =>
  ifO (decide (x4_2 = k_p1))
  (some (.inr (.inr (true))))
  (some (.inl (wr (i_0 + 1)))))
  (some (.inr (.inl ())))
noncomputable def spec_l23Has (list_p0 : List Int) (k_p1 : Int) : Option Bool :=
  Option.bind (loopO (fun i_0 => spec_l23Has_L0 list_p0 k_p1 i_0) 0) fun y => fork y (fun () => some false) (fun r => some r)
noncomputable def spec_SignalFence_L0 (f_p0 : FlipsT) (fence_p1 : Int) (k_0 : Int) : Option (Int ⊕ Int) :=
  Option.bind (andO (decide (k_0 < (f_p0.Signalled.length : Int))) (Option.bind (idx f_p0.Signalled k_0) fun x5_9 =>
  some (decide (x5_9 < fence_p1)))) fun q5_13 =>
  ifO q5_13
  (some (.inl (wr (k_0 + 1))))
  (some (.inr k_0))
noncomputable def spec_SignalFence (f_p0 : FlipsT) (fence_p1 : Int) : Option FlipsT :=
  Option.bind (spec_l23Copy f_p0) fun x1_1 =>
  Option.bind (spec_FlipsOk f_p0) fun x2_1 =>
  Option.bind (orO (!x2_1) (Option.bind (spec_l01In fence_p1 1 8) fun x2_5 =>
  some (!x2_5))) fun q2_7 =>
  Option.bind (orO q2_7 (Option.bind (spec_l23Has f_p0.Signalled fence_p1) fun x2_12 =>
  some x2_12)) fun q2_13 =>
  ifO q2_13
  (some x1_1)
  (Option.bind (loopO (fun k_0 => spec_SignalFence_L0 f_p0 fence_p1 k_0) 0) fun k_0e =>
  Option.bind (subO f_p0.Signalled 0 k_0e) fun x7_4 =>
  Option.bind (app ([] : List Int) x7_4) fun x7_5 =>
  Option.bind (app x7_5 [fence_p1]) fun x7_8 =>
  Option.bind (subO f_p0.Signalled k_0e f_p0.Signalled.length) fun x7_12 =>
  Option.bind (app x7_8 x7_12) fun x7_13 =>
  some (FlipsT.mk x1_1.Pending x7_13 x1_1.Next x1_1.Events))
def slices_Clone_S_int_int (s_p0 : List Int) : Option (List Int) := need (s_p0.length ≤ 1073741824) (some s_p0)
def impl_copyPlanes (list_p0 : List PlaneT) : Option (List PlaneT) := need (list_p0.length ≤ 1073741824 ∧ ∀ p ∈ list_p0, p.Words.length ≤ 1073741824) (some list_p0)
noncomputable def impl_copyColor (m_p0 : ColorMapT) : Option ColorMapT :=
  Option.bind (slices_Clone_S_int_int m_p0.Matrix) fun x1_2 =>
  Option.bind (slices_Clone_S_int_int m_p0.Curve) fun x1_5 =>
  some (ColorMapT.mk x1_2 x1_5)
noncomputable def impl_copyCrtc (c_p0 : CrtcT) : Option CrtcT :=
  Option.bind (impl_copyPlanes c_p0.Planes) fun x1_6 =>
  Option.bind (impl_copyColor c_p0.Color) fun x1_9 =>
  some (CrtcT.mk c_p0.W c_p0.H x1_6 x1_9)
noncomputable def impl_copyFlips_L0 (f_p0 : FlipsT) (out_0 : List FlipT) (v_0 : Int) : Option (((List FlipT) × Int) ⊕ (List FlipT)) :=
  ifO (decide (v_0 < (f_p0.Pending.length : Int)))
  (Option.bind (idx f_p0.Pending v_0) fun x4_0 =>
  Option.bind (impl_copyCrtc x4_0.State) fun x5_2 =>
  Option.bind (app out_0 [(FlipT.mk x4_0.Seq x4_0.Fence x5_2)]) fun x6_4 =>
  some (.inl (x6_4, (wr (v_0 + 1)))))
  (some (.inr out_0))
noncomputable def impl_copyFlips (f_p0 : FlipsT) : Option FlipsT :=
  Option.bind (slices_Clone_S_int_int f_p0.Signalled) fun x1_2 =>
  Option.bind (slices_Clone_S_int_int f_p0.Events) fun x1_7 =>
  Option.bind (loopO (fun (out_0, v_0) => impl_copyFlips_L0 f_p0 out_0 v_0) ([], 0)) fun out_0e =>
  some (FlipsT.mk out_0e x1_2 f_p0.Next x1_7)
noncomputable def cmp_isNaN_int (x_p0 : Int) : Option Bool :=
  some (!decide (x_p0 = x_p0))
noncomputable def cmp_Less_int (x_p0 : Int) (y_p1 : Int) : Option Bool :=
  Option.bind (cmp_isNaN_int x_p0) fun x1_1 =>
  Option.bind (andO x1_1 (Option.bind (cmp_isNaN_int y_p1) fun x1_4 =>
  some (!x1_4))) fun q1_6 =>
  some (q1_6 || (decide (x_p0 < y_p1)))
noncomputable def slices_isNaN_int (x_p0 : Int) : Option Bool :=
  some (!decide (x_p0 = x_p0))
noncomputable def slices_BinarySearch_S_int_int_L0 (x_p0 : List Int) (target_p1 : Int) (i_0 : Int) (j_0 : Int) : Option ((Int × Int) ⊕ Int) :=
  ifO (decide (i_0 < j_0))
  (Option.bind (idx x_p0 (wr (shr (u64w (wr (i_0 + j_0))) 1))) fun x5_2 =>
  Option.bind (cmp_Less_int x5_2 target_p1) fun x5_5 =>
  ifO x5_5
  (some (.inl ((wr ((wr (shr (u64w (wr (i_0 + j_0))) 1)) + 1)), j_0)))
  (some (.inl (i_0, (wr (shr (u64w (wr (i_0 + j_0))) 1))))))
  (some (.inr i_0))
noncomputable def slices_BinarySearch_S_int_int (x_p0 : List Int) (target_p1 : Int) : Option (Int × Bool) :=
  Option.bind (loopO (fun (i_0, j_0) => slices_BinarySearch_S_int_int_L0 x_p0 target_p1 i_0 j_0) (0, (x_p0.length : Int))) fun i_0e =>
  Option.bind (andO (decide (i_0e < (x_p0.length : Int))) (Option.bind (idx x_p0 i_0e) fun x8_7 =>
  Option.bind (orO (decide (x8_7 = target_p1)) (Option.bind (idx x_p0 i_0e) fun x8_14 =>
  Option.bind (slices_isNaN_int x8_14) fun x8_16 =>
  Option.bind (andO x8_16 (Option.bind (slices_isNaN_int target_p1) fun x8_19 =>
  some x8_19)) fun q8_20 =>
  some q8_20)) fun q8_21 =>
  some q8_21)) fun q8_22 =>
  some (i_0e, q8_22)
noncomputable def impl_within (n_p0 : Int) (low_p1 : Int) (high_p2 : Int) : Option Bool :=
  some ((decide (low_p1 ≤ n_p0)) && (decide (n_p0 ≤ high_p2)))
noncomputable def impl_isSide (n_p0 : Int) : Option Bool :=
  Option.bind (impl_within n_p0 1 16) fun x1_1 =>
  some x1_1
noncomputable def slices_Equal_S_int_int_L0 (s1_p0 : List Int) (s2_p1 : List Int) (v_0 : Int) : Option (Int ⊕ (Unit ⊕ Bool)) :=
  ifO (decide (v_0 < (s1_p0.length : Int)))
  (Option.bind (idx s1_p0 v_0) fun x6_2 =>
  Option.bind (idx s2_p1 v_0) fun x6_6 =>
  ifO (!decide (x6_2 = x6_6))
  (some (.inr (.inr (false))))
  (some (.inl (wr (v_0 + 1)))))
  (some (.inr (.inl ())))
noncomputable def slices_Equal_S_int_int (s1_p0 : List Int) (s2_p1 : List Int) : Option Bool :=
  ifO (!decide ((s1_p0.length : Int) = (s2_p1.length : Int)))
  (some false)
  (Option.bind (loopO (fun v_0 => slices_Equal_S_int_int_L0 s1_p0 s2_p1 v_0) 0) fun y => fork y (fun () => some true) (fun r => some r))
noncomputable def impl_samePlane (a_p0 : PlaneT) (a_p1 : PlaneT) : Option Bool :=
  Option.bind (andO ((((((((((a_p0.On == a_p1.On) && (decide (a_p0.X = a_p1.X))) && (decide (a_p0.Y = a_p1.Y))) && (decide (a_p0.W = a_p1.W))) && (decide (a_p0.H = a_p1.H))) && (decide (a_p0.Layout = a_p1.Layout))) && (decide (a_p0.Alpha = a_p1.Alpha))) && (decide (a_p0.Orient = a_p1.Orient))) && (decide (a_p0.ToW = a_p1.ToW))) && (decide (a_p0.ToH = a_p1.ToH))) (Option.bind (slices_Equal_S_int_int a_p0.Words a_p1.Words) fun x1_73 =>
  some x1_73)) fun q1_74 =>
  some q1_74
def slices_Repeat_S_int_int (s_p0 : List Int) (c_p1 : Int) : Option (List Int) := match s_p0 with
  | [p] => mkO c_p1 p
  | _ => .none
noncomputable def impl_isPixel (p_p0 : Int) : Option Bool :=
  Option.bind (impl_within p_p0 0 4294967295) fun x1_1 =>
  some x1_1
noncomputable def impl_ImageOk_L0 (i_p0 : ImageT) (v_0 : Int) : Option (Int ⊕ (Unit ⊕ Bool)) :=
  ifO (decide (v_0 < (i_p0.Data.length : Int)))
  (Option.bind (idx i_p0.Data v_0) fun x5_0 =>
  Option.bind (impl_isPixel x5_0) fun x6_1 =>
  ifO (!x6_1)
  (some (.inr (.inr (false))))
  (some (.inl (wr (v_0 + 1)))))
  (some (.inr (.inl ())))
noncomputable def impl_ImageOk (i_p0 : ImageT) : Option Bool :=
  Option.bind (impl_isSide i_p0.W) fun x1_2 =>
  Option.bind (orO (!x1_2) (Option.bind (impl_isSide i_p0.H) fun x1_7 =>
  some (!x1_7))) fun q1_9 =>
  ifO (q1_9 || (!decide ((i_p0.Data.length : Int) = (wr (i_p0.W * i_p0.H)))))
  (some false)
  (Option.bind (loopO (fun v_0 => impl_ImageOk_L0 i_p0 v_0) 0) fun y => fork y (fun () => some true) (fun r => some r))
noncomputable def impl_runsOf_L1 (i_p0 : ImageT) (k_0 : Int) (end_1 : Int) : Option (Int ⊕ Int) :=
  Option.bind (remO end_1 i_p0.W) fun x5_3 =>
  Option.bind (andO (!decide (x5_3 = 0)) (Option.bind (idx i_p0.Data end_1) fun x5_9 =>
  Option.bind (idx i_p0.Data k_0) fun x5_14 =>
  some (decide (x5_9 = x5_14)))) fun q5_17 =>
  ifO q5_17
  (some (.inl (wr (end_1 + 1))))
  (some (.inr end_1))
noncomputable def impl_runsOf_L0 (i_p0 : ImageT) (out_0 : List Int) (k_0 : Int) : Option (((List Int) × Int) ⊕ (List Int)) :=
  ifO (decide (k_0 < (i_p0.Data.length : Int)))
  (Option.bind (loopO (fun end_1 => impl_runsOf_L1 i_p0 k_0 end_1) (wr (k_0 + 1))) fun end_1e =>
  Option.bind (idx i_p0.Data k_0) fun x7_7 =>
  Option.bind (app out_0 [(wr (end_1e - k_0)), x7_7]) fun x7_10 =>
  some (.inl (x7_10, end_1e)))
  (some (.inr out_0))
noncomputable def impl_runsOf (i_p0 : ImageT) : Option (List Int) :=
  Option.bind (loopO (fun (out_0, k_0) => impl_runsOf_L0 i_p0 out_0 k_0) (([] : List Int), 0)) fun out_0e =>
  some out_0e
noncomputable def impl_tilesOf (n_p0 : Int) : Option Int :=
  some (wr (Int.tdiv (wr ((wr (n_p0 + 4)) - 1)) 4))
noncomputable def impl_WordCount (w_p0 : Int) (h_p1 : Int) (layout_p2 : Int) : Option Int :=
  Option.bind (impl_isSide w_p0) fun x1_1 =>
  Option.bind (orO (!x1_1) (Option.bind (impl_isSide h_p1) fun x1_5 =>
  some (!x1_5))) fun q1_7 =>
  ifO q1_7
  (some (-1))
  (ifO (decide (layout_p2 = 0))
  (some (wr (w_p0 * h_p1)))
  (ifO (decide (layout_p2 = 1))
  (Option.bind (impl_tilesOf w_p0) fun x7_1 =>
  Option.bind (impl_tilesOf h_p1) fun x7_3 =>
  some (wr ((wr ((wr (x7_1 * x7_3)) * 4)) * 4)))
  (some (-1))))
noncomputable def impl_wordPlace (w_p0 : Int) (layout_p1 : Int) (x_p2 : Int) (y_p3 : Int) : Option Int :=
  ifO (decide (layout_p1 = 0))
  (some (wr ((wr (y_p3 * w_p0)) + x_p2)))
  (Option.bind (impl_tilesOf w_p0) fun x3_3 =>
  some (wr ((wr ((wr ((wr ((wr ((wr ((wr (Int.tdiv y_p3 4)) * x3_3)) + (wr (Int.tdiv x_p2 4)))) * 4)) * 4)) + (wr ((Int.tmod y_p3 4) * 4)))) + (Int.tmod x_p2 4))))
noncomputable def impl_StoreImage_L0 (i_p0 : ImageT) (layout_p1 : Int) (out_0 : List Int) (v_0 : Int) : Option (((List Int) × Int) ⊕ (List Int)) :=
  ifO (decide (v_0 < (i_p0.Data.length : Int)))
  (Option.bind (idx i_p0.Data v_0) fun x8_1 =>
  Option.bind (remO v_0 i_p0.W) fun x9_7 =>
  Option.bind (quoO v_0 i_p0.W) fun x9_11 =>
  Option.bind (impl_wordPlace i_p0.W layout_p1 x9_7 x9_11) fun x9_12 =>
  Option.bind (upd out_0 x9_12 x8_1) fun x9_15 =>
  some (.inl (x9_15, (wr (v_0 + 1)))))
  (some (.inr out_0))
noncomputable def impl_StoreImage (i_p0 : ImageT) (layout_p1 : Int) : Option ((List Int) × Bool) :=
  Option.bind (impl_ImageOk i_p0) fun x1_1 =>
  Option.bind (orO (!x1_1) (Option.bind (impl_within layout_p1 0 2) fun x1_5 =>
  some (!x1_5))) fun q1_7 =>
  ifO q1_7
  (some (([] : List Int), false))
  (ifO (decide (layout_p1 = 2))
  (Option.bind (impl_runsOf i_p0) fun x4_1 =>
  some (x4_1, true))
  (Option.bind (impl_WordCount i_p0.W i_p0.H layout_p1) fun x5_5 =>
  Option.bind (mkO x5_5 0) fun x5_6 =>
  Option.bind (loopO (fun (out_0, v_0) => impl_StoreImage_L0 i_p0 layout_p1 out_0 v_0) (x5_6, 0)) fun out_0e =>
  some (out_0e, true)))
noncomputable def impl_mapImage_L1 (w_p0 : Int) (f_p2 : (Int → Int → Option Int)) (v_0 : Int) (out_1 : List Int) (v_1 : Int) : Option (((List Int) × Int) ⊕ (List Int)) :=
  ifO (decide (v_1 < w_p0))
  (Option.bind (f_p2 v_1 v_0) fun x8_5 =>
  Option.bind (app out_1 [x8_5]) fun x8_7 =>
  some (.inl (x8_7, (wr (v_1 + 1)))))
  (some (.inr out_1))
noncomputable def impl_mapImage_L0 (w_p0 : Int) (h_p1 : Int) (f_p2 : (Int → Int → Option Int)) (out_0 : List Int) (v_0 : Int) : Option (((List Int) × Int) ⊕ (List Int)) :=
  ifO (decide (v_0 < h_p1))
  (Option.bind (loopO (fun (out_1, v_1) => impl_mapImage_L1 w_p0 f_p2 v_0 out_1 v_1) (out_0, 0)) fun out_1e =>
  some (.inl (out_1e, (wr (v_0 + 1)))))
  (some (.inr out_0))
noncomputable def impl_mapImage (w_p0 : Int) (h_p1 : Int) (f_p2 : Int → Int → Option Int) : Option ImageT :=
  Option.bind (mkO 0 0) fun x1_5 =>
  need (0 ≤ (wr (w_p0 * h_p1)) ∧ (wr (w_p0 * h_p1)) ≤ 1073741824) <|
  Option.bind (loopO (fun (out_0, v_0) => impl_mapImage_L0 w_p0 h_p1 f_p2 out_0 v_0) (x1_5, 0)) fun out_0e =>
  some (ImageT.mk w_p0 h_p1 out_0e)
noncomputable def impl_LoadImage_1 (x_p0 : Int) (y_p1 : Int) (c_p2 : List Int) (c_p3 : Int) (c_p4 : Int) : Option Int :=
  Option.bind (impl_wordPlace c_p3 c_p4 x_p0 y_p1) fun x1_5 =>
  Option.bind (idx c_p2 x1_5) fun x1_6 =>
  some x1_6
noncomputable def impl_LoadImage_L0 (a_p0 : List Int) (a_p1 : Int) (a_p2 : Int) (x_0 : List Int) (v_0 : Int) : Option (((List Int) × Int) ⊕ ((List Int) ⊕ (ImageT × Bool))) :=
  ifO (decide ((wr (v_0 + 1)) < (a_p0.length : Int)))
  (Option.bind (idx a_p0 v_0) fun x8_2 =>
  Option.bind (impl_within x8_2 1 (wr ((wr (a_p1 * a_p2)) - (x_0.length : Int)))) fun x8_11 =>
  ifO (!x8_11)
  (some (.inr (.inr (((ImageT.mk 0 0 []), false)))))
  (Option.bind (idx a_p0 (wr (v_0 + 1))) fun x10_5 =>
  Option.bind (idx a_p0 v_0) fun x10_10 =>
  Option.bind (slices_Repeat_S_int_int [x10_5] x10_10) fun x10_12 =>
  Option.bind (app x_0 x10_12) fun x10_13 =>
  some (.inl (x10_13, (wr (v_0 + 2))))))
  (some (.inr (.inl x_0)))
noncomputable def impl_LoadImage (a_p0 : List Int) (a_p1 : Int) (a_p2 : Int) (a_p3 : Int) : Option (ImageT × Bool) :=
  Option.bind (impl_isSide a_p1) fun x1_1 =>
  Option.bind (orO (!x1_1) (Option.bind (impl_isSide a_p2) fun x1_5 =>
  some (!x1_5))) fun q1_7 =>
  Option.bind (orO q1_7 (Option.bind (impl_within a_p3 0 2) fun x1_10 =>
  some (!x1_10))) fun q1_12 =>
  ifO q1_12
  (some ((ImageT.mk 0 0 []), false))
  (ifO (decide (a_p3 = 2))
  (Option.bind (loopO (fun (x_0, v_0) => impl_LoadImage_L0 a_p0 a_p1 a_p2 x_0 v_0) ([], 0)) fun y => fork y (fun x_0e => Option.bind (impl_StoreImage (ImageT.mk a_p1 a_p2 x_0e) a_p3) fun (x13_2a, x13_2b) =>
  Option.bind (orO (!x13_2b) (Option.bind (slices_Equal_S_int_int x13_2a a_p0) fun x14_5 =>
  some (!x14_5))) fun q14_7 =>
  ifO q14_7
  (some ((ImageT.mk 0 0 []), false))
  (some ((ImageT.mk a_p1 a_p2 x_0e), true))) (fun r => some r))
  (Option.bind (impl_WordCount a_p1 a_p2 a_p3) fun x11_5 =>
  ifO (decide ((a_p0.length : Int) = x11_5))
  (Option.bind (impl_mapImage a_p1 a_p2 (fun z0 z1 => impl_LoadImage_1 z0 z1 a_p0 a_p1 a_p3)) fun x12_3 =>
  Option.bind (impl_StoreImage x12_3 a_p3) fun (x13_2a, x13_2b) =>
  Option.bind (orO (!x13_2b) (Option.bind (slices_Equal_S_int_int x13_2a a_p0) fun x14_5 =>
  some (!x14_5))) fun q14_7 =>
  ifO q14_7
  (some ((ImageT.mk 0 0 []), false))
  (some (x12_3, true)))
  (Option.bind (impl_StoreImage (ImageT.mk a_p1 a_p2 []) a_p3) fun (x13_2a, x13_2b) =>
  Option.bind (orO (!x13_2b) (Option.bind (slices_Equal_S_int_int x13_2a a_p0) fun x14_5 =>
  some (!x14_5))) fun q14_7 =>
  ifO q14_7
  (some ((ImageT.mk 0 0 []), false))
  (some ((ImageT.mk a_p1 a_p2 []), true)))))
noncomputable def impl_isOrient (o_p0 : Int) : Option Bool :=
  Option.bind (impl_within o_p0 0 7) fun x1_1 =>
  some x1_1
noncomputable def impl_OrientSize (w_p0 : Int) (h_p1 : Int) (o_p2 : Int) : Option (Int × Int) :=
  Option.bind (impl_isSide w_p0) fun x1_1 =>
  Option.bind (orO (!x1_1) (Option.bind (impl_isSide h_p1) fun x1_5 =>
  some (!x1_5))) fun q1_7 =>
  Option.bind (orO q1_7 (Option.bind (impl_isOrient o_p2) fun x1_10 =>
  some (!x1_10))) fun q1_12 =>
  ifO q1_12
  (some (0, 0))
  (ifO (decide ((Int.tmod o_p2 2) = 1))
  (some (h_p1, w_p0))
  (some (w_p0, h_p1)))
noncomputable def impl_OrientPoint_L0 (o_p2 : Int) (w_0 : Int) (h_0 : Int) (x_0 : Int) (y_0 : Int) (v_0 : Int) : Option ((Int × Int × Int × Int × Int) ⊕ (Int × Int)) :=
  ifO (decide (v_0 < (Int.tmod o_p2 4)))
  (some (.inl (h_0, w_0, (wr ((wr (h_0 - 1)) - y_0)), x_0, (wr (v_0 + 1)))))
  (some (.inr (x_0, y_0)))
noncomputable def impl_OrientPoint_L1 (o_p2 : Int) (w_1 : Int) (h_1 : Int) (x_1 : Int) (y_1 : Int) (v_1 : Int) : Option ((Int × Int × Int × Int × Int) ⊕ (Int × Int)) :=
  ifO (decide (v_1 < (Int.tmod o_p2 4)))
  (some (.inl (h_1, w_1, (wr ((wr (h_1 - 1)) - y_1)), x_1, (wr (v_1 + 1)))))
  (some (.inr (x_1, y_1)))
noncomputable def impl_OrientPoint (w_p0 : Int) (h_p1 : Int) (o_p2 : Int) (x_p3 : Int) (y_p4 : Int) : Option (Int × Int) :=
  Option.bind (impl_isSide w_p0) fun x1_1 =>
  Option.bind (orO (!x1_1) (Option.bind (impl_isSide h_p1) fun x1_5 =>
  some (!x1_5))) fun q1_7 =>
  Option.bind (orO q1_7 (Option.bind (impl_isOrient o_p2) fun x1_10 =>
  some (!x1_10))) fun q1_12 =>
  Option.bind (orO q1_12 (Option.bind (impl_within x_p3 0 (wr (w_p0 - 1))) fun x1_17 =>
  some (!x1_17))) fun q1_19 =>
  Option.bind (orO q1_19 (Option.bind (impl_within y_p4 0 (wr (h_p1 - 1))) fun x1_24 =>
  some (!x1_24))) fun q1_26 =>
  ifO q1_26
  (some ((-1), (-1)))
  (ifO (decide (4 ≤ o_p2))
  (Option.bind (loopO (fun (w_0, h_0, x_0, y_0, v_0) => impl_OrientPoint_L0 o_p2 w_0 h_0 x_0 y_0 v_0) (w_p0, h_p1, (wr ((wr (w_p0 - 1)) - x_p3)), y_p4, 0)) fun (x_0e, y_0e) =>
  some (x_0e, y_0e))
  (Option.bind (loopO (fun (w_1, h_1, x_1, y_1, v_1) => impl_OrientPoint_L1 o_p2 w_1 h_1 x_1 y_1 v_1) (w_p0, h_p1, x_p3, y_p4, 0)) fun (x_1e, y_1e) =>
  some (x_1e, y_1e)))
noncomputable def impl_Oriented_L0 (a_p0 : ImageT) (a_p1 : Int) (x3_5a : Int) (x_0 : List Int) (v_0 : Int) : Option (((List Int) × Int) ⊕ (List Int)) :=
  ifO (decide (v_0 < (a_p0.Data.length : Int)))
  (Option.bind (idx a_p0.Data v_0) fun x7_1 =>
  Option.bind (remO v_0 a_p0.W) fun x8_8 =>
  Option.bind (quoO v_0 a_p0.W) fun x8_12 =>
  Option.bind (impl_OrientPoint a_p0.W a_p0.H a_p1 x8_8 x8_12) fun (x8_13a, x8_13b) =>
  Option.bind (upd x_0 (wr ((wr (x8_13b * x3_5a)) + x8_13a)) x7_1) fun x9_9 =>
  some (.inl (x9_9, (wr (v_0 + 1)))))
  (some (.inr x_0))
noncomputable def impl_Oriented (a_p0 : ImageT) (a_p1 : Int) : Option ImageT :=
  Option.bind (impl_ImageOk a_p0) fun x1_1 =>
  Option.bind (orO (!x1_1) (Option.bind (impl_isOrient a_p1) fun x1_5 =>
  some (!x1_5))) fun q1_7 =>
  ifO q1_7
  (some (ImageT.mk 0 0 []))
  (Option.bind (impl_OrientSize a_p0.W a_p0.H a_p1) fun (x3_5a, x3_5b) =>
  Option.bind (mkO (wr (x3_5a * x3_5b)) 0) fun x4_5 =>
  Option.bind (loopO (fun (x_0, v_0) => impl_Oriented_L0 a_p0 a_p1 x3_5a x_0 v_0) (x4_5, 0)) fun x_0e =>
  some (ImageT.mk x3_5a x3_5b x_0e))
noncomputable def impl_ScalePoint (from_p0 : Int) (to_p1 : Int) (k_p2 : Int) : Option Int :=
  Option.bind (impl_isSide from_p0) fun x1_1 =>
  Option.bind (orO (!x1_1) (Option.bind (impl_isSide to_p1) fun x1_5 =>
  some (!x1_5))) fun q1_7 =>
  Option.bind (orO q1_7 (Option.bind (impl_within k_p2 0 (wr (to_p1 - 1))) fun x1_12 =>
  some (!x1_12))) fun q1_14 =>
  ifO q1_14
  (some (-1))
  (Option.bind (quoO (wr (k_p2 * from_p0)) to_p1) fun x3_4 =>
  some x3_4)
noncomputable def impl_Scaled_1 (x_p0 : Int) (y_p1 : Int) (c_p2 : ImageT) (c_p3 : Int) (c_p4 : Int) : Option Int :=
  Option.bind (impl_ScalePoint c_p2.H c_p3 y_p1) fun x1_6 =>
  Option.bind (impl_ScalePoint c_p2.W c_p4 x_p0) fun x1_14 =>
  Option.bind (idx c_p2.Data (wr ((wr (x1_6 * c_p2.W)) + x1_14))) fun x1_16 =>
  some x1_16
noncomputable def impl_Scaled (i_p0 : ImageT) (w_p1 : Int) (h_p2 : Int) : Option ImageT :=
  Option.bind (impl_ImageOk i_p0) fun x1_1 =>
  Option.bind (orO (!x1_1) (Option.bind (impl_isSide w_p1) fun x1_5 =>
  some (!x1_5))) fun q1_7 =>
  Option.bind (orO q1_7 (Option.bind (impl_isSide h_p2) fun x1_10 =>
  some (!x1_10))) fun q1_12 =>
  ifO q1_12
  (some (ImageT.mk 0 0 []))
  (Option.bind (impl_mapImage w_p1 h_p2 (fun z0 z1 => impl_Scaled_1 z0 z1 i_p0 h_p2 w_p1)) fun x3_3 =>
  some x3_3)
noncomputable def impl_channel (p_p0 : Int) (k_p1 : Int) : Option Int :=
  Option.bind (shrO p_p0 (wr (24 - (wr (8 * k_p1))))) fun x1_4 =>
  some (and64 x1_4 255)
noncomputable def impl_Part (a_p0 : Int) (b_p1 : Int) : Option Int :=
  Option.bind (impl_within a_p0 0 255) fun x1_1 =>
  Option.bind (orO (!x1_1) (Option.bind (impl_within b_p1 0 255) fun x1_5 =>
  some (!x1_5))) fun q1_7 =>
  ifO q1_7
  (some (-1))
  (some (wr (Int.tdiv (wr ((wr (a_p0 * b_p1)) + 127)) 255)))
noncomputable def impl_Fade (p_p0 : Int) (alpha_p1 : Int) : Option Int :=
  Option.bind (impl_isPixel p_p0) fun x1_1 =>
  Option.bind (orO (!x1_1) (Option.bind (impl_within alpha_p1 0 255) fun x1_5 =>
  some (!x1_5))) fun q1_7 =>
  ifO q1_7
  (some (-1))
  (Option.bind (impl_channel p_p0 0) fun x3_1 =>
  Option.bind (impl_Part x3_1 alpha_p1) fun x3_3 =>
  some (or64 (shl x3_3 24) (and64 p_p0 16777215)))
noncomputable def impl_faded_L0 (i_p0 : ImageT) (alpha_p1 : Int) (i_0 : List Int) (v_0 : Int) : Option (((List Int) × Int) ⊕ (List Int)) :=
  ifO (decide (v_0 < (i_p0.Data.length : Int)))
  (Option.bind (idx i_0 v_0) fun x3_1 =>
  Option.bind (impl_Fade x3_1 alpha_p1) fun x4_5 =>
  Option.bind (upd i_0 v_0 x4_5) fun x4_7 =>
  some (.inl (x4_7, (wr (v_0 + 1)))))
  (some (.inr i_0))
noncomputable def impl_faded (i_p0 : ImageT) (alpha_p1 : Int) : Option (ImageT × (List Int)) :=
  Option.bind (loopO (fun (i_0, v_0) => impl_faded_L0 i_p0 alpha_p1 i_0 v_0) (i_p0.Data, 0)) fun i_0e =>
  some ((ImageT.mk i_p0.W i_p0.H i_0e), i_0e)
noncomputable def impl_PlaneImage (p_p0 : PlaneT) : Option (ImageT × Bool) :=
  Option.bind (orO (!p_p0.On) (Option.bind (impl_within p_p0.Alpha 0 255) fun x1_6 =>
  some (!x1_6))) fun q1_8 =>
  ifO q1_8
  (some ((ImageT.mk 0 0 []), false))
  (Option.bind (impl_LoadImage p_p0.Words p_p0.W p_p0.H p_p0.Layout) fun (x3_8a, x3_8b) =>
  Option.bind (impl_Oriented x3_8a p_p0.Orient) fun x4_3 =>
  ifO ((!decide (p_p0.ToW = 0)) || (!decide (p_p0.ToH = 0)))
  (Option.bind (impl_Scaled x4_3 p_p0.ToW p_p0.ToH) fun x6_5 =>
  Option.bind (orO (!x3_8b) (Option.bind (impl_ImageOk x6_5) fun x7_4 =>
  some (!x7_4))) fun q7_6 =>
  ifO q7_6
  (some ((ImageT.mk 0 0 []), false))
  (Option.bind (impl_faded x6_5 p_p0.Alpha) fun (x9_3a, x9_3b) =>
  some ((ImageT.mk x9_3a.W x9_3a.H x9_3b), true)))
  (Option.bind (orO (!x3_8b) (Option.bind (impl_ImageOk x4_3) fun x7_4 =>
  some (!x7_4))) fun q7_6 =>
  ifO q7_6
  (some ((ImageT.mk 0 0 []), false))
  (Option.bind (impl_faded x4_3 p_p0.Alpha) fun (x9_3a, x9_3b) =>
  some ((ImageT.mk x9_3a.W x9_3a.H x9_3b), true))))
noncomputable def slices_IndexFunc_S_int_int_L0 (s_p0 : List Int) (f_p1 : (Int → Option Bool)) (v_0 : Int) : Option (Int ⊕ (Unit ⊕ Int)) :=
  ifO (decide (v_0 < (s_p0.length : Int)))
  (Option.bind (idx s_p0 v_0) fun x4_3 =>
  Option.bind (f_p1 x4_3) fun x4_5 =>
  ifO x4_5
  (some (.inr (.inr (v_0))))
  (some (.inl (wr (v_0 + 1)))))
  (some (.inr (.inl ())))
noncomputable def slices_IndexFunc_S_int_int (s_p0 : List Int) (f_p1 : Int → Option Bool) : Option Int :=
  Option.bind (loopO (fun v_0 => slices_IndexFunc_S_int_int_L0 s_p0 f_p1 v_0) 0) fun y => fork y (fun () => some (-1)) (fun r => some r)
noncomputable def slices_ContainsFunc_S_int_int (s_p0 : List Int) (f_p1 : Int → Option Bool) : Option Bool :=
  Option.bind (slices_IndexFunc_S_int_int s_p0 f_p1) fun x1_2 =>
  some (decide (0 ≤ x1_2))
noncomputable def impl_isOpaquePixel (p_p0 : Int) : Option Bool :=
  Option.bind (impl_isPixel p_p0) fun x1_1 =>
  Option.bind (andO x1_1 (Option.bind (impl_channel p_p0 0) fun x1_4 =>
  some (decide (x1_4 = 255)))) fun q1_6 =>
  some q1_6
noncomputable def impl_PlaneOk_1 (p_p0 : Int) : Option Bool :=
  Option.bind (impl_isOpaquePixel p_p0) fun x1_1 =>
  some (!x1_1)
noncomputable def impl_PlaneOk (a_p0 : Int) (a_p1 : PlaneT) (a_p2 : Int) (a_p3 : Int) : Option Bool :=
  Option.bind (impl_within a_p0 0 3) fun x1_1 =>
  Option.bind (orO (!x1_1) (Option.bind (impl_isSide a_p2) fun x1_5 =>
  some (!x1_5))) fun q1_7 =>
  Option.bind (orO q1_7 (Option.bind (impl_isSide a_p3) fun x1_10 =>
  some (!x1_10))) fun q1_12 =>
  ifO q1_12
  (some false)
  (ifO (!a_p1.On)
  (Option.bind (andO (!decide (a_p0 = 0)) (Option.bind (impl_samePlane a_p1 (PlaneT.mk false 0 0 0 0 0 [] 0 0 0 0)) fun x4_5 =>
  some x4_5)) fun q4_6 =>
  some q4_6)
  (Option.bind (impl_PlaneImage a_p1) fun (x5_1a, x5_1b) =>
  Option.bind (orO (!x5_1b) (Option.bind (impl_within a_p1.X (-32) 32) fun x6_5 =>
  some (!x6_5))) fun q6_7 =>
  Option.bind (orO q6_7 (Option.bind (impl_within a_p1.Y (-32) 32) fun x6_11 =>
  some (!x6_11))) fun q6_13 =>
  ifO q6_13
  (some false)
  (ifO (decide (a_p0 = 0))
  (Option.bind (andO ((((((((decide (a_p1.Orient = 0)) && (decide (a_p1.ToW = 0))) && (decide (a_p1.ToH = 0))) && (decide (a_p1.Alpha = 255))) && (decide (a_p1.X = 0))) && (decide (a_p1.Y = 0))) && (decide (a_p1.W = a_p2))) && (decide (a_p1.H = a_p3))) (Option.bind (slices_ContainsFunc_S_int_int x5_1a.Data impl_PlaneOk_1) fun x11_26 =>
  some (!x11_26))) fun q11_28 =>
  some q11_28)
  (ifO (decide (a_p0 = 3))
  (some ((((((decide (a_p1.Orient = 0)) && (decide (a_p1.ToW = 0))) && (decide (a_p1.ToH = 0))) && (decide (a_p1.Alpha = 255))) && (decide (a_p1.W ≤ 4))) && (decide (a_p1.H ≤ 4))))
  (some true)))))
noncomputable def impl_PlanesOk_L0 (list_p0 : List PlaneT) (w_p1 : Int) (h_p2 : Int) (v_0 : Int) : Option (Int ⊕ (Unit ⊕ Bool)) :=
  ifO (decide (v_0 < (list_p0.length : Int)))
  (Option.bind (idx list_p0 v_0) fun x5_1 =>
  Option.bind (impl_PlaneOk v_0 x5_1 w_p1 h_p2) fun x6_4 =>
  ifO (!x6_4)
  (some (.inr (.inr (false))))
  (some (.inl (wr (v_0 + 1)))))
  (some (.inr (.inl ())))
noncomputable def impl_PlanesOk (list_p0 : List PlaneT) (w_p1 : Int) (h_p2 : Int) : Option Bool :=
  Option.bind (orO (!decide ((list_p0.length : Int) = 4)) (Option.bind (idx list_p0 1) fun x1_5 =>
  Option.bind (andO (!decide (x1_5.ToW = 0)) (Option.bind (idx list_p0 2) fun x1_11 =>
  some (!decide (x1_11.ToW = 0)))) fun q1_15 =>
  some q1_15)) fun q1_16 =>
  ifO q1_16
  (some false)
  (Option.bind (loopO (fun v_0 => impl_PlanesOk_L0 list_p0 w_p1 h_p2 v_0) 0) fun y => fork y (fun () => some true) (fun r => some r))
noncomputable def impl_ColorOk_L1 (m_p0 : ColorMapT) (v_1 : Int) : Option (Int ⊕ (Unit ⊕ Bool)) :=
  ifO (decide (v_1 < (m_p0.Curve.length : Int)))
  (Option.bind (idx m_p0.Curve v_1) fun x9_0 =>
  Option.bind (impl_within x9_0 0 256) fun x10_1 =>
  ifO (!x10_1)
  (some (.inr (.inr (false))))
  (some (.inl (wr (v_1 + 1)))))
  (some (.inr (.inl ())))
noncomputable def impl_ColorOk_L0 (m_p0 : ColorMapT) (v_0 : Int) : Option (Int ⊕ (Unit ⊕ Bool)) :=
  ifO (decide (v_0 < (m_p0.Matrix.length : Int)))
  (Option.bind (idx m_p0.Matrix v_0) fun x3_0 =>
  Option.bind (impl_within x3_0 (-1024) 1024) fun x4_1 =>
  ifO (!x4_1)
  (some (.inr (.inr (false))))
  (some (.inl (wr (v_0 + 1)))))
  (some (.inr (.inl ())))
noncomputable def impl_ColorOk (m_p0 : ColorMapT) : Option Bool :=
  Option.bind (loopO (fun v_0 => impl_ColorOk_L0 m_p0 v_0) 0) fun y => fork y (fun () => Option.bind (loopO (fun v_1 => impl_ColorOk_L1 m_p0 v_1) 0) fun y => fork y (fun () => some ((decide ((m_p0.Matrix.length : Int) = 9)) && (decide ((m_p0.Curve.length : Int) = 17)))) (fun r => some r)) (fun r => some r)
noncomputable def impl_CrtcOk (c_p0 : CrtcT) : Option Bool :=
  Option.bind (impl_PlanesOk c_p0.Planes c_p0.W c_p0.H) fun x1_6 =>
  Option.bind (andO x1_6 (Option.bind (impl_ColorOk c_p0.Color) fun x1_10 =>
  some x1_10)) fun q1_11 =>
  some q1_11
noncomputable def impl_ascendingWithin_L0 (list_p0 : List Int) (low_p1 : Int) (high_p2 : Int) (v_0 : Int) : Option (Int ⊕ (Unit ⊕ Bool)) :=
  ifO (decide (v_0 < (list_p0.length : Int)))
  (Option.bind (idx list_p0 v_0) fun x3_1 =>
  Option.bind (impl_within x3_1 low_p1 high_p2) fun x4_3 =>
  Option.bind (orO (!x4_3) (Option.bind (andO (decide (0 < v_0)) (Option.bind (idx list_p0 (wr (v_0 - 1))) fun x4_12 =>
  some (decide (x3_1 ≤ x4_12)))) fun q4_16 =>
  some q4_16)) fun q4_17 =>
  ifO q4_17
  (some (.inr (.inr (false))))
  (some (.inl (wr (v_0 + 1)))))
  (some (.inr (.inl ())))
noncomputable def impl_ascendingWithin (list_p0 : List Int) (low_p1 : Int) (high_p2 : Int) : Option Bool :=
  Option.bind (loopO (fun v_0 => impl_ascendingWithin_L0 list_p0 low_p1 high_p2 v_0) 0) fun y => fork y (fun () => some true) (fun r => some r)
noncomputable def impl_FlipsOk_L0 (a_p0 : FlipsT) (v_0 : Int) : Option (Int ⊕ (Unit ⊕ Bool)) :=
  ifO (decide (v_0 < (a_p0.Pending.length : Int)))
  (Option.bind (idx a_p0.Pending v_0) fun x6_1 =>
  Option.bind (orO (!decide (x6_1.Seq = (wr ((wr (a_p0.Next - (a_p0.Pending.length : Int))) + v_0)))) (Option.bind (impl_within x6_1.Fence 0 8) fun x7_12 =>
  some (!x7_12))) fun q7_14 =>
  Option.bind (orO q7_14 (Option.bind (impl_CrtcOk x6_1.State) fun x7_18 =>
  some (!x7_18))) fun q7_20 =>
  ifO q7_20
  (some (.inr (.inr (false))))
  (some (.inl (wr (v_0 + 1)))))
  (some (.inr (.inl ())))
noncomputable def impl_FlipsOk (a_p0 : FlipsT) : Option Bool :=
  Option.bind (orO (decide (2 < (a_p0.Pending.length : Int))) (Option.bind (impl_within a_p0.Next 0 1000000) fun x2_5 =>
  some (!x2_5))) fun q2_7 =>
  ifO (q2_7 || (decide (a_p0.Next < (a_p0.Pending.length : Int))))
  (some false)
  (Option.bind (loopO (fun v_0 => impl_FlipsOk_L0 a_p0 v_0) 0) fun y => fork y (fun () => Option.bind (impl_ascendingWithin a_p0.Signalled 1 8) fun x10_2 =>
  Option.bind (andO x10_2 (Option.bind (impl_ascendingWithin a_p0.Events 0 (wr ((wr (a_p0.Next - (a_p0.Pending.length : Int))) - 1))) fun x10_11 =>
  some x10_11)) fun q10_12 =>
  some q10_12) (fun r => some r))

noncomputable def impl_SignalFence (f_p0 : FlipsT) (fence_p1 : Int) : Option FlipsT :=
  Option.bind (impl_copyFlips f_p0) fun x1_1 =>
  Option.bind (slices_BinarySearch_S_int_int f_p0.Signalled fence_p1) fun (x2_3a, x2_3b) =>
  Option.bind (impl_FlipsOk f_p0) fun x3_1 =>
  Option.bind (orO (!x3_1) (Option.bind (impl_within fence_p1 1 8) fun x3_5 =>
  some (!x3_5))) fun q3_7 =>
  ifO (q3_7 || x2_3b)
  (some x1_1)
  (Option.bind (insO x1_1.Signalled x2_3a fence_p1) fun x5_5 =>
  some (FlipsT.mk x1_1.Pending x5_5 x1_1.Next x1_1.Events))
noncomputable def laws_eqIntS_L0 (a_p0 : List Int) (b_p1 : List Int) (i_0 : Int) : Option (Int ⊕ (Unit ⊕ Bool)) :=
  ifO (decide (i_0 < (a_p0.length : Int)))
  (Option.bind (idx a_p0 i_0) fun x6_2 =>
  Option.bind (idx b_p1 i_0) fun x6_6 =>
  ifO (!decide (x6_2 = x6_6))
  (some (.inr (.inr (false))))
  (some (.inl (wr (i_0 + 1)))))
  (some (.inr (.inl ())))
noncomputable def laws_eqIntS (a_p0 : List Int) (b_p1 : List Int) : Option Bool :=
  ifO (!decide ((a_p0.length : Int) = (b_p1.length : Int)))
  (some false)
  (Option.bind (loopO (fun i_0 => laws_eqIntS_L0 a_p0 b_p1 i_0) 0) fun y => fork y (fun () => some true) (fun r => some r))
noncomputable def laws_eqPlane (a_p0 : PlaneT) (b_p1 : PlaneT) : Option Bool :=
  ifO (!(a_p0.On == b_p1.On))
  (some false)
  (ifO (!decide (a_p0.X = b_p1.X))
  (some false)
  (ifO (!decide (a_p0.Y = b_p1.Y))
  (some false)
  (ifO (!decide (a_p0.W = b_p1.W))
  (some false)
  (ifO (!decide (a_p0.H = b_p1.H))
  (some false)
  (ifO (!decide (a_p0.Layout = b_p1.Layout))
  (some false)
  (Option.bind (laws_eqIntS a_p0.Words b_p1.Words) fun x13_4 =>
  ifO (!x13_4)
  (some false)
  (ifO (!decide (a_p0.Alpha = b_p1.Alpha))
  (some false)
  (ifO (!decide (a_p0.Orient = b_p1.Orient))
  (some false)
  (ifO (!decide (a_p0.ToW = b_p1.ToW))
  (some false)
  (ifO (!decide (a_p0.ToH = b_p1.ToH))
  (some false)
  (some true)))))))))))
noncomputable def laws_eqPlaneS_L0 (a_p0 : List PlaneT) (b_p1 : List PlaneT) (i_0 : Int) : Option (Int ⊕ (Unit ⊕ Bool)) :=
  ifO (decide (i_0 < (a_p0.length : Int)))
  (Option.bind (idx a_p0 i_0) fun x6_2 =>
  Option.bind (idx b_p1 i_0) fun x6_6 =>
  Option.bind (laws_eqPlane x6_2 x6_6) fun x6_8 =>
  ifO (!x6_8)
  (some (.inr (.inr (false))))
  (some (.inl (wr (i_0 + 1)))))
  (some (.inr (.inl ())))
noncomputable def laws_eqPlaneS (a_p0 : List PlaneT) (b_p1 : List PlaneT) : Option Bool :=
  ifO (!decide ((a_p0.length : Int) = (b_p1.length : Int)))
  (some false)
  (Option.bind (loopO (fun i_0 => laws_eqPlaneS_L0 a_p0 b_p1 i_0) 0) fun y => fork y (fun () => some true) (fun r => some r))
noncomputable def laws_eqColorMap (a_p0 : ColorMapT) (b_p1 : ColorMapT) : Option Bool :=
  Option.bind (laws_eqIntS a_p0.Matrix b_p1.Matrix) fun x1_4 =>
  ifO (!x1_4)
  (some false)
  (Option.bind (laws_eqIntS a_p0.Curve b_p1.Curve) fun x3_4 =>
  ifO (!x3_4)
  (some false)
  (some true))
noncomputable def laws_eqCrtc (a_p0 : CrtcT) (b_p1 : CrtcT) : Option Bool :=
  ifO (!decide (a_p0.W = b_p1.W))
  (some false)
  (ifO (!decide (a_p0.H = b_p1.H))
  (some false)
  (Option.bind (laws_eqPlaneS a_p0.Planes b_p1.Planes) fun x5_4 =>
  ifO (!x5_4)
  (some false)
  (Option.bind (laws_eqColorMap a_p0.Color b_p1.Color) fun x7_4 =>
  ifO (!x7_4)
  (some false)
  (some true))))
noncomputable def laws_eqFlip (a_p0 : FlipT) (b_p1 : FlipT) : Option Bool :=
  ifO (!decide (a_p0.Seq = b_p1.Seq))
  (some false)
  (ifO (!decide (a_p0.Fence = b_p1.Fence))
  (some false)
  (Option.bind (laws_eqCrtc a_p0.State b_p1.State) fun x5_4 =>
  ifO (!x5_4)
  (some false)
  (some true)))
noncomputable def laws_eqFlipS_L0 (a_p0 : List FlipT) (b_p1 : List FlipT) (i_0 : Int) : Option (Int ⊕ (Unit ⊕ Bool)) :=
  ifO (decide (i_0 < (a_p0.length : Int)))
  (Option.bind (idx a_p0 i_0) fun x6_2 =>
  Option.bind (idx b_p1 i_0) fun x6_6 =>
  Option.bind (laws_eqFlip x6_2 x6_6) fun x6_8 =>
  ifO (!x6_8)
  (some (.inr (.inr (false))))
  (some (.inl (wr (i_0 + 1)))))
  (some (.inr (.inl ())))
noncomputable def laws_eqFlipS (a_p0 : List FlipT) (b_p1 : List FlipT) : Option Bool :=
  ifO (!decide ((a_p0.length : Int) = (b_p1.length : Int)))
  (some false)
  (Option.bind (loopO (fun i_0 => laws_eqFlipS_L0 a_p0 b_p1 i_0) 0) fun y => fork y (fun () => some true) (fun r => some r))
noncomputable def laws_eqFlips (a_p0 : FlipsT) (b_p1 : FlipsT) : Option Bool :=
  Option.bind (laws_eqFlipS a_p0.Pending b_p1.Pending) fun x1_4 =>
  ifO (!x1_4)
  (some false)
  (Option.bind (laws_eqIntS a_p0.Signalled b_p1.Signalled) fun x3_4 =>
  ifO (!x3_4)
  (some false)
  (ifO (!decide (a_p0.Next = b_p1.Next))
  (some false)
  (Option.bind (laws_eqIntS a_p0.Events b_p1.Events) fun x7_4 =>
  ifO (!x7_4)
  (some false)
  (some true))))
noncomputable def laws_markIntS_L0  (a_0 : List Int) (k_0 : Int) (i_0 : Int) : Option (((List Int) × Int × Int) ⊕ (Int × (List Int))) :=
  ifO (decide (i_0 < (a_0.length : Int)))
  (Option.bind (upd a_0 i_0 k_0) fun x4_4 =>
  some (.inl (x4_4, (wr (k_0 + 1)), (wr (i_0 + 1)))))
  (some (.inr (k_0, a_0)))
noncomputable def laws_markIntS (a_p0 : List Int) (k_p1 : Int) : Option (Int × (List Int)) :=
  Option.bind (loopO (fun (a_0, k_0, i_0) => laws_markIntS_L0 a_0 k_0 i_0) (a_p0, k_p1, 0)) fun (k_0e, p_0e) =>
  some (k_0e, p_0e)
noncomputable def laws_markPlaneS_L0  (v_0 : List PlaneT) (v1_0 : Int) (v2_0 : Int) : Option (((List PlaneT) × Int × Int) ⊕ (Int × (List PlaneT))) :=
  ifO (decide (v2_0 < (v_0.length : Int)))
  (Option.bind (idx v_0 v2_0) fun x4_5 =>
  Option.bind (upd v_0 v2_0 (PlaneT.mk (decide ((Int.tmod v1_0 3) = 0)) x4_5.X x4_5.Y x4_5.W x4_5.H x4_5.Layout x4_5.Words x4_5.Alpha x4_5.Orient x4_5.ToW x4_5.ToH)) fun x4_7 =>
  Option.bind (idx x4_7 v2_0) fun x6_3 =>
  Option.bind (upd x4_7 v2_0 (PlaneT.mk x6_3.On (wr (v1_0 + 1)) x6_3.Y x6_3.W x6_3.H x6_3.Layout x6_3.Words x6_3.Alpha x6_3.Orient x6_3.ToW x6_3.ToH)) fun x6_5 =>
  Option.bind (idx x6_5 v2_0) fun x8_3 =>
  Option.bind (upd x6_5 v2_0 (PlaneT.mk x8_3.On x8_3.X (wr ((wr (v1_0 + 1)) + 1)) x8_3.W x8_3.H x8_3.Layout x8_3.Words x8_3.Alpha x8_3.Orient x8_3.ToW x8_3.ToH)) fun x8_5 =>
  Option.bind (idx x8_5 v2_0) fun x10_3 =>
  Option.bind (upd x8_5 v2_0 (PlaneT.mk x10_3.On x10_3.X x10_3.Y (wr ((wr ((wr (v1_0 + 1)) + 1)) + 1)) x10_3.H x10_3.Layout x10_3.Words x10_3.Alpha x10_3.Orient x10_3.ToW x10_3.ToH)) fun x10_5 =>
  Option.bind (idx x10_5 v2_0) fun x12_3 =>
  Option.bind (upd x10_5 v2_0 (PlaneT.mk x12_3.On x12_3.X x12_3.Y x12_3.W (wr ((wr ((wr ((wr (v1_0 + 1)) + 1)) + 1)) + 1)) x12_3.Layout x12_3.Words x12_3.Alpha x12_3.Orient x12_3.ToW x12_3.ToH)) fun x12_5 =>
  Option.bind (idx x12_5 v2_0) fun x14_3 =>
  Option.bind (upd x12_5 v2_0 (PlaneT.mk x14_3.On x14_3.X x14_3.Y x14_3.W x14_3.H (wr ((wr ((wr ((wr ((wr (v1_0 + 1)) + 1)) + 1)) + 1)) + 1)) x14_3.Words x14_3.Alpha x14_3.Orient x14_3.ToW x14_3.ToH)) fun x14_5 =>
  Option.bind (idx x14_5 v2_0) fun x16_2 =>
  Option.bind (laws_markIntS x16_2.Words (wr ((wr ((wr ((wr ((wr ((wr (v1_0 + 1)) + 1)) + 1)) + 1)) + 1)) + 1))) fun (x16_6a, x16_6b) =>
  Option.bind (upd x14_5 v2_0 (PlaneT.mk x16_2.On x16_2.X x16_2.Y x16_2.W x16_2.H x16_2.Layout x16_6b x16_2.Alpha x16_2.Orient x16_2.ToW x16_2.ToH)) fun x16_u =>
  Option.bind (idx x16_u v2_0) fun x17_3 =>
  Option.bind (upd x16_u v2_0 (PlaneT.mk x17_3.On x17_3.X x17_3.Y x17_3.W x17_3.H x17_3.Layout x17_3.Words x16_6a x17_3.Orient x17_3.ToW x17_3.ToH)) fun x17_5 =>
  Option.bind (idx x17_5 v2_0) fun x19_3 =>
  Option.bind (upd x17_5 v2_0 (PlaneT.mk x19_3.On x19_3.X x19_3.Y x19_3.W x19_3.H x19_3.Layout x19_3.Words x19_3.Alpha (wr (x16_6a + 1)) x19_3.ToW x19_3.ToH)) fun x19_5 =>
  Option.bind (idx x19_5 v2_0) fun x21_3 =>
  Option.bind (upd x19_5 v2_0 (PlaneT.mk x21_3.On x21_3.X x21_3.Y x21_3.W x21_3.H x21_3.Layout x21_3.Words x21_3.Alpha x21_3.Orient (wr ((wr (x16_6a + 1)) + 1)) x21_3.ToH)) fun x21_5 =>
  Option.bind (idx x21_5 v2_0) fun x23_3 =>
  Option.bind (upd x21_5 v2_0 (PlaneT.mk x23_3.On x23_3.X x23_3.Y x23_3.W x23_3.H x23_3.Layout x23_3.Words x23_3.Alpha x23_3.Orient x23_3.ToW (wr ((wr ((wr (x16_6a + 1)) + 1)) + 1)))) fun x23_5 =>
  some (.inl (x23_5, (wr ((wr ((wr ((wr (x16_6a + 1)) + 1)) + 1)) + 1)), (wr (v2_0 + 1)))))
  (some (.inr (v1_0, v_0)))
noncomputable def laws_markPlaneS (a_p0 : List PlaneT) (a_p1 : Int) : Option (Int × (List PlaneT)) :=
  Option.bind (loopO (fun (v_0, v1_0, v2_0) => laws_markPlaneS_L0 v_0 v1_0 v2_0) (a_p0, a_p1, 0)) fun (v_0e, p_0e) =>
  some (v_0e, p_0e)
noncomputable def laws_markFlipS_L0  (v_0 : List FlipT) (v1_0 : Int) (v2_0 : Int) : Option (((List FlipT) × Int × Int) ⊕ (Int × (List FlipT))) :=
  ifO (decide (v2_0 < (v_0.length : Int)))
  (Option.bind (idx v_0 v2_0) fun x4_3 =>
  Option.bind (upd v_0 v2_0 (FlipT.mk v1_0 x4_3.Fence x4_3.State)) fun x4_5 =>
  Option.bind (idx x4_5 v2_0) fun x6_3 =>
  Option.bind (upd x4_5 v2_0 (FlipT.mk x6_3.Seq (wr (v1_0 + 1)) x6_3.State)) fun x6_5 =>
  Option.bind (idx x6_5 v2_0) fun x8_3 =>
  Option.bind (upd x6_5 v2_0 (FlipT.mk x8_3.Seq x8_3.Fence (CrtcT.mk (wr ((wr (v1_0 + 1)) + 1)) x8_3.State.H x8_3.State.Planes x8_3.State.Color))) fun x8_6 =>
  Option.bind (idx x8_6 v2_0) fun x10_3 =>
  Option.bind (upd x8_6 v2_0 (FlipT.mk x10_3.Seq x10_3.Fence (CrtcT.mk x10_3.State.W (wr ((wr ((wr (v1_0 + 1)) + 1)) + 1)) x10_3.State.Planes x10_3.State.Color))) fun x10_6 =>
  Option.bind (idx x10_6 v2_0) fun x12_2 =>
  Option.bind (laws_markPlaneS x12_2.State.Planes (wr ((wr ((wr ((wr (v1_0 + 1)) + 1)) + 1)) + 1))) fun (x12_7a, x12_7b) =>
  Option.bind (upd x10_6 v2_0 (FlipT.mk x12_2.Seq x12_2.Fence (CrtcT.mk x12_2.State.W x12_2.State.H x12_7b x12_2.State.Color))) fun x12_u =>
  Option.bind (idx x12_u v2_0) fun x13_2 =>
  Option.bind (laws_markIntS x13_2.State.Color.Matrix x12_7a) fun (x13_8a, x13_8b) =>
  Option.bind (upd x12_u v2_0 (FlipT.mk x13_2.Seq x13_2.Fence (CrtcT.mk x13_2.State.W x13_2.State.H x13_2.State.Planes (ColorMapT.mk x13_8b x13_2.State.Color.Curve)))) fun x13_u =>
  Option.bind (idx x13_u v2_0) fun x14_2 =>
  Option.bind (laws_markIntS x14_2.State.Color.Curve x13_8a) fun (x14_8a, x14_8b) =>
  Option.bind (upd x13_u v2_0 (FlipT.mk x14_2.Seq x14_2.Fence (CrtcT.mk x14_2.State.W x14_2.State.H x14_2.State.Planes (ColorMapT.mk x14_2.State.Color.Matrix x14_8b)))) fun x14_u =>
  some (.inl (x14_u, x14_8a, (wr (v2_0 + 1)))))
  (some (.inr (v1_0, v_0)))
noncomputable def laws_markFlipS (a_p0 : List FlipT) (a_p1 : Int) : Option (Int × (List FlipT)) :=
  Option.bind (loopO (fun (v_0, v1_0, v2_0) => laws_markFlipS_L0 v_0 v1_0 v2_0) (a_p0, a_p1, 0)) fun (v_0e, p_0e) =>
  some (v_0e, p_0e)
noncomputable def laws_markFlips (a_p0 : FlipsT) (k_p1 : Int) : Option (Int × (List FlipT) × (List Int) × (List Int)) :=
  Option.bind (laws_markFlipS a_p0.Pending k_p1) fun (x1_3a, x1_3b) =>
  Option.bind (laws_markIntS a_p0.Signalled x1_3a) fun (x2_3a, x2_3b) =>
  Option.bind (laws_markIntS a_p0.Events x2_3a) fun (x3_3a, x3_3b) =>
  some (x3_3a, x1_3b, x2_3b, x3_3b)
noncomputable def laws_heldIntS_L0 (a_p0 : List Int) (k_0 : Int) (i_0 : Int) : Option ((Int × Int) ⊕ (Int ⊕ Int)) :=
  ifO (decide (i_0 < (a_p0.length : Int)))
  (Option.bind (idx a_p0 i_0) fun x4_2 =>
  ifO (!decide (x4_2 = k_0))
  (some (.inr (.inr ((-1)))))
  (some (.inl ((wr (k_0 + 1)), (wr (i_0 + 1))))))
  (some (.inr (.inl k_0)))
noncomputable def laws_heldIntS (a_p0 : List Int) (k_p1 : Int) : Option Int :=
  Option.bind (loopO (fun (k_0, i_0) => laws_heldIntS_L0 a_p0 k_0 i_0) (k_p1, 0)) fun y => fork y (fun k_0e => some k_0e) (fun r => some r)
noncomputable def laws_heldPlaneS_L0 (a_p0 : List PlaneT) (v_0 : Int) (v1_0 : Int) : Option ((Int × Int) ⊕ (Int ⊕ Int)) :=
  ifO (decide (v1_0 < (a_p0.length : Int)))
  (Option.bind (idx a_p0 v1_0) fun x4_2 =>
  ifO (!(x4_2.On == (decide ((Int.tmod v_0 3) = 0))))
  (some (.inr (.inr ((-1)))))
  (Option.bind (idx a_p0 v1_0) fun x7_2 =>
  ifO (!decide (x7_2.X = (wr (v_0 + 1))))
  (some (.inr (.inr ((-1)))))
  (Option.bind (idx a_p0 v1_0) fun x10_2 =>
  ifO (!decide (x10_2.Y = (wr ((wr (v_0 + 1)) + 1))))
  (some (.inr (.inr ((-1)))))
  (Option.bind (idx a_p0 v1_0) fun x13_2 =>
  ifO (!decide (x13_2.W = (wr ((wr ((wr (v_0 + 1)) + 1)) + 1))))
  (some (.inr (.inr ((-1)))))
  (Option.bind (idx a_p0 v1_0) fun x16_2 =>
  ifO (!decide (x16_2.H = (wr ((wr ((wr ((wr (v_0 + 1)) + 1)) + 1)) + 1))))
  (some (.inr (.inr ((-1)))))
  (Option.bind (idx a_p0 v1_0) fun x19_2 =>
  ifO (!decide (x19_2.Layout = (wr ((wr ((wr ((wr ((wr (v_0 + 1)) + 1)) + 1)) + 1)) + 1))))
  (some (.inr (.inr ((-1)))))
  (Option.bind (idx a_p0 v1_0) fun x22_2 =>
  Option.bind (laws_heldIntS x22_2.Words (wr ((wr ((wr ((wr ((wr ((wr (v_0 + 1)) + 1)) + 1)) + 1)) + 1)) + 1))) fun x22_6 =>
  ifO (decide (x22_6 < 0))
  (some (.inr (.inr ((-1)))))
  (Option.bind (idx a_p0 v1_0) fun x25_2 =>
  ifO (!decide (x25_2.Alpha = x22_6))
  (some (.inr (.inr ((-1)))))
  (Option.bind (idx a_p0 v1_0) fun x28_2 =>
  ifO (!decide (x28_2.Orient = (wr (x22_6 + 1))))
  (some (.inr (.inr ((-1)))))
  (Option.bind (idx a_p0 v1_0) fun x31_2 =>
  ifO (!decide (x31_2.ToW = (wr ((wr (x22_6 + 1)) + 1))))
  (some (.inr (.inr ((-1)))))
  (Option.bind (idx a_p0 v1_0) fun x34_2 =>
  ifO (!decide (x34_2.ToH = (wr ((wr ((wr (x22_6 + 1)) + 1)) + 1))))
  (some (.inr (.inr ((-1)))))
  (some (.inl ((wr ((wr ((wr ((wr (x22_6 + 1)) + 1)) + 1)) + 1)), (wr (v1_0 + 1))))))))))))))))
  (some (.inr (.inl v_0)))
noncomputable def laws_heldPlaneS (a_p0 : List PlaneT) (a_p1 : Int) : Option Int :=
  Option.bind (loopO (fun (v_0, v1_0) => laws_heldPlaneS_L0 a_p0 v_0 v1_0) (a_p1, 0)) fun y => fork y (fun v_0e => some v_0e) (fun r => some r)
noncomputable def laws_heldFlipS_L0 (a_p0 : List FlipT) (v_0 : Int) (v1_0 : Int) : Option ((Int × Int) ⊕ (Int ⊕ Int)) :=
  ifO (decide (v1_0 < (a_p0.length : Int)))
  (Option.bind (idx a_p0 v1_0) fun x4_2 =>
  ifO (!decide (x4_2.Seq = v_0))
  (some (.inr (.inr ((-1)))))
  (Option.bind (idx a_p0 v1_0) fun x7_2 =>
  ifO (!decide (x7_2.Fence = (wr (v_0 + 1))))
  (some (.inr (.inr ((-1)))))
  (Option.bind (idx a_p0 v1_0) fun x10_2 =>
  ifO (!decide (x10_2.State.W = (wr ((wr (v_0 + 1)) + 1))))
  (some (.inr (.inr ((-1)))))
  (Option.bind (idx a_p0 v1_0) fun x13_2 =>
  ifO (!decide (x13_2.State.H = (wr ((wr ((wr (v_0 + 1)) + 1)) + 1))))
  (some (.inr (.inr ((-1)))))
  (Option.bind (idx a_p0 v1_0) fun x16_2 =>
  Option.bind (laws_heldPlaneS x16_2.State.Planes (wr ((wr ((wr ((wr (v_0 + 1)) + 1)) + 1)) + 1))) fun x16_7 =>
  ifO (decide (x16_7 < 0))
  (some (.inr (.inr ((-1)))))
  (Option.bind (idx a_p0 v1_0) fun x19_2 =>
  Option.bind (laws_heldIntS x19_2.State.Color.Matrix x16_7) fun x19_8 =>
  ifO (decide (x19_8 < 0))
  (some (.inr (.inr ((-1)))))
  (Option.bind (idx a_p0 v1_0) fun x22_2 =>
  Option.bind (laws_heldIntS x22_2.State.Color.Curve x19_8) fun x22_8 =>
  ifO (decide (x22_8 < 0))
  (some (.inr (.inr ((-1)))))
  (some (.inl (x22_8, (wr (v1_0 + 1))))))))))))
  (some (.inr (.inl v_0)))
noncomputable def laws_heldFlipS (a_p0 : List FlipT) (a_p1 : Int) : Option Int :=
  Option.bind (loopO (fun (v_0, v1_0) => laws_heldFlipS_L0 a_p0 v_0 v1_0) (a_p1, 0)) fun y => fork y (fun v_0e => some v_0e) (fun r => some r)
noncomputable def laws_heldFlips (a_p0 : FlipsT) (k_p1 : Int) : Option Int :=
  Option.bind (laws_heldFlipS a_p0.Pending k_p1) fun x1_3 =>
  ifO (decide (x1_3 < 0))
  (some (-1))
  (Option.bind (laws_heldIntS a_p0.Signalled x1_3) fun x4_3 =>
  ifO (decide (x4_3 < 0))
  (some (-1))
  (Option.bind (laws_heldIntS a_p0.Events x4_3) fun x7_3 =>
  ifO (decide (x7_3 < 0))
  (some (-1))
  (some x7_3)))
noncomputable def laws_FnExactSignalFence (a_p0 : FlipsT) (a_p1 : Int) : Option Bool :=
  Option.bind (laws_szFlips a_p0 1048576) fun x2_2 =>
  ifO (decide (x2_2 < 0))
  (some true)
  (Option.bind (laws_toFlips a_p0) fun x5_1 =>
  Option.bind (spec_SignalFence x5_1 a_p1) fun x5_3 =>
  Option.bind (laws_toFlips a_p0) fun x6_1 =>
  Option.bind (impl_SignalFence x6_1 a_p1) fun x7_2 =>
  Option.bind (laws_eqFlips x7_2 x5_3) fun x8_2 =>
  ifO (!x8_2)
  (some false)
  (Option.bind (laws_toFlips a_p0) fun x10_2 =>
  Option.bind (laws_eqFlips x6_1 x10_2) fun x10_3 =>
  ifO (!x10_3)
  (some false)
  (Option.bind (laws_markFlips x6_1 1) fun (x13_2a, x13_2b, x13_2c, x13_2d) =>
  Option.bind (orO (decide (x13_2a < 0)) (Option.bind (laws_eqFlips x7_2 x5_3) fun x14_5 =>
  some (!x14_5))) fun q14_7 =>
  ifO q14_7
  (some false)
  (Option.bind (laws_markFlips x7_2 1) fun (x17_2a, x17_2b, x17_2c, x17_2d) =>
  Option.bind (laws_heldFlips (FlipsT.mk x17_2b x17_2c x7_2.Next x17_2d) 1) fun x19_2 =>
  ifO (decide (x19_2 < 0))
  (some false)
  (ifO (!decide (x19_2 = x17_2a))
  (some false)
  (Option.bind (laws_toFlips a_p0) fun x24_1 =>
  Option.bind (impl_SignalFence x24_1 a_p1) fun x24_3 =>
  Option.bind (laws_eqFlips x24_3 x5_3) fun x25_2 =>
  ifO (!x25_2)
  (some false)
  (Option.bind (laws_heldFlips (FlipsT.mk x17_2b x17_2c x7_2.Next x17_2d) 1) fun x28_2 =>
  ifO (decide (x28_2 < 0))
  (some false)
  (ifO (!decide (x28_2 = x17_2a))
  (some false)
  (some true)))))))))
end Go.Proofs.YtmhalmnbgkpmnaaGreat
