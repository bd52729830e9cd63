/- The pure functions that the walks bring out of the program. -/
import Derived.Test.YtmhalmnbgkpmnaaGreatStructs
namespace Go.Proofs.YtmhalmnbgkpmnaaGreat
open Go.RowKit K
set_option maxRecDepth 100000
set_option maxHeartbeats 4000000

noncomputable def laws_big (code_p0 : List Int) : Option Bool :=
  some (decide (1048576 < (code_p0.length : Int)))
noncomputable def spec_l01In (x_p0 : Int) (least_p1 : Int) (most_p2 : Int) : Option Bool :=
  some ((decide (least_p1 ≤ x_p0)) && (decide (x_p0 ≤ most_p2)))
noncomputable def spec_l04Pixel (p_p0 : Int) : Option Bool :=
  Option.bind (spec_l01In p_p0 0 4294967295) fun x1_1 =>
  some x1_1
noncomputable def spec_NewImage_L0 (w_p0 : Int) (h_p1 : Int) (p_p2 : Int) (i_0 : List Int) (k_0 : Int) : Option (((List Int) × Int) ⊕ (List Int)) :=
  ifO (decide (k_0 < (wr (w_p0 * h_p1))))
  (Option.bind (app i_0 [p_p2]) fun x7_4 =>
  some (.inl (x7_4, (wr (k_0 + 1)))))
  (some (.inr i_0))
noncomputable def spec_NewImage (w_p0 : Int) (h_p1 : Int) (p_p2 : Int) : Option ImageT :=
  Option.bind (spec_l01In w_p0 1 16) fun x1_1 =>
  Option.bind (orO (!x1_1) (Option.bind (spec_l01In h_p1 1 16) fun x1_5 =>
  some (!x1_5))) fun q1_7 =>
  Option.bind (orO q1_7 (Option.bind (spec_l04Pixel p_p2) fun x1_10 =>
  some (!x1_10))) fun q1_12 =>
  ifO q1_12
  (some (ImageT.mk 0 0 []))
  (Option.bind (loopO (fun (i_0, k_0) => spec_NewImage_L0 w_p0 h_p1 p_p2 i_0 k_0) ([], 0)) fun i_0e =>
  some (ImageT.mk w_p0 h_p1 i_0e))
noncomputable def spec_ImageOk_L0 (i_p0 : ImageT) (k_0 : Int) : Option (Int ⊕ (Unit ⊕ Bool)) :=
  ifO (decide (k_0 < (i_p0.Data.length : Int)))
  (Option.bind (idx i_p0.Data k_0) fun x6_3 =>
  Option.bind (spec_l04Pixel x6_3) fun x6_5 =>
  ifO (!x6_5)
  (some (.inr (.inr (false))))
  (some (.inl (wr (k_0 + 1)))))
  (some (.inr (.inl ())))
noncomputable def spec_ImageOk (i_p0 : ImageT) : Option Bool :=
  Option.bind (spec_l01In i_p0.W 1 16) fun x1_2 =>
  Option.bind (orO (!x1_2) (Option.bind (spec_l01In i_p0.H 1 16) fun x1_7 =>
  some (!x1_7))) fun q1_9 =>
  ifO (q1_9 || (!decide ((i_p0.Data.length : Int) = (wr (i_p0.W * i_p0.H)))))
  (some false)
  (Option.bind (loopO (fun k_0 => spec_ImageOk_L0 i_p0 k_0) 0) fun y => fork y (fun () => some true) (fun r => some r))
noncomputable def spec_WordCount (w_p0 : Int) (h_p1 : Int) (layout_p2 : Int) : Option Int :=
  Option.bind (spec_l01In w_p0 1 16) fun x1_1 =>
  Option.bind (orO (!x1_1) (Option.bind (spec_l01In h_p1 1 16) fun x1_5 =>
  some (!x1_5))) fun q1_7 =>
  ifO q1_7
  (some (-1))
  (ifO (decide (layout_p2 = 0))
  (some (wr (w_p0 * h_p1)))
  (ifO (decide (layout_p2 = 1))
  (some (wr ((wr ((wr (Int.tdiv (wr (w_p0 + 3)) 4)) * 4)) * (wr ((wr (Int.tdiv (wr (h_p1 + 3)) 4)) * 4)))))
  (some (-1))))
noncomputable def spec_WordPlace (w_p0 : Int) (h_p1 : Int) (layout_p2 : Int) (x_p3 : Int) (y_p4 : Int) : Option Int :=
  Option.bind (spec_WordCount w_p0 h_p1 layout_p2) fun x1_3 =>
  Option.bind (orO (decide (x1_3 < 0)) (Option.bind (spec_l01In x_p3 0 (wr (w_p0 - 1))) fun x1_9 =>
  some (!x1_9))) fun q1_11 =>
  Option.bind (orO q1_11 (Option.bind (spec_l01In y_p4 0 (wr (h_p1 - 1))) fun x1_16 =>
  some (!x1_16))) fun q1_18 =>
  ifO q1_18
  (some (-1))
  (ifO (decide (layout_p2 = 0))
  (some (wr ((wr (y_p4 * w_p0)) + x_p3)))
  (some (wr ((wr ((wr ((wr ((wr ((wr (Int.tdiv y_p4 4)) * (wr (Int.tdiv (wr (w_p0 + 3)) 4)))) + (wr (Int.tdiv x_p3 4)))) * 16)) + (wr ((Int.tmod y_p4 4) * 4)))) + (Int.tmod x_p3 4)))))
noncomputable def spec_StoreImage_L2 (a_p0 : ImageT) (v1_0 : Int) (v1_1 : Int) (v_2 : Int) : Option (Int ⊕ Int) :=
  Option.bind (andO (decide ((wr (v1_1 + v_2)) < a_p0.W)) (Option.bind (idx a_p0.Data (wr ((wr ((wr (v1_0 * a_p0.W)) + v1_1)) + v_2))) fun x11_17 =>
  Option.bind (idx a_p0.Data (wr ((wr (v1_0 * a_p0.W)) + v1_1))) fun x11_27 =>
  some (decide (x11_17 = x11_27)))) fun q11_30 =>
  ifO q11_30
  (some (.inl (wr (v_2 + 1))))
  (some (.inr v_2))
noncomputable def spec_StoreImage_L1 (a_p0 : ImageT) (v1_0 : Int) (v_1 : List Int) (v1_1 : Int) : Option (((List Int) × Int) ⊕ (List Int)) :=
  ifO (decide (v1_1 < a_p0.W))
  (Option.bind (loopO (fun v_2 => spec_StoreImage_L2 a_p0 v1_0 v1_1 v_2) 1) fun v_2e =>
  Option.bind (idx a_p0.Data (wr ((wr (v1_0 * a_p0.W)) + v1_1))) fun x13_10 =>
  Option.bind (app v_1 [v_2e, x13_10]) fun x13_13 =>
  some (.inl (x13_13, (wr (v1_1 + v_2e)))))
  (some (.inr v_1))
noncomputable def spec_StoreImage_L0 (a_p0 : ImageT) (v_0 : List Int) (v1_0 : Int) : Option (((List Int) × Int) ⊕ (List Int)) :=
  ifO (decide (v1_0 < a_p0.H))
  (Option.bind (loopO (fun (v_1, v1_1) => spec_StoreImage_L1 a_p0 v1_0 v_1 v1_1) (v_0, 0)) fun v_1e =>
  some (.inl (v_1e, (wr (v1_0 + 1)))))
  (some (.inr v_0))
noncomputable def spec_StoreImage_L4 (a_p0 : ImageT) (a_p1 : Int) (v1_3 : Int) (v_4 : List Int) (v1_4 : Int) : Option (((List Int) × Int) ⊕ (List Int)) :=
  ifO (decide (v1_4 < a_p0.W))
  (Option.bind (spec_WordPlace a_p0.W a_p0.H a_p1 v1_4 v1_3) fun x23_8 =>
  Option.bind (idx a_p0.Data (wr ((wr (v1_3 * a_p0.W)) + v1_4))) fun x23_17 =>
  Option.bind (upd v_4 x23_8 x23_17) fun x23_20 =>
  some (.inl (x23_20, (wr (v1_4 + 1)))))
  (some (.inr v_4))
noncomputable def spec_StoreImage_L3 (a_p0 : ImageT) (a_p1 : Int) (v_3 : List Int) (v1_3 : Int) : Option (((List Int) × Int) ⊕ (List Int)) :=
  ifO (decide (v1_3 < a_p0.H))
  (Option.bind (loopO (fun (v_4, v1_4) => spec_StoreImage_L4 a_p0 a_p1 v1_3 v_4 v1_4) (v_3, 0)) fun v_4e =>
  some (.inl (v_4e, (wr (v1_3 + 1)))))
  (some (.inr v_3))
noncomputable def spec_StoreImage (a_p0 : ImageT) (a_p1 : Int) : Option ((List Int) × Bool) :=
  Option.bind (spec_ImageOk a_p0) fun x1_1 =>
  Option.bind (orO (!x1_1) (Option.bind (spec_l01In a_p1 0 2) fun x1_5 =>
  some (!x1_5))) fun q1_7 =>
  ifO q1_7
  (some (([] : List Int), false))
  (ifO (decide (a_p1 = 2))
  (Option.bind (loopO (fun (v_0, v1_0) => spec_StoreImage_L0 a_p0 v_0 v1_0) (([] : List Int), 0)) fun v_0e =>
  some (v_0e, true))
  (Option.bind (spec_WordCount a_p0.W a_p0.H a_p1) fun x16_5 =>
  Option.bind (mkO x16_5 0) fun x16_6 =>
  Option.bind (loopO (fun (v_3, v1_3) => spec_StoreImage_L3 a_p0 a_p1 v_3 v1_3) (x16_6, 0)) fun v_3e =>
  some (v_3e, true)))
noncomputable def spec_PlaneOf (i_p0 : ImageT) (x_p1 : Int) (y_p2 : Int) (layout_p3 : Int) : Option PlaneT :=
  Option.bind (spec_StoreImage i_p0 layout_p3) fun (x1_2a, x1_2b) =>
  ifO (!x1_2b)
  (some (PlaneT.mk false 0 0 0 0 0 [] 0 0 0 0))
  (some (PlaneT.mk true x_p1 y_p2 i_p0.W i_p0.H layout_p3 x1_2a 255 0 0 0))
noncomputable def spec_IdentityColor_L0  (m_0 : List Int) (k_0 : Int) : Option (((List Int) × Int) ⊕ (List Int)) :=
  ifO (decide (k_0 < 17))
  (Option.bind (app m_0 [(wr (16 * k_0))]) fun x5_5 =>
  some (.inl (x5_5, (wr (k_0 + 1)))))
  (some (.inr m_0))
noncomputable def spec_IdentityColor  : Option ColorMapT :=
  Option.bind (loopO (fun (m_0, k_0) => spec_IdentityColor_L0 m_0 k_0) ([], 0)) fun m_0e =>
  some (ColorMapT.mk [256, 0, 0, 0, 256, 0, 0, 0, 256] m_0e)
noncomputable def spec_l19Zero (p_p0 : PlaneT) : Option Bool :=
  some ((((((((((decide (p_p0.X = 0)) && (decide (p_p0.Y = 0))) && (decide (p_p0.W = 0))) && (decide (p_p0.H = 0))) && (decide (p_p0.Layout = 0))) && (decide ((p_p0.Words.length : Int) = 0))) && (decide (p_p0.Alpha = 0))) && (decide (p_p0.Orient = 0))) && (decide (p_p0.ToW = 0))) && (decide (p_p0.ToH = 0)))
noncomputable def spec_l15Expand_L1 (words_p0 : List Int) (k_0 : Int) (out_1 : List Int) (n_1 : Int) : Option (((List Int) × Int) ⊕ (List Int)) :=
  ifO (decide (0 < n_1))
  (Option.bind (idx words_p0 (wr (k_0 + 1))) fun x10_4 =>
  Option.bind (app out_1 [x10_4]) fun x10_7 =>
  some (.inl (x10_7, (wr (n_1 - 1)))))
  (some (.inr out_1))
noncomputable def spec_l15Expand_L0 (words_p0 : List Int) (most_p1 : Int) (out_0 : List Int) (k_0 : Int) : Option (((List Int) × Int) ⊕ ((List Int) ⊕ (List Int))) :=
  ifO (decide ((wr (k_0 + 1)) < (words_p0.length : Int)))
  (Option.bind (idx words_p0 k_0) fun x5_2 =>
  Option.bind (spec_l01In x5_2 1 (wr (most_p1 - (out_0.length : Int)))) fun x5_8 =>
  ifO (!x5_8)
  (some (.inr (.inr (([] : List Int)))))
  (Option.bind (idx words_p0 k_0) fun x7_2 =>
  Option.bind (loopO (fun (out_1, n_1) => spec_l15Expand_L1 words_p0 k_0 out_1 n_1) (out_0, x7_2)) fun out_1e =>
  some (.inl (out_1e, (wr (k_0 + 2))))))
  (some (.inr (.inl out_0)))
noncomputable def spec_l15Expand (words_p0 : List Int) (most_p1 : Int) : Option (List Int) :=
  Option.bind (loopO (fun (out_0, k_0) => spec_l15Expand_L0 words_p0 most_p1 out_0 k_0) (([] : List Int), 0)) fun y => fork y (fun out_0e => some out_0e) (fun r => some r)
noncomputable def spec_l05Ints_L0 (a_p0 : List Int) (b_p1 : List Int) (k_0 : Int) : Option (Int ⊕ (Unit ⊕ Bool)) :=
  ifO (decide (k_0 < (a_p0.length : Int)))
  (Option.bind (idx a_p0 k_0) fun x6_2 =>
  Option.bind (idx b_p1 k_0) fun x6_6 =>
  ifO (!decide (x6_2 = x6_6))
  (some (.inr (.inr (false))))
  (some (.inl (wr (k_0 + 1)))))
  (some (.inr (.inl ())))
noncomputable def spec_l05Ints (a_p0 : List Int) (b_p1 : List Int) : Option Bool :=
  ifO (!decide ((a_p0.length : Int) = (b_p1.length : Int)))
  (some false)
  (Option.bind (loopO (fun k_0 => spec_l05Ints_L0 a_p0 b_p1 k_0) 0) fun y => fork y (fun () => some true) (fun r => some r))
noncomputable def spec_LoadImage_L2 (a_p0 : List Int) (a_p1 : Int) (a_p2 : Int) (a_p3 : Int) (v_1 : Int) (x_2 : List Int) (v_2 : Int) : Option (((List Int) × Int) ⊕ (List Int)) :=
  ifO (decide (v_2 < a_p1))
  (Option.bind (spec_WordPlace a_p1 a_p2 a_p3 v_2 v_1) fun x13_8 =>
  Option.bind (idx a_p0 x13_8) fun x13_9 =>
  Option.bind (app x_2 [x13_9]) fun x13_12 =>
  some (.inl (x13_12, (wr (v_2 + 1)))))
  (some (.inr x_2))
noncomputable def spec_LoadImage_L1 (a_p0 : List Int) (a_p1 : Int) (a_p2 : Int) (a_p3 : Int) (x_1 : List Int) (v_1 : Int) : Option (((List Int) × Int) ⊕ (List Int)) :=
  ifO (decide (v_1 < a_p2))
  (Option.bind (loopO (fun (x_2, v_2) => spec_LoadImage_L2 a_p0 a_p1 a_p2 a_p3 v_1 x_2 v_2) (x_1, 0)) fun x_2e =>
  some (.inl (x_2e, (wr (v_1 + 1)))))
  (some (.inr x_1))
noncomputable def spec_LoadImage (a_p0 : List Int) (a_p1 : Int) (a_p2 : Int) (a_p3 : Int) : Option (ImageT × Bool) :=
  Option.bind (spec_l01In a_p1 1 16) fun x1_1 =>
  Option.bind (orO (!x1_1) (Option.bind (spec_l01In a_p2 1 16) fun x1_5 =>
  some (!x1_5))) fun q1_7 =>
  ifO q1_7
  (some ((ImageT.mk 0 0 []), false))
  (Option.bind (ifO (decide (a_p3 = 2))
  (Option.bind (spec_l15Expand a_p0 (wr (a_p1 * a_p2))) fun x5_4 =>
  some x5_4)
  (Option.bind (spec_WordCount a_p1 a_p2 a_p3) fun x6_3 =>
  ifO (decide (x6_3 = (a_p0.length : Int)))
  (Option.bind (loopO (fun (x_1, v_1) => spec_LoadImage_L1 a_p0 a_p1 a_p2 a_p3 x_1 v_1) ([], 0)) fun x_1e =>
  some x_1e)
  (some []))) fun x_0j =>
  Option.bind (spec_StoreImage (ImageT.mk a_p1 a_p2 x_0j) a_p3) fun (x14_2a, x14_2b) =>
  Option.bind (orO (!x14_2b) (Option.bind (spec_l05Ints x14_2a a_p0) fun x15_5 =>
  some (!x15_5))) fun q15_7 =>
  ifO q15_7
  (some ((ImageT.mk 0 0 []), false))
  (some ((ImageT.mk a_p1 a_p2 x_0j), true)))
noncomputable def spec_l19Loaded (p_p0 : PlaneT) : Option (ImageT × Bool) :=
  ifO (!p_p0.On)
  (some ((ImageT.mk 0 0 []), false))
  (Option.bind (spec_LoadImage p_p0.Words p_p0.W p_p0.H p_p0.Layout) fun (x3_8a, x3_8b) =>
  some (x3_8a, x3_8b))
noncomputable def spec_OrientSize (w_p0 : Int) (h_p1 : Int) (o_p2 : Int) : Option (Int × Int) :=
  Option.bind (spec_l01In w_p0 1 16) fun x1_1 =>
  Option.bind (orO (!x1_1) (Option.bind (spec_l01In h_p1 1 16) fun x1_5 =>
  some (!x1_5))) fun q1_7 =>
  Option.bind (orO q1_7 (Option.bind (spec_l01In o_p2 0 7) fun x1_10 =>
  some (!x1_10))) fun q1_12 =>
  ifO q1_12
  (some (0, 0))
  (ifO (decide ((Int.tmod o_p2 2) = 1))
  (some (h_p1, w_p0))
  (some (w_p0, h_p1)))
noncomputable def spec_OrientPoint_L0 (a_p2 : Int) (v_0 : Int) (v1_0 : Int) (v2_0 : Int) (v3_0 : Int) (v4_0 : Int) : Option ((Int × Int × Int × Int × Int) ⊕ (Int × Int)) :=
  ifO (decide (v4_0 < (Int.tmod a_p2 4)))
  (some (.inl (v1_0, v_0, (wr ((wr (v1_0 - 1)) - v3_0)), v2_0, (wr (v4_0 + 1)))))
  (some (.inr (v2_0, v3_0)))
noncomputable def spec_OrientPoint_L1 (a_p2 : Int) (v_1 : Int) (v1_1 : Int) (v2_1 : Int) (v3_1 : Int) (v4_1 : Int) : Option ((Int × Int × Int × Int × Int) ⊕ (Int × Int)) :=
  ifO (decide (v4_1 < (Int.tmod a_p2 4)))
  (some (.inl (v1_1, v_1, (wr ((wr (v1_1 - 1)) - v3_1)), v2_1, (wr (v4_1 + 1)))))
  (some (.inr (v2_1, v3_1)))
noncomputable def spec_OrientPoint (a_p0 : Int) (a_p1 : Int) (a_p2 : Int) (a_p3 : Int) (a_p4 : Int) : Option (Int × Int) :=
  Option.bind (spec_l01In a_p0 1 16) fun x1_1 =>
  Option.bind (orO (!x1_1) (Option.bind (spec_l01In a_p1 1 16) fun x1_5 =>
  some (!x1_5))) fun q1_7 =>
  Option.bind (orO q1_7 (Option.bind (spec_l01In a_p2 0 7) fun x1_10 =>
  some (!x1_10))) fun q1_12 =>
  Option.bind (orO q1_12 (Option.bind (spec_l01In a_p3 0 (wr (a_p0 - 1))) fun x1_17 =>
  some (!x1_17))) fun q1_19 =>
  Option.bind (orO q1_19 (Option.bind (spec_l01In a_p4 0 (wr (a_p1 - 1))) fun x1_24 =>
  some (!x1_24))) fun q1_26 =>
  ifO q1_26
  (some ((-1), (-1)))
  (ifO (decide (4 ≤ a_p2))
  (Option.bind (loopO (fun (v_0, v1_0, v2_0, v3_0, v4_0) => spec_OrientPoint_L0 a_p2 v_0 v1_0 v2_0 v3_0 v4_0) (a_p0, a_p1, (wr ((wr (a_p0 - 1)) - a_p3)), a_p4, 0)) fun (v_0e, v1_0e) =>
  some (v_0e, v1_0e))
  (Option.bind (loopO (fun (v_1, v1_1, v2_1, v3_1, v4_1) => spec_OrientPoint_L1 a_p2 v_1 v1_1 v2_1 v3_1 v4_1) (a_p0, a_p1, a_p3, a_p4, 0)) fun (v_1e, v1_1e) =>
  some (v_1e, v1_1e)))
noncomputable def spec_Oriented_L1 (a_p0 : ImageT) (a_p1 : Int) (x3_5a : Int) (v_0 : Int) (x_1 : List Int) (v_1 : Int) : Option (((List Int) × Int) ⊕ (List Int)) :=
  ifO (decide (v_1 < a_p0.W))
  (Option.bind (spec_OrientPoint a_p0.W a_p0.H a_p1 v_1 v_0) fun (x11_7a, x11_7b) =>
  Option.bind (idx a_p0.Data (wr ((wr (v_0 * a_p0.W)) + v_1))) fun x12_15 =>
  Option.bind (upd x_1 (wr ((wr (x11_7b * x3_5a)) + x11_7a)) x12_15) fun x12_18 =>
  some (.inl (x12_18, (wr (v_1 + 1)))))
  (some (.inr x_1))
noncomputable def spec_Oriented_L0 (a_p0 : ImageT) (a_p1 : Int) (x3_5a : Int) (x_0 : List Int) (v_0 : Int) : Option (((List Int) × Int) ⊕ (List Int)) :=
  ifO (decide (v_0 < a_p0.H))
  (Option.bind (loopO (fun (x_1, v_1) => spec_Oriented_L1 a_p0 a_p1 x3_5a v_0 x_1 v_1) (x_0, 0)) fun x_1e =>
  some (.inl (x_1e, (wr (v_0 + 1)))))
  (some (.inr x_0))
noncomputable def spec_Oriented (a_p0 : ImageT) (a_p1 : Int) : Option ImageT :=
  Option.bind (spec_ImageOk a_p0) fun x1_1 =>
  Option.bind (orO (!x1_1) (Option.bind (spec_l01In a_p1 0 7) fun x1_5 =>
  some (!x1_5))) fun q1_7 =>
  ifO q1_7
  (some (ImageT.mk 0 0 []))
  (Option.bind (spec_OrientSize a_p0.W a_p0.H a_p1) fun (x3_5a, x3_5b) =>
  Option.bind (mkO (wr (x3_5a * x3_5b)) 0) fun x4_5 =>
  Option.bind (loopO (fun (x_0, v_0) => spec_Oriented_L0 a_p0 a_p1 x3_5a x_0 v_0) (x4_5, 0)) fun x_0e =>
  some (ImageT.mk x3_5a x3_5b x_0e))
noncomputable def spec_ScalePoint (from_p0 : Int) (to_p1 : Int) (k_p2 : Int) : Option Int :=
  Option.bind (spec_l01In from_p0 1 16) fun x1_1 =>
  Option.bind (orO (!x1_1) (Option.bind (spec_l01In to_p1 1 16) fun x1_5 =>
  some (!x1_5))) fun q1_7 =>
  Option.bind (orO q1_7 (Option.bind (spec_l01In k_p2 0 (wr (to_p1 - 1))) fun x1_12 =>
  some (!x1_12))) fun q1_14 =>
  ifO q1_14
  (some (-1))
  (Option.bind (quoO (wr (k_p2 * from_p0)) to_p1) fun x3_4 =>
  some x3_4)
noncomputable def spec_Scaled_L1 (i_p0 : ImageT) (w_p1 : Int) (h_p2 : Int) (y_0 : Int) (out_1 : List Int) (x_1 : Int) : Option (((List Int) × Int) ⊕ (List Int)) :=
  ifO (decide (x_1 < w_p1))
  (Option.bind (spec_ScalePoint i_p0.H h_p2 y_0) fun x10_8 =>
  Option.bind (spec_ScalePoint i_p0.W w_p1 x_1) fun x10_16 =>
  Option.bind (idx i_p0.Data (wr ((wr (x10_8 * i_p0.W)) + x10_16))) fun x10_18 =>
  Option.bind (app out_1 [x10_18]) fun x10_21 =>
  some (.inl (x10_21, (wr (x_1 + 1)))))
  (some (.inr out_1))
noncomputable def spec_Scaled_L0 (i_p0 : ImageT) (w_p1 : Int) (h_p2 : Int) (out_0 : List Int) (y_0 : Int) : Option (((List Int) × Int) ⊕ (List Int)) :=
  ifO (decide (y_0 < h_p2))
  (Option.bind (loopO (fun (out_1, x_1) => spec_Scaled_L1 i_p0 w_p1 h_p2 y_0 out_1 x_1) (out_0, 0)) fun out_1e =>
  some (.inl (out_1e, (wr (y_0 + 1)))))
  (some (.inr out_0))
noncomputable def spec_Scaled (i_p0 : ImageT) (w_p1 : Int) (h_p2 : Int) : Option ImageT :=
  Option.bind (spec_ImageOk i_p0) fun x1_1 =>
  Option.bind (orO (!x1_1) (Option.bind (spec_l01In w_p1 1 16) fun x1_5 =>
  some (!x1_5))) fun q1_7 =>
  Option.bind (orO q1_7 (Option.bind (spec_l01In h_p2 1 16) fun x1_10 =>
  some (!x1_10))) fun q1_12 =>
  ifO q1_12
  (some (ImageT.mk 0 0 []))
  (Option.bind (loopO (fun (out_0, y_0) => spec_Scaled_L0 i_p0 w_p1 h_p2 out_0 y_0) ([], 0)) fun out_0e =>
  some (ImageT.mk w_p1 h_p2 out_0e))
noncomputable def spec_ChannelOf (p_p0 : Int) (k_p1 : Int) : Option Int :=
  Option.bind (spec_l04Pixel p_p0) fun x1_1 =>
  Option.bind (orO (!x1_1) (Option.bind (spec_l01In k_p1 0 3) fun x1_5 =>
  some (!x1_5))) fun q1_7 =>
  ifO q1_7
  (some (-1))
  (Option.bind (shrO p_p0 (wr (24 - (wr (8 * k_p1))))) fun x3_4 =>
  some (and64 x3_4 255))
noncomputable def spec_Part (a_p0 : Int) (b_p1 : Int) : Option Int :=
  Option.bind (spec_l01In a_p0 0 255) fun x1_1 =>
  Option.bind (orO (!x1_1) (Option.bind (spec_l01In b_p1 0 255) fun x1_5 =>
  some (!x1_5))) fun q1_7 =>
  ifO q1_7
  (some (-1))
  (some (wr (Int.tdiv (wr ((wr (a_p0 * b_p1)) + 127)) 255)))
noncomputable def spec_Fade (p_p0 : Int) (alpha_p1 : Int) : Option Int :=
  Option.bind (spec_l04Pixel p_p0) fun x1_1 =>
  Option.bind (orO (!x1_1) (Option.bind (spec_l01In alpha_p1 0 255) fun x1_5 =>
  some (!x1_5))) fun q1_7 =>
  ifO q1_7
  (some (-1))
  (Option.bind (spec_ChannelOf p_p0 0) fun x3_1 =>
  Option.bind (spec_Part x3_1 alpha_p1) fun x3_3 =>
  some (wr ((shl x3_3 24) + (and64 p_p0 16777215))))
noncomputable def spec_PlaneImage_L0 (p_p0 : PlaneT) (i_0 : List Int) (k_0 : Int) : Option (((List Int) × Int) ⊕ (List Int)) :=
  ifO (decide (k_0 < (i_0.length : Int)))
  (Option.bind (idx i_0 k_0) fun x12_6 =>
  Option.bind (spec_Fade x12_6 p_p0.Alpha) fun x12_10 =>
  Option.bind (upd i_0 k_0 x12_10) fun x12_12 =>
  some (.inl (x12_12, (wr (k_0 + 1)))))
  (some (.inr i_0))
noncomputable def spec_PlaneImage_L1 (p_p0 : PlaneT) (i_1 : List Int) (k_1 : Int) : Option (((List Int) × Int) ⊕ (List Int)) :=
  ifO (decide (k_1 < (i_1.length : Int)))
  (Option.bind (idx i_1 k_1) fun x12_6 =>
  Option.bind (spec_Fade x12_6 p_p0.Alpha) fun x12_10 =>
  Option.bind (upd i_1 k_1 x12_10) fun x12_12 =>
  some (.inl (x12_12, (wr (k_1 + 1)))))
  (some (.inr i_1))
noncomputable def spec_PlaneImage (p_p0 : PlaneT) : Option (ImageT × Bool) :=
  Option.bind (spec_l19Loaded p_p0) fun (x1_1a, x1_1b) =>
  Option.bind (orO (!x1_1b) (Option.bind (spec_l01In p_p0.Alpha 0 255) fun x2_5 =>
  some (!x2_5))) fun q2_7 =>
  ifO q2_7
  (some ((ImageT.mk 0 0 []), false))
  (Option.bind (spec_Oriented x1_1a p_p0.Orient) fun x4_3 =>
  ifO ((!decide (p_p0.ToW = 0)) || (!decide (p_p0.ToH = 0)))
  (Option.bind (spec_Scaled x4_3 p_p0.ToW p_p0.ToH) fun x6_5 =>
  Option.bind (spec_ImageOk x6_5) fun x7_1 =>
  ifO (!x7_1)
  (some ((ImageT.mk 0 0 []), false))
  (Option.bind (loopO (fun (i_0, k_0) => spec_PlaneImage_L0 p_p0 i_0 k_0) (x6_5.Data, 0)) fun i_0e =>
  some ((ImageT.mk x6_5.W x6_5.H i_0e), true)))
  (Option.bind (spec_ImageOk x4_3) fun x7_1 =>
  ifO (!x7_1)
  (some ((ImageT.mk 0 0 []), false))
  (Option.bind (loopO (fun (i_1, k_1) => spec_PlaneImage_L1 p_p0 i_1 k_1) (x4_3.Data, 0)) fun i_1e =>
  some ((ImageT.mk x4_3.W x4_3.H i_1e), true))))
noncomputable def spec_l10Opaque (p_p0 : Int) : Option Bool :=
  Option.bind (spec_l04Pixel p_p0) fun x1_1 =>
  Option.bind (andO x1_1 (Option.bind (spec_ChannelOf p_p0 0) fun x1_4 =>
  some (decide (x1_4 = 255)))) fun q1_6 =>
  some q1_6
noncomputable def spec_PlaneOk_L0 (x5_1a : ImageT) (v_0 : Int) : Option (Int ⊕ (Unit ⊕ Bool)) :=
  ifO (decide (v_0 < (x5_1a.Data.length : Int)))
  (Option.bind (idx x5_1a.Data v_0) fun x16_3 =>
  Option.bind (spec_l10Opaque x16_3) fun x16_5 =>
  ifO (!x16_5)
  (some (.inr (.inr (false))))
  (some (.inl (wr (v_0 + 1)))))
  (some (.inr (.inl ())))
noncomputable def spec_PlaneOk (a_p0 : Int) (a_p1 : PlaneT) (a_p2 : Int) (a_p3 : Int) : Option Bool :=
  Option.bind (spec_l01In a_p0 0 3) fun x1_1 =>
  Option.bind (orO (!x1_1) (Option.bind (spec_l01In a_p2 1 16) fun x1_5 =>
  some (!x1_5))) fun q1_7 =>
  Option.bind (orO q1_7 (Option.bind (spec_l01In a_p3 1 16) fun x1_10 =>
  some (!x1_10))) fun q1_12 =>
  ifO q1_12
  (some false)
  (ifO (!a_p1.On)
  (Option.bind (andO (!decide (a_p0 = 0)) (Option.bind (spec_l19Zero a_p1) fun x4_4 =>
  some x4_4)) fun q4_5 =>
  some q4_5)
  (Option.bind (spec_PlaneImage a_p1) fun (x5_1a, x5_1b) =>
  Option.bind (orO (!x5_1b) (Option.bind (spec_l01In a_p1.X (-32) 32) fun x6_5 =>
  some (!x6_5))) fun q6_7 =>
  Option.bind (orO q6_7 (Option.bind (spec_l01In a_p1.Y (-32) 32) fun x6_11 =>
  some (!x6_11))) fun q6_13 =>
  ifO q6_13
  (some false)
  (ifO (decide (a_p0 = 3))
  (some ((((((decide (a_p1.Orient = 0)) && (decide (a_p1.ToW = 0))) && (decide (a_p1.ToH = 0))) && (decide (a_p1.Alpha = 255))) && (decide (a_p1.W ≤ 4))) && (decide (a_p1.H ≤ 4))))
  (ifO (!decide (a_p0 = 0))
  (some true)
  (Option.bind (loopO (fun v_0 => spec_PlaneOk_L0 x5_1a v_0) 0) fun y => fork y (fun () => some ((((((((decide (a_p1.Orient = 0)) && (decide (a_p1.ToW = 0))) && (decide (a_p1.ToH = 0))) && (decide (a_p1.Alpha = 255))) && (decide (a_p1.X = 0))) && (decide (a_p1.Y = 0))) && (decide (a_p1.W = a_p2))) && (decide (a_p1.H = a_p3)))) (fun r => some r))))))
noncomputable def spec_PlanesOk_L0 (list_p0 : List PlaneT) (w_p1 : Int) (h_p2 : Int) (k_0 : Int) : Option (Int ⊕ (Unit ⊕ Bool)) :=
  ifO (decide (k_0 < (list_p0.length : Int)))
  (Option.bind (idx list_p0 k_0) fun x6_3 =>
  Option.bind (spec_PlaneOk k_0 x6_3 w_p1 h_p2) fun x6_7 =>
  ifO (!x6_7)
  (some (.inr (.inr (false))))
  (some (.inl (wr (k_0 + 1)))))
  (some (.inr (.inl ())))
noncomputable def spec_PlanesOk (list_p0 : List PlaneT) (w_p1 : Int) (h_p2 : Int) : Option Bool :=
  ifO (!decide ((list_p0.length : Int) = 4))
  (some false)
  (Option.bind (loopO (fun k_0 => spec_PlanesOk_L0 list_p0 w_p1 h_p2 k_0) 0) fun y => fork y (fun () => Option.bind (idx list_p0 1) fun x8_1 =>
  Option.bind (orO (decide (x8_1.ToW = 0)) (Option.bind (idx list_p0 2) fun x8_7 =>
  some (decide (x8_7.ToW = 0)))) fun q8_11 =>
  some q8_11) (fun r => some r))
noncomputable def spec_ColorOk_L1 (m_p0 : ColorMapT) (k_1 : Int) : Option (Int ⊕ (Unit ⊕ Bool)) :=
  ifO (decide (k_1 < 17))
  (Option.bind (idx m_p0.Curve k_1) fun x11_3 =>
  Option.bind (spec_l01In x11_3 0 256) fun x11_5 =>
  ifO (!x11_5)
  (some (.inr (.inr (false))))
  (some (.inl (wr (k_1 + 1)))))
  (some (.inr (.inl ())))
noncomputable def spec_ColorOk_L0 (m_p0 : ColorMapT) (k_0 : Int) : Option (Int ⊕ (Unit ⊕ Bool)) :=
  ifO (decide (k_0 < 9))
  (Option.bind (idx m_p0.Matrix k_0) fun x6_3 =>
  Option.bind (spec_l01In x6_3 (-1024) 1024) fun x6_5 =>
  ifO (!x6_5)
  (some (.inr (.inr (false))))
  (some (.inl (wr (k_0 + 1)))))
  (some (.inr (.inl ())))
noncomputable def spec_ColorOk (m_p0 : ColorMapT) : Option Bool :=
  ifO ((!decide ((m_p0.Matrix.length : Int) = 9)) || (!decide ((m_p0.Curve.length : Int) = 17)))
  (some false)
  (Option.bind (loopO (fun k_0 => spec_ColorOk_L0 m_p0 k_0) 0) fun y => fork y (fun () => Option.bind (loopO (fun k_1 => spec_ColorOk_L1 m_p0 k_1) 0) fun y => fork y (fun () => some true) (fun r => some r)) (fun r => some r))
noncomputable def spec_CrtcOk (c_p0 : CrtcT) : Option Bool :=
  Option.bind (spec_PlanesOk c_p0.Planes c_p0.W c_p0.H) fun x1_6 =>
  Option.bind (andO x1_6 (Option.bind (spec_ColorOk c_p0.Color) fun x1_10 =>
  some x1_10)) fun q1_11 =>
  some q1_11
noncomputable def spec_BlankCrtc (w_p0 : Int) (h_p1 : Int) (p_p2 : Int) : Option (CrtcT × Bool) :=
  Option.bind (spec_NewImage w_p0 h_p1 p_p2) fun x1_5 =>
  Option.bind (spec_PlaneOf x1_5 0 0 0) fun x1_6 =>
  Option.bind (spec_IdentityColor) fun x1_11 =>
  Option.bind (spec_CrtcOk (CrtcT.mk w_p0 h_p1 [x1_6, (PlaneT.mk false 0 0 0 0 0 [] 0 0 0 0), (PlaneT.mk false 0 0 0 0 0 [] 0 0 0 0), (PlaneT.mk false 0 0 0 0 0 [] 0 0 0 0)] x1_11)) fun x2_1 =>
  ifO (!x2_1)
  (some ((CrtcT.mk 0 0 [] (ColorMapT.mk [] [])), false))
  (some ((CrtcT.mk w_p0 h_p1 [x1_6, (PlaneT.mk false 0 0 0 0 0 [] 0 0 0 0), (PlaneT.mk false 0 0 0 0 0 [] 0 0 0 0), (PlaneT.mk false 0 0 0 0 0 [] 0 0 0 0)] x1_11), true))
noncomputable def laws_at (code_p0 : List Int) (i_p1 : Int) : Option Int :=
  ifO (decide ((code_p0.length : Int) = 0))
  (some 0)
  (Option.bind (remO (wr ((wr (i_p1 * 5)) + 1)) (code_p0.length : Int)) fun x3_6 =>
  Option.bind (idx code_p0 x3_6) fun x3_7 =>
  some (wr x3_7))
def slices_Clone_S_int_int (s_p0 : List Int) : Option (List Int) := need (s_p0.length ≤ 1073741824) (some s_p0)
def impl_copyPlanes (list_p0 : List PlaneT) : Option (List PlaneT) := need (list_p0.length ≤ 1073741824 ∧ ∀ p ∈ list_p0, p.Words.length ≤ 1073741824) (some list_p0)
noncomputable def impl_copyColor (m_p0 : ColorMapT) : Option ColorMapT :=
  Option.bind (slices_Clone_S_int_int m_p0.Matrix) fun x1_2 =>
  Option.bind (slices_Clone_S_int_int m_p0.Curve) fun x1_5 =>
  some (ColorMapT.mk x1_2 x1_5)
noncomputable def impl_copyCrtc (c_p0 : CrtcT) : Option CrtcT :=
  Option.bind (impl_copyPlanes c_p0.Planes) fun x1_6 =>
  Option.bind (impl_copyColor c_p0.Color) fun x1_9 =>
  some (CrtcT.mk c_p0.W c_p0.H x1_6 x1_9)
noncomputable def impl_copyFlips_L0 (f_p0 : FlipsT) (out_0 : List FlipT) (v_0 : Int) : Option (((List FlipT) × Int) ⊕ (List FlipT)) :=
  ifO (decide (v_0 < (f_p0.Pending.length : Int)))
  (Option.bind (idx f_p0.Pending v_0) fun x4_0 =>
  Option.bind (impl_copyCrtc x4_0.State) fun x5_2 =>
  Option.bind (app out_0 [(FlipT.mk x4_0.Seq x4_0.Fence x5_2)]) fun x6_4 =>
  some (.inl (x6_4, (wr (v_0 + 1)))))
  (some (.inr out_0))
noncomputable def impl_copyFlips (f_p0 : FlipsT) : Option FlipsT :=
  Option.bind (slices_Clone_S_int_int f_p0.Signalled) fun x1_2 =>
  Option.bind (slices_Clone_S_int_int f_p0.Events) fun x1_7 =>
  Option.bind (loopO (fun (out_0, v_0) => impl_copyFlips_L0 f_p0 out_0 v_0) ([], 0)) fun out_0e =>
  some (FlipsT.mk out_0e x1_2 f_p0.Next x1_7)
noncomputable def cmp_isNaN_int (x_p0 : Int) : Option Bool :=
  some (!decide (x_p0 = x_p0))
noncomputable def cmp_Less_int (x_p0 : Int) (y_p1 : Int) : Option Bool :=
  Option.bind (cmp_isNaN_int x_p0) fun x1_1 =>
  Option.bind (andO x1_1 (Option.bind (cmp_isNaN_int y_p1) fun x1_4 =>
  some (!x1_4))) fun q1_6 =>
  some (q1_6 || (decide (x_p0 < y_p1)))
noncomputable def slices_isNaN_int (x_p0 : Int) : Option Bool :=
  some (!decide (x_p0 = x_p0))
noncomputable def slices_BinarySearch_S_int_int_L0 (x_p0 : List Int) (target_p1 : Int) (i_0 : Int) (j_0 : Int) : Option ((Int × Int) ⊕ Int) :=
  ifO (decide (i_0 < j_0))
  (Option.bind (idx x_p0 (wr (shr (u64w (wr (i_0 + j_0))) 1))) fun x5_2 =>
  Option.bind (cmp_Less_int x5_2 target_p1) fun x5_5 =>
  ifO x5_5
  (some (.inl ((wr ((wr (shr (u64w (wr (i_0 + j_0))) 1)) + 1)), j_0)))
  (some (.inl (i_0, (wr (shr (u64w (wr (i_0 + j_0))) 1))))))
  (some (.inr i_0))
noncomputable def slices_BinarySearch_S_int_int (x_p0 : List Int) (target_p1 : Int) : Option (Int × Bool) :=
  Option.bind (loopO (fun (i_0, j_0) => slices_BinarySearch_S_int_int_L0 x_p0 target_p1 i_0 j_0) (0, (x_p0.length : Int))) fun i_0e =>
  Option.bind (andO (decide (i_0e < (x_p0.length : Int))) (Option.bind (idx x_p0 i_0e) fun x8_7 =>
  Option.bind (orO (decide (x8_7 = target_p1)) (Option.bind (idx x_p0 i_0e) fun x8_14 =>
  Option.bind (slices_isNaN_int x8_14) fun x8_16 =>
  Option.bind (andO x8_16 (Option.bind (slices_isNaN_int target_p1) fun x8_19 =>
  some x8_19)) fun q8_20 =>
  some q8_20)) fun q8_21 =>
  some q8_21)) fun q8_22 =>
  some (i_0e, q8_22)
noncomputable def impl_within (n_p0 : Int) (low_p1 : Int) (high_p2 : Int) : Option Bool :=
  some ((decide (low_p1 ≤ n_p0)) && (decide (n_p0 ≤ high_p2)))
noncomputable def impl_isSide (n_p0 : Int) : Option Bool :=
  Option.bind (impl_within n_p0 1 16) fun x1_1 =>
  some x1_1
noncomputable def slices_Equal_S_int_int_L0 (s1_p0 : List Int) (s2_p1 : List Int) (v_0 : Int) : Option (Int ⊕ (Unit ⊕ Bool)) :=
  ifO (decide (v_0 < (s1_p0.length : Int)))
  (Option.bind (idx s1_p0 v_0) fun x6_2 =>
  Option.bind (idx s2_p1 v_0) fun x6_6 =>
  ifO (!decide (x6_2 = x6_6))
  (some (.inr (.inr (false))))
  (some (.inl (wr (v_0 + 1)))))
  (some (.inr (.inl ())))
noncomputable def slices_Equal_S_int_int (s1_p0 : List Int) (s2_p1 : List Int) : Option Bool :=
  ifO (!decide ((s1_p0.length : Int) = (s2_p1.length : Int)))
  (some false)
  (Option.bind (loopO (fun v_0 => slices_Equal_S_int_int_L0 s1_p0 s2_p1 v_0) 0) fun y => fork y (fun () => some true) (fun r => some r))
noncomputable def impl_samePlane (a_p0 : PlaneT) (a_p1 : PlaneT) : Option Bool :=
  Option.bind (andO ((((((((((a_p0.On == a_p1.On) && (decide (a_p0.X = a_p1.X))) && (decide (a_p0.Y = a_p1.Y))) && (decide (a_p0.W = a_p1.W))) && (decide (a_p0.H = a_p1.H))) && (decide (a_p0.Layout = a_p1.Layout))) && (decide (a_p0.Alpha = a_p1.Alpha))) && (decide (a_p0.Orient = a_p1.Orient))) && (decide (a_p0.ToW = a_p1.ToW))) && (decide (a_p0.ToH = a_p1.ToH))) (Option.bind (slices_Equal_S_int_int a_p0.Words a_p1.Words) fun x1_73 =>
  some x1_73)) fun q1_74 =>
  some q1_74
def slices_Repeat_S_int_int (s_p0 : List Int) (c_p1 : Int) : Option (List Int) := match s_p0 with
  | [p] => mkO c_p1 p
  | _ => .none
noncomputable def impl_isPixel (p_p0 : Int) : Option Bool :=
  Option.bind (impl_within p_p0 0 4294967295) fun x1_1 =>
  some x1_1
noncomputable def impl_ImageOk_L0 (i_p0 : ImageT) (v_0 : Int) : Option (Int ⊕ (Unit ⊕ Bool)) :=
  ifO (decide (v_0 < (i_p0.Data.length : Int)))
  (Option.bind (idx i_p0.Data v_0) fun x5_0 =>
  Option.bind (impl_isPixel x5_0) fun x6_1 =>
  ifO (!x6_1)
  (some (.inr (.inr (false))))
  (some (.inl (wr (v_0 + 1)))))
  (some (.inr (.inl ())))
noncomputable def impl_ImageOk (i_p0 : ImageT) : Option Bool :=
  Option.bind (impl_isSide i_p0.W) fun x1_2 =>
  Option.bind (orO (!x1_2) (Option.bind (impl_isSide i_p0.H) fun x1_7 =>
  some (!x1_7))) fun q1_9 =>
  ifO (q1_9 || (!decide ((i_p0.Data.length : Int) = (wr (i_p0.W * i_p0.H)))))
  (some false)
  (Option.bind (loopO (fun v_0 => impl_ImageOk_L0 i_p0 v_0) 0) fun y => fork y (fun () => some true) (fun r => some r))
noncomputable def impl_runsOf_L1 (i_p0 : ImageT) (k_0 : Int) (end_1 : Int) : Option (Int ⊕ Int) :=
  Option.bind (remO end_1 i_p0.W) fun x5_3 =>
  Option.bind (andO (!decide (x5_3 = 0)) (Option.bind (idx i_p0.Data end_1) fun x5_9 =>
  Option.bind (idx i_p0.Data k_0) fun x5_14 =>
  some (decide (x5_9 = x5_14)))) fun q5_17 =>
  ifO q5_17
  (some (.inl (wr (end_1 + 1))))
  (some (.inr end_1))
noncomputable def impl_runsOf_L0 (i_p0 : ImageT) (out_0 : List Int) (k_0 : Int) : Option (((List Int) × Int) ⊕ (List Int)) :=
  ifO (decide (k_0 < (i_p0.Data.length : Int)))
  (Option.bind (loopO (fun end_1 => impl_runsOf_L1 i_p0 k_0 end_1) (wr (k_0 + 1))) fun end_1e =>
  Option.bind (idx i_p0.Data k_0) fun x7_7 =>
  Option.bind (app out_0 [(wr (end_1e - k_0)), x7_7]) fun x7_10 =>
  some (.inl (x7_10, end_1e)))
  (some (.inr out_0))
noncomputable def impl_runsOf (i_p0 : ImageT) : Option (List Int) :=
  Option.bind (loopO (fun (out_0, k_0) => impl_runsOf_L0 i_p0 out_0 k_0) (([] : List Int), 0)) fun out_0e =>
  some out_0e
noncomputable def impl_tilesOf (n_p0 : Int) : Option Int :=
  some (wr (Int.tdiv (wr ((wr (n_p0 + 4)) - 1)) 4))
noncomputable def impl_WordCount (w_p0 : Int) (h_p1 : Int) (layout_p2 : Int) : Option Int :=
  Option.bind (impl_isSide w_p0) fun x1_1 =>
  Option.bind (orO (!x1_1) (Option.bind (impl_isSide h_p1) fun x1_5 =>
  some (!x1_5))) fun q1_7 =>
  ifO q1_7
  (some (-1))
  (ifO (decide (layout_p2 = 0))
  (some (wr (w_p0 * h_p1)))
  (ifO (decide (layout_p2 = 1))
  (Option.bind (impl_tilesOf w_p0) fun x7_1 =>
  Option.bind (impl_tilesOf h_p1) fun x7_3 =>
  some (wr ((wr ((wr (x7_1 * x7_3)) * 4)) * 4)))
  (some (-1))))
noncomputable def impl_wordPlace (w_p0 : Int) (layout_p1 : Int) (x_p2 : Int) (y_p3 : Int) : Option Int :=
  ifO (decide (layout_p1 = 0))
  (some (wr ((wr (y_p3 * w_p0)) + x_p2)))
  (Option.bind (impl_tilesOf w_p0) fun x3_3 =>
  some (wr ((wr ((wr ((wr ((wr ((wr ((wr (Int.tdiv y_p3 4)) * x3_3)) + (wr (Int.tdiv x_p2 4)))) * 4)) * 4)) + (wr ((Int.tmod y_p3 4) * 4)))) + (Int.tmod x_p2 4))))
noncomputable def impl_StoreImage_L0 (i_p0 : ImageT) (layout_p1 : Int) (out_0 : List Int) (v_0 : Int) : Option (((List Int) × Int) ⊕ (List Int)) :=
  ifO (decide (v_0 < (i_p0.Data.length : Int)))
  (Option.bind (idx i_p0.Data v_0) fun x8_1 =>
  Option.bind (remO v_0 i_p0.W) fun x9_7 =>
  Option.bind (quoO v_0 i_p0.W) fun x9_11 =>
  Option.bind (impl_wordPlace i_p0.W layout_p1 x9_7 x9_11) fun x9_12 =>
  Option.bind (upd out_0 x9_12 x8_1) fun x9_15 =>
  some (.inl (x9_15, (wr (v_0 + 1)))))
  (some (.inr out_0))
noncomputable def impl_StoreImage (i_p0 : ImageT) (layout_p1 : Int) : Option ((List Int) × Bool) :=
  Option.bind (impl_ImageOk i_p0) fun x1_1 =>
  Option.bind (orO (!x1_1) (Option.bind (impl_within layout_p1 0 2) fun x1_5 =>
  some (!x1_5))) fun q1_7 =>
  ifO q1_7
  (some (([] : List Int), false))
  (ifO (decide (layout_p1 = 2))
  (Option.bind (impl_runsOf i_p0) fun x4_1 =>
  some (x4_1, true))
  (Option.bind (impl_WordCount i_p0.W i_p0.H layout_p1) fun x5_5 =>
  Option.bind (mkO x5_5 0) fun x5_6 =>
  Option.bind (loopO (fun (out_0, v_0) => impl_StoreImage_L0 i_p0 layout_p1 out_0 v_0) (x5_6, 0)) fun out_0e =>
  some (out_0e, true)))
noncomputable def impl_mapImage_L1 (w_p0 : Int) (f_p2 : (Int → Int → Option Int)) (v_0 : Int) (out_1 : List Int) (v_1 : Int) : Option (((List Int) × Int) ⊕ (List Int)) :=
  ifO (decide (v_1 < w_p0))
  (Option.bind (f_p2 v_1 v_0) fun x8_5 =>
  Option.bind (app out_1 [x8_5]) fun x8_7 =>
  some (.inl (x8_7, (wr (v_1 + 1)))))
  (some (.inr out_1))
noncomputable def impl_mapImage_L0 (w_p0 : Int) (h_p1 : Int) (f_p2 : (Int → Int → Option Int)) (out_0 : List Int) (v_0 : Int) : Option (((List Int) × Int) ⊕ (List Int)) :=
  ifO (decide (v_0 < h_p1))
  (Option.bind (loopO (fun (out_1, v_1) => impl_mapImage_L1 w_p0 f_p2 v_0 out_1 v_1) (out_0, 0)) fun out_1e =>
  some (.inl (out_1e, (wr (v_0 + 1)))))
  (some (.inr out_0))
noncomputable def impl_mapImage (w_p0 : Int) (h_p1 : Int) (f_p2 : Int → Int → Option Int) : Option ImageT :=
  Option.bind (mkO 0 0) fun x1_5 =>
  need (0 ≤ (wr (w_p0 * h_p1)) ∧ (wr (w_p0 * h_p1)) ≤ 1073741824) <|
  Option.bind (loopO (fun (out_0, v_0) => impl_mapImage_L0 w_p0 h_p1 f_p2 out_0 v_0) (x1_5, 0)) fun out_0e =>
  some (ImageT.mk w_p0 h_p1 out_0e)
noncomputable def impl_LoadImage_1 (x_p0 : Int) (y_p1 : Int) (c_p2 : List Int) (c_p3 : Int) (c_p4 : Int) : Option Int :=
  Option.bind (impl_wordPlace c_p3 c_p4 x_p0 y_p1) fun x1_5 =>
  Option.bind (idx c_p2 x1_5) fun x1_6 =>
  some x1_6
noncomputable def impl_LoadImage_L0 (a_p0 : List Int) (a_p1 : Int) (a_p2 : Int) (x_0 : List Int) (v_0 : Int) : Option (((List Int) × Int) ⊕ ((List Int) ⊕ (ImageT × Bool))) :=
  ifO (decide ((wr (v_0 + 1)) < (a_p0.length : Int)))
  (Option.bind (idx a_p0 v_0) fun x8_2 =>
  Option.bind (impl_within x8_2 1 (wr ((wr (a_p1 * a_p2)) - (x_0.length : Int)))) fun x8_11 =>
  ifO (!x8_11)
  (some (.inr (.inr (((ImageT.mk 0 0 []), false)))))
  (Option.bind (idx a_p0 (wr (v_0 + 1))) fun x10_5 =>
  Option.bind (idx a_p0 v_0) fun x10_10 =>
  Option.bind (slices_Repeat_S_int_int [x10_5] x10_10) fun x10_12 =>
  Option.bind (app x_0 x10_12) fun x10_13 =>
  some (.inl (x10_13, (wr (v_0 + 2))))))
  (some (.inr (.inl x_0)))
noncomputable def impl_LoadImage (a_p0 : List Int) (a_p1 : Int) (a_p2 : Int) (a_p3 : Int) : Option (ImageT × Bool) :=
  Option.bind (impl_isSide a_p1) fun x1_1 =>
  Option.bind (orO (!x1_1) (Option.bind (impl_isSide a_p2) fun x1_5 =>
  some (!x1_5))) fun q1_7 =>
  Option.bind (orO q1_7 (Option.bind (impl_within a_p3 0 2) fun x1_10 =>
  some (!x1_10))) fun q1_12 =>
  ifO q1_12
  (some ((ImageT.mk 0 0 []), false))
  (ifO (decide (a_p3 = 2))
  (Option.bind (loopO (fun (x_0, v_0) => impl_LoadImage_L0 a_p0 a_p1 a_p2 x_0 v_0) ([], 0)) fun y => fork y (fun x_0e => Option.bind (impl_StoreImage (ImageT.mk a_p1 a_p2 x_0e) a_p3) fun (x13_2a, x13_2b) =>
  Option.bind (orO (!x13_2b) (Option.bind (slices_Equal_S_int_int x13_2a a_p0) fun x14_5 =>
  some (!x14_5))) fun q14_7 =>
  ifO q14_7
  (some ((ImageT.mk 0 0 []), false))
  (some ((ImageT.mk a_p1 a_p2 x_0e), true))) (fun r => some r))
  (Option.bind (impl_WordCount a_p1 a_p2 a_p3) fun x11_5 =>
  ifO (decide ((a_p0.length : Int) = x11_5))
  (Option.bind (impl_mapImage a_p1 a_p2 (fun z0 z1 => impl_LoadImage_1 z0 z1 a_p0 a_p1 a_p3)) fun x12_3 =>
  Option.bind (impl_StoreImage x12_3 a_p3) fun (x13_2a, x13_2b) =>
  Option.bind (orO (!x13_2b) (Option.bind (slices_Equal_S_int_int x13_2a a_p0) fun x14_5 =>
  some (!x14_5))) fun q14_7 =>
  ifO q14_7
  (some ((ImageT.mk 0 0 []), false))
  (some (x12_3, true)))
  (Option.bind (impl_StoreImage (ImageT.mk a_p1 a_p2 []) a_p3) fun (x13_2a, x13_2b) =>
  Option.bind (orO (!x13_2b) (Option.bind (slices_Equal_S_int_int x13_2a a_p0) fun x14_5 =>
  some (!x14_5))) fun q14_7 =>
  ifO q14_7
  (some ((ImageT.mk 0 0 []), false))
  (some ((ImageT.mk a_p1 a_p2 []), true)))))
noncomputable def impl_isOrient (o_p0 : Int) : Option Bool :=
  Option.bind (impl_within o_p0 0 7) fun x1_1 =>
  some x1_1
noncomputable def impl_OrientSize (w_p0 : Int) (h_p1 : Int) (o_p2 : Int) : Option (Int × Int) :=
  Option.bind (impl_isSide w_p0) fun x1_1 =>
  Option.bind (orO (!x1_1) (Option.bind (impl_isSide h_p1) fun x1_5 =>
  some (!x1_5))) fun q1_7 =>
  Option.bind (orO q1_7 (Option.bind (impl_isOrient o_p2) fun x1_10 =>
  some (!x1_10))) fun q1_12 =>
  ifO q1_12
  (some (0, 0))
  (ifO (decide ((Int.tmod o_p2 2) = 1))
  (some (h_p1, w_p0))
  (some (w_p0, h_p1)))
noncomputable def impl_OrientPoint_L0 (o_p2 : Int) (w_0 : Int) (h_0 : Int) (x_0 : Int) (y_0 : Int) (v_0 : Int) : Option ((Int × Int × Int × Int × Int) ⊕ (Int × Int)) :=
  ifO (decide (v_0 < (Int.tmod o_p2 4)))
  (some (.inl (h_0, w_0, (wr ((wr (h_0 - 1)) - y_0)), x_0, (wr (v_0 + 1)))))
  (some (.inr (x_0, y_0)))
noncomputable def impl_OrientPoint_L1 (o_p2 : Int) (w_1 : Int) (h_1 : Int) (x_1 : Int) (y_1 : Int) (v_1 : Int) : Option ((Int × Int × Int × Int × Int) ⊕ (Int × Int)) :=
  ifO (decide (v_1 < (Int.tmod o_p2 4)))
  (some (.inl (h_1, w_1, (wr ((wr (h_1 - 1)) - y_1)), x_1, (wr (v_1 + 1)))))
  (some (.inr (x_1, y_1)))
noncomputable def impl_OrientPoint (w_p0 : Int) (h_p1 : Int) (o_p2 : Int) (x_p3 : Int) (y_p4 : Int) : Option (Int × Int) :=
  Option.bind (impl_isSide w_p0) fun x1_1 =>
  Option.bind (orO (!x1_1) (Option.bind (impl_isSide h_p1) fun x1_5 =>
  some (!x1_5))) fun q1_7 =>
  Option.bind (orO q1_7 (Option.bind (impl_isOrient o_p2) fun x1_10 =>
  some (!x1_10))) fun q1_12 =>
  Option.bind (orO q1_12 (Option.bind (impl_within x_p3 0 (wr (w_p0 - 1))) fun x1_17 =>
  some (!x1_17))) fun q1_19 =>
  Option.bind (orO q1_19 (Option.bind (impl_within y_p4 0 (wr (h_p1 - 1))) fun x1_24 =>
  some (!x1_24))) fun q1_26 =>
  ifO q1_26
  (some ((-1), (-1)))
  (ifO (decide (4 ≤ o_p2))
  (Option.bind (loopO (fun (w_0, h_0, x_0, y_0, v_0) => impl_OrientPoint_L0 o_p2 w_0 h_0 x_0 y_0 v_0) (w_p0, h_p1, (wr ((wr (w_p0 - 1)) - x_p3)), y_p4, 0)) fun (x_0e, y_0e) =>
  some (x_0e, y_0e))
  (Option.bind (loopO (fun (w_1, h_1, x_1, y_1, v_1) => impl_OrientPoint_L1 o_p2 w_1 h_1 x_1 y_1 v_1) (w_p0, h_p1, x_p3, y_p4, 0)) fun (x_1e, y_1e) =>
  some (x_1e, y_1e)))
noncomputable def impl_Oriented_L0 (a_p0 : ImageT) (a_p1 : Int) (x3_5a : Int) (x_0 : List Int) (v_0 : Int) : Option (((List Int) × Int) ⊕ (List Int)) :=
  ifO (decide (v_0 < (a_p0.Data.length : Int)))
  (Option.bind (idx a_p0.Data v_0) fun x7_1 =>
  Option.bind (remO v_0 a_p0.W) fun x8_8 =>
  Option.bind (quoO v_0 a_p0.W) fun x8_12 =>
  Option.bind (impl_OrientPoint a_p0.W a_p0.H a_p1 x8_8 x8_12) fun (x8_13a, x8_13b) =>
  Option.bind (upd x_0 (wr ((wr (x8_13b * x3_5a)) + x8_13a)) x7_1) fun x9_9 =>
  some (.inl (x9_9, (wr (v_0 + 1)))))
  (some (.inr x_0))
noncomputable def impl_Oriented (a_p0 : ImageT) (a_p1 : Int) : Option ImageT :=
  Option.bind (impl_ImageOk a_p0) fun x1_1 =>
  Option.bind (orO (!x1_1) (Option.bind (impl_isOrient a_p1) fun x1_5 =>
  some (!x1_5))) fun q1_7 =>
  ifO q1_7
  (some (ImageT.mk 0 0 []))
  (Option.bind (impl_OrientSize a_p0.W a_p0.H a_p1) fun (x3_5a, x3_5b) =>
  Option.bind (mkO (wr (x3_5a * x3_5b)) 0) fun x4_5 =>
  Option.bind (loopO (fun (x_0, v_0) => impl_Oriented_L0 a_p0 a_p1 x3_5a x_0 v_0) (x4_5, 0)) fun x_0e =>
  some (ImageT.mk x3_5a x3_5b x_0e))
noncomputable def impl_ScalePoint (from_p0 : Int) (to_p1 : Int) (k_p2 : Int) : Option Int :=
  Option.bind (impl_isSide from_p0) fun x1_1 =>
  Option.bind (orO (!x1_1) (Option.bind (impl_isSide to_p1) fun x1_5 =>
  some (!x1_5))) fun q1_7 =>
  Option.bind (orO q1_7 (Option.bind (impl_within k_p2 0 (wr (to_p1 - 1))) fun x1_12 =>
  some (!x1_12))) fun q1_14 =>
  ifO q1_14
  (some (-1))
  (Option.bind (quoO (wr (k_p2 * from_p0)) to_p1) fun x3_4 =>
  some x3_4)
noncomputable def impl_Scaled_1 (x_p0 : Int) (y_p1 : Int) (c_p2 : ImageT) (c_p3 : Int) (c_p4 : Int) : Option Int :=
  Option.bind (impl_ScalePoint c_p2.H c_p3 y_p1) fun x1_6 =>
  Option.bind (impl_ScalePoint c_p2.W c_p4 x_p0) fun x1_14 =>
  Option.bind (idx c_p2.Data (wr ((wr (x1_6 * c_p2.W)) + x1_14))) fun x1_16 =>
  some x1_16
noncomputable def impl_Scaled (i_p0 : ImageT) (w_p1 : Int) (h_p2 : Int) : Option ImageT :=
  Option.bind (impl_ImageOk i_p0) fun x1_1 =>
  Option.bind (orO (!x1_1) (Option.bind (impl_isSide w_p1) fun x1_5 =>
  some (!x1_5))) fun q1_7 =>
  Option.bind (orO q1_7 (Option.bind (impl_isSide h_p2) fun x1_10 =>
  some (!x1_10))) fun q1_12 =>
  ifO q1_12
  (some (ImageT.mk 0 0 []))
  (Option.bind (impl_mapImage w_p1 h_p2 (fun z0 z1 => impl_Scaled_1 z0 z1 i_p0 h_p2 w_p1)) fun x3_3 =>
  some x3_3)
noncomputable def impl_channel (p_p0 : Int) (k_p1 : Int) : Option Int :=
  Option.bind (shrO p_p0 (wr (24 - (wr (8 * k_p1))))) fun x1_4 =>
  some (and64 x1_4 255)
noncomputable def impl_Part (a_p0 : Int) (b_p1 : Int) : Option Int :=
  Option.bind (impl_within a_p0 0 255) fun x1_1 =>
  Option.bind (orO (!x1_1) (Option.bind (impl_within b_p1 0 255) fun x1_5 =>
  some (!x1_5))) fun q1_7 =>
  ifO q1_7
  (some (-1))
  (some (wr (Int.tdiv (wr ((wr (a_p0 * b_p1)) + 127)) 255)))
noncomputable def impl_Fade (p_p0 : Int) (alpha_p1 : Int) : Option Int :=
  Option.bind (impl_isPixel p_p0) fun x1_1 =>
  Option.bind (orO (!x1_1) (Option.bind (impl_within alpha_p1 0 255) fun x1_5 =>
  some (!x1_5))) fun q1_7 =>
  ifO q1_7
  (some (-1))
  (Option.bind (impl_channel p_p0 0) fun x3_1 =>
  Option.bind (impl_Part x3_1 alpha_p1) fun x3_3 =>
  some (or64 (shl x3_3 24) (and64 p_p0 16777215)))
noncomputable def impl_faded_L0 (i_p0 : ImageT) (alpha_p1 : Int) (i_0 : List Int) (v_0 : Int) : Option (((List Int) × Int) ⊕ (List Int)) :=
  ifO (decide (v_0 < (i_p0.Data.length : Int)))
  (Option.bind (idx i_0 v_0) fun x3_1 =>
  Option.bind (impl_Fade x3_1 alpha_p1) fun x4_5 =>
  Option.bind (upd i_0 v_0 x4_5) fun x4_7 =>
  some (.inl (x4_7, (wr (v_0 + 1)))))
  (some (.inr i_0))
noncomputable def impl_faded (i_p0 : ImageT) (alpha_p1 : Int) : Option (ImageT × (List Int)) :=
  Option.bind (loopO (fun (i_0, v_0) => impl_faded_L0 i_p0 alpha_p1 i_0 v_0) (i_p0.Data, 0)) fun i_0e =>
  some ((ImageT.mk i_p0.W i_p0.H i_0e), i_0e)
noncomputable def impl_PlaneImage (p_p0 : PlaneT) : Option (ImageT × Bool) :=
  Option.bind (orO (!p_p0.On) (Option.bind (impl_within p_p0.Alpha 0 255) fun x1_6 =>
  some (!x1_6))) fun q1_8 =>
  ifO q1_8
  (some ((ImageT.mk 0 0 []), false))
  (Option.bind (impl_LoadImage p_p0.Words p_p0.W p_p0.H p_p0.Layout) fun (x3_8a, x3_8b) =>
  Option.bind (impl_Oriented x3_8a p_p0.Orient) fun x4_3 =>
  ifO ((!decide (p_p0.ToW = 0)) || (!decide (p_p0.ToH = 0)))
  (Option.bind (impl_Scaled x4_3 p_p0.ToW p_p0.ToH) fun x6_5 =>
  Option.bind (orO (!x3_8b) (Option.bind (impl_ImageOk x6_5) fun x7_4 =>
  some (!x7_4))) fun q7_6 =>
  ifO q7_6
  (some ((ImageT.mk 0 0 []), false))
  (Option.bind (impl_faded x6_5 p_p0.Alpha) fun (x9_3a, x9_3b) =>
  some ((ImageT.mk x9_3a.W x9_3a.H x9_3b), true)))
  (Option.bind (orO (!x3_8b) (Option.bind (impl_ImageOk x4_3) fun x7_4 =>
  some (!x7_4))) fun q7_6 =>
  ifO q7_6
  (some ((ImageT.mk 0 0 []), false))
  (Option.bind (impl_faded x4_3 p_p0.Alpha) fun (x9_3a, x9_3b) =>
  some ((ImageT.mk x9_3a.W x9_3a.H x9_3b), true))))
noncomputable def slices_IndexFunc_S_int_int_L0 (s_p0 : List Int) (f_p1 : (Int → Option Bool)) (v_0 : Int) : Option (Int ⊕ (Unit ⊕ Int)) :=
  ifO (decide (v_0 < (s_p0.length : Int)))
  (Option.bind (idx s_p0 v_0) fun x4_3 =>
  Option.bind (f_p1 x4_3) fun x4_5 =>
  ifO x4_5
  (some (.inr (.inr (v_0))))
  (some (.inl (wr (v_0 + 1)))))
  (some (.inr (.inl ())))
noncomputable def slices_IndexFunc_S_int_int (s_p0 : List Int) (f_p1 : Int → Option Bool) : Option Int :=
  Option.bind (loopO (fun v_0 => slices_IndexFunc_S_int_int_L0 s_p0 f_p1 v_0) 0) fun y => fork y (fun () => some (-1)) (fun r => some r)
noncomputable def slices_ContainsFunc_S_int_int (s_p0 : List Int) (f_p1 : Int → Option Bool) : Option Bool :=
  Option.bind (slices_IndexFunc_S_int_int s_p0 f_p1) fun x1_2 =>
  some (decide (0 ≤ x1_2))
noncomputable def impl_isOpaquePixel (p_p0 : Int) : Option Bool :=
  Option.bind (impl_isPixel p_p0) fun x1_1 =>
  Option.bind (andO x1_1 (Option.bind (impl_channel p_p0 0) fun x1_4 =>
  some (decide (x1_4 = 255)))) fun q1_6 =>
  some q1_6
noncomputable def impl_PlaneOk_1 (p_p0 : Int) : Option Bool :=
  Option.bind (impl_isOpaquePixel p_p0) fun x1_1 =>
  some (!x1_1)
noncomputable def impl_PlaneOk (a_p0 : Int) (a_p1 : PlaneT) (a_p2 : Int) (a_p3 : Int) : Option Bool :=
  Option.bind (impl_within a_p0 0 3) fun x1_1 =>
  Option.bind (orO (!x1_1) (Option.bind (impl_isSide a_p2) fun x1_5 =>
  some (!x1_5))) fun q1_7 =>
  Option.bind (orO q1_7 (Option.bind (impl_isSide a_p3) fun x1_10 =>
  some (!x1_10))) fun q1_12 =>
  ifO q1_12
  (some false)
  (ifO (!a_p1.On)
  (Option.bind (andO (!decide (a_p0 = 0)) (Option.bind (impl_samePlane a_p1 (PlaneT.mk false 0 0 0 0 0 [] 0 0 0 0)) fun x4_5 =>
  some x4_5)) fun q4_6 =>
  some q4_6)
  (Option.bind (impl_PlaneImage a_p1) fun (x5_1a, x5_1b) =>
  Option.bind (orO (!x5_1b) (Option.bind (impl_within a_p1.X (-32) 32) fun x6_5 =>
  some (!x6_5))) fun q6_7 =>
  Option.bind (orO q6_7 (Option.bind (impl_within a_p1.Y (-32) 32) fun x6_11 =>
  some (!x6_11))) fun q6_13 =>
  ifO q6_13
  (some false)
  (ifO (decide (a_p0 = 0))
  (Option.bind (andO ((((((((decide (a_p1.Orient = 0)) && (decide (a_p1.ToW = 0))) && (decide (a_p1.ToH = 0))) && (decide (a_p1.Alpha = 255))) && (decide (a_p1.X = 0))) && (decide (a_p1.Y = 0))) && (decide (a_p1.W = a_p2))) && (decide (a_p1.H = a_p3))) (Option.bind (slices_ContainsFunc_S_int_int x5_1a.Data impl_PlaneOk_1) fun x11_26 =>
  some (!x11_26))) fun q11_28 =>
  some q11_28)
  (ifO (decide (a_p0 = 3))
  (some ((((((decide (a_p1.Orient = 0)) && (decide (a_p1.ToW = 0))) && (decide (a_p1.ToH = 0))) && (decide (a_p1.Alpha = 255))) && (decide (a_p1.W ≤ 4))) && (decide (a_p1.H ≤ 4))))
  (some true)))))
noncomputable def impl_PlanesOk_L0 (list_p0 : List PlaneT) (w_p1 : Int) (h_p2 : Int) (v_0 : Int) : Option (Int ⊕ (Unit ⊕ Bool)) :=
  ifO (decide (v_0 < (list_p0.length : Int)))
  (Option.bind (idx list_p0 v_0) fun x5_1 =>
  Option.bind (impl_PlaneOk v_0 x5_1 w_p1 h_p2) fun x6_4 =>
  ifO (!x6_4)
  (some (.inr (.inr (false))))
  (some (.inl (wr (v_0 + 1)))))
  (some (.inr (.inl ())))
noncomputable def impl_PlanesOk (list_p0 : List PlaneT) (w_p1 : Int) (h_p2 : Int) : Option Bool :=
  Option.bind (orO (!decide ((list_p0.length : Int) = 4)) (Option.bind (idx list_p0 1) fun x1_5 =>
  Option.bind (andO (!decide (x1_5.ToW = 0)) (Option.bind (idx list_p0 2) fun x1_11 =>
  some (!decide (x1_11.ToW = 0)))) fun q1_15 =>
  some q1_15)) fun q1_16 =>
  ifO q1_16
  (some false)
  (Option.bind (loopO (fun v_0 => impl_PlanesOk_L0 list_p0 w_p1 h_p2 v_0) 0) fun y => fork y (fun () => some true) (fun r => some r))
noncomputable def impl_ColorOk_L1 (m_p0 : ColorMapT) (v_1 : Int) : Option (Int ⊕ (Unit ⊕ Bool)) :=
  ifO (decide (v_1 < (m_p0.Curve.length : Int)))
  (Option.bind (idx m_p0.Curve v_1) fun x9_0 =>
  Option.bind (impl_within x9_0 0 256) fun x10_1 =>
  ifO (!x10_1)
  (some (.inr (.inr (false))))
  (some (.inl (wr (v_1 + 1)))))
  (some (.inr (.inl ())))
noncomputable def impl_ColorOk_L0 (m_p0 : ColorMapT) (v_0 : Int) : Option (Int ⊕ (Unit ⊕ Bool)) :=
  ifO (decide (v_0 < (m_p0.Matrix.length : Int)))
  (Option.bind (idx m_p0.Matrix v_0) fun x3_0 =>
  Option.bind (impl_within x3_0 (-1024) 1024) fun x4_1 =>
  ifO (!x4_1)
  (some (.inr (.inr (false))))
  (some (.inl (wr (v_0 + 1)))))
  (some (.inr (.inl ())))
noncomputable def impl_ColorOk (m_p0 : ColorMapT) : Option Bool :=
  Option.bind (loopO (fun v_0 => impl_ColorOk_L0 m_p0 v_0) 0) fun y => fork y (fun () => Option.bind (loopO (fun v_1 => impl_ColorOk_L1 m_p0 v_1) 0) fun y => fork y (fun () => some ((decide ((m_p0.Matrix.length : Int) = 9)) && (decide ((m_p0.Curve.length : Int) = 17)))) (fun r => some r)) (fun r => some r)
noncomputable def impl_CrtcOk (c_p0 : CrtcT) : Option Bool :=
  Option.bind (impl_PlanesOk c_p0.Planes c_p0.W c_p0.H) fun x1_6 =>
  Option.bind (andO x1_6 (Option.bind (impl_ColorOk c_p0.Color) fun x1_10 =>
  some x1_10)) fun q1_11 =>
  some q1_11
noncomputable def impl_ascendingWithin_L0 (list_p0 : List Int) (low_p1 : Int) (high_p2 : Int) (v_0 : Int) : Option (Int ⊕ (Unit ⊕ Bool)) :=
  ifO (decide (v_0 < (list_p0.length : Int)))
  (Option.bind (idx list_p0 v_0) fun x3_1 =>
  Option.bind (impl_within x3_1 low_p1 high_p2) fun x4_3 =>
  Option.bind (orO (!x4_3) (Option.bind (andO (decide (0 < v_0)) (Option.bind (idx list_p0 (wr (v_0 - 1))) fun x4_12 =>
  some (decide (x3_1 ≤ x4_12)))) fun q4_16 =>
  some q4_16)) fun q4_17 =>
  ifO q4_17
  (some (.inr (.inr (false))))
  (some (.inl (wr (v_0 + 1)))))
  (some (.inr (.inl ())))
noncomputable def impl_ascendingWithin (list_p0 : List Int) (low_p1 : Int) (high_p2 : Int) : Option Bool :=
  Option.bind (loopO (fun v_0 => impl_ascendingWithin_L0 list_p0 low_p1 high_p2 v_0) 0) fun y => fork y (fun () => some true) (fun r => some r)
noncomputable def impl_FlipsOk_L0 (a_p0 : FlipsT) (v_0 : Int) : Option (Int ⊕ (Unit ⊕ Bool)) :=
  ifO (decide (v_0 < (a_p0.Pending.length : Int)))
  (Option.bind (idx a_p0.Pending v_0) fun x6_1 =>
  Option.bind (orO (!decide (x6_1.Seq = (wr ((wr (a_p0.Next - (a_p0.Pending.length : Int))) + v_0)))) (Option.bind (impl_within x6_1.Fence 0 8) fun x7_12 =>
  some (!x7_12))) fun q7_14 =>
  Option.bind (orO q7_14 (Option.bind (impl_CrtcOk x6_1.State) fun x7_18 =>
  some (!x7_18))) fun q7_20 =>
  ifO q7_20
  (some (.inr (.inr (false))))
  (some (.inl (wr (v_0 + 1)))))
  (some (.inr (.inl ())))
noncomputable def impl_FlipsOk (a_p0 : FlipsT) : Option Bool :=
  Option.bind (orO (decide (2 < (a_p0.Pending.length : Int))) (Option.bind (impl_within a_p0.Next 0 1000000) fun x2_5 =>
  some (!x2_5))) fun q2_7 =>
  ifO (q2_7 || (decide (a_p0.Next < (a_p0.Pending.length : Int))))
  (some false)
  (Option.bind (loopO (fun v_0 => impl_FlipsOk_L0 a_p0 v_0) 0) fun y => fork y (fun () => Option.bind (impl_ascendingWithin a_p0.Signalled 1 8) fun x10_2 =>
  Option.bind (andO x10_2 (Option.bind (impl_ascendingWithin a_p0.Events 0 (wr ((wr (a_p0.Next - (a_p0.Pending.length : Int))) - 1))) fun x10_11 =>
  some x10_11)) fun q10_12 =>
  some q10_12) (fun r => some r))

noncomputable def impl_SignalFence (f_p0 : FlipsT) (fence_p1 : Int) : Option FlipsT :=
  Option.bind (impl_copyFlips f_p0) fun x1_1 =>
  Option.bind (slices_BinarySearch_S_int_int f_p0.Signalled fence_p1) fun (x2_3a, x2_3b) =>
  Option.bind (impl_FlipsOk f_p0) fun x3_1 =>
  Option.bind (orO (!x3_1) (Option.bind (impl_within fence_p1 1 8) fun x3_5 =>
  some (!x3_5))) fun q3_7 =>
  ifO (q3_7 || x2_3b)
  (some x1_1)
  (Option.bind (insO x1_1.Signalled x2_3a fence_p1) fun x5_5 =>
  some (FlipsT.mk x1_1.Pending x5_5 x1_1.Next x1_1.Events))
noncomputable def impl_QueueFlip (f_p0 : FlipsT) (c_p1 : CrtcT) (fence_p2 : Int) : Option (FlipsT × Bool) :=
  Option.bind (impl_copyFlips f_p0) fun x1_1 =>
  Option.bind (impl_FlipsOk f_p0) fun x2_1 =>
  ifO (!x2_1)
  (some (x1_1, false))
  (Option.bind (impl_copyCrtc c_p1) fun x4_6 =>
  Option.bind (app x1_1.Pending [(FlipT.mk f_p0.Next fence_p2 x4_6)]) fun x4_9 =>
  Option.bind (impl_FlipsOk (FlipsT.mk x4_9 x1_1.Signalled (wr (x1_1.Next + 1)) x1_1.Events)) fun x6_1 =>
  ifO (!x6_1)
  (Option.bind (impl_copyFlips f_p0) fun x7_1 =>
  some (x7_1, false))
  (some ((FlipsT.mk x4_9 x1_1.Signalled (wr (x1_1.Next + 1)) x1_1.Events), true)))
noncomputable def laws_has_L0 (list_p0 : List Int) (k_p1 : Int) (i_0 : Int) : Option (Int ⊕ (Unit ⊕ Bool)) :=
  ifO (decide (i_0 < (list_p0.length : Int)))
  (Option.bind (idx list_p0 i_0) fun x4_2 =>
  ifO (decide (x4_2 = k_p1))
  (some (.inr (.inr (true))))
  (some (.inl (wr (i_0 + 1)))))
  (some (.inr (.inl ())))
noncomputable def laws_has (list_p0 : List Int) (k_p1 : Int) : Option Bool :=
  Option.bind (loopO (fun i_0 => laws_has_L0 list_p0 k_p1 i_0) 0) fun y => fork y (fun () => some false) (fun r => some r)
noncomputable def slices_Index_S_int_int_L0 (s_p0 : List Int) (v_p1 : Int) (v_0 : Int) : Option (Int ⊕ (Unit ⊕ Int)) :=
  ifO (decide (v_0 < (s_p0.length : Int)))
  (Option.bind (idx s_p0 v_0) fun x4_3 =>
  ifO (decide (v_p1 = x4_3))
  (some (.inr (.inr (v_0))))
  (some (.inl (wr (v_0 + 1)))))
  (some (.inr (.inl ())))
noncomputable def slices_Index_S_int_int (s_p0 : List Int) (v_p1 : Int) : Option Int :=
  Option.bind (loopO (fun v_0 => slices_Index_S_int_int_L0 s_p0 v_p1 v_0) 0) fun y => fork y (fun () => some (-1)) (fun r => some r)
noncomputable def slices_Contains_S_int_int (s_p0 : List Int) (v_p1 : Int) : Option Bool :=
  Option.bind (slices_Index_S_int_int s_p0 v_p1) fun x1_2 =>
  some (decide (0 ≤ x1_2))
noncomputable def impl_FlipReady (f_p0 : FlipsT) : Option Bool :=
  Option.bind (impl_FlipsOk f_p0) fun x1_1 =>
  Option.bind (andO (x1_1 && (decide (0 < (f_p0.Pending.length : Int)))) (Option.bind (idx f_p0.Pending 0) fun x1_11 =>
  Option.bind (orO (decide (x1_11.Fence = 0)) (Option.bind (idx f_p0.Pending 0) fun x1_20 =>
  Option.bind (slices_Contains_S_int_int f_p0.Signalled x1_20.Fence) fun x1_23 =>
  some x1_23)) fun q1_24 =>
  some q1_24)) fun q1_25 =>
  some q1_25
noncomputable def impl_TakeFlip (f_p0 : FlipsT) (c_p1 : CrtcT) : Option (FlipsT × CrtcT × Bool) :=
  Option.bind (impl_copyFlips f_p0) fun x1_1 =>
  Option.bind (impl_FlipReady f_p0) fun x2_1 =>
  ifO (!x2_1)
  (Option.bind (impl_copyCrtc c_p1) fun x3_2 =>
  some (x1_1, x3_2, false))
  (Option.bind (idx x1_1.Pending 0) fun x4_2 =>
  Option.bind (subO x1_1.Pending 1 x1_1.Pending.length) fun x5_2 =>
  Option.bind (app x1_1.Events [x4_2.Seq]) fun x6_5 =>
  some ((FlipsT.mk x5_2 x1_1.Signalled x1_1.Next x6_5), x4_2.State, true))
noncomputable def spec_l05At (i_p0 : ImageT) (x_p1 : Int) (y_p2 : Int) : Option Int :=
  ifO ((((decide (x_p1 < 0)) || (decide (i_p0.W ≤ x_p1))) || (decide (y_p2 < 0))) || (decide (i_p0.H ≤ y_p2)))
  (some (-1))
  (Option.bind (idx i_p0.Data (wr ((wr (y_p2 * i_p0.W)) + x_p1))) fun x3_8 =>
  some x3_8)
noncomputable def spec_Over_L0 (top_p0 : Int) (bottom_p1 : Int) (x3_1 : Int) (out_0 : Int) (k_0 : Int) : Option ((Int × Int) ⊕ Int) :=
  ifO (decide (k_0 ≤ 3))
  (Option.bind (spec_ChannelOf top_p0 k_0) fun x8_4 =>
  Option.bind (spec_Part x8_4 x3_1) fun x8_6 =>
  Option.bind (spec_ChannelOf bottom_p1 k_0) fun x8_10 =>
  Option.bind (spec_Part x8_10 (wr (255 - x3_1))) fun x8_13 =>
  some (.inl ((wr ((wr ((shl out_0 8) + x8_6)) + x8_13)), (wr (k_0 + 1)))))
  (some (.inr out_0))
noncomputable def spec_Over (top_p0 : Int) (bottom_p1 : Int) : Option Int :=
  Option.bind (spec_l04Pixel top_p0) fun x1_1 =>
  Option.bind (orO (!x1_1) (Option.bind (spec_l04Pixel bottom_p1) fun x1_5 =>
  some (!x1_5))) fun q1_7 =>
  ifO q1_7
  (some (-1))
  (Option.bind (spec_ChannelOf top_p0 0) fun x3_1 =>
  Option.bind (loopO (fun (out_0, k_0) => spec_Over_L0 top_p0 bottom_p1 x3_1 out_0 k_0) (255, 1)) fun out_0e =>
  some out_0e)
noncomputable def spec_l20Out_L3 (a_p0 : List PlaneT) (a_p1 : Int) (v_0 : Int) (x5_4a : ImageT) (v_2 : Int) (x_3 : List Int) (v_3 : Int) : Option (((List Int) × Int) ⊕ (List Int)) :=
  ifO (decide (v_3 < a_p1))
  (Option.bind (Option.bind (idx a_p0 v_0) fun x13_4 =>
  Option.bind (idx a_p0 v_0) fun x13_11 =>
  Option.bind (spec_l05At x5_4a (wr (v_3 - x13_4.X)) (wr (v_2 - x13_11.Y))) fun x13_15 =>
  ifO (decide (0 ≤ x13_15))
  (Option.bind (idx x_3 (wr ((wr (v_2 * a_p1)) + v_3))) fun x15_15 =>
  Option.bind (spec_Over x13_15 x15_15) fun x15_17 =>
  Option.bind (upd x_3 (wr ((wr (v_2 * a_p1)) + v_3)) x15_17) fun x15_19 =>
  some x15_19)
  (some x_3)) fun x_4j =>
  some (.inl (x_4j, (wr (v_3 + 1)))))
  (some (.inr x_3))
noncomputable def spec_l20Out_L2 (a_p0 : List PlaneT) (a_p1 : Int) (a_p2 : Int) (v_0 : Int) (x5_4a : ImageT) (x_2 : List Int) (v_2 : Int) : Option (((List Int) × Int) ⊕ (List Int)) :=
  ifO (decide (v_2 < a_p2))
  (Option.bind (loopO (fun (x_3, v_3) => spec_l20Out_L3 a_p0 a_p1 v_0 x5_4a v_2 x_3 v_3) (x_2, 0)) fun x_3e =>
  some (.inl (x_3e, (wr (v_2 + 1)))))
  (some (.inr x_2))
noncomputable def spec_l20Out_L0 (a_p0 : List PlaneT) (a_p1 : Int) (a_p2 : Int) (x_0 : List Int) (v_0 : Int) : Option (((List Int) × Int) ⊕ (List Int)) :=
  ifO (decide (v_0 < (a_p0.length : Int)))
  (Option.bind (Option.bind (idx a_p0 v_0) fun x5_2 =>
  Option.bind (spec_PlaneImage x5_2) fun (x5_4a, x5_4b) =>
  ifO (!x5_4b)
  (some x_0)
  (Option.bind (loopO (fun (x_2, v_2) => spec_l20Out_L2 a_p0 a_p1 a_p2 v_0 x5_4a x_2 v_2) (x_0, 0)) fun x_2e =>
  some x_2e)) fun x_1j =>
  some (.inl (x_1j, (wr (v_0 + 1)))))
  (some (.inr x_0))
noncomputable def spec_l20Out (a_p0 : List PlaneT) (a_p1 : Int) (a_p2 : Int) : Option ImageT :=
  Option.bind (idx a_p0 0) fun x1_1 =>
  Option.bind (spec_PlaneImage x1_1) fun (x1_3a, x1_3b) =>
  Option.bind (loopO (fun (x_0, v_0) => spec_l20Out_L0 a_p0 a_p1 a_p2 x_0 v_0) (x1_3a.Data, 1)) fun x_0e =>
  some (ImageT.mk x1_3a.W x1_3a.H x_0e)
noncomputable def spec_ScanPixel (list_p0 : List PlaneT) (w_p1 : Int) (h_p2 : Int) (x_p3 : Int) (y_p4 : Int) : Option Int :=
  Option.bind (spec_PlanesOk list_p0 w_p1 h_p2) fun x1_3 =>
  ifO (!x1_3)
  (some (-1))
  (Option.bind (spec_l20Out list_p0 w_p1 h_p2) fun x3_3 =>
  Option.bind (spec_l05At x3_3 x_p3 y_p4) fun x3_6 =>
  some x3_6)
noncomputable def spec_l22SameColor (a_p0 : ColorMapT) (b_p1 : ColorMapT) : Option Bool :=
  Option.bind (spec_l05Ints a_p0.Matrix b_p1.Matrix) fun x1_4 =>
  Option.bind (andO x1_4 (Option.bind (spec_l05Ints a_p0.Curve b_p1.Curve) fun x1_10 =>
  some x1_10)) fun q1_11 =>
  some q1_11
noncomputable def spec_l22SamePlane (a_p0 : PlaneT) (a_p1 : PlaneT) : Option Bool :=
  Option.bind (andO ((((((((((a_p0.On == a_p1.On) && (decide (a_p0.X = a_p1.X))) && (decide (a_p0.Y = a_p1.Y))) && (decide (a_p0.W = a_p1.W))) && (decide (a_p0.H = a_p1.H))) && (decide (a_p0.Layout = a_p1.Layout))) && (decide (a_p0.Alpha = a_p1.Alpha))) && (decide (a_p0.Orient = a_p1.Orient))) && (decide (a_p0.ToW = a_p1.ToW))) && (decide (a_p0.ToH = a_p1.ToH))) (Option.bind (spec_l05Ints a_p0.Words a_p1.Words) fun x1_73 =>
  some x1_73)) fun q1_74 =>
  some q1_74
noncomputable def spec_SameCrtc_L0 (a_p0 : CrtcT) (b_p1 : CrtcT) (k_0 : Int) : Option (Int ⊕ (Unit ⊕ Bool)) :=
  ifO (decide (k_0 < (a_p0.Planes.length : Int)))
  (Option.bind (idx a_p0.Planes k_0) fun x6_3 =>
  Option.bind (idx b_p1.Planes k_0) fun x6_8 =>
  Option.bind (spec_l22SamePlane x6_3 x6_8) fun x6_10 =>
  ifO (!x6_10)
  (some (.inr (.inr (false))))
  (some (.inl (wr (k_0 + 1)))))
  (some (.inr (.inl ())))
noncomputable def spec_SameCrtc (a_p0 : CrtcT) (b_p1 : CrtcT) : Option Bool :=
  Option.bind (orO (((!decide (a_p0.W = b_p1.W)) || (!decide (a_p0.H = b_p1.H))) || (!decide ((a_p0.Planes.length : Int) = (b_p1.Planes.length : Int)))) (Option.bind (spec_l22SameColor a_p0.Color b_p1.Color) fun x1_26 =>
  some (!x1_26))) fun q1_28 =>
  ifO q1_28
  (some false)
  (Option.bind (loopO (fun k_0 => spec_SameCrtc_L0 a_p0 b_p1 k_0) 0) fun y => fork y (fun () => some true) (fun r => some r))
noncomputable def laws_btoi (b_p0 : Bool) : Option Int :=
  ifO b_p0
  (some 1)
  (some 0)
noncomputable def laws_get (list_p0 : List Int) (i_p1 : Int) : Option Int :=
  ifO ((decide (i_p1 < 0)) || (decide ((list_p0.length : Int) ≤ i_p1)))
  (some (-99))
  (Option.bind (idx list_p0 i_p1) fun x3_2 =>
  some x3_2)
noncomputable def laws_FnFlipsOnce_L1 (x3_0e : List Int) (v1_0e : Int) (v_1 : Int) : Option (Int ⊕ (Unit ⊕ Bool)) :=
  ifO (decide (v_1 < v1_0e))
  (Option.bind (laws_get x3_0e v_1) fun x34_3 =>
  ifO (!decide (x34_3 = v_1))
  (some (.inr (.inr (false))))
  (some (.inl (wr (v_1 + 1)))))
  (some (.inr (.inl ())))
noncomputable def laws_FnFlipsOnce_L0 (a_p0 : List Int) (x_0 : List FlipT) (x1_0 : List Int) (x2_0 : Int) (x3_0 : List Int) (x4_0 : Int) (x5_0 : Int) (x6_0 : List PlaneT) (x7_0 : List Int) (x8_0 : List Int) (v_0 : List Int) (v1_0 : Int) (v2_0 : Int) : Option (((List FlipT) × (List Int) × Int × (List Int) × Int × Int × (List PlaneT) × (List Int) × (List Int) × (List Int) × Int × Int) ⊕ (((List FlipT) × (List Int) × Int × (List Int) × (List Int) × Int) ⊕ Bool)) :=
  ifO (decide (v2_0 < 24))
  (Option.bind (laws_at a_p0 v2_0) fun x10_2 =>
  ifO (decide ((Int.tmod x10_2 4) = 0))
  (Option.bind (impl_SignalFence (FlipsT.mk x_0 x1_0 x2_0 x3_0) (wr (1 + (Int.tmod (wr (Int.tdiv x10_2 4)) 3)))) fun x21_5 =>
  some (.inl (x21_5.Pending, x21_5.Signalled, x21_5.Next, x21_5.Events, x4_0, x5_0, x6_0, x7_0, x8_0, v_0, v1_0, (wr (v2_0 + 1)))))
  (ifO (decide ((Int.tmod x10_2 4) = 1))
  (ifO (decide ((Int.tmod x10_2 4) = 1))
  (Option.bind (spec_BlankCrtc 2 2 (wr (4278190081 + (v_0.length : Int)))) fun (x24_3a, x24_3b) =>
  Option.bind (impl_QueueFlip (FlipsT.mk x_0 x1_0 x2_0 x3_0) x24_3a (Int.tmod (wr (Int.tdiv x10_2 4)) 4)) fun (x25_5a, x25_5b) =>
  ifO (!(x25_5b == (decide ((wr ((v_0.length : Int) - v1_0)) < 2))))
  (some (.inr (.inr (false))))
  (ifO x25_5b
  (Option.bind (app v_0 [(Int.tmod (wr (Int.tdiv x10_2 4)) 4)]) fun x29_5 =>
  some (.inl (x25_5a.Pending, x25_5a.Signalled, x25_5a.Next, x25_5a.Events, x4_0, x5_0, x6_0, x7_0, x8_0, x29_5, v1_0, (wr (v2_0 + 1)))))
  (some (.inl (x25_5a.Pending, x25_5a.Signalled, x25_5a.Next, x25_5a.Events, x4_0, x5_0, x6_0, x7_0, x8_0, v_0, v1_0, (wr (v2_0 + 1)))))))
  (Option.bind (andO (decide (v1_0 < (v_0.length : Int))) (Option.bind (idx v_0 v1_0) fun x12_7 =>
  Option.bind (orO (decide (x12_7 = 0)) (Option.bind (idx v_0 v1_0) fun x12_15 =>
  Option.bind (laws_has x1_0 x12_15) fun x12_17 =>
  some x12_17)) fun q12_18 =>
  some q12_18)) fun q12_19 =>
  Option.bind (impl_FlipReady (FlipsT.mk x_0 x1_0 x2_0 x3_0)) fun x13_1 =>
  Option.bind (impl_TakeFlip (FlipsT.mk x_0 x1_0 x2_0 x3_0) (CrtcT.mk x4_0 x5_0 x6_0 (ColorMapT.mk x7_0 x8_0))) fun (x14_2a, x14_2b, x14_2c) =>
  Option.bind (orO ((!(x14_2c == q12_19)) || (!(x13_1 == q12_19))) (Option.bind (andO x14_2c (Option.bind (spec_ScanPixel x14_2b.Planes 2 2 0 0) fun x15_13 =>
  some (!decide (x15_13 = (wr (4278190081 + v1_0)))))) fun q15_17 =>
  some q15_17)) fun q15_18 =>
  Option.bind (orO q15_18 (Option.bind (andO (!x14_2c) (Option.bind (spec_SameCrtc x14_2b (CrtcT.mk x4_0 x5_0 x6_0 (ColorMapT.mk x7_0 x8_0))) fun x15_25 =>
  some (!x15_25))) fun q15_27 =>
  some q15_27)) fun q15_28 =>
  ifO q15_28
  (some (.inr (.inr (false))))
  (Option.bind (laws_btoi x14_2c) fun x17_2 =>
  some (.inl (x14_2a.Pending, x14_2a.Signalled, x14_2a.Next, x14_2a.Events, x14_2b.W, x14_2b.H, x14_2b.Planes, x14_2b.Color.Matrix, x14_2b.Color.Curve, v_0, (wr (v1_0 + x17_2)), (wr (v2_0 + 1)))))))
  (ifO (decide ((Int.tmod x10_2 4) = 2))
  (Option.bind (spec_BlankCrtc 2 2 (wr (4278190081 + (v_0.length : Int)))) fun (x24_3a, x24_3b) =>
  Option.bind (impl_QueueFlip (FlipsT.mk x_0 x1_0 x2_0 x3_0) x24_3a (Int.tmod (wr (Int.tdiv x10_2 4)) 4)) fun (x25_5a, x25_5b) =>
  ifO (!(x25_5b == (decide ((wr ((v_0.length : Int) - v1_0)) < 2))))
  (some (.inr (.inr (false))))
  (ifO x25_5b
  (Option.bind (app v_0 [(Int.tmod (wr (Int.tdiv x10_2 4)) 4)]) fun x29_5 =>
  some (.inl (x25_5a.Pending, x25_5a.Signalled, x25_5a.Next, x25_5a.Events, x4_0, x5_0, x6_0, x7_0, x8_0, x29_5, v1_0, (wr (v2_0 + 1)))))
  (some (.inl (x25_5a.Pending, x25_5a.Signalled, x25_5a.Next, x25_5a.Events, x4_0, x5_0, x6_0, x7_0, x8_0, v_0, v1_0, (wr (v2_0 + 1)))))))
  (Option.bind (andO (decide (v1_0 < (v_0.length : Int))) (Option.bind (idx v_0 v1_0) fun x12_7 =>
  Option.bind (orO (decide (x12_7 = 0)) (Option.bind (idx v_0 v1_0) fun x12_15 =>
  Option.bind (laws_has x1_0 x12_15) fun x12_17 =>
  some x12_17)) fun q12_18 =>
  some q12_18)) fun q12_19 =>
  Option.bind (impl_FlipReady (FlipsT.mk x_0 x1_0 x2_0 x3_0)) fun x13_1 =>
  Option.bind (impl_TakeFlip (FlipsT.mk x_0 x1_0 x2_0 x3_0) (CrtcT.mk x4_0 x5_0 x6_0 (ColorMapT.mk x7_0 x8_0))) fun (x14_2a, x14_2b, x14_2c) =>
  Option.bind (orO ((!(x14_2c == q12_19)) || (!(x13_1 == q12_19))) (Option.bind (andO x14_2c (Option.bind (spec_ScanPixel x14_2b.Planes 2 2 0 0) fun x15_13 =>
  some (!decide (x15_13 = (wr (4278190081 + v1_0)))))) fun q15_17 =>
  some q15_17)) fun q15_18 =>
  Option.bind (orO q15_18 (Option.bind (andO (!x14_2c) (Option.bind (spec_SameCrtc x14_2b (CrtcT.mk x4_0 x5_0 x6_0 (ColorMapT.mk x7_0 x8_0))) fun x15_25 =>
  some (!x15_25))) fun q15_27 =>
  some q15_27)) fun q15_28 =>
  ifO q15_28
  (some (.inr (.inr (false))))
  (Option.bind (laws_btoi x14_2c) fun x17_2 =>
  some (.inl (x14_2a.Pending, x14_2a.Signalled, x14_2a.Next, x14_2a.Events, x14_2b.W, x14_2b.H, x14_2b.Planes, x14_2b.Color.Matrix, x14_2b.Color.Curve, v_0, (wr (v1_0 + x17_2)), (wr (v2_0 + 1)))))))))
  (some (.inr (.inl (x_0, x1_0, x2_0, x3_0, v_0, v1_0))))
noncomputable def laws_FnFlipsOnce (a_p0 : List Int) : Option Bool :=
  Option.bind (laws_big a_p0) fun x1_1 =>
  ifO x1_1
  (some true)
  (Option.bind (spec_BlankCrtc 2 2 4278190080) fun (x4_0a, x4_0b) =>
  Option.bind (loopO (fun (x_0, x1_0, x2_0, x3_0, x4_0, x5_0, x6_0, x7_0, x8_0, v_0, v1_0, v2_0) => laws_FnFlipsOnce_L0 a_p0 x_0 x1_0 x2_0 x3_0 x4_0 x5_0 x6_0 x7_0 x8_0 v_0 v1_0 v2_0) ([], [], 0, [], x4_0a.W, x4_0a.H, x4_0a.Planes, x4_0a.Color.Matrix, x4_0a.Color.Curve, ([] : List Int), 0, 0)) fun y => fork y (fun (x_0e, x1_0e, x2_0e, x3_0e, v_0e, v1_0e) => Option.bind (loopO (fun v_1 => laws_FnFlipsOnce_L1 x3_0e v1_0e v_1) 0) fun y => fork y (fun () => Option.bind (andO (decide ((x3_0e.length : Int) = v1_0e)) (Option.bind (impl_FlipsOk (FlipsT.mk x_0e x1_0e x2_0e x3_0e)) fun x36_7 =>
  some x36_7)) fun q36_8 =>
  some (q36_8 && (decide (x2_0e = (v_0e.length : Int))))) (fun r => some r)) (fun r => some r))
noncomputable def spec_l19Copy (p_p0 : PlaneT) : Option PlaneT :=
  Option.bind (app ([] : List Int) p_p0.Words) fun x1_3 =>
  some (PlaneT.mk p_p0.On p_p0.X p_p0.Y p_p0.W p_p0.H p_p0.Layout x1_3 p_p0.Alpha p_p0.Orient p_p0.ToW p_p0.ToH)
noncomputable def spec_l19CopyAll_L0 (list_p0 : List PlaneT) (out_0 : List PlaneT) (k_0 : Int) : Option (((List PlaneT) × Int) ⊕ (List PlaneT)) :=
  ifO (decide (k_0 < (list_p0.length : Int)))
  (Option.bind (idx list_p0 k_0) fun x5_3 =>
  Option.bind (spec_l19Copy x5_3) fun x5_5 =>
  Option.bind (app out_0 [x5_5]) fun x5_7 =>
  some (.inl (x5_7, (wr (k_0 + 1)))))
  (some (.inr out_0))
noncomputable def spec_l19CopyAll (list_p0 : List PlaneT) : Option (List PlaneT) :=
  Option.bind (loopO (fun (out_0, k_0) => spec_l19CopyAll_L0 list_p0 out_0 k_0) (([] : List PlaneT), 0)) fun out_0e =>
  some out_0e
noncomputable def spec_l22CopyColor (m_p0 : ColorMapT) : Option ColorMapT :=
  Option.bind (app ([] : List Int) m_p0.Matrix) fun x1_3 =>
  Option.bind (app ([] : List Int) m_p0.Curve) fun x1_7 =>
  some (ColorMapT.mk x1_3 x1_7)
noncomputable def spec_l22Copy (c_p0 : CrtcT) : Option CrtcT :=
  Option.bind (spec_l19CopyAll c_p0.Planes) fun x1_6 =>
  Option.bind (spec_l22CopyColor c_p0.Color) fun x1_9 =>
  some (CrtcT.mk c_p0.W c_p0.H x1_6 x1_9)
noncomputable def spec_l23CopyFlip (x_p0 : FlipT) : Option FlipT :=
  Option.bind (spec_l22Copy x_p0.State) fun x1_6 =>
  some (FlipT.mk x_p0.Seq x_p0.Fence x1_6)
noncomputable def spec_l23Copy_L0 (f_p0 : FlipsT) (out_0 : List FlipT) (k_0 : Int) : Option (((List FlipT) × Int) ⊕ (List FlipT)) :=
  ifO (decide (k_0 < (f_p0.Pending.length : Int)))
  (Option.bind (idx f_p0.Pending k_0) fun x5_5 =>
  Option.bind (spec_l23CopyFlip x5_5) fun x5_7 =>
  Option.bind (app out_0 [x5_7]) fun x5_9 =>
  some (.inl (x5_9, (wr (k_0 + 1)))))
  (some (.inr out_0))
noncomputable def spec_l23Copy (f_p0 : FlipsT) : Option FlipsT :=
  Option.bind (app ([] : List Int) f_p0.Signalled) fun x1_3 =>
  Option.bind (app ([] : List Int) f_p0.Events) fun x1_9 =>
  Option.bind (loopO (fun (out_0, k_0) => spec_l23Copy_L0 f_p0 out_0 k_0) ([], 0)) fun out_0e =>
  some (FlipsT.mk out_0e x1_3 f_p0.Next x1_9)
noncomputable def spec_FlipsOk_L2 (a_p0 : FlipsT) (v_2 : Int) : Option (Int ⊕ (Unit ⊕ Bool)) :=
  ifO (decide (v_2 < (a_p0.Events.length : Int)))
  (Option.bind (idx a_p0.Events v_2) fun x18_3 =>
  Option.bind (spec_l01In x18_3 0 (wr ((wr (a_p0.Next - (a_p0.Pending.length : Int))) - 1))) fun x18_10 =>
  Option.bind (orO (!x18_10) (Option.bind (andO (decide (0 < v_2)) (Option.bind (idx a_p0.Events v_2) fun x18_19 =>
  Option.bind (idx a_p0.Events (wr (v_2 - 1))) fun x18_25 =>
  some (decide (x18_19 ≤ x18_25)))) fun q18_28 =>
  some q18_28)) fun q18_29 =>
  ifO q18_29
  (some (.inr (.inr (false))))
  (some (.inl (wr (v_2 + 1)))))
  (some (.inr (.inl ())))
noncomputable def spec_FlipsOk_L1 (a_p0 : FlipsT) (v_1 : Int) : Option (Int ⊕ (Unit ⊕ Bool)) :=
  ifO (decide (v_1 < (a_p0.Signalled.length : Int)))
  (Option.bind (idx a_p0.Signalled v_1) fun x13_3 =>
  Option.bind (spec_l01In x13_3 1 8) fun x13_5 =>
  Option.bind (orO (!x13_5) (Option.bind (andO (decide (0 < v_1)) (Option.bind (idx a_p0.Signalled v_1) fun x13_14 =>
  Option.bind (idx a_p0.Signalled (wr (v_1 - 1))) fun x13_20 =>
  some (decide (x13_14 ≤ x13_20)))) fun q13_23 =>
  some q13_23)) fun q13_24 =>
  ifO q13_24
  (some (.inr (.inr (false))))
  (some (.inl (wr (v_1 + 1)))))
  (some (.inr (.inl ())))
noncomputable def spec_FlipsOk_L0 (a_p0 : FlipsT) (v_0 : Int) : Option (Int ⊕ (Unit ⊕ Bool)) :=
  ifO (decide (v_0 < (a_p0.Pending.length : Int)))
  (Option.bind (idx a_p0.Pending v_0) fun x7_3 =>
  Option.bind (spec_CrtcOk x7_3.State) fun x8_2 =>
  Option.bind (orO (((!x8_2) || (!decide (x7_3.Seq = (wr ((wr (a_p0.Next - (a_p0.Pending.length : Int))) + v_0))))) || (decide (x7_3.Seq < 0))) (Option.bind (spec_l01In x7_3.Fence 0 8) fun x8_23 =>
  some (!x8_23))) fun q8_25 =>
  ifO q8_25
  (some (.inr (.inr (false))))
  (some (.inl (wr (v_0 + 1)))))
  (some (.inr (.inl ())))
noncomputable def spec_FlipsOk (a_p0 : FlipsT) : Option Bool :=
  Option.bind (orO (decide (2 < (a_p0.Pending.length : Int))) (Option.bind (spec_l01In a_p0.Next 0 1000000) fun x2_5 =>
  some (!x2_5))) fun q2_7 =>
  ifO q2_7
  (some false)
  (Option.bind (loopO (fun v_0 => spec_FlipsOk_L0 a_p0 v_0) 0) fun y => fork y (fun () => Option.bind (loopO (fun v_1 => spec_FlipsOk_L1 a_p0 v_1) 0) fun y => fork y (fun () => Option.bind (loopO (fun v_2 => spec_FlipsOk_L2 a_p0 v_2) 0) fun y => fork y (fun () => some true) (fun r => some r)) (fun r => some r)) (fun r => some r))
noncomputable def spec_l23Has_L0 (list_p0 : List Int) (k_p1 : Int) (i_0 : Int) : Option (Int ⊕ (Unit ⊕ Bool)) :=
  ifO (decide (i_0 < (list_p0.length : Int)))
  (Option.bind (idx list_p0 i_0) fun x4_2 =>
  ifO (decide (x4_2 = k_p1))
  (some (.inr (.inr (true))))
  (some (.inl (wr (i_0 + 1)))))
  (some (.inr (.inl ())))
noncomputable def spec_l23Has (list_p0 : List Int) (k_p1 : Int) : Option Bool :=
  Option.bind (loopO (fun i_0 => spec_l23Has_L0 list_p0 k_p1 i_0) 0) fun y => fork y (fun () => some false) (fun r => some r)
noncomputable def spec_SignalFence_L0 (f_p0 : FlipsT) (fence_p1 : Int) (k_0 : Int) : Option (Int ⊕ Int) :=
  Option.bind (andO (decide (k_0 < (f_p0.Signalled.length : Int))) (Option.bind (idx f_p0.Signalled k_0) fun x5_9 =>
  some (decide (x5_9 < fence_p1)))) fun q5_13 =>
  ifO q5_13
  (some (.inl (wr (k_0 + 1))))
  (some (.inr k_0))
noncomputable def spec_SignalFence (f_p0 : FlipsT) (fence_p1 : Int) : Option FlipsT :=
  Option.bind (spec_l23Copy f_p0) fun x1_1 =>
  Option.bind (spec_FlipsOk f_p0) fun x2_1 =>
  Option.bind (orO (!x2_1) (Option.bind (spec_l01In fence_p1 1 8) fun x2_5 =>
  some (!x2_5))) fun q2_7 =>
  Option.bind (orO q2_7 (Option.bind (spec_l23Has f_p0.Signalled fence_p1) fun x2_12 =>
  some x2_12)) fun q2_13 =>
  ifO q2_13
  (some x1_1)
  (Option.bind (loopO (fun k_0 => spec_SignalFence_L0 f_p0 fence_p1 k_0) 0) fun k_0e =>
  Option.bind (subO f_p0.Signalled 0 k_0e) fun x7_4 =>
  Option.bind (app ([] : List Int) x7_4) fun x7_5 =>
  Option.bind (app x7_5 [fence_p1]) fun x7_8 =>
  Option.bind (subO f_p0.Signalled k_0e f_p0.Signalled.length) fun x7_12 =>
  Option.bind (app x7_8 x7_12) fun x7_13 =>
  some (FlipsT.mk x1_1.Pending x7_13 x1_1.Next x1_1.Events))
noncomputable def spec_l01New_L0 (code_p0 : List Int) (h_0 : Int) (i_0 : Int) : Option ((Int × Int) ⊕ Int) :=
  ifO ((decide (i_0 < (code_p0.length : Int))) && (decide (i_0 < 4000)))
  (Option.bind (idx code_p0 i_0) fun x5_4 =>
  some (.inl ((and64 (wr ((wr ((wr (h_0 * 131)) + (wr x5_4))) + 7)) 1073741823), (wr (i_0 + 1)))))
  (some (.inr h_0))
noncomputable def spec_l01New (code_p0 : List Int) : Option L01CurT :=
  Option.bind (loopO (fun (h_0, i_0) => spec_l01New_L0 code_p0 h_0 i_0) ((wr (33137 + (code_p0.length : Int))), 0)) fun h_0e =>
  some (L01CurT.mk code_p0 0 h_0e)
noncomputable def spec_l01Byte (c_p0 : L01CurT) : Option (Int × L01CurT) :=
  ifO (decide (c_p0.i < (c_p0.b.length : Int)))
  (Option.bind (idx c_p0.b c_p0.i) fun x4_9 =>
  some ((and64 (wr ((and64 (xor64 (shr (wr ((wr (c_p0.h * 6364136223846793005)) + 1442695040888963407)) 33) (shr (wr ((wr (c_p0.h * 6364136223846793005)) + 1442695040888963407)) 45)) 255) + (wr x4_9))) 255), (L01CurT.mk c_p0.b (wr (c_p0.i + 1)) (wr ((wr (c_p0.h * 6364136223846793005)) + 1442695040888963407)))))
  (some ((and64 (xor64 (shr (wr ((wr (c_p0.h * 6364136223846793005)) + 1442695040888963407)) 33) (shr (wr ((wr (c_p0.h * 6364136223846793005)) + 1442695040888963407)) 45)) 255), (L01CurT.mk c_p0.b c_p0.i (wr ((wr (c_p0.h * 6364136223846793005)) + 1442695040888963407)))))
noncomputable def spec_l01Below (c_p0 : L01CurT) (n_p1 : Int) : Option (Int × L01CurT) :=
  ifO (decide (n_p1 ≤ 0))
  (some (0, c_p0))
  (ifO (decide (n_p1 ≤ 256))
  (Option.bind (spec_l01Byte c_p0) fun (x4_1a, x4_1b) =>
  Option.bind (remO x4_1a n_p1) fun x4_3 =>
  some (x4_3, (L01CurT.mk c_p0.b x4_1b.i x4_1b.h)))
  (Option.bind (spec_l01Byte c_p0) fun (x5_1a, x5_1b) =>
  Option.bind (spec_l01Byte (L01CurT.mk c_p0.b x5_1b.i x5_1b.h)) fun (x6_1a, x6_1b) =>
  Option.bind (spec_l01Byte (L01CurT.mk c_p0.b x6_1b.i x6_1b.h)) fun (x7_1a, x7_1b) =>
  Option.bind (spec_l01Byte (L01CurT.mk c_p0.b x7_1b.i x7_1b.h)) fun (x8_1a, x8_1b) =>
  Option.bind (remO (wr ((wr ((wr ((wr (x5_1a * 16777216)) + (wr (x6_1a * 65536)))) + (wr (x7_1a * 256)))) + x8_1a)) n_p1) fun x9_11 =>
  some (x9_11, (L01CurT.mk c_p0.b x8_1b.i x8_1b.h))))
noncomputable def spec_l01PickInt (c_p0 : L01CurT) (list_p1 : List Int) : Option (Int × L01CurT) :=
  Option.bind (spec_l01Below c_p0 (list_p1.length : Int)) fun (x1_4a, x1_4b) =>
  Option.bind (idx list_p1 x1_4a) fun x1_5 =>
  some (x1_5, (L01CurT.mk c_p0.b x1_4b.i x1_4b.h))
noncomputable def spec_l04Byte (c_p0 : L01CurT) : Option (Int × L01CurT) :=
  Option.bind (spec_l01Below c_p0 256) fun (x1_2a, x1_2b) =>
  Option.bind (spec_l01PickInt (L01CurT.mk c_p0.b x1_2b.i x1_2b.h) [0, 255, 127, 128, 1, 254, x1_2a]) fun (x1_4a, x1_4b) =>
  some (x1_4a, (L01CurT.mk c_p0.b x1_4b.i x1_4b.h))
noncomputable def spec_MakePixel (a_p0 : Int) (r_p1 : Int) (g_p2 : Int) (b_p3 : Int) : Option Int :=
  Option.bind (spec_l01In a_p0 0 255) fun x1_1 =>
  Option.bind (orO (!x1_1) (Option.bind (spec_l01In r_p1 0 255) fun x1_5 =>
  some (!x1_5))) fun q1_7 =>
  Option.bind (orO q1_7 (Option.bind (spec_l01In g_p2 0 255) fun x1_10 =>
  some (!x1_10))) fun q1_12 =>
  Option.bind (orO q1_12 (Option.bind (spec_l01In b_p3 0 255) fun x1_15 =>
  some (!x1_15))) fun q1_17 =>
  ifO q1_17
  (some (-1))
  (some (wr ((wr ((wr ((shl a_p0 24) + (shl r_p1 16))) + (shl g_p2 8))) + b_p3)))
noncomputable def spec_l04Draw (c_p0 : L01CurT) : Option (Int × L01CurT) :=
  Option.bind (spec_l01Below c_p0 256) fun (x1_2a, x1_2b) =>
  Option.bind (spec_l01PickInt (L01CurT.mk c_p0.b x1_2b.i x1_2b.h) [255, 255, 255, 0, 128, 200, x1_2a]) fun (x1_4a, x1_4b) =>
  Option.bind (spec_l04Byte (L01CurT.mk c_p0.b x1_4b.i x1_4b.h)) fun (x2_1a, x2_1b) =>
  Option.bind (spec_l04Byte (L01CurT.mk c_p0.b x2_1b.i x2_1b.h)) fun (x3_1a, x3_1b) =>
  Option.bind (spec_l04Byte (L01CurT.mk c_p0.b x3_1b.i x3_1b.h)) fun (x4_4a, x4_4b) =>
  Option.bind (spec_MakePixel x1_4a x2_1a x3_1a x4_4a) fun x4_5 =>
  some (x4_5, (L01CurT.mk c_p0.b x4_4b.i x4_4b.h))
noncomputable def spec_l02Rect (c_p0 : L01CurT) : Option (RectT × L01CurT) :=
  Option.bind (spec_l01Below c_p0 20) fun (x1_1a, x1_1b) =>
  Option.bind (spec_l01Below (L01CurT.mk c_p0.b x1_1b.i x1_1b.h) 16) fun (x1_4a, x1_4b) =>
  Option.bind (spec_l01Below (L01CurT.mk c_p0.b x1_4b.i x1_4b.h) 12) fun (x1_7a, x1_7b) =>
  Option.bind (spec_l01Below (L01CurT.mk c_p0.b x1_7b.i x1_7b.h) 10) fun (x1_9a, x1_9b) =>
  some ((RectT.mk (wr (x1_1a - 4)) (wr (x1_4a - 4)) x1_7a x1_9a), (L01CurT.mk c_p0.b x1_9b.i x1_9b.h))
noncomputable def spec_l05Copy (i_p0 : ImageT) : Option ImageT :=
  Option.bind (app ([] : List Int) i_p0.Data) fun x1_7 =>
  some (ImageT.mk i_p0.W i_p0.H x1_7)
noncomputable def spec_RectOk (r_p0 : RectT) : Option Bool :=
  Option.bind (spec_l01In r_p0.X (-1000) 1000) fun x1_2 =>
  Option.bind (andO x1_2 (Option.bind (spec_l01In r_p0.Y (-1000) 1000) fun x1_6 =>
  some x1_6)) fun q1_7 =>
  Option.bind (andO q1_7 (Option.bind (spec_l01In r_p0.W 0 1000) fun x1_11 =>
  some x1_11)) fun q1_12 =>
  Option.bind (andO q1_12 (Option.bind (spec_l01In r_p0.H 0 1000) fun x1_16 =>
  some x1_16)) fun q1_17 =>
  some q1_17
noncomputable def spec_Intersect (a_p0 : RectT) (a_p1 : RectT) : Option RectT :=
  Option.bind (spec_RectOk a_p0) fun x1_1 =>
  Option.bind (orO (!x1_1) (Option.bind (spec_RectOk a_p1) fun x1_5 =>
  some (!x1_5))) fun q1_7 =>
  ifO q1_7
  (some (RectT.mk 0 0 0 0))
  (ifO ((decide ((wr ((min (wr (a_p0.X + a_p0.W)) (wr (a_p1.X + a_p1.W))) - (max a_p0.X a_p1.X))) ≤ 0)) || (decide ((wr ((min (wr (a_p0.Y + a_p0.H)) (wr (a_p1.Y + a_p1.H))) - (max a_p0.Y a_p1.Y))) ≤ 0)))
  (some (RectT.mk 0 0 0 0))
  (some (RectT.mk (max a_p0.X a_p1.X) (max a_p0.Y a_p1.Y) (wr ((min (wr (a_p0.X + a_p0.W)) (wr (a_p1.X + a_p1.W))) - (max a_p0.X a_p1.X))) (wr ((min (wr (a_p0.Y + a_p0.H)) (wr (a_p1.Y + a_p1.H))) - (max a_p0.Y a_p1.Y))))))
noncomputable def spec_FillRect_L1 (a_p0 : ImageT) (a_p2 : Int) (x4_6 : RectT) (v_0 : Int) (x_1 : List Int) (v_1 : Int) : Option (((List Int) × Int) ⊕ (List Int)) :=
  ifO (decide (v_1 < (wr (x4_6.X + x4_6.W))))
  (Option.bind (upd x_1 (wr ((wr (v_0 * a_p0.W)) + v_1)) a_p2) fun x11_10 =>
  some (.inl (x11_10, (wr (v_1 + 1)))))
  (some (.inr x_1))
noncomputable def spec_FillRect_L0 (a_p0 : ImageT) (a_p2 : Int) (x4_6 : RectT) (x_0 : List Int) (v_0 : Int) : Option (((List Int) × Int) ⊕ (List Int)) :=
  ifO (decide (v_0 < (wr (x4_6.Y + x4_6.H))))
  (Option.bind (loopO (fun (x_1, v_1) => spec_FillRect_L1 a_p0 a_p2 x4_6 v_0 x_1 v_1) (x_0, x4_6.X)) fun x_1e =>
  some (.inl (x_1e, (wr (v_0 + 1)))))
  (some (.inr x_0))
noncomputable def spec_FillRect (a_p0 : ImageT) (a_p1 : RectT) (a_p2 : Int) : Option ImageT :=
  Option.bind (spec_l05Copy a_p0) fun x1_1 =>
  Option.bind (spec_ImageOk a_p0) fun x2_1 =>
  Option.bind (orO (!x2_1) (Option.bind (spec_RectOk a_p1) fun x2_5 =>
  some (!x2_5))) fun q2_7 =>
  Option.bind (orO q2_7 (Option.bind (spec_l04Pixel a_p2) fun x2_10 =>
  some (!x2_10))) fun q2_12 =>
  ifO q2_12
  (some x1_1)
  (Option.bind (spec_Intersect a_p1 (RectT.mk 0 0 a_p0.W a_p0.H)) fun x4_6 =>
  Option.bind (loopO (fun (x_0, v_0) => spec_FillRect_L0 a_p0 a_p2 x4_6 x_0 v_0) (x1_1.Data, x4_6.Y)) fun x_0e =>
  some (ImageT.mk x1_1.W x1_1.H x_0e))
noncomputable def spec_l01Once (c_p0 : L01CurT) (n_p1 : Int) : Option (Bool × L01CurT) :=
  Option.bind (spec_l01Below c_p0 n_p1) fun (x1_2a, x1_2b) =>
  some ((decide (x1_2a = 0)), (L01CurT.mk c_p0.b x1_2b.i x1_2b.h))
noncomputable def spec_l05Image_L0 (c_p0 : L01CurT) (x1_2a : Int) (x2_2a : Int) (c_0 : Int) (c1_0 : Int) (i_0 : Int) (i1_0 : Int) (i2_0 : List Int) (k_0 : Int) : Option ((Int × Int × Int × Int × (List Int) × Int) ⊕ (Int × Int × (List Int) × Int × Int)) :=
  ifO (decide (0 < k_0))
  (Option.bind (spec_l01Below (L01CurT.mk c_p0.b c_0 c1_0) (wr (1 + x1_2a))) fun (x7_3a, x7_3b) =>
  Option.bind (spec_l01Below (L01CurT.mk c_p0.b x7_3b.i x7_3b.h) (wr (1 + x2_2a))) fun (x7_6a, x7_6b) =>
  Option.bind (spec_l01Below (L01CurT.mk c_p0.b x7_6b.i x7_6b.h) 4) fun (x7_8a, x7_8b) =>
  Option.bind (spec_l01Below (L01CurT.mk c_p0.b x7_8b.i x7_8b.h) 4) fun (x7_11a, x7_11b) =>
  Option.bind (spec_l04Draw (L01CurT.mk c_p0.b x7_11b.i x7_11b.h)) fun (x7_15a, x7_15b) =>
  Option.bind (spec_FillRect (ImageT.mk i_0 i1_0 i2_0) (RectT.mk x7_3a x7_6a (wr (1 + x7_8a)) (wr (1 + x7_11a))) x7_15a) fun x7_16 =>
  some (.inl (x7_15b.i, x7_15b.h, x7_16.W, x7_16.H, x7_16.Data, (wr (k_0 - 1)))))
  (some (.inr (i_0, i1_0, i2_0, c_0, c1_0)))
noncomputable def spec_l05Image (c_p0 : L01CurT) (most_p1 : Int) : Option (ImageT × L01CurT) :=
  Option.bind (spec_l01Below c_p0 most_p1) fun (x1_2a, x1_2b) =>
  Option.bind (spec_l01Below (L01CurT.mk c_p0.b x1_2b.i x1_2b.h) most_p1) fun (x2_2a, x2_2b) =>
  Option.bind (spec_l04Draw (L01CurT.mk c_p0.b x2_2b.i x2_2b.h)) fun (x3_3a, x3_3b) =>
  Option.bind (spec_NewImage (wr (1 + x1_2a)) (wr (1 + x2_2a)) x3_3a) fun x3_4 =>
  Option.bind (spec_l01Below (L01CurT.mk c_p0.b x3_3b.i x3_3b.h) 4) fun (x4_1a, x4_1b) =>
  Option.bind (loopO (fun (c_0, c1_0, i_0, i1_0, i2_0, k_0) => spec_l05Image_L0 c_p0 x1_2a x2_2a c_0 c1_0 i_0 i1_0 i2_0 k_0) (x4_1b.i, x4_1b.h, x3_4.W, x3_4.H, x3_4.Data, x4_1a)) fun (i_0e, i1_0e, i2_0e, c_0e, c1_0e) =>
  some ((ImageT.mk i_0e i1_0e i2_0e), (L01CurT.mk c_p0.b c_0e c1_0e))
noncomputable def spec_l19Planes_L0 (a_p0 : L01CurT) (x_0 : Int) (x1_0 : Int) (v_0 : List PlaneT) (v1_0 : Int) : Option ((Int × Int × (List PlaneT) × Int) ⊕ ((List PlaneT) × Int × Int)) :=
  ifO (decide (v1_0 < 4))
  (Option.bind (Option.bind (spec_l01Once (L01CurT.mk a_p0.b x_0 x1_0) 3) fun (x8_1a, x8_1b) =>
  ifO (!x8_1a)
  (Option.bind (spec_l05Image (L01CurT.mk a_p0.b x8_1b.i x8_1b.h) 4) fun (x9_1a, x9_1b) =>
  Option.bind (spec_l01Below (L01CurT.mk a_p0.b x9_1b.i x9_1b.h) 10) fun (x9_3a, x9_3b) =>
  Option.bind (spec_l01Below (L01CurT.mk a_p0.b x9_3b.i x9_3b.h) 8) fun (x9_6a, x9_6b) =>
  Option.bind (spec_l01Below (L01CurT.mk a_p0.b x9_6b.i x9_6b.h) 3) fun (x9_9a, x9_9b) =>
  Option.bind (spec_PlaneOf x9_1a (wr (x9_3a - 2)) (wr (x9_6a - 2)) x9_9a) fun x9_10 =>
  ifO (decide (v1_0 < 3))
  (Option.bind (spec_l01PickInt (L01CurT.mk a_p0.b x9_9b.i x9_9b.h) [255, 100]) fun (x11_2a, x11_2b) =>
  Option.bind (spec_l01Below (L01CurT.mk a_p0.b x11_2b.i x11_2b.h) 8) fun (x12_1a, x12_1b) =>
  Option.bind (ifO (decide (v1_0 = 1)) (Option.bind (spec_l01Once (L01CurT.mk a_p0.b x12_1b.i x12_1b.h) 2) fun (x13_4a, x13_4b) =>
  some (x13_4a, x13_4b.i, x13_4b.h)) (some (false, x12_1b.i, x12_1b.h))) fun (q13_5, y13_5_0, y13_5_1) =>
  ifO q13_5
  (Option.bind (spec_l01Below (L01CurT.mk a_p0.b y13_5_0 y13_5_1) 8) fun (x14_1a, x14_1b) =>
  Option.bind (spec_l01Below (L01CurT.mk a_p0.b x14_1b.i x14_1b.h) 8) fun (x15_1a, x15_1b) =>
  Option.bind (app v_0 [(PlaneT.mk x9_10.On x9_10.X x9_10.Y x9_10.W x9_10.H x9_10.Layout x9_10.Words x11_2a x12_1a (wr (1 + x14_1a)) (wr (1 + x15_1a)))]) fun x16_3 =>
  some (x15_1b.i, x15_1b.h, x16_3))
  (Option.bind (app v_0 [(PlaneT.mk x9_10.On x9_10.X x9_10.Y x9_10.W x9_10.H x9_10.Layout x9_10.Words x11_2a x12_1a x9_10.ToW x9_10.ToH)]) fun x16_3 =>
  some (y13_5_0, y13_5_1, x16_3)))
  (Option.bind (app v_0 [x9_10]) fun x16_3 =>
  some (x9_9b.i, x9_9b.h, x16_3)))
  (Option.bind (app v_0 [(PlaneT.mk false 0 0 0 0 0 [] 0 0 0 0)]) fun x16_3 =>
  some (x8_1b.i, x8_1b.h, x16_3))) fun (x_1j, x1_1j, v_1j) =>
  some (.inl (x_1j, x1_1j, v_1j, (wr (v1_0 + 1)))))
  (some (.inr (v_0, x_0, x1_0)))
noncomputable def spec_l19Planes_L2 (a_p0 : L01CurT) (x_2 : Int) (x1_2 : Int) (v_2 : List PlaneT) (v1_2 : Int) : Option ((Int × Int × (List PlaneT) × Int) ⊕ ((List PlaneT) × Int × Int)) :=
  ifO (decide (v1_2 < 4))
  (Option.bind (Option.bind (spec_l01Once (L01CurT.mk a_p0.b x_2 x1_2) 3) fun (x8_1a, x8_1b) =>
  ifO (!x8_1a)
  (Option.bind (spec_l05Image (L01CurT.mk a_p0.b x8_1b.i x8_1b.h) 4) fun (x9_1a, x9_1b) =>
  Option.bind (spec_l01Below (L01CurT.mk a_p0.b x9_1b.i x9_1b.h) 10) fun (x9_3a, x9_3b) =>
  Option.bind (spec_l01Below (L01CurT.mk a_p0.b x9_3b.i x9_3b.h) 8) fun (x9_6a, x9_6b) =>
  Option.bind (spec_l01Below (L01CurT.mk a_p0.b x9_6b.i x9_6b.h) 3) fun (x9_9a, x9_9b) =>
  Option.bind (spec_PlaneOf x9_1a (wr (x9_3a - 2)) (wr (x9_6a - 2)) x9_9a) fun x9_10 =>
  ifO (decide (v1_2 < 3))
  (Option.bind (spec_l01PickInt (L01CurT.mk a_p0.b x9_9b.i x9_9b.h) [255, 100]) fun (x11_2a, x11_2b) =>
  Option.bind (spec_l01Below (L01CurT.mk a_p0.b x11_2b.i x11_2b.h) 8) fun (x12_1a, x12_1b) =>
  Option.bind (ifO (decide (v1_2 = 1)) (Option.bind (spec_l01Once (L01CurT.mk a_p0.b x12_1b.i x12_1b.h) 2) fun (x13_4a, x13_4b) =>
  some (x13_4a, x13_4b.i, x13_4b.h)) (some (false, x12_1b.i, x12_1b.h))) fun (q13_5, y13_5_0, y13_5_1) =>
  ifO q13_5
  (Option.bind (spec_l01Below (L01CurT.mk a_p0.b y13_5_0 y13_5_1) 8) fun (x14_1a, x14_1b) =>
  Option.bind (spec_l01Below (L01CurT.mk a_p0.b x14_1b.i x14_1b.h) 8) fun (x15_1a, x15_1b) =>
  Option.bind (app v_2 [(PlaneT.mk x9_10.On x9_10.X x9_10.Y x9_10.W x9_10.H x9_10.Layout x9_10.Words x11_2a x12_1a (wr (1 + x14_1a)) (wr (1 + x15_1a)))]) fun x16_3 =>
  some (x15_1b.i, x15_1b.h, x16_3))
  (Option.bind (app v_2 [(PlaneT.mk x9_10.On x9_10.X x9_10.Y x9_10.W x9_10.H x9_10.Layout x9_10.Words x11_2a x12_1a x9_10.ToW x9_10.ToH)]) fun x16_3 =>
  some (y13_5_0, y13_5_1, x16_3)))
  (Option.bind (app v_2 [x9_10]) fun x16_3 =>
  some (x9_9b.i, x9_9b.h, x16_3)))
  (Option.bind (app v_2 [(PlaneT.mk false 0 0 0 0 0 [] 0 0 0 0)]) fun x16_3 =>
  some (x8_1b.i, x8_1b.h, x16_3))) fun (x_3j, x1_3j, v_3j) =>
  some (.inl (x_3j, x1_3j, v_3j, (wr (v1_2 + 1)))))
  (some (.inr (v_2, x_2, x1_2)))
noncomputable def spec_l19Planes_L4 (a_p0 : L01CurT) (x_4 : Int) (x1_4 : Int) (v_4 : List PlaneT) (v1_4 : Int) : Option ((Int × Int × (List PlaneT) × Int) ⊕ ((List PlaneT) × Int × Int)) :=
  ifO (decide (v1_4 < 4))
  (Option.bind (Option.bind (spec_l01Once (L01CurT.mk a_p0.b x_4 x1_4) 3) fun (x8_1a, x8_1b) =>
  ifO (!x8_1a)
  (Option.bind (spec_l05Image (L01CurT.mk a_p0.b x8_1b.i x8_1b.h) 4) fun (x9_1a, x9_1b) =>
  Option.bind (spec_l01Below (L01CurT.mk a_p0.b x9_1b.i x9_1b.h) 10) fun (x9_3a, x9_3b) =>
  Option.bind (spec_l01Below (L01CurT.mk a_p0.b x9_3b.i x9_3b.h) 8) fun (x9_6a, x9_6b) =>
  Option.bind (spec_l01Below (L01CurT.mk a_p0.b x9_6b.i x9_6b.h) 3) fun (x9_9a, x9_9b) =>
  Option.bind (spec_PlaneOf x9_1a (wr (x9_3a - 2)) (wr (x9_6a - 2)) x9_9a) fun x9_10 =>
  ifO (decide (v1_4 < 3))
  (Option.bind (spec_l01PickInt (L01CurT.mk a_p0.b x9_9b.i x9_9b.h) [255, 100]) fun (x11_2a, x11_2b) =>
  Option.bind (spec_l01Below (L01CurT.mk a_p0.b x11_2b.i x11_2b.h) 8) fun (x12_1a, x12_1b) =>
  Option.bind (ifO (decide (v1_4 = 1)) (Option.bind (spec_l01Once (L01CurT.mk a_p0.b x12_1b.i x12_1b.h) 2) fun (x13_4a, x13_4b) =>
  some (x13_4a, x13_4b.i, x13_4b.h)) (some (false, x12_1b.i, x12_1b.h))) fun (q13_5, y13_5_0, y13_5_1) =>
  ifO q13_5
  (Option.bind (spec_l01Below (L01CurT.mk a_p0.b y13_5_0 y13_5_1) 8) fun (x14_1a, x14_1b) =>
  Option.bind (spec_l01Below (L01CurT.mk a_p0.b x14_1b.i x14_1b.h) 8) fun (x15_1a, x15_1b) =>
  Option.bind (app v_4 [(PlaneT.mk x9_10.On x9_10.X x9_10.Y x9_10.W x9_10.H x9_10.Layout x9_10.Words x11_2a x12_1a (wr (1 + x14_1a)) (wr (1 + x15_1a)))]) fun x16_3 =>
  some (x15_1b.i, x15_1b.h, x16_3))
  (Option.bind (app v_4 [(PlaneT.mk x9_10.On x9_10.X x9_10.Y x9_10.W x9_10.H x9_10.Layout x9_10.Words x11_2a x12_1a x9_10.ToW x9_10.ToH)]) fun x16_3 =>
  some (y13_5_0, y13_5_1, x16_3)))
  (Option.bind (app v_4 [x9_10]) fun x16_3 =>
  some (x9_9b.i, x9_9b.h, x16_3)))
  (Option.bind (app v_4 [(PlaneT.mk false 0 0 0 0 0 [] 0 0 0 0)]) fun x16_3 =>
  some (x8_1b.i, x8_1b.h, x16_3))) fun (x_5j, x1_5j, v_5j) =>
  some (.inl (x_5j, x1_5j, v_5j, (wr (v1_4 + 1)))))
  (some (.inr (v_4, x_4, x1_4)))
noncomputable def spec_l19Planes (a_p0 : L01CurT) (a_p1 : Int) (a_p2 : Int) : Option ((List PlaneT) × L01CurT) :=
  Option.bind (spec_l04Draw a_p0) fun (x1_3a, x1_3b) =>
  Option.bind (spec_NewImage a_p1 a_p2 (or64 x1_3a 4278190080)) fun x1_5 =>
  Option.bind (spec_l02Rect (L01CurT.mk a_p0.b x1_3b.i x1_3b.h)) fun (x2_2a, x2_2b) =>
  Option.bind (spec_l04Draw (L01CurT.mk a_p0.b x2_2b.i x2_2b.h)) fun (x2_4a, x2_4b) =>
  Option.bind (spec_FillRect x1_5 x2_2a (or64 x2_4a 4278190080)) fun x2_6 =>
  Option.bind (spec_l01Below (L01CurT.mk a_p0.b x2_4b.i x2_4b.h) 3) fun (x3_2a, x3_2b) =>
  Option.bind (spec_PlaneOf x2_6 0 0 x3_2a) fun x3_3 =>
  Option.bind (loopO (fun (x_4, x1_4, v_4, v1_4) => spec_l19Planes_L4 a_p0 x_4 x1_4 v_4 v1_4) (x3_2b.i, x3_2b.h, [x3_3], 1)) fun (v_4e, x_4e, x1_4e) =>
  some (v_4e, (L01CurT.mk a_p0.b x_4e x1_4e))
noncomputable def spec_l08Map_L1 (c_p0 : L01CurT) (c_1 : Int) (c1_1 : Int) (m_1 : List Int) (v_1 : Int) (k_1 : Int) : Option ((Int × Int × (List Int) × Int × Int) ⊕ ((List Int) × Int × Int)) :=
  ifO (decide (k_1 < 17))
  (Option.bind (spec_l01Below (L01CurT.mk c_p0.b c_1 c1_1) 40) fun (x12_2a, x12_2b) =>
  Option.bind (upd m_1 k_1 (min 256 (wr (v_1 + x12_2a)))) fun x13_5 =>
  some (.inl (x12_2b.i, x12_2b.h, x13_5, (min 256 (wr (v_1 + x12_2a))), (wr (k_1 + 1)))))
  (some (.inr (m_1, c_1, c1_1)))
noncomputable def spec_l08Map_L0 (c_p0 : L01CurT) (c_0 : Int) (c1_0 : Int) (m_0 : List Int) (k_0 : Int) : Option ((Int × Int × (List Int) × Int) ⊕ (Int × Int × (List Int))) :=
  ifO (decide (k_0 < 9))
  (Option.bind (spec_l01PickInt (L01CurT.mk c_p0.b c_0 c1_0) [0, 85, 256, (-64), 128, 1024, (-1024)]) fun (x6_5a, x6_5b) =>
  Option.bind (upd m_0 k_0 x6_5a) fun x6_7 =>
  some (.inl (x6_5b.i, x6_5b.h, x6_7, (wr (k_0 + 1)))))
  (some (.inr (c_0, c1_0, m_0)))
noncomputable def spec_l08Map_L2 (c_p0 : L01CurT) (c_2 : Int) (c1_2 : Int) (m_2 : List Int) (v_2 : Int) (k_2 : Int) : Option ((Int × Int × (List Int) × Int × Int) ⊕ ((List Int) × Int × Int)) :=
  ifO (decide (k_2 < 17))
  (Option.bind (spec_l01Below (L01CurT.mk c_p0.b c_2 c1_2) 40) fun (x12_2a, x12_2b) =>
  Option.bind (upd m_2 k_2 (min 256 (wr (v_2 + x12_2a)))) fun x13_5 =>
  some (.inl (x12_2b.i, x12_2b.h, x13_5, (min 256 (wr (v_2 + x12_2a))), (wr (k_2 + 1)))))
  (some (.inr (m_2, c_2, c1_2)))
noncomputable def spec_l08Map (c_p0 : L01CurT) : Option (ColorMapT × L01CurT) :=
  Option.bind (spec_IdentityColor) fun x1_0 =>
  Option.bind (spec_l01Once c_p0 2) fun (x2_1a, x2_1b) =>
  ifO x2_1a
  (Option.bind (loopO (fun (c_0, c1_0, m_0, k_0) => spec_l08Map_L0 c_p0 c_0 c1_0 m_0 k_0) (x2_1b.i, x2_1b.h, x1_0.Matrix, 0)) fun (c_0e, c1_0e, m_0e) =>
  Option.bind (spec_l01Once (L01CurT.mk c_p0.b c_0e c1_0e) 2) fun (x7_1a, x7_1b) =>
  ifO x7_1a
  (Option.bind (loopO (fun (c_1, c1_1, m_1, v_1, k_1) => spec_l08Map_L1 c_p0 c_1 c1_1 m_1 v_1 k_1) (x7_1b.i, x7_1b.h, x1_0.Curve, 0, 0)) fun (m_1e, c_1e, c1_1e) =>
  some ((ColorMapT.mk m_0e m_1e), (L01CurT.mk c_p0.b c_1e c1_1e)))
  (some ((ColorMapT.mk m_0e x1_0.Curve), (L01CurT.mk c_p0.b x7_1b.i x7_1b.h))))
  (Option.bind (spec_l01Once (L01CurT.mk c_p0.b x2_1b.i x2_1b.h) 2) fun (x7_1a, x7_1b) =>
  ifO x7_1a
  (Option.bind (loopO (fun (c_2, c1_2, m_2, v_2, k_2) => spec_l08Map_L2 c_p0 c_2 c1_2 m_2 v_2 k_2) (x7_1b.i, x7_1b.h, x1_0.Curve, 0, 0)) fun (m_2e, c_2e, c1_2e) =>
  some ((ColorMapT.mk x1_0.Matrix m_2e), (L01CurT.mk c_p0.b c_2e c1_2e)))
  (some (x1_0, (L01CurT.mk c_p0.b x7_1b.i x7_1b.h))))
noncomputable def spec_l22Crtc (c_p0 : L01CurT) : Option (CrtcT × L01CurT) :=
  Option.bind (spec_l01Below c_p0 6) fun (x1_1a, x1_1b) =>
  Option.bind (spec_l01Below (L01CurT.mk c_p0.b x1_1b.i x1_1b.h) 4) fun (x2_1a, x2_1b) =>
  Option.bind (spec_l19Planes (L01CurT.mk c_p0.b x2_1b.i x2_1b.h) (wr (3 + x1_1a)) (wr (3 + x2_1a))) fun (x3_5a, x3_5b) =>
  Option.bind (spec_l08Map (L01CurT.mk c_p0.b x3_5b.i x3_5b.h)) fun (x3_7a, x3_7b) =>
  some ((CrtcT.mk (wr (3 + x1_1a)) (wr (3 + x2_1a)) x3_5a x3_7a), (L01CurT.mk c_p0.b x3_7b.i x3_7b.h))
noncomputable def spec_l08Any (c_p0 : L01CurT) : Option (ColorMapT × L01CurT) :=
  Option.bind (spec_l08Map c_p0) fun (x1_1a, x1_1b) =>
  Option.bind (spec_l01Below (L01CurT.mk c_p0.b x1_1b.i x1_1b.h) 12) fun (x2_1a, x2_1b) =>
  ifO (decide (x2_1a = 0))
  (Option.bind (spec_l01Below (L01CurT.mk c_p0.b x2_1b.i x2_1b.h) 9) fun (x4_3a, x4_3b) =>
  Option.bind (spec_l01PickInt (L01CurT.mk c_p0.b x4_3b.i x4_3b.h) [(-1025), 1025]) fun (x4_6a, x4_6b) =>
  Option.bind (upd x1_1a.Matrix x4_3a x4_6a) fun x4_8 =>
  some ((ColorMapT.mk x4_8 x1_1a.Curve), (L01CurT.mk c_p0.b x4_6b.i x4_6b.h)))
  (ifO (decide (x2_1a = 1))
  (Option.bind (spec_l01Below (L01CurT.mk c_p0.b x2_1b.i x2_1b.h) 17) fun (x6_3a, x6_3b) =>
  Option.bind (spec_l01PickInt (L01CurT.mk c_p0.b x6_3b.i x6_3b.h) [(-1), 0, 256, 257]) fun (x6_6a, x6_6b) =>
  Option.bind (upd x1_1a.Curve x6_3a x6_6a) fun x6_8 =>
  some ((ColorMapT.mk x1_1a.Matrix x6_8), (L01CurT.mk c_p0.b x6_6b.i x6_6b.h)))
  (ifO (decide (x2_1a = 2))
  (Option.bind (subO x1_1a.Curve 1 x1_1a.Curve.length) fun x8_2 =>
  some ((ColorMapT.mk x1_1a.Matrix x8_2), (L01CurT.mk c_p0.b x2_1b.i x2_1b.h)))
  (ifO (decide (x2_1a = 3))
  (Option.bind (app x1_1a.Matrix [0]) fun x10_3 =>
  some ((ColorMapT.mk x10_3 x1_1a.Curve), (L01CurT.mk c_p0.b x2_1b.i x2_1b.h)))
  (some (x1_1a, (L01CurT.mk c_p0.b x2_1b.i x2_1b.h))))))
noncomputable def spec_l01Place (c_p0 : L01CurT) (n_p1 : Int) : Option (Int × L01CurT) :=
  Option.bind (spec_l01Once c_p0 15) fun (x1_1a, x1_1b) =>
  ifO x1_1a
  (Option.bind (spec_l01PickInt (L01CurT.mk c_p0.b x1_1b.i x1_1b.h) [(-1), n_p1, (wr (n_p1 + 1)), 9223372036854775807, (-9223372036854775808)]) fun (x2_5a, x2_5b) =>
  some (x2_5a, (L01CurT.mk c_p0.b x2_5b.i x2_5b.h)))
  (Option.bind (spec_l01Below (L01CurT.mk c_p0.b x1_1b.i x1_1b.h) n_p1) fun (x3_2a, x3_2b) =>
  some (x3_2a, (L01CurT.mk c_p0.b x3_2b.i x3_2b.h)))
noncomputable def spec_l22Changes_L0 (c_p0 : L01CurT) (x2_5a : List PlaneT) (c_0 : Int) (c1_0 : Int) (out_0 : List ChangeT) (k_0 : Int) : Option ((Int × Int × (List ChangeT) × Int) ⊕ (Int × Int × (List ChangeT))) :=
  ifO (decide (0 < k_0))
  (Option.bind (Option.bind (spec_l01Below (L01CurT.mk c_p0.b c_0 c1_0) 5) fun (x6_1a, x6_1b) =>
  ifO (decide ((wr (x6_1a - 1)) < 0))
  (Option.bind (spec_l08Any (L01CurT.mk c_p0.b x6_1b.i x6_1b.h)) fun (x8_2a, x8_2b) =>
  Option.bind (app out_0 [(ChangeT.mk (-1) (PlaneT.mk false 0 0 0 0 0 [] 0 0 0 0) x8_2a)]) fun x8_5 =>
  some (x8_2b.i, x8_2b.h, x8_5))
  (Option.bind (idx x2_5a (wr (x6_1a - 1))) fun x9_4 =>
  Option.bind (app out_0 [(ChangeT.mk (wr (x6_1a - 1)) x9_4 (ColorMapT.mk [] []))]) fun x9_8 =>
  some (x6_1b.i, x6_1b.h, x9_8))) fun (c_1j, c1_1j, out_1j) =>
  some (.inl (c_1j, c1_1j, out_1j, (wr (k_0 - 1)))))
  (some (.inr (c_0, c1_0, out_0)))
noncomputable def spec_l22Changes (c_p0 : L01CurT) (x_p1 : CrtcT) : Option ((List ChangeT) × L01CurT) :=
  Option.bind (spec_l19Planes c_p0 x_p1.W x_p1.H) fun (x2_5a, x2_5b) =>
  Option.bind (spec_l01Below (L01CurT.mk c_p0.b x2_5b.i x2_5b.h) 4) fun (x3_1a, x3_1b) =>
  Option.bind (loopO (fun (c_0, c1_0, out_0, k_0) => spec_l22Changes_L0 c_p0 x2_5a c_0 c1_0 out_0 k_0) (x3_1b.i, x3_1b.h, ([] : List ChangeT), x3_1a)) fun (c_0e, c1_0e, out_0e) =>
  Option.bind (spec_l01Once (L01CurT.mk c_p0.b c_0e c1_0e) 6) fun (x10_1a, x10_1b) =>
  ifO x10_1a
  (Option.bind (spec_l01Place (L01CurT.mk c_p0.b x10_1b.i x10_1b.h) 4) fun (x11_2a, x11_2b) =>
  Option.bind (spec_l01Below (L01CurT.mk c_p0.b x11_2b.i x11_2b.h) 4) fun (x11_5a, x11_5b) =>
  Option.bind (idx x2_5a x11_5a) fun x11_6 =>
  Option.bind (app out_0e [(ChangeT.mk x11_2a x11_6 (ColorMapT.mk [] []))]) fun x11_10 =>
  some (x11_10, (L01CurT.mk c_p0.b x11_5b.i x11_5b.h)))
  (some (out_0e, (L01CurT.mk c_p0.b x10_1b.i x10_1b.h)))
noncomputable def spec_DrawChanges (code_p0 : List Int) : Option (CrtcT × (List ChangeT)) :=
  Option.bind (spec_l01New code_p0) fun x1_1 =>
  Option.bind (spec_l22Crtc (L01CurT.mk code_p0 x1_1.i x1_1.h)) fun (x2_1a, x2_1b) =>
  Option.bind (spec_l22Changes (L01CurT.mk code_p0 x2_1b.i x2_1b.h) x2_1a) fun (x3_3a, x3_3b) =>
  some (x2_1a, x3_3a)
end Go.Proofs.YtmhalmnbgkpmnaaGreat
