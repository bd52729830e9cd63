/- The pure functions that the walks bring out of the program. -/
import Derived.Test.YtkojfdgljmhmlaaStructs
namespace Go.Proofs.Ytkojfdgljmhmlaa
open Go.RowKit K
set_option maxRecDepth 100000
set_option maxHeartbeats 4000000

noncomputable def laws_szIntS (a_p0 : List Int) (left_p1 : Int) : Option Int :=
  ifO (decide ((wr (left_p1 - (a_p0.length : Int))) < 0))
  (some (-1))
  (some (wr (left_p1 - (a_p0.length : Int))))
noncomputable def laws_szImage (a_p0 : ImageT) (left_p1 : Int) : Option Int :=
  Option.bind (laws_szIntS a_p0.Data left_p1) fun x1_3 =>
  ifO (decide (x1_3 < 0))
  (some (-1))
  (some x1_3)
noncomputable def laws_szSurface (a_p0 : SurfaceT) (left_p1 : Int) : Option Int :=
  Option.bind (laws_szImage a_p0.Buffer left_p1) fun x1_3 =>
  ifO (decide (x1_3 < 0))
  (some (-1))
  (some x1_3)
noncomputable def laws_szSurfaceS_L0 (a_p0 : List SurfaceT) (left_0 : Int) (i_0 : Int) : Option ((Int × Int) ⊕ (Int ⊕ Int)) :=
  ifO (decide (i_0 < (a_p0.length : Int)))
  (Option.bind (idx a_p0 i_0) fun x7_2 =>
  Option.bind (laws_szSurface x7_2 left_0) fun x7_5 =>
  ifO (decide (x7_5 < 0))
  (some (.inr (.inr ((-1)))))
  (some (.inl (x7_5, (wr (i_0 + 1))))))
  (some (.inr (.inl left_0)))
noncomputable def laws_szSurfaceS (a_p0 : List SurfaceT) (left_p1 : Int) : Option Int :=
  ifO (decide ((wr (left_p1 - (a_p0.length : Int))) < 0))
  (some (-1))
  (Option.bind (loopO (fun (left_0, i_0) => laws_szSurfaceS_L0 a_p0 left_0 i_0) ((wr (left_p1 - (a_p0.length : Int))), 0)) fun y => fork y (fun left_0e => some left_0e) (fun r => some r))
noncomputable def laws_szScene (a_p0 : SceneT) (left_p1 : Int) : Option Int :=
  Option.bind (laws_szSurfaceS a_p0.Surfaces left_p1) fun x1_3 =>
  ifO (decide (x1_3 < 0))
  (some (-1))
  (some x1_3)
noncomputable def laws_toIntS_L0 (a_p0 : List Int) (out_0 : List Int) (i_0 : Int) : Option (((List Int) × Int) ⊕ (List Int)) :=
  ifO (decide (i_0 < (a_p0.length : Int)))
  (Option.bind (idx a_p0 i_0) fun x5_4 =>
  Option.bind (upd out_0 i_0 x5_4) fun x5_7 =>
  some (.inl (x5_7, (wr (i_0 + 1)))))
  (some (.inr out_0))
noncomputable def laws_toIntS (a_p0 : List Int) : Option (List Int) :=
  Option.bind (mkO (a_p0.length : Int) 0) fun x1_2 =>
  Option.bind (loopO (fun (out_0, i_0) => laws_toIntS_L0 a_p0 out_0 i_0) (x1_2, 0)) fun out_0e =>
  some out_0e
noncomputable def laws_toImage (a_p0 : ImageT) : Option ImageT :=
  Option.bind (laws_toIntS a_p0.Data) fun x4_2 =>
  some (ImageT.mk a_p0.W a_p0.H x4_2)
noncomputable def laws_toSurface (a_p0 : SurfaceT) : Option SurfaceT :=
  Option.bind (laws_toImage a_p0.Buffer) fun x10_2 =>
  some (SurfaceT.mk a_p0.Id a_p0.X a_p0.Y a_p0.W a_p0.H a_p0.Alpha a_p0.Orient a_p0.Visible x10_2)
noncomputable def laws_toSurfaceS_L0 (a_p0 : List SurfaceT) (out_0 : List SurfaceT) (i_0 : Int) : Option (((List SurfaceT) × Int) ⊕ (List SurfaceT)) :=
  ifO (decide (i_0 < (a_p0.length : Int)))
  (Option.bind (idx a_p0 i_0) fun x5_4 =>
  Option.bind (laws_toSurface x5_4) fun x5_6 =>
  Option.bind (upd out_0 i_0 x5_6) fun x5_8 =>
  some (.inl (x5_8, (wr (i_0 + 1)))))
  (some (.inr out_0))
noncomputable def laws_toSurfaceS (a_p0 : List SurfaceT) : Option (List SurfaceT) :=
  Option.bind (mkO (a_p0.length : Int) (SurfaceT.mk 0 0 0 0 0 0 0 false (ImageT.mk 0 0 []))) fun x1_2 =>
  Option.bind (loopO (fun (out_0, i_0) => laws_toSurfaceS_L0 a_p0 out_0 i_0) (x1_2, 0)) fun out_0e =>
  some out_0e
noncomputable def laws_toScene (a_p0 : SceneT) : Option SceneT :=
  Option.bind (laws_toSurfaceS a_p0.Surfaces) fun x5_2 =>
  some (SceneT.mk a_p0.W a_p0.H a_p0.Back x5_2)
noncomputable def laws_toOptions (a_p0 : OptionsT) : Option OptionsT :=
  some a_p0
noncomputable def spec_l01In (x_p0 : Int) (least_p1 : Int) (most_p2 : Int) : Option Bool :=
  some ((decide (least_p1 ≤ x_p0)) && (decide (x_p0 ≤ most_p2)))
noncomputable def spec_l04Pixel (p_p0 : Int) : Option Bool :=
  Option.bind (spec_l01In p_p0 0 4294967295) fun x1_1 =>
  some x1_1
noncomputable def spec_ChannelOf (p_p0 : Int) (k_p1 : Int) : Option Int :=
  Option.bind (spec_l04Pixel p_p0) fun x1_1 =>
  Option.bind (orO (!x1_1) (Option.bind (spec_l01In k_p1 0 3) fun x1_5 =>
  some (!x1_5))) fun q1_7 =>
  ifO q1_7
  (some (-1))
  (Option.bind (shrO p_p0 (wr (24 - (wr (8 * k_p1))))) fun x3_4 =>
  some (and64 x3_4 255))
noncomputable def spec_l10Opaque (p_p0 : Int) : Option Bool :=
  Option.bind (spec_l04Pixel p_p0) fun x1_1 =>
  Option.bind (andO x1_1 (Option.bind (spec_ChannelOf p_p0 0) fun x1_4 =>
  some (decide (x1_4 = 255)))) fun q1_6 =>
  some q1_6
noncomputable def spec_ImageOk_L0 (i_p0 : ImageT) (k_0 : Int) : Option (Int ⊕ (Unit ⊕ Bool)) :=
  ifO (decide (k_0 < (i_p0.Data.length : Int)))
  (Option.bind (idx i_p0.Data k_0) fun x6_3 =>
  Option.bind (spec_l04Pixel x6_3) fun x6_5 =>
  ifO (!x6_5)
  (some (.inr (.inr (false))))
  (some (.inl (wr (k_0 + 1)))))
  (some (.inr (.inl ())))
noncomputable def spec_ImageOk (i_p0 : ImageT) : Option Bool :=
  Option.bind (spec_l01In i_p0.W 1 16) fun x1_2 =>
  Option.bind (orO (!x1_2) (Option.bind (spec_l01In i_p0.H 1 16) fun x1_7 =>
  some (!x1_7))) fun q1_9 =>
  ifO (q1_9 || (!decide ((i_p0.Data.length : Int) = (wr (i_p0.W * i_p0.H)))))
  (some false)
  (Option.bind (loopO (fun k_0 => spec_ImageOk_L0 i_p0 k_0) 0) fun y => fork y (fun () => some true) (fun r => some r))
noncomputable def spec_SurfaceOk (s_p0 : SurfaceT) : Option Bool :=
  Option.bind (spec_l01In s_p0.Id 1 99) fun x1_2 =>
  Option.bind (orO (!x1_2) (Option.bind (spec_l01In s_p0.X (-32) 32) fun x1_7 =>
  some (!x1_7))) fun q1_9 =>
  Option.bind (orO q1_9 (Option.bind (spec_l01In s_p0.Y (-32) 32) fun x1_13 =>
  some (!x1_13))) fun q1_15 =>
  Option.bind (orO q1_15 (Option.bind (spec_l01In s_p0.Alpha 0 255) fun x1_19 =>
  some (!x1_19))) fun q1_21 =>
  Option.bind (orO q1_21 (Option.bind (spec_l01In s_p0.Orient 0 7) fun x1_25 =>
  some (!x1_25))) fun q1_27 =>
  Option.bind (orO q1_27 (Option.bind (spec_ImageOk s_p0.Buffer) fun x1_31 =>
  some (!x1_31))) fun q1_33 =>
  ifO q1_33
  (some false)
  (Option.bind (orO ((decide (s_p0.W = 0)) && (decide (s_p0.H = 0))) (Option.bind (spec_l01In s_p0.W 1 16) fun x3_11 =>
  Option.bind (andO x3_11 (Option.bind (spec_l01In s_p0.H 1 16) fun x3_15 =>
  some x3_15)) fun q3_16 =>
  some q3_16)) fun q3_17 =>
  some q3_17)
noncomputable def spec_SurfaceIndex_L0 (s_p0 : SceneT) (id_p1 : Int) (k_0 : Int) : Option (Int ⊕ (Unit ⊕ Int)) :=
  ifO (decide (k_0 < (s_p0.Surfaces.length : Int)))
  (Option.bind (idx s_p0.Surfaces k_0) fun x4_3 =>
  ifO (decide (x4_3.Id = id_p1))
  (some (.inr (.inr (k_0))))
  (some (.inl (wr (k_0 + 1)))))
  (some (.inr (.inl ())))
noncomputable def spec_SurfaceIndex (s_p0 : SceneT) (id_p1 : Int) : Option Int :=
  Option.bind (loopO (fun k_0 => spec_SurfaceIndex_L0 s_p0 id_p1 k_0) 0) fun y => fork y (fun () => some (-1)) (fun r => some r)
noncomputable def spec_SceneOk_L0 (s_p0 : SceneT) (k_0 : Int) : Option (Int ⊕ (Unit ⊕ Bool)) :=
  ifO (decide (k_0 < (s_p0.Surfaces.length : Int)))
  (Option.bind (idx s_p0.Surfaces k_0) fun x6_3 =>
  Option.bind (spec_SurfaceOk x6_3) fun x6_5 =>
  Option.bind (orO (!x6_5) (Option.bind (idx s_p0.Surfaces k_0) fun x6_12 =>
  Option.bind (spec_SurfaceIndex s_p0 x6_12.Id) fun x6_15 =>
  some (!decide (x6_15 = k_0)))) fun q6_18 =>
  ifO q6_18
  (some (.inr (.inr (false))))
  (some (.inl (wr (k_0 + 1)))))
  (some (.inr (.inl ())))
noncomputable def spec_SceneOk (s_p0 : SceneT) : Option Bool :=
  Option.bind (spec_l01In s_p0.W 1 16) fun x1_2 =>
  Option.bind (orO (!x1_2) (Option.bind (spec_l01In s_p0.H 1 16) fun x1_7 =>
  some (!x1_7))) fun q1_9 =>
  Option.bind (orO q1_9 (Option.bind (spec_l10Opaque s_p0.Back) fun x1_13 =>
  some (!x1_13))) fun q1_15 =>
  ifO (q1_15 || (decide (6 < (s_p0.Surfaces.length : Int))))
  (some false)
  (Option.bind (loopO (fun k_0 => spec_SceneOk_L0 s_p0 k_0) 0) fun y => fork y (fun () => some true) (fun r => some r))
noncomputable def spec_OptionsOk (o_p0 : OptionsT) : Option Bool :=
  Option.bind (spec_l01In o_p0.Overlays 0 2) fun x1_2 =>
  Option.bind (andO x1_2 (Option.bind (spec_l01In o_p0.Layout 0 2) fun x1_6 =>
  some x1_6)) fun q1_7 =>
  some q1_7
noncomputable def spec_TopVisible_L0 (s_p0 : SceneT) (n_0 : Int) (k_0 : Int) : Option ((Int × Int) ⊕ (Unit ⊕ Int)) :=
  ifO (decide (0 ≤ k_0))
  (Option.bind (idx s_p0.Surfaces k_0) fun x6_3 =>
  ifO x6_3.Visible
  (ifO (decide (n_0 = 0))
  (some (.inr (.inr (k_0))))
  (some (.inl ((wr (n_0 - 1)), (wr (k_0 - 1))))))
  (some (.inl (n_0, (wr (k_0 - 1))))))
  (some (.inr (.inl ())))
noncomputable def spec_TopVisible (s_p0 : SceneT) (n_p1 : Int) : Option Int :=
  Option.bind (spec_SceneOk s_p0) fun x1_1 =>
  ifO ((!x1_1) || (decide (n_p1 < 0)))
  (some (-1))
  (Option.bind (loopO (fun (n_0, k_0) => spec_TopVisible_L0 s_p0 n_0 k_0) (n_p1, (wr ((s_p0.Surfaces.length : Int) - 1)))) fun y => fork y (fun () => some (-1)) (fun r => some r))
noncomputable def spec_FitsCursor (s_p0 : SurfaceT) : Option Bool :=
  Option.bind (spec_SurfaceOk s_p0) fun x1_1 =>
  some ((((((x1_1 && (decide (s_p0.Alpha = 255))) && (decide (s_p0.Orient = 0))) && (decide (s_p0.W = 0))) && (decide (s_p0.H = 0))) && (decide (s_p0.Buffer.W ≤ 4))) && (decide (s_p0.Buffer.H ≤ 4)))
noncomputable def spec_AssignedOf_L0 (a_p0 : SceneT) (v_0 : List Int) (v1_0 : Int) (v2_0 : Int) (v3_0 : Bool) (v4_0 : Int) : Option (((List Int) × Int × Int × Bool × Int) ⊕ ((List Int) × Int)) :=
  ifO (decide (0 ≤ v4_0))
  (Option.bind (orO (decide (v2_0 < 0)) (Option.bind (idx a_p0.Surfaces v2_0) fun x14_6 =>
  some ((decide (0 < x14_6.W)) && v3_0))) fun q14_13 =>
  ifO q14_13
  (some (.inr (v_0, v1_0)))
  (Option.bind (orO v3_0 (Option.bind (idx a_p0.Surfaces v2_0) fun x15_5 =>
  some (decide (0 < x15_5.W)))) fun q15_9 =>
  Option.bind (upd v_0 v4_0 v2_0) fun x16_4 =>
  Option.bind (spec_TopVisible a_p0 (wr (v1_0 + 1))) fun x18_2 =>
  some (.inl (x16_4, (wr (v1_0 + 1)), x18_2, q15_9, (wr (v4_0 - 1))))))
  (some (.inr (v_0, v1_0)))
noncomputable def spec_AssignedOf_L1 (a_p0 : SceneT) (v_1 : List Int) (v1_1 : Int) (v2_1 : Int) (v3_1 : Bool) (v4_1 : Int) : Option (((List Int) × Int × Int × Bool × Int) ⊕ ((List Int) × Int)) :=
  ifO (decide (0 ≤ v4_1))
  (Option.bind (orO (decide (v2_1 < 0)) (Option.bind (idx a_p0.Surfaces v2_1) fun x14_6 =>
  some ((decide (0 < x14_6.W)) && v3_1))) fun q14_13 =>
  ifO q14_13
  (some (.inr (v_1, v1_1)))
  (Option.bind (orO v3_1 (Option.bind (idx a_p0.Surfaces v2_1) fun x15_5 =>
  some (decide (0 < x15_5.W)))) fun q15_9 =>
  Option.bind (upd v_1 v4_1 v2_1) fun x16_4 =>
  Option.bind (spec_TopVisible a_p0 (wr (v1_1 + 1))) fun x18_2 =>
  some (.inl (x16_4, (wr (v1_1 + 1)), x18_2, q15_9, (wr (v4_1 - 1))))))
  (some (.inr (v_1, v1_1)))
noncomputable def spec_AssignedOf (a_p0 : SceneT) (a_p1 : OptionsT) : Option ((List Int) × Int) :=
  Option.bind (spec_SceneOk a_p0) fun x1_1 =>
  Option.bind (orO (!x1_1) (Option.bind (spec_OptionsOk a_p1) fun x1_5 =>
  some (!x1_5))) fun q1_7 =>
  ifO q1_7
  (some (([] : List Int), 0))
  (Option.bind (spec_TopVisible a_p0 0) fun x5_1 =>
  Option.bind (andO (a_p1.Cursor && (decide (0 ≤ x5_1))) (Option.bind (idx a_p0.Surfaces x5_1) fun x6_10 =>
  Option.bind (spec_FitsCursor x6_10) fun x6_12 =>
  some x6_12)) fun q6_13 =>
  ifO q6_13
  (Option.bind (upd [(-1), (-1), (-1)] 2 x5_1) fun x7_3 =>
  Option.bind (spec_TopVisible a_p0 (wr (0 + 1))) fun x9_2 =>
  Option.bind (loopO (fun (v_0, v1_0, v2_0, v3_0, v4_0) => spec_AssignedOf_L0 a_p0 v_0 v1_0 v2_0 v3_0 v4_0) (x7_3, (wr (0 + 1)), x9_2, false, (wr (a_p1.Overlays - 1)))) fun (v_0e, v1_0e) =>
  some (v_0e, v1_0e))
  (Option.bind (loopO (fun (v_1, v1_1, v2_1, v3_1, v4_1) => spec_AssignedOf_L1 a_p0 v_1 v1_1 v2_1 v3_1 v4_1) ([(-1), (-1), (-1)], 0, x5_1, false, (wr (a_p1.Overlays - 1)))) fun (v_1e, v1_1e) =>
  some (v_1e, v1_1e)))
noncomputable def impl_within (n_p0 : Int) (low_p1 : Int) (high_p2 : Int) : Option Bool :=
  some ((decide (low_p1 ≤ n_p0)) && (decide (n_p0 ≤ high_p2)))
noncomputable def impl_isSide (n_p0 : Int) : Option Bool :=
  Option.bind (impl_within n_p0 1 16) fun x1_1 =>
  some x1_1
noncomputable def impl_isPixel (p_p0 : Int) : Option Bool :=
  Option.bind (impl_within p_p0 0 4294967295) fun x1_1 =>
  some x1_1
noncomputable def impl_channel (p_p0 : Int) (k_p1 : Int) : Option Int :=
  Option.bind (shrO p_p0 (wr (24 - (wr (8 * k_p1))))) fun x1_4 =>
  some (and64 x1_4 255)
noncomputable def impl_isOpaquePixel (p_p0 : Int) : Option Bool :=
  Option.bind (impl_isPixel p_p0) fun x1_1 =>
  Option.bind (andO x1_1 (Option.bind (impl_channel p_p0 0) fun x1_4 =>
  some (decide (x1_4 = 255)))) fun q1_6 =>
  some q1_6
noncomputable def impl_isOrient (o_p0 : Int) : Option Bool :=
  Option.bind (impl_within o_p0 0 7) fun x1_1 =>
  some x1_1
noncomputable def impl_ImageOk_L0 (i_p0 : ImageT) (v_0 : Int) : Option (Int ⊕ (Unit ⊕ Bool)) :=
  ifO (decide (v_0 < (i_p0.Data.length : Int)))
  (Option.bind (idx i_p0.Data v_0) fun x5_0 =>
  Option.bind (impl_isPixel x5_0) fun x6_1 =>
  ifO (!x6_1)
  (some (.inr (.inr (false))))
  (some (.inl (wr (v_0 + 1)))))
  (some (.inr (.inl ())))
noncomputable def impl_ImageOk (i_p0 : ImageT) : Option Bool :=
  Option.bind (impl_isSide i_p0.W) fun x1_2 =>
  Option.bind (orO (!x1_2) (Option.bind (impl_isSide i_p0.H) fun x1_7 =>
  some (!x1_7))) fun q1_9 =>
  ifO (q1_9 || (!decide ((i_p0.Data.length : Int) = (wr (i_p0.W * i_p0.H)))))
  (some false)
  (Option.bind (loopO (fun v_0 => impl_ImageOk_L0 i_p0 v_0) 0) fun y => fork y (fun () => some true) (fun r => some r))
noncomputable def impl_SurfaceOk (s_p0 : SurfaceT) : Option Bool :=
  Option.bind (impl_isSide s_p0.W) fun x1_2 =>
  Option.bind (andO x1_2 (Option.bind (impl_isSide s_p0.H) fun x1_6 =>
  some x1_6)) fun q1_7 =>
  Option.bind (impl_within s_p0.Id 1 99) fun x2_2 =>
  Option.bind (andO x2_2 (Option.bind (impl_within s_p0.X (-32) 32) fun x2_6 =>
  some x2_6)) fun q2_7 =>
  Option.bind (andO q2_7 (Option.bind (impl_within s_p0.Y (-32) 32) fun x2_11 =>
  some x2_11)) fun q2_12 =>
  Option.bind (andO (q2_12 && (q1_7 || ((decide (s_p0.W = 0)) && (decide (s_p0.H = 0))))) (Option.bind (impl_within s_p0.Alpha 0 255) fun x2_19 =>
  some x2_19)) fun q2_20 =>
  Option.bind (andO q2_20 (Option.bind (impl_isOrient s_p0.Orient) fun x2_24 =>
  some x2_24)) fun q2_25 =>
  Option.bind (andO q2_25 (Option.bind (impl_ImageOk s_p0.Buffer) fun x2_29 =>
  some x2_29)) fun q2_30 =>
  some q2_30
noncomputable def impl_SceneOk_L0 (s_p0 : SceneT) (seen_0 : List (Int × Bool)) (v_0 : Int) : Option (((List (Int × Bool)) × Int) ⊕ (Unit ⊕ Bool)) :=
  ifO (decide (v_0 < (s_p0.Surfaces.length : Int)))
  (Option.bind (idx s_p0.Surfaces v_0) fun x6_0 =>
  Option.bind (orO (mget seen_0 x6_0.Id) (Option.bind (impl_SurfaceOk x6_0) fun x7_6 =>
  some (!x7_6))) fun q7_8 =>
  ifO q7_8
  (some (.inr (.inr (false))))
  (some (.inl ((mset seen_0 x6_0.Id true), (wr (v_0 + 1))))))
  (some (.inr (.inl ())))
noncomputable def impl_SceneOk (s_p0 : SceneT) : Option Bool :=
  Option.bind (impl_isSide s_p0.W) fun x1_2 =>
  Option.bind (orO (!x1_2) (Option.bind (impl_isSide s_p0.H) fun x1_7 =>
  some (!x1_7))) fun q1_9 =>
  Option.bind (orO q1_9 (Option.bind (impl_isOpaquePixel s_p0.Back) fun x1_13 =>
  some (!x1_13))) fun q1_15 =>
  ifO (q1_15 || (decide (6 < (s_p0.Surfaces.length : Int))))
  (some false)
  (Option.bind (loopO (fun (seen_0, v_0) => impl_SceneOk_L0 s_p0 seen_0 v_0) (([] : List (Int × Bool)), 0)) fun y => fork y (fun () => some true) (fun r => some r))
noncomputable def impl_OptionsOk (o_p0 : OptionsT) : Option Bool :=
  Option.bind (impl_within o_p0.Overlays 0 2) fun x1_2 =>
  Option.bind (andO x1_2 (Option.bind (impl_within o_p0.Layout 0 2) fun x1_6 =>
  some x1_6)) fun q1_7 =>
  some q1_7
noncomputable def impl_TopVisible_L0 (s_p0 : SceneT) (n_0 : Int) (k_0 : Int) : Option ((Int × Int) ⊕ (Unit ⊕ Int)) :=
  ifO (decide (0 ≤ k_0))
  (Option.bind (idx s_p0.Surfaces k_0) fun x6_3 =>
  ifO (!x6_3.Visible)
  (some (.inl (n_0, (wr (k_0 - 1)))))
  (ifO (decide (n_0 = 0))
  (some (.inr (.inr (k_0))))
  (some (.inl ((wr (n_0 - 1)), (wr (k_0 - 1)))))))
  (some (.inr (.inl ())))
noncomputable def impl_TopVisible (s_p0 : SceneT) (n_p1 : Int) : Option Int :=
  Option.bind (impl_SceneOk s_p0) fun x1_1 =>
  ifO ((!x1_1) || (decide (n_p1 < 0)))
  (some (-1))
  (Option.bind (loopO (fun (n_0, k_0) => impl_TopVisible_L0 s_p0 n_0 k_0) (n_p1, (wr ((s_p0.Surfaces.length : Int) - 1)))) fun y => fork y (fun () => some (-1)) (fun r => some r))
noncomputable def impl_FitsCursor (s_p0 : SurfaceT) : Option Bool :=
  Option.bind (impl_SurfaceOk s_p0) fun x1_1 =>
  some ((((((x1_1 && (decide (s_p0.Alpha = 255))) && (decide (s_p0.Orient = 0))) && (decide (s_p0.W = 0))) && (decide (s_p0.H = 0))) && (decide (s_p0.Buffer.W ≤ 4))) && (decide (s_p0.Buffer.H ≤ 4)))
noncomputable def impl_AssignedOf_L0 (a_p0 : SceneT) (v_0 : List Int) (v1_0 : Int) (v2_0 : Int) (v3_0 : Bool) (v4_0 : Int) : Option (((List Int) × Int × Int × Bool × Int) ⊕ ((List Int) × Int)) :=
  ifO (decide (1 ≤ v4_0))
  (Option.bind (orO (decide (v2_0 < 0)) (Option.bind (idx a_p0.Surfaces v2_0) fun x14_6 =>
  some ((!decide (x14_6.W = 0)) && v3_0))) fun q14_13 =>
  ifO q14_13
  (some (.inr (v_0, v1_0)))
  (Option.bind (orO v3_0 (Option.bind (idx a_p0.Surfaces v2_0) fun x15_5 =>
  some (!decide (x15_5.W = 0)))) fun q15_9 =>
  Option.bind (upd v_0 (wr (v4_0 - 1)) v2_0) fun x16_5 =>
  Option.bind (impl_TopVisible a_p0 (wr (v1_0 + 1))) fun x18_2 =>
  some (.inl (x16_5, (wr (v1_0 + 1)), x18_2, q15_9, (wr (v4_0 - 1))))))
  (some (.inr (v_0, v1_0)))
noncomputable def impl_AssignedOf_L1 (a_p0 : SceneT) (v_1 : List Int) (v1_1 : Int) (v2_1 : Int) (v3_1 : Bool) (v4_1 : Int) : Option (((List Int) × Int × Int × Bool × Int) ⊕ ((List Int) × Int)) :=
  ifO (decide (1 ≤ v4_1))
  (Option.bind (orO (decide (v2_1 < 0)) (Option.bind (idx a_p0.Surfaces v2_1) fun x14_6 =>
  some ((!decide (x14_6.W = 0)) && v3_1))) fun q14_13 =>
  ifO q14_13
  (some (.inr (v_1, v1_1)))
  (Option.bind (orO v3_1 (Option.bind (idx a_p0.Surfaces v2_1) fun x15_5 =>
  some (!decide (x15_5.W = 0)))) fun q15_9 =>
  Option.bind (upd v_1 (wr (v4_1 - 1)) v2_1) fun x16_5 =>
  Option.bind (impl_TopVisible a_p0 (wr (v1_1 + 1))) fun x18_2 =>
  some (.inl (x16_5, (wr (v1_1 + 1)), x18_2, q15_9, (wr (v4_1 - 1))))))
  (some (.inr (v_1, v1_1)))
noncomputable def impl_AssignedOf (a_p0 : SceneT) (a_p1 : OptionsT) : Option ((List Int) × Int) :=
  Option.bind (impl_SceneOk a_p0) fun x1_1 =>
  Option.bind (orO (!x1_1) (Option.bind (impl_OptionsOk a_p1) fun x1_5 =>
  some (!x1_5))) fun q1_7 =>
  ifO q1_7
  (some (([] : List Int), 0))
  (Option.bind (impl_TopVisible a_p0 0) fun x5_1 =>
  Option.bind (andO (a_p1.Cursor && (decide (0 ≤ x5_1))) (Option.bind (idx a_p0.Surfaces x5_1) fun x6_10 =>
  Option.bind (impl_FitsCursor x6_10) fun x6_12 =>
  some x6_12)) fun q6_13 =>
  ifO q6_13
  (Option.bind (upd [(-1), (-1), (-1)] 2 x5_1) fun x7_3 =>
  Option.bind (impl_TopVisible a_p0 (wr (0 + 1))) fun x9_2 =>
  Option.bind (loopO (fun (v_0, v1_0, v2_0, v3_0, v4_0) => impl_AssignedOf_L0 a_p0 v_0 v1_0 v2_0 v3_0 v4_0) (x7_3, (wr (0 + 1)), x9_2, false, a_p1.Overlays)) fun (v_0e, v1_0e) =>
  some (v_0e, v1_0e))
  (Option.bind (loopO (fun (v_1, v1_1, v2_1, v3_1, v4_1) => impl_AssignedOf_L1 a_p0 v_1 v1_1 v2_1 v3_1 v4_1) ([(-1), (-1), (-1)], 0, x5_1, false, a_p1.Overlays)) fun (v_1e, v1_1e) =>
  some (v_1e, v1_1e)))
noncomputable def laws_eqIntS_L0 (a_p0 : List Int) (b_p1 : List Int) (i_0 : Int) : Option (Int ⊕ (Unit ⊕ Bool)) :=
  ifO (decide (i_0 < (a_p0.length : Int)))
  (Option.bind (idx a_p0 i_0) fun x6_2 =>
  Option.bind (idx b_p1 i_0) fun x6_6 =>
  ifO (!decide (x6_2 = x6_6))
  (some (.inr (.inr (false))))
  (some (.inl (wr (i_0 + 1)))))
  (some (.inr (.inl ())))
noncomputable def laws_eqIntS (a_p0 : List Int) (b_p1 : List Int) : Option Bool :=
  ifO (!decide ((a_p0.length : Int) = (b_p1.length : Int)))
  (some false)
  (Option.bind (loopO (fun i_0 => laws_eqIntS_L0 a_p0 b_p1 i_0) 0) fun y => fork y (fun () => some true) (fun r => some r))
noncomputable def laws_eqImage (a_p0 : ImageT) (b_p1 : ImageT) : Option Bool :=
  ifO (!decide (a_p0.W = b_p1.W))
  (some false)
  (ifO (!decide (a_p0.H = b_p1.H))
  (some false)
  (Option.bind (laws_eqIntS a_p0.Data b_p1.Data) fun x5_4 =>
  ifO (!x5_4)
  (some false)
  (some true)))
noncomputable def laws_eqSurface (a_p0 : SurfaceT) (b_p1 : SurfaceT) : Option Bool :=
  ifO (!decide (a_p0.Id = b_p1.Id))
  (some false)
  (ifO (!decide (a_p0.X = b_p1.X))
  (some false)
  (ifO (!decide (a_p0.Y = b_p1.Y))
  (some false)
  (ifO (!decide (a_p0.W = b_p1.W))
  (some false)
  (ifO (!decide (a_p0.H = b_p1.H))
  (some false)
  (ifO (!decide (a_p0.Alpha = b_p1.Alpha))
  (some false)
  (ifO (!decide (a_p0.Orient = b_p1.Orient))
  (some false)
  (ifO (!(a_p0.Visible == b_p1.Visible))
  (some false)
  (Option.bind (laws_eqImage a_p0.Buffer b_p1.Buffer) fun x17_4 =>
  ifO (!x17_4)
  (some false)
  (some true)))))))))
noncomputable def laws_eqSurfaceS_L0 (a_p0 : List SurfaceT) (b_p1 : List SurfaceT) (i_0 : Int) : Option (Int ⊕ (Unit ⊕ Bool)) :=
  ifO (decide (i_0 < (a_p0.length : Int)))
  (Option.bind (idx a_p0 i_0) fun x6_2 =>
  Option.bind (idx b_p1 i_0) fun x6_6 =>
  Option.bind (laws_eqSurface x6_2 x6_6) fun x6_8 =>
  ifO (!x6_8)
  (some (.inr (.inr (false))))
  (some (.inl (wr (i_0 + 1)))))
  (some (.inr (.inl ())))
noncomputable def laws_eqSurfaceS (a_p0 : List SurfaceT) (b_p1 : List SurfaceT) : Option Bool :=
  ifO (!decide ((a_p0.length : Int) = (b_p1.length : Int)))
  (some false)
  (Option.bind (loopO (fun i_0 => laws_eqSurfaceS_L0 a_p0 b_p1 i_0) 0) fun y => fork y (fun () => some true) (fun r => some r))
noncomputable def laws_eqScene (a_p0 : SceneT) (b_p1 : SceneT) : Option Bool :=
  ifO (!decide (a_p0.W = b_p1.W))
  (some false)
  (ifO (!decide (a_p0.H = b_p1.H))
  (some false)
  (ifO (!decide (a_p0.Back = b_p1.Back))
  (some false)
  (Option.bind (laws_eqSurfaceS a_p0.Surfaces b_p1.Surfaces) fun x7_4 =>
  ifO (!x7_4)
  (some false)
  (some true))))
noncomputable def laws_markIntS_L0  (a_0 : List Int) (k_0 : Int) (i_0 : Int) : Option (((List Int) × Int × Int) ⊕ (Int × (List Int))) :=
  ifO (decide (i_0 < (a_0.length : Int)))
  (Option.bind (upd a_0 i_0 k_0) fun x4_4 =>
  some (.inl (x4_4, (wr (k_0 + 1)), (wr (i_0 + 1)))))
  (some (.inr (k_0, a_0)))
noncomputable def laws_markIntS (a_p0 : List Int) (k_p1 : Int) : Option (Int × (List Int)) :=
  Option.bind (loopO (fun (a_0, k_0, i_0) => laws_markIntS_L0 a_0 k_0 i_0) (a_p0, k_p1, 0)) fun (k_0e, p_0e) =>
  some (k_0e, p_0e)
noncomputable def laws_markSurfaceS_L0  (v_0 : List SurfaceT) (v1_0 : Int) (v2_0 : Int) : Option (((List SurfaceT) × Int × Int) ⊕ (Int × (List SurfaceT))) :=
  ifO (decide (v2_0 < (v_0.length : Int)))
  (Option.bind (idx v_0 v2_0) fun x4_3 =>
  Option.bind (upd v_0 v2_0 (SurfaceT.mk v1_0 x4_3.X x4_3.Y x4_3.W x4_3.H x4_3.Alpha x4_3.Orient x4_3.Visible x4_3.Buffer)) fun x4_5 =>
  Option.bind (idx x4_5 v2_0) fun x6_3 =>
  Option.bind (upd x4_5 v2_0 (SurfaceT.mk x6_3.Id (wr (v1_0 + 1)) x6_3.Y x6_3.W x6_3.H x6_3.Alpha x6_3.Orient x6_3.Visible x6_3.Buffer)) fun x6_5 =>
  Option.bind (idx x6_5 v2_0) fun x8_3 =>
  Option.bind (upd x6_5 v2_0 (SurfaceT.mk x8_3.Id x8_3.X (wr ((wr (v1_0 + 1)) + 1)) x8_3.W x8_3.H x8_3.Alpha x8_3.Orient x8_3.Visible x8_3.Buffer)) fun x8_5 =>
  Option.bind (idx x8_5 v2_0) fun x10_3 =>
  Option.bind (upd x8_5 v2_0 (SurfaceT.mk x10_3.Id x10_3.X x10_3.Y (wr ((wr ((wr (v1_0 + 1)) + 1)) + 1)) x10_3.H x10_3.Alpha x10_3.Orient x10_3.Visible x10_3.Buffer)) fun x10_5 =>
  Option.bind (idx x10_5 v2_0) fun x12_3 =>
  Option.bind (upd x10_5 v2_0 (SurfaceT.mk x12_3.Id x12_3.X x12_3.Y x12_3.W (wr ((wr ((wr ((wr (v1_0 + 1)) + 1)) + 1)) + 1)) x12_3.Alpha x12_3.Orient x12_3.Visible x12_3.Buffer)) fun x12_5 =>
  Option.bind (idx x12_5 v2_0) fun x14_3 =>
  Option.bind (upd x12_5 v2_0 (SurfaceT.mk x14_3.Id x14_3.X x14_3.Y x14_3.W x14_3.H (wr ((wr ((wr ((wr ((wr (v1_0 + 1)) + 1)) + 1)) + 1)) + 1)) x14_3.Orient x14_3.Visible x14_3.Buffer)) fun x14_5 =>
  Option.bind (idx x14_5 v2_0) fun x16_3 =>
  Option.bind (upd x14_5 v2_0 (SurfaceT.mk x16_3.Id x16_3.X x16_3.Y x16_3.W x16_3.H x16_3.Alpha (wr ((wr ((wr ((wr ((wr ((wr (v1_0 + 1)) + 1)) + 1)) + 1)) + 1)) + 1)) x16_3.Visible x16_3.Buffer)) fun x16_5 =>
  Option.bind (idx x16_5 v2_0) fun x18_5 =>
  Option.bind (upd x16_5 v2_0 (SurfaceT.mk x18_5.Id x18_5.X x18_5.Y x18_5.W x18_5.H x18_5.Alpha x18_5.Orient (decide ((Int.tmod (wr ((wr ((wr ((wr ((wr ((wr ((wr (v1_0 + 1)) + 1)) + 1)) + 1)) + 1)) + 1)) + 1)) 3) = 0)) x18_5.Buffer)) fun x18_7 =>
  Option.bind (idx x18_7 v2_0) fun x20_3 =>
  Option.bind (upd x18_7 v2_0 (SurfaceT.mk x20_3.Id x20_3.X x20_3.Y x20_3.W x20_3.H x20_3.Alpha x20_3.Orient x20_3.Visible (ImageT.mk (wr ((wr ((wr ((wr ((wr ((wr ((wr ((wr (v1_0 + 1)) + 1)) + 1)) + 1)) + 1)) + 1)) + 1)) + 1)) x20_3.Buffer.H x20_3.Buffer.Data))) fun x20_6 =>
  Option.bind (idx x20_6 v2_0) fun x22_3 =>
  Option.bind (upd x20_6 v2_0 (SurfaceT.mk x22_3.Id x22_3.X x22_3.Y x22_3.W x22_3.H x22_3.Alpha x22_3.Orient x22_3.Visible (ImageT.mk x22_3.Buffer.W (wr ((wr ((wr ((wr ((wr ((wr ((wr ((wr ((wr (v1_0 + 1)) + 1)) + 1)) + 1)) + 1)) + 1)) + 1)) + 1)) + 1)) x22_3.Buffer.Data))) fun x22_6 =>
  Option.bind (idx x22_6 v2_0) fun x24_2 =>
  Option.bind (laws_markIntS x24_2.Buffer.Data (wr ((wr ((wr ((wr ((wr ((wr ((wr ((wr ((wr ((wr (v1_0 + 1)) + 1)) + 1)) + 1)) + 1)) + 1)) + 1)) + 1)) + 1)) + 1))) fun (x24_7a, x24_7b) =>
  Option.bind (upd x22_6 v2_0 (SurfaceT.mk x24_2.Id x24_2.X x24_2.Y x24_2.W x24_2.H x24_2.Alpha x24_2.Orient x24_2.Visible (ImageT.mk x24_2.Buffer.W x24_2.Buffer.H x24_7b))) fun x24_u =>
  some (.inl (x24_u, x24_7a, (wr (v2_0 + 1)))))
  (some (.inr (v1_0, v_0)))
noncomputable def laws_markSurfaceS (a_p0 : List SurfaceT) (a_p1 : Int) : Option (Int × (List SurfaceT)) :=
  Option.bind (loopO (fun (v_0, v1_0, v2_0) => laws_markSurfaceS_L0 v_0 v1_0 v2_0) (a_p0, a_p1, 0)) fun (v_0e, p_0e) =>
  some (v_0e, p_0e)
noncomputable def laws_markScene (a_p0 : SceneT) (k_p1 : Int) : Option (Int × (List SurfaceT)) :=
  Option.bind (laws_markSurfaceS a_p0.Surfaces k_p1) fun (x1_3a, x1_3b) =>
  some (x1_3a, x1_3b)
noncomputable def laws_heldIntS_L0 (a_p0 : List Int) (k_0 : Int) (i_0 : Int) : Option ((Int × Int) ⊕ (Int ⊕ Int)) :=
  ifO (decide (i_0 < (a_p0.length : Int)))
  (Option.bind (idx a_p0 i_0) fun x4_2 =>
  ifO (!decide (x4_2 = k_0))
  (some (.inr (.inr ((-1)))))
  (some (.inl ((wr (k_0 + 1)), (wr (i_0 + 1))))))
  (some (.inr (.inl k_0)))
noncomputable def laws_heldIntS (a_p0 : List Int) (k_p1 : Int) : Option Int :=
  Option.bind (loopO (fun (k_0, i_0) => laws_heldIntS_L0 a_p0 k_0 i_0) (k_p1, 0)) fun y => fork y (fun k_0e => some k_0e) (fun r => some r)
noncomputable def laws_FnExactAssignedOf (a_p0 : SceneT) (a_p1 : OptionsT) : Option Bool :=
  Option.bind (laws_szScene a_p0 1048576) fun x2_2 =>
  ifO (decide (x2_2 < 0))
  (some true)
  (Option.bind (laws_toScene a_p0) fun x5_1 =>
  Option.bind (laws_toOptions a_p1) fun x5_3 =>
  Option.bind (spec_AssignedOf x5_1 x5_3) fun (x5_4a, x5_4b) =>
  Option.bind (laws_toScene a_p0) fun x6_1 =>
  Option.bind (laws_toOptions a_p1) fun x7_2 =>
  Option.bind (impl_AssignedOf x6_1 x7_2) fun (x7_3a, x7_3b) =>
  Option.bind (laws_eqIntS x7_3a x5_4a) fun x8_2 =>
  ifO ((!x8_2) || (!decide (x7_3b = x5_4b)))
  (some false)
  (Option.bind (laws_toScene a_p0) fun x10_2 =>
  Option.bind (laws_eqScene x6_1 x10_2) fun x10_3 =>
  ifO (!x10_3)
  (some false)
  (Option.bind (laws_markScene x6_1 1) fun (x13_2a, x13_2b) =>
  Option.bind (orO (decide (x13_2a < 0)) (Option.bind (laws_eqIntS x7_3a x5_4a) fun x14_5 =>
  some (!x14_5))) fun q14_7 =>
  ifO (q14_7 || (!decide (x7_3b = x5_4b)))
  (some false)
  (Option.bind (laws_markIntS x7_3a 1) fun (x17_2a, x17_2b) =>
  Option.bind (laws_heldIntS x17_2b 1) fun x19_2 =>
  ifO (decide (x19_2 < 0))
  (some false)
  (ifO (!decide (x19_2 = x17_2a))
  (some false)
  (Option.bind (laws_toScene a_p0) fun x24_1 =>
  Option.bind (laws_toOptions a_p1) fun x24_3 =>
  Option.bind (impl_AssignedOf x24_1 x24_3) fun (x24_4a, x24_4b) =>
  Option.bind (laws_eqIntS x24_4a x5_4a) fun x25_2 =>
  ifO ((!x25_2) || (!decide (x24_4b = x5_4b)))
  (some false)
  (Option.bind (laws_heldIntS x17_2b 1) fun x28_2 =>
  ifO (decide (x28_2 < 0))
  (some false)
  (ifO (!decide (x28_2 = x17_2a))
  (some false)
  (some true)))))))))
noncomputable def spec_l05Copy (i_p0 : ImageT) : Option ImageT :=
  Option.bind (app ([] : List Int) i_p0.Data) fun x1_7 =>
  some (ImageT.mk i_p0.W i_p0.H x1_7)
noncomputable def spec_l10CopySurface (s_p0 : SurfaceT) : Option SurfaceT :=
  Option.bind (spec_l05Copy s_p0.Buffer) fun x1_2 =>
  some (SurfaceT.mk s_p0.Id s_p0.X s_p0.Y s_p0.W s_p0.H s_p0.Alpha s_p0.Orient s_p0.Visible x1_2)
noncomputable def spec_RestOf_L0 (s_p0 : SceneT) (x1_2a : List Int) (out_0 : List SurfaceT) (k_0 : Int) : Option (((List SurfaceT) × Int) ⊕ (List SurfaceT)) :=
  ifO (decide (k_0 < (s_p0.Surfaces.length : Int)))
  (Option.bind (Option.bind (idx x1_2a 0) fun x8_2 =>
  Option.bind (andO (!decide (k_0 = x8_2)) (Option.bind (idx x1_2a 1) fun x8_8 =>
  some (!decide (k_0 = x8_8)))) fun q8_11 =>
  Option.bind (andO q8_11 (Option.bind (idx x1_2a 2) fun x8_15 =>
  some (!decide (k_0 = x8_15)))) fun q8_18 =>
  ifO q8_18
  (Option.bind (idx s_p0.Surfaces k_0) fun x9_5 =>
  Option.bind (spec_l10CopySurface x9_5) fun x9_7 =>
  Option.bind (app out_0 [x9_7]) fun x9_9 =>
  some x9_9)
  (some out_0)) fun out_1j =>
  some (.inl (out_1j, (wr (k_0 + 1)))))
  (some (.inr out_0))
noncomputable def spec_RestOf (s_p0 : SceneT) (o_p1 : OptionsT) : Option SceneT :=
  Option.bind (spec_AssignedOf s_p0 o_p1) fun (x1_2a, x1_2b) =>
  ifO (decide ((x1_2a.length : Int) = 0))
  (some (SceneT.mk 0 0 0 []))
  (Option.bind (loopO (fun (out_0, k_0) => spec_RestOf_L0 s_p0 x1_2a out_0 k_0) ([], 0)) fun out_0e =>
  some (SceneT.mk s_p0.W s_p0.H s_p0.Back out_0e))
noncomputable def slices_Index_S_int_int_L0 (s_p0 : List Int) (v_p1 : Int) (v_0 : Int) : Option (Int ⊕ (Unit ⊕ Int)) :=
  ifO (decide (v_0 < (s_p0.length : Int)))
  (Option.bind (idx s_p0 v_0) fun x4_3 =>
  ifO (decide (v_p1 = x4_3))
  (some (.inr (.inr (v_0))))
  (some (.inl (wr (v_0 + 1)))))
  (some (.inr (.inl ())))
noncomputable def slices_Index_S_int_int (s_p0 : List Int) (v_p1 : Int) : Option Int :=
  Option.bind (loopO (fun v_0 => slices_Index_S_int_int_L0 s_p0 v_p1 v_0) 0) fun y => fork y (fun () => some (-1)) (fun r => some r)
noncomputable def slices_Contains_S_int_int (s_p0 : List Int) (v_p1 : Int) : Option Bool :=
  Option.bind (slices_Index_S_int_int s_p0 v_p1) fun x1_2 =>
  some (decide (0 ≤ x1_2))
def slices_Clone_S_int_int (s_p0 : List Int) : Option (List Int) := need (s_p0.length ≤ 1073741824) (some s_p0)
noncomputable def impl_copyImage (i_p0 : ImageT) : Option ImageT :=
  Option.bind (slices_Clone_S_int_int i_p0.Data) fun x1_6 =>
  some (ImageT.mk i_p0.W i_p0.H x1_6)
noncomputable def impl_copySurface (s_p0 : SurfaceT) : Option SurfaceT :=
  Option.bind (impl_copyImage s_p0.Buffer) fun x1_2 =>
  some (SurfaceT.mk s_p0.Id s_p0.X s_p0.Y s_p0.W s_p0.H s_p0.Alpha s_p0.Orient s_p0.Visible x1_2)
noncomputable def impl_RestOf_L0 (s_p0 : SceneT) (x3_2a : List Int) (out_0 : List SurfaceT) (v_0 : Int) : Option (((List SurfaceT) × Int) ⊕ (List SurfaceT)) :=
  ifO (decide (v_0 < (s_p0.Surfaces.length : Int)))
  (Option.bind (Option.bind (idx s_p0.Surfaces v_0) fun x7_1 =>
  Option.bind (slices_Contains_S_int_int x3_2a v_0) fun x8_2 =>
  ifO (!x8_2)
  (Option.bind (impl_copySurface x7_1) fun x9_3 =>
  Option.bind (app out_0 [x9_3]) fun x9_5 =>
  some x9_5)
  (some out_0)) fun out_1j =>
  some (.inl (out_1j, (wr (v_0 + 1)))))
  (some (.inr out_0))
noncomputable def impl_RestOf (s_p0 : SceneT) (o_p1 : OptionsT) : Option SceneT :=
  Option.bind (impl_SceneOk s_p0) fun x1_1 =>
  Option.bind (orO (!x1_1) (Option.bind (impl_OptionsOk o_p1) fun x1_5 =>
  some (!x1_5))) fun q1_7 =>
  ifO q1_7
  (some (SceneT.mk 0 0 0 []))
  (Option.bind (impl_AssignedOf s_p0 o_p1) fun (x3_2a, x3_2b) =>
  Option.bind (loopO (fun (out_0, v_0) => impl_RestOf_L0 s_p0 x3_2a out_0 v_0) ([], 0)) fun out_0e =>
  some (SceneT.mk s_p0.W s_p0.H s_p0.Back out_0e))
noncomputable def laws_heldSurfaceS_L0 (a_p0 : List SurfaceT) (v_0 : Int) (v1_0 : Int) : Option ((Int × Int) ⊕ (Int ⊕ Int)) :=
  ifO (decide (v1_0 < (a_p0.length : Int)))
  (Option.bind (idx a_p0 v1_0) fun x4_2 =>
  ifO (!decide (x4_2.Id = v_0))
  (some (.inr (.inr ((-1)))))
  (Option.bind (idx a_p0 v1_0) fun x7_2 =>
  ifO (!decide (x7_2.X = (wr (v_0 + 1))))
  (some (.inr (.inr ((-1)))))
  (Option.bind (idx a_p0 v1_0) fun x10_2 =>
  ifO (!decide (x10_2.Y = (wr ((wr (v_0 + 1)) + 1))))
  (some (.inr (.inr ((-1)))))
  (Option.bind (idx a_p0 v1_0) fun x13_2 =>
  ifO (!decide (x13_2.W = (wr ((wr ((wr (v_0 + 1)) + 1)) + 1))))
  (some (.inr (.inr ((-1)))))
  (Option.bind (idx a_p0 v1_0) fun x16_2 =>
  ifO (!decide (x16_2.H = (wr ((wr ((wr ((wr (v_0 + 1)) + 1)) + 1)) + 1))))
  (some (.inr (.inr ((-1)))))
  (Option.bind (idx a_p0 v1_0) fun x19_2 =>
  ifO (!decide (x19_2.Alpha = (wr ((wr ((wr ((wr ((wr (v_0 + 1)) + 1)) + 1)) + 1)) + 1))))
  (some (.inr (.inr ((-1)))))
  (Option.bind (idx a_p0 v1_0) fun x22_2 =>
  ifO (!decide (x22_2.Orient = (wr ((wr ((wr ((wr ((wr ((wr (v_0 + 1)) + 1)) + 1)) + 1)) + 1)) + 1))))
  (some (.inr (.inr ((-1)))))
  (Option.bind (idx a_p0 v1_0) fun x25_2 =>
  ifO (!(x25_2.Visible == (decide ((Int.tmod (wr ((wr ((wr ((wr ((wr ((wr ((wr (v_0 + 1)) + 1)) + 1)) + 1)) + 1)) + 1)) + 1)) 3) = 0))))
  (some (.inr (.inr ((-1)))))
  (Option.bind (idx a_p0 v1_0) fun x28_2 =>
  ifO (!decide (x28_2.Buffer.W = (wr ((wr ((wr ((wr ((wr ((wr ((wr ((wr (v_0 + 1)) + 1)) + 1)) + 1)) + 1)) + 1)) + 1)) + 1))))
  (some (.inr (.inr ((-1)))))
  (Option.bind (idx a_p0 v1_0) fun x31_2 =>
  ifO (!decide (x31_2.Buffer.H = (wr ((wr ((wr ((wr ((wr ((wr ((wr ((wr ((wr (v_0 + 1)) + 1)) + 1)) + 1)) + 1)) + 1)) + 1)) + 1)) + 1))))
  (some (.inr (.inr ((-1)))))
  (Option.bind (idx a_p0 v1_0) fun x34_2 =>
  Option.bind (laws_heldIntS x34_2.Buffer.Data (wr ((wr ((wr ((wr ((wr ((wr ((wr ((wr ((wr ((wr (v_0 + 1)) + 1)) + 1)) + 1)) + 1)) + 1)) + 1)) + 1)) + 1)) + 1))) fun x34_7 =>
  ifO (decide (x34_7 < 0))
  (some (.inr (.inr ((-1)))))
  (some (.inl (x34_7, (wr (v1_0 + 1))))))))))))))))
  (some (.inr (.inl v_0)))
noncomputable def laws_heldSurfaceS (a_p0 : List SurfaceT) (a_p1 : Int) : Option Int :=
  Option.bind (loopO (fun (v_0, v1_0) => laws_heldSurfaceS_L0 a_p0 v_0 v1_0) (a_p1, 0)) fun y => fork y (fun v_0e => some v_0e) (fun r => some r)
noncomputable def laws_heldScene (a_p0 : SceneT) (k_p1 : Int) : Option Int :=
  Option.bind (laws_heldSurfaceS a_p0.Surfaces k_p1) fun x1_3 =>
  ifO (decide (x1_3 < 0))
  (some (-1))
  (some x1_3)
noncomputable def laws_FnExactRestOf (a_p0 : SceneT) (a_p1 : OptionsT) : Option Bool :=
  Option.bind (laws_szScene a_p0 1048576) fun x2_2 =>
  ifO (decide (x2_2 < 0))
  (some true)
  (Option.bind (laws_toScene a_p0) fun x5_1 =>
  Option.bind (laws_toOptions a_p1) fun x5_3 =>
  Option.bind (spec_RestOf x5_1 x5_3) fun x5_4 =>
  Option.bind (laws_toScene a_p0) fun x6_1 =>
  Option.bind (laws_toOptions a_p1) fun x7_2 =>
  Option.bind (impl_RestOf x6_1 x7_2) fun x7_3 =>
  Option.bind (laws_eqScene x7_3 x5_4) fun x8_2 =>
  ifO (!x8_2)
  (some false)
  (Option.bind (laws_toScene a_p0) fun x10_2 =>
  Option.bind (laws_eqScene x6_1 x10_2) fun x10_3 =>
  ifO (!x10_3)
  (some false)
  (Option.bind (laws_markScene x6_1 1) fun (x13_2a, x13_2b) =>
  Option.bind (orO (decide (x13_2a < 0)) (Option.bind (laws_eqScene x7_3 x5_4) fun x14_5 =>
  some (!x14_5))) fun q14_7 =>
  ifO q14_7
  (some false)
  (Option.bind (laws_markScene x7_3 1) fun (x17_2a, x17_2b) =>
  Option.bind (laws_heldScene (SceneT.mk x7_3.W x7_3.H x7_3.Back x17_2b) 1) fun x19_2 =>
  ifO (decide (x19_2 < 0))
  (some false)
  (ifO (!decide (x19_2 = x17_2a))
  (some false)
  (Option.bind (laws_toScene a_p0) fun x24_1 =>
  Option.bind (laws_toOptions a_p1) fun x24_3 =>
  Option.bind (impl_RestOf x24_1 x24_3) fun x24_4 =>
  Option.bind (laws_eqScene x24_4 x5_4) fun x25_2 =>
  ifO (!x25_2)
  (some false)
  (Option.bind (laws_heldScene (SceneT.mk x7_3.W x7_3.H x7_3.Back x17_2b) 1) fun x28_2 =>
  ifO (decide (x28_2 < 0))
  (some false)
  (ifO (!decide (x28_2 = x17_2a))
  (some false)
  (some true)))))))))
noncomputable def spec_WordCount (w_p0 : Int) (h_p1 : Int) (layout_p2 : Int) : Option Int :=
  Option.bind (spec_l01In w_p0 1 16) fun x1_1 =>
  Option.bind (orO (!x1_1) (Option.bind (spec_l01In h_p1 1 16) fun x1_5 =>
  some (!x1_5))) fun q1_7 =>
  ifO q1_7
  (some (-1))
  (ifO (decide (layout_p2 = 0))
  (some (wr (w_p0 * h_p1)))
  (ifO (decide (layout_p2 = 1))
  (some (wr ((wr ((wr (Int.tdiv (wr (w_p0 + 3)) 4)) * 4)) * (wr ((wr (Int.tdiv (wr (h_p1 + 3)) 4)) * 4)))))
  (some (-1))))
noncomputable def spec_WordPlace (w_p0 : Int) (h_p1 : Int) (layout_p2 : Int) (x_p3 : Int) (y_p4 : Int) : Option Int :=
  Option.bind (spec_WordCount w_p0 h_p1 layout_p2) fun x1_3 =>
  Option.bind (orO (decide (x1_3 < 0)) (Option.bind (spec_l01In x_p3 0 (wr (w_p0 - 1))) fun x1_9 =>
  some (!x1_9))) fun q1_11 =>
  Option.bind (orO q1_11 (Option.bind (spec_l01In y_p4 0 (wr (h_p1 - 1))) fun x1_16 =>
  some (!x1_16))) fun q1_18 =>
  ifO q1_18
  (some (-1))
  (ifO (decide (layout_p2 = 0))
  (some (wr ((wr (y_p4 * w_p0)) + x_p3)))
  (some (wr ((wr ((wr ((wr ((wr ((wr (Int.tdiv y_p4 4)) * (wr (Int.tdiv (wr (w_p0 + 3)) 4)))) + (wr (Int.tdiv x_p3 4)))) * 16)) + (wr ((Int.tmod y_p4 4) * 4)))) + (Int.tmod x_p3 4)))))
noncomputable def spec_StoreImage_L2 (a_p0 : ImageT) (v1_0 : Int) (v1_1 : Int) (v_2 : Int) : Option (Int ⊕ Int) :=
  Option.bind (andO (decide ((wr (v1_1 + v_2)) < a_p0.W)) (Option.bind (idx a_p0.Data (wr ((wr ((wr (v1_0 * a_p0.W)) + v1_1)) + v_2))) fun x11_17 =>
  Option.bind (idx a_p0.Data (wr ((wr (v1_0 * a_p0.W)) + v1_1))) fun x11_27 =>
  some (decide (x11_17 = x11_27)))) fun q11_30 =>
  ifO q11_30
  (some (.inl (wr (v_2 + 1))))
  (some (.inr v_2))
noncomputable def spec_StoreImage_L1 (a_p0 : ImageT) (v1_0 : Int) (v_1 : List Int) (v1_1 : Int) : Option (((List Int) × Int) ⊕ (List Int)) :=
  ifO (decide (v1_1 < a_p0.W))
  (Option.bind (loopO (fun v_2 => spec_StoreImage_L2 a_p0 v1_0 v1_1 v_2) 1) fun v_2e =>
  Option.bind (idx a_p0.Data (wr ((wr (v1_0 * a_p0.W)) + v1_1))) fun x13_10 =>
  Option.bind (app v_1 [v_2e, x13_10]) fun x13_13 =>
  some (.inl (x13_13, (wr (v1_1 + v_2e)))))
  (some (.inr v_1))
noncomputable def spec_StoreImage_L0 (a_p0 : ImageT) (v_0 : List Int) (v1_0 : Int) : Option (((List Int) × Int) ⊕ (List Int)) :=
  ifO (decide (v1_0 < a_p0.H))
  (Option.bind (loopO (fun (v_1, v1_1) => spec_StoreImage_L1 a_p0 v1_0 v_1 v1_1) (v_0, 0)) fun v_1e =>
  some (.inl (v_1e, (wr (v1_0 + 1)))))
  (some (.inr v_0))
noncomputable def spec_StoreImage_L4 (a_p0 : ImageT) (a_p1 : Int) (v1_3 : Int) (v_4 : List Int) (v1_4 : Int) : Option (((List Int) × Int) ⊕ (List Int)) :=
  ifO (decide (v1_4 < a_p0.W))
  (Option.bind (spec_WordPlace a_p0.W a_p0.H a_p1 v1_4 v1_3) fun x23_8 =>
  Option.bind (idx a_p0.Data (wr ((wr (v1_3 * a_p0.W)) + v1_4))) fun x23_17 =>
  Option.bind (upd v_4 x23_8 x23_17) fun x23_20 =>
  some (.inl (x23_20, (wr (v1_4 + 1)))))
  (some (.inr v_4))
noncomputable def spec_StoreImage_L3 (a_p0 : ImageT) (a_p1 : Int) (v_3 : List Int) (v1_3 : Int) : Option (((List Int) × Int) ⊕ (List Int)) :=
  ifO (decide (v1_3 < a_p0.H))
  (Option.bind (loopO (fun (v_4, v1_4) => spec_StoreImage_L4 a_p0 a_p1 v1_3 v_4 v1_4) (v_3, 0)) fun v_4e =>
  some (.inl (v_4e, (wr (v1_3 + 1)))))
  (some (.inr v_3))
noncomputable def spec_StoreImage (a_p0 : ImageT) (a_p1 : Int) : Option ((List Int) × Bool) :=
  Option.bind (spec_ImageOk a_p0) fun x1_1 =>
  Option.bind (orO (!x1_1) (Option.bind (spec_l01In a_p1 0 2) fun x1_5 =>
  some (!x1_5))) fun q1_7 =>
  ifO q1_7
  (some (([] : List Int), false))
  (ifO (decide (a_p1 = 2))
  (Option.bind (loopO (fun (v_0, v1_0) => spec_StoreImage_L0 a_p0 v_0 v1_0) (([] : List Int), 0)) fun v_0e =>
  some (v_0e, true))
  (Option.bind (spec_WordCount a_p0.W a_p0.H a_p1) fun x16_5 =>
  Option.bind (mkO x16_5 0) fun x16_6 =>
  Option.bind (loopO (fun (v_3, v1_3) => spec_StoreImage_L3 a_p0 a_p1 v_3 v1_3) (x16_6, 0)) fun v_3e =>
  some (v_3e, true)))
noncomputable def spec_PlaneOf (i_p0 : ImageT) (x_p1 : Int) (y_p2 : Int) (layout_p3 : Int) : Option PlaneT :=
  Option.bind (spec_StoreImage i_p0 layout_p3) fun (x1_2a, x1_2b) =>
  ifO (!x1_2b)
  (some (PlaneT.mk false 0 0 0 0 0 [] 0 0 0 0))
  (some (PlaneT.mk true x_p1 y_p2 i_p0.W i_p0.H layout_p3 x1_2a 255 0 0 0))
noncomputable def spec_PlanesOf_L0 (a_p0 : SceneT) (a_p1 : OptionsT) (x1_2a : List Int) (v_0 : List PlaneT) (v1_0 : Int) : Option (((List PlaneT) × Int) ⊕ (List PlaneT)) :=
  ifO (decide (v1_0 < (x1_2a.length : Int)))
  (Option.bind (Option.bind (idx x1_2a v1_0) fun x9_2 =>
  ifO (decide (0 ≤ x9_2))
  (Option.bind (idx x1_2a v1_0) fun x10_4 =>
  Option.bind (idx a_p0.Surfaces x10_4) fun x10_6 =>
  Option.bind (spec_PlaneOf x10_6.Buffer x10_6.X x10_6.Y a_p1.Layout) fun x11_8 =>
  Option.bind (app v_0 [(PlaneT.mk x11_8.On x11_8.X x11_8.Y x11_8.W x11_8.H x11_8.Layout x11_8.Words x10_6.Alpha x10_6.Orient x10_6.W x10_6.H)]) fun x16_3 =>
  some x16_3)
  (Option.bind (app v_0 [(PlaneT.mk false 0 0 0 0 0 [] 0 0 0 0)]) fun x16_3 =>
  some x16_3)) fun v_1j =>
  some (.inl (v_1j, (wr (v1_0 + 1)))))
  (some (.inr v_0))
noncomputable def spec_PlanesOf (a_p0 : SceneT) (a_p1 : OptionsT) (a_p2 : ImageT) : Option (List PlaneT) :=
  Option.bind (spec_AssignedOf a_p0 a_p1) fun (x1_2a, x1_2b) =>
  Option.bind (orO (decide ((x1_2a.length : Int) = 0)) (Option.bind (spec_ImageOk a_p2) fun x2_5 =>
  some (!x2_5))) fun q2_7 =>
  ifO q2_7
  (some ([] : List PlaneT))
  (Option.bind (spec_PlaneOf a_p2 0 0 a_p1.Layout) fun x4_3 =>
  Option.bind (loopO (fun (v_0, v1_0) => spec_PlanesOf_L0 a_p0 a_p1 x1_2a v_0 v1_0) ([x4_3], 0)) fun v_0e =>
  some v_0e)
noncomputable def impl_runsOf_L1 (i_p0 : ImageT) (k_0 : Int) (end_1 : Int) : Option (Int ⊕ Int) :=
  Option.bind (remO end_1 i_p0.W) fun x5_3 =>
  Option.bind (andO (!decide (x5_3 = 0)) (Option.bind (idx i_p0.Data end_1) fun x5_9 =>
  Option.bind (idx i_p0.Data k_0) fun x5_14 =>
  some (decide (x5_9 = x5_14)))) fun q5_17 =>
  ifO q5_17
  (some (.inl (wr (end_1 + 1))))
  (some (.inr end_1))
noncomputable def impl_runsOf_L0 (i_p0 : ImageT) (out_0 : List Int) (k_0 : Int) : Option (((List Int) × Int) ⊕ (List Int)) :=
  ifO (decide (k_0 < (i_p0.Data.length : Int)))
  (Option.bind (loopO (fun end_1 => impl_runsOf_L1 i_p0 k_0 end_1) (wr (k_0 + 1))) fun end_1e =>
  Option.bind (idx i_p0.Data k_0) fun x7_7 =>
  Option.bind (app out_0 [(wr (end_1e - k_0)), x7_7]) fun x7_10 =>
  some (.inl (x7_10, end_1e)))
  (some (.inr out_0))
noncomputable def impl_runsOf (i_p0 : ImageT) : Option (List Int) :=
  Option.bind (loopO (fun (out_0, k_0) => impl_runsOf_L0 i_p0 out_0 k_0) (([] : List Int), 0)) fun out_0e =>
  some out_0e
noncomputable def impl_tilesOf (n_p0 : Int) : Option Int :=
  some (wr (Int.tdiv (wr ((wr (n_p0 + 4)) - 1)) 4))
noncomputable def impl_WordCount (w_p0 : Int) (h_p1 : Int) (layout_p2 : Int) : Option Int :=
  Option.bind (impl_isSide w_p0) fun x1_1 =>
  Option.bind (orO (!x1_1) (Option.bind (impl_isSide h_p1) fun x1_5 =>
  some (!x1_5))) fun q1_7 =>
  ifO q1_7
  (some (-1))
  (ifO (decide (layout_p2 = 0))
  (some (wr (w_p0 * h_p1)))
  (ifO (decide (layout_p2 = 1))
  (Option.bind (impl_tilesOf w_p0) fun x7_1 =>
  Option.bind (impl_tilesOf h_p1) fun x7_3 =>
  some (wr ((wr ((wr (x7_1 * x7_3)) * 4)) * 4)))
  (some (-1))))
noncomputable def impl_wordPlace (w_p0 : Int) (layout_p1 : Int) (x_p2 : Int) (y_p3 : Int) : Option Int :=
  ifO (decide (layout_p1 = 0))
  (some (wr ((wr (y_p3 * w_p0)) + x_p2)))
  (Option.bind (impl_tilesOf w_p0) fun x3_3 =>
  some (wr ((wr ((wr ((wr ((wr ((wr ((wr (Int.tdiv y_p3 4)) * x3_3)) + (wr (Int.tdiv x_p2 4)))) * 4)) * 4)) + (wr ((Int.tmod y_p3 4) * 4)))) + (Int.tmod x_p2 4))))
noncomputable def impl_StoreImage_L0 (i_p0 : ImageT) (layout_p1 : Int) (out_0 : List Int) (v_0 : Int) : Option (((List Int) × Int) ⊕ (List Int)) :=
  ifO (decide (v_0 < (i_p0.Data.length : Int)))
  (Option.bind (idx i_p0.Data v_0) fun x8_1 =>
  Option.bind (remO v_0 i_p0.W) fun x9_7 =>
  Option.bind (quoO v_0 i_p0.W) fun x9_11 =>
  Option.bind (impl_wordPlace i_p0.W layout_p1 x9_7 x9_11) fun x9_12 =>
  Option.bind (upd out_0 x9_12 x8_1) fun x9_15 =>
  some (.inl (x9_15, (wr (v_0 + 1)))))
  (some (.inr out_0))
noncomputable def impl_StoreImage (i_p0 : ImageT) (layout_p1 : Int) : Option ((List Int) × Bool) :=
  Option.bind (impl_ImageOk i_p0) fun x1_1 =>
  Option.bind (orO (!x1_1) (Option.bind (impl_within layout_p1 0 2) fun x1_5 =>
  some (!x1_5))) fun q1_7 =>
  ifO q1_7
  (some (([] : List Int), false))
  (ifO (decide (layout_p1 = 2))
  (Option.bind (impl_runsOf i_p0) fun x4_1 =>
  some (x4_1, true))
  (Option.bind (impl_WordCount i_p0.W i_p0.H layout_p1) fun x5_5 =>
  Option.bind (mkO x5_5 0) fun x5_6 =>
  Option.bind (loopO (fun (out_0, v_0) => impl_StoreImage_L0 i_p0 layout_p1 out_0 v_0) (x5_6, 0)) fun out_0e =>
  some (out_0e, true)))
noncomputable def impl_PlaneOf (i_p0 : ImageT) (x_p1 : Int) (y_p2 : Int) (layout_p3 : Int) : Option PlaneT :=
  Option.bind (impl_StoreImage i_p0 layout_p3) fun (x1_2a, x1_2b) =>
  ifO (!x1_2b)
  (some (PlaneT.mk false 0 0 0 0 0 [] 0 0 0 0))
  (some (PlaneT.mk true x_p1 y_p2 i_p0.W i_p0.H layout_p3 x1_2a 255 0 0 0))
noncomputable def impl_PlanesOf_L0 (a_p0 : SceneT) (a_p1 : OptionsT) (x5_2a : List Int) (v_0 : List PlaneT) (v1_0 : Int) : Option (((List PlaneT) × Int) ⊕ (List PlaneT)) :=
  ifO (decide (v1_0 < (x5_2a.length : Int)))
  (Option.bind (Option.bind (idx x5_2a v1_0) fun x8_1 =>
  ifO (decide (x8_1 < 0))
  (some v_0)
  (Option.bind (idx a_p0.Surfaces x8_1) fun x10_3 =>
  Option.bind (impl_PlaneOf x10_3.Buffer x10_3.X x10_3.Y a_p1.Layout) fun x11_8 =>
  Option.bind (upd v_0 (wr (v1_0 + 1)) (PlaneT.mk x11_8.On x11_8.X x11_8.Y x11_8.W x11_8.H x11_8.Layout x11_8.Words x10_3.Alpha x10_3.Orient x10_3.W x10_3.H)) fun x13_5 =>
  some x13_5)) fun v_1j =>
  some (.inl (v_1j, (wr (v1_0 + 1)))))
  (some (.inr v_0))
noncomputable def impl_PlanesOf (a_p0 : SceneT) (a_p1 : OptionsT) (a_p2 : ImageT) : Option (List PlaneT) :=
  Option.bind (impl_SceneOk a_p0) fun x1_1 =>
  Option.bind (orO (!x1_1) (Option.bind (impl_OptionsOk a_p1) fun x1_5 =>
  some (!x1_5))) fun q1_7 =>
  Option.bind (orO q1_7 (Option.bind (impl_ImageOk a_p2) fun x1_10 =>
  some (!x1_10))) fun q1_12 =>
  ifO q1_12
  (some ([] : List PlaneT))
  (Option.bind (mkO 4 (PlaneT.mk false 0 0 0 0 0 [] 0 0 0 0)) fun x3_0 =>
  Option.bind (impl_PlaneOf a_p2 0 0 a_p1.Layout) fun x4_4 =>
  Option.bind (upd x3_0 0 x4_4) fun x4_6 =>
  Option.bind (impl_AssignedOf a_p0 a_p1) fun (x5_2a, x5_2b) =>
  Option.bind (loopO (fun (v_0, v1_0) => impl_PlanesOf_L0 a_p0 a_p1 x5_2a v_0 v1_0) (x4_6, 0)) fun v_0e =>
  some v_0e)
noncomputable def laws_eqPlane (a_p0 : PlaneT) (b_p1 : PlaneT) : Option Bool :=
  ifO (!(a_p0.On == b_p1.On))
  (some false)
  (ifO (!decide (a_p0.X = b_p1.X))
  (some false)
  (ifO (!decide (a_p0.Y = b_p1.Y))
  (some false)
  (ifO (!decide (a_p0.W = b_p1.W))
  (some false)
  (ifO (!decide (a_p0.H = b_p1.H))
  (some false)
  (ifO (!decide (a_p0.Layout = b_p1.Layout))
  (some false)
  (Option.bind (laws_eqIntS a_p0.Words b_p1.Words) fun x13_4 =>
  ifO (!x13_4)
  (some false)
  (ifO (!decide (a_p0.Alpha = b_p1.Alpha))
  (some false)
  (ifO (!decide (a_p0.Orient = b_p1.Orient))
  (some false)
  (ifO (!decide (a_p0.ToW = b_p1.ToW))
  (some false)
  (ifO (!decide (a_p0.ToH = b_p1.ToH))
  (some false)
  (some true)))))))))))
noncomputable def laws_eqPlaneS_L0 (a_p0 : List PlaneT) (b_p1 : List PlaneT) (i_0 : Int) : Option (Int ⊕ (Unit ⊕ Bool)) :=
  ifO (decide (i_0 < (a_p0.length : Int)))
  (Option.bind (idx a_p0 i_0) fun x6_2 =>
  Option.bind (idx b_p1 i_0) fun x6_6 =>
  Option.bind (laws_eqPlane x6_2 x6_6) fun x6_8 =>
  ifO (!x6_8)
  (some (.inr (.inr (false))))
  (some (.inl (wr (i_0 + 1)))))
  (some (.inr (.inl ())))
noncomputable def laws_eqPlaneS (a_p0 : List PlaneT) (b_p1 : List PlaneT) : Option Bool :=
  ifO (!decide ((a_p0.length : Int) = (b_p1.length : Int)))
  (some false)
  (Option.bind (loopO (fun i_0 => laws_eqPlaneS_L0 a_p0 b_p1 i_0) 0) fun y => fork y (fun () => some true) (fun r => some r))
noncomputable def laws_markImage (a_p0 : ImageT) (k_p1 : Int) : Option (Int × (List Int)) :=
  Option.bind (laws_markIntS a_p0.Data k_p1) fun (x1_3a, x1_3b) =>
  some (x1_3a, x1_3b)
noncomputable def laws_markPlaneS_L0  (v_0 : List PlaneT) (v1_0 : Int) (v2_0 : Int) : Option (((List PlaneT) × Int × Int) ⊕ (Int × (List PlaneT))) :=
  ifO (decide (v2_0 < (v_0.length : Int)))
  (Option.bind (idx v_0 v2_0) fun x4_5 =>
  Option.bind (upd v_0 v2_0 (PlaneT.mk (decide ((Int.tmod v1_0 3) = 0)) x4_5.X x4_5.Y x4_5.W x4_5.H x4_5.Layout x4_5.Words x4_5.Alpha x4_5.Orient x4_5.ToW x4_5.ToH)) fun x4_7 =>
  Option.bind (idx x4_7 v2_0) fun x6_3 =>
  Option.bind (upd x4_7 v2_0 (PlaneT.mk x6_3.On (wr (v1_0 + 1)) x6_3.Y x6_3.W x6_3.H x6_3.Layout x6_3.Words x6_3.Alpha x6_3.Orient x6_3.ToW x6_3.ToH)) fun x6_5 =>
  Option.bind (idx x6_5 v2_0) fun x8_3 =>
  Option.bind (upd x6_5 v2_0 (PlaneT.mk x8_3.On x8_3.X (wr ((wr (v1_0 + 1)) + 1)) x8_3.W x8_3.H x8_3.Layout x8_3.Words x8_3.Alpha x8_3.Orient x8_3.ToW x8_3.ToH)) fun x8_5 =>
  Option.bind (idx x8_5 v2_0) fun x10_3 =>
  Option.bind (upd x8_5 v2_0 (PlaneT.mk x10_3.On x10_3.X x10_3.Y (wr ((wr ((wr (v1_0 + 1)) + 1)) + 1)) x10_3.H x10_3.Layout x10_3.Words x10_3.Alpha x10_3.Orient x10_3.ToW x10_3.ToH)) fun x10_5 =>
  Option.bind (idx x10_5 v2_0) fun x12_3 =>
  Option.bind (upd x10_5 v2_0 (PlaneT.mk x12_3.On x12_3.X x12_3.Y x12_3.W (wr ((wr ((wr ((wr (v1_0 + 1)) + 1)) + 1)) + 1)) x12_3.Layout x12_3.Words x12_3.Alpha x12_3.Orient x12_3.ToW x12_3.ToH)) fun x12_5 =>
  Option.bind (idx x12_5 v2_0) fun x14_3 =>
  Option.bind (upd x12_5 v2_0 (PlaneT.mk x14_3.On x14_3.X x14_3.Y x14_3.W x14_3.H (wr ((wr ((wr ((wr ((wr (v1_0 + 1)) + 1)) + 1)) + 1)) + 1)) x14_3.Words x14_3.Alpha x14_3.Orient x14_3.ToW x14_3.ToH)) fun x14_5 =>
  Option.bind (idx x14_5 v2_0) fun x16_2 =>
  Option.bind (laws_markIntS x16_2.Words (wr ((wr ((wr ((wr ((wr ((wr (v1_0 + 1)) + 1)) + 1)) + 1)) + 1)) + 1))) fun (x16_6a, x16_6b) =>
  Option.bind (upd x14_5 v2_0 (PlaneT.mk x16_2.On x16_2.X x16_2.Y x16_2.W x16_2.H x16_2.Layout x16_6b x16_2.Alpha x16_2.Orient x16_2.ToW x16_2.ToH)) fun x16_u =>
  Option.bind (idx x16_u v2_0) fun x17_3 =>
  Option.bind (upd x16_u v2_0 (PlaneT.mk x17_3.On x17_3.X x17_3.Y x17_3.W x17_3.H x17_3.Layout x17_3.Words x16_6a x17_3.Orient x17_3.ToW x17_3.ToH)) fun x17_5 =>
  Option.bind (idx x17_5 v2_0) fun x19_3 =>
  Option.bind (upd x17_5 v2_0 (PlaneT.mk x19_3.On x19_3.X x19_3.Y x19_3.W x19_3.H x19_3.Layout x19_3.Words x19_3.Alpha (wr (x16_6a + 1)) x19_3.ToW x19_3.ToH)) fun x19_5 =>
  Option.bind (idx x19_5 v2_0) fun x21_3 =>
  Option.bind (upd x19_5 v2_0 (PlaneT.mk x21_3.On x21_3.X x21_3.Y x21_3.W x21_3.H x21_3.Layout x21_3.Words x21_3.Alpha x21_3.Orient (wr ((wr (x16_6a + 1)) + 1)) x21_3.ToH)) fun x21_5 =>
  Option.bind (idx x21_5 v2_0) fun x23_3 =>
  Option.bind (upd x21_5 v2_0 (PlaneT.mk x23_3.On x23_3.X x23_3.Y x23_3.W x23_3.H x23_3.Layout x23_3.Words x23_3.Alpha x23_3.Orient x23_3.ToW (wr ((wr ((wr (x16_6a + 1)) + 1)) + 1)))) fun x23_5 =>
  some (.inl (x23_5, (wr ((wr ((wr ((wr (x16_6a + 1)) + 1)) + 1)) + 1)), (wr (v2_0 + 1)))))
  (some (.inr (v1_0, v_0)))
noncomputable def laws_markPlaneS (a_p0 : List PlaneT) (a_p1 : Int) : Option (Int × (List PlaneT)) :=
  Option.bind (loopO (fun (v_0, v1_0, v2_0) => laws_markPlaneS_L0 v_0 v1_0 v2_0) (a_p0, a_p1, 0)) fun (v_0e, p_0e) =>
  some (v_0e, p_0e)
noncomputable def laws_heldPlaneS_L0 (a_p0 : List PlaneT) (v_0 : Int) (v1_0 : Int) : Option ((Int × Int) ⊕ (Int ⊕ Int)) :=
  ifO (decide (v1_0 < (a_p0.length : Int)))
  (Option.bind (idx a_p0 v1_0) fun x4_2 =>
  ifO (!(x4_2.On == (decide ((Int.tmod v_0 3) = 0))))
  (some (.inr (.inr ((-1)))))
  (Option.bind (idx a_p0 v1_0) fun x7_2 =>
  ifO (!decide (x7_2.X = (wr (v_0 + 1))))
  (some (.inr (.inr ((-1)))))
  (Option.bind (idx a_p0 v1_0) fun x10_2 =>
  ifO (!decide (x10_2.Y = (wr ((wr (v_0 + 1)) + 1))))
  (some (.inr (.inr ((-1)))))
  (Option.bind (idx a_p0 v1_0) fun x13_2 =>
  ifO (!decide (x13_2.W = (wr ((wr ((wr (v_0 + 1)) + 1)) + 1))))
  (some (.inr (.inr ((-1)))))
  (Option.bind (idx a_p0 v1_0) fun x16_2 =>
  ifO (!decide (x16_2.H = (wr ((wr ((wr ((wr (v_0 + 1)) + 1)) + 1)) + 1))))
  (some (.inr (.inr ((-1)))))
  (Option.bind (idx a_p0 v1_0) fun x19_2 =>
  ifO (!decide (x19_2.Layout = (wr ((wr ((wr ((wr ((wr (v_0 + 1)) + 1)) + 1)) + 1)) + 1))))
  (some (.inr (.inr ((-1)))))
  (Option.bind (idx a_p0 v1_0) fun x22_2 =>
  Option.bind (laws_heldIntS x22_2.Words (wr ((wr ((wr ((wr ((wr ((wr (v_0 + 1)) + 1)) + 1)) + 1)) + 1)) + 1))) fun x22_6 =>
  ifO (decide (x22_6 < 0))
  (some (.inr (.inr ((-1)))))
  (Option.bind (idx a_p0 v1_0) fun x25_2 =>
  ifO (!decide (x25_2.Alpha = x22_6))
  (some (.inr (.inr ((-1)))))
  (Option.bind (idx a_p0 v1_0) fun x28_2 =>
  ifO (!decide (x28_2.Orient = (wr (x22_6 + 1))))
  (some (.inr (.inr ((-1)))))
  (Option.bind (idx a_p0 v1_0) fun x31_2 =>
  ifO (!decide (x31_2.ToW = (wr ((wr (x22_6 + 1)) + 1))))
  (some (.inr (.inr ((-1)))))
  (Option.bind (idx a_p0 v1_0) fun x34_2 =>
  ifO (!decide (x34_2.ToH = (wr ((wr ((wr (x22_6 + 1)) + 1)) + 1))))
  (some (.inr (.inr ((-1)))))
  (some (.inl ((wr ((wr ((wr ((wr (x22_6 + 1)) + 1)) + 1)) + 1)), (wr (v1_0 + 1))))))))))))))))
  (some (.inr (.inl v_0)))
noncomputable def laws_heldPlaneS (a_p0 : List PlaneT) (a_p1 : Int) : Option Int :=
  Option.bind (loopO (fun (v_0, v1_0) => laws_heldPlaneS_L0 a_p0 v_0 v1_0) (a_p1, 0)) fun y => fork y (fun v_0e => some v_0e) (fun r => some r)
noncomputable def laws_FnExactPlanesOf (a_p0 : SceneT) (a_p1 : OptionsT) (a_p2 : ImageT) : Option Bool :=
  Option.bind (laws_szScene a_p0 1048576) fun x2_2 =>
  ifO (decide (x2_2 < 0))
  (some true)
  (Option.bind (laws_szImage a_p2 x2_2) fun x5_2 =>
  ifO (decide (x5_2 < 0))
  (some true)
  (Option.bind (laws_toScene a_p0) fun x8_1 =>
  Option.bind (laws_toOptions a_p1) fun x8_3 =>
  Option.bind (laws_toImage a_p2) fun x8_5 =>
  Option.bind (spec_PlanesOf x8_1 x8_3 x8_5) fun x8_6 =>
  Option.bind (laws_toScene a_p0) fun x9_1 =>
  Option.bind (laws_toImage a_p2) fun x10_1 =>
  Option.bind (laws_toOptions a_p1) fun x11_2 =>
  Option.bind (impl_PlanesOf x9_1 x11_2 x10_1) fun x11_4 =>
  Option.bind (laws_eqPlaneS x11_4 x8_6) fun x12_2 =>
  ifO (!x12_2)
  (some false)
  (Option.bind (laws_toScene a_p0) fun x14_2 =>
  Option.bind (laws_eqScene x9_1 x14_2) fun x14_3 =>
  ifO (!x14_3)
  (some false)
  (Option.bind (laws_toImage a_p2) fun x16_2 =>
  Option.bind (laws_eqImage x10_1 x16_2) fun x16_3 =>
  ifO (!x16_3)
  (some false)
  (Option.bind (laws_markScene x9_1 1) fun (x19_2a, x19_2b) =>
  Option.bind (laws_markImage x10_1 x19_2a) fun (x20_2a, x20_2b) =>
  Option.bind (orO (decide (x20_2a < 0)) (Option.bind (laws_eqPlaneS x11_4 x8_6) fun x21_5 =>
  some (!x21_5))) fun q21_7 =>
  ifO q21_7
  (some false)
  (Option.bind (laws_markPlaneS x11_4 1) fun (x24_2a, x24_2b) =>
  Option.bind (laws_heldPlaneS x24_2b 1) fun x26_2 =>
  ifO (decide (x26_2 < 0))
  (some false)
  (ifO (!decide (x26_2 = x24_2a))
  (some false)
  (Option.bind (laws_toScene a_p0) fun x31_1 =>
  Option.bind (laws_toOptions a_p1) fun x31_3 =>
  Option.bind (laws_toImage a_p2) fun x31_5 =>
  Option.bind (impl_PlanesOf x31_1 x31_3 x31_5) fun x31_6 =>
  Option.bind (laws_eqPlaneS x31_6 x8_6) fun x32_2 =>
  ifO (!x32_2)
  (some false)
  (Option.bind (laws_heldPlaneS x24_2b 1) fun x35_2 =>
  ifO (decide (x35_2 < 0))
  (some false)
  (ifO (!decide (x35_2 = x24_2a))
  (some false)
  (some true)))))))))))
end Go.Proofs.Ytkojfdgljmhmlaa
