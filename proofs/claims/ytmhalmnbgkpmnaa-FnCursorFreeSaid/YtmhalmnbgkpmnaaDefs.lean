/- The pure functions that the walks bring out of the program. -/
import Derived.Test.YtmhalmnbgkpmnaaStructs
namespace Go.Proofs.Ytmhalmnbgkpmnaa
open Go.RowKit K
set_option maxRecDepth 100000
set_option maxHeartbeats 4000000

noncomputable def laws_big (code_p0 : List Int) : Option Bool :=
  some (decide (1048576 < (code_p0.length : Int)))
noncomputable def spec_l01New_L0 (code_p0 : List Int) (h_0 : Int) (i_0 : Int) : Option ((Int × Int) ⊕ Int) :=
  ifO ((decide (i_0 < (code_p0.length : Int))) && (decide (i_0 < 4000)))
  (Option.bind (idx code_p0 i_0) fun x5_4 =>
  some (.inl ((and64 (wr ((wr ((wr (h_0 * 131)) + (wr x5_4))) + 7)) 1073741823), (wr (i_0 + 1)))))
  (some (.inr h_0))
noncomputable def spec_l01New (code_p0 : List Int) : Option L01CurT :=
  Option.bind (loopO (fun (h_0, i_0) => spec_l01New_L0 code_p0 h_0 i_0) ((wr (33137 + (code_p0.length : Int))), 0)) fun h_0e =>
  some (L01CurT.mk code_p0 0 h_0e)
noncomputable def spec_l01Byte (c_p0 : L01CurT) : Option (Int × L01CurT) :=
  ifO (decide (c_p0.i < (c_p0.b.length : Int)))
  (Option.bind (idx c_p0.b c_p0.i) fun x4_9 =>
  some ((and64 (wr ((and64 (xor64 (shr (wr ((wr (c_p0.h * 6364136223846793005)) + 1442695040888963407)) 33) (shr (wr ((wr (c_p0.h * 6364136223846793005)) + 1442695040888963407)) 45)) 255) + (wr x4_9))) 255), (L01CurT.mk c_p0.b (wr (c_p0.i + 1)) (wr ((wr (c_p0.h * 6364136223846793005)) + 1442695040888963407)))))
  (some ((and64 (xor64 (shr (wr ((wr (c_p0.h * 6364136223846793005)) + 1442695040888963407)) 33) (shr (wr ((wr (c_p0.h * 6364136223846793005)) + 1442695040888963407)) 45)) 255), (L01CurT.mk c_p0.b c_p0.i (wr ((wr (c_p0.h * 6364136223846793005)) + 1442695040888963407)))))
noncomputable def spec_l01Below (c_p0 : L01CurT) (n_p1 : Int) : Option (Int × L01CurT) :=
  ifO (decide (n_p1 ≤ 0))
  (some (0, c_p0))
  (ifO (decide (n_p1 ≤ 256))
  (Option.bind (spec_l01Byte c_p0) fun (x4_1a, x4_1b) =>
  Option.bind (remO x4_1a n_p1) fun x4_3 =>
  some (x4_3, (L01CurT.mk c_p0.b x4_1b.i x4_1b.h)))
  (Option.bind (spec_l01Byte c_p0) fun (x5_1a, x5_1b) =>
  Option.bind (spec_l01Byte (L01CurT.mk c_p0.b x5_1b.i x5_1b.h)) fun (x6_1a, x6_1b) =>
  Option.bind (spec_l01Byte (L01CurT.mk c_p0.b x6_1b.i x6_1b.h)) fun (x7_1a, x7_1b) =>
  Option.bind (spec_l01Byte (L01CurT.mk c_p0.b x7_1b.i x7_1b.h)) fun (x8_1a, x8_1b) =>
  Option.bind (remO (wr ((wr ((wr ((wr (x5_1a * 16777216)) + (wr (x6_1a * 65536)))) + (wr (x7_1a * 256)))) + x8_1a)) n_p1) fun x9_11 =>
  some (x9_11, (L01CurT.mk c_p0.b x8_1b.i x8_1b.h))))
noncomputable def spec_l01PickInt (c_p0 : L01CurT) (list_p1 : List Int) : Option (Int × L01CurT) :=
  Option.bind (spec_l01Below c_p0 (list_p1.length : Int)) fun (x1_4a, x1_4b) =>
  Option.bind (idx list_p1 x1_4a) fun x1_5 =>
  some (x1_5, (L01CurT.mk c_p0.b x1_4b.i x1_4b.h))
noncomputable def spec_l04Byte (c_p0 : L01CurT) : Option (Int × L01CurT) :=
  Option.bind (spec_l01Below c_p0 256) fun (x1_2a, x1_2b) =>
  Option.bind (spec_l01PickInt (L01CurT.mk c_p0.b x1_2b.i x1_2b.h) [0, 255, 127, 128, 1, 254, x1_2a]) fun (x1_4a, x1_4b) =>
  some (x1_4a, (L01CurT.mk c_p0.b x1_4b.i x1_4b.h))
noncomputable def spec_l01In (x_p0 : Int) (least_p1 : Int) (most_p2 : Int) : Option Bool :=
  some ((decide (least_p1 ≤ x_p0)) && (decide (x_p0 ≤ most_p2)))
noncomputable def spec_MakePixel (a_p0 : Int) (r_p1 : Int) (g_p2 : Int) (b_p3 : Int) : Option Int :=
  Option.bind (spec_l01In a_p0 0 255) fun x1_1 =>
  Option.bind (orO (!x1_1) (Option.bind (spec_l01In r_p1 0 255) fun x1_5 =>
  some (!x1_5))) fun q1_7 =>
  Option.bind (orO q1_7 (Option.bind (spec_l01In g_p2 0 255) fun x1_10 =>
  some (!x1_10))) fun q1_12 =>
  Option.bind (orO q1_12 (Option.bind (spec_l01In b_p3 0 255) fun x1_15 =>
  some (!x1_15))) fun q1_17 =>
  ifO q1_17
  (some (-1))
  (some (wr ((wr ((wr ((shl a_p0 24) + (shl r_p1 16))) + (shl g_p2 8))) + b_p3)))
noncomputable def spec_l04Draw (c_p0 : L01CurT) : Option (Int × L01CurT) :=
  Option.bind (spec_l01Below c_p0 256) fun (x1_2a, x1_2b) =>
  Option.bind (spec_l01PickInt (L01CurT.mk c_p0.b x1_2b.i x1_2b.h) [255, 255, 255, 0, 128, 200, x1_2a]) fun (x1_4a, x1_4b) =>
  Option.bind (spec_l04Byte (L01CurT.mk c_p0.b x1_4b.i x1_4b.h)) fun (x2_1a, x2_1b) =>
  Option.bind (spec_l04Byte (L01CurT.mk c_p0.b x2_1b.i x2_1b.h)) fun (x3_1a, x3_1b) =>
  Option.bind (spec_l04Byte (L01CurT.mk c_p0.b x3_1b.i x3_1b.h)) fun (x4_4a, x4_4b) =>
  Option.bind (spec_MakePixel x1_4a x2_1a x3_1a x4_4a) fun x4_5 =>
  some (x4_5, (L01CurT.mk c_p0.b x4_4b.i x4_4b.h))
noncomputable def spec_l04Pixel (p_p0 : Int) : Option Bool :=
  Option.bind (spec_l01In p_p0 0 4294967295) fun x1_1 =>
  some x1_1
noncomputable def spec_NewImage_L0 (w_p0 : Int) (h_p1 : Int) (p_p2 : Int) (i_0 : List Int) (k_0 : Int) : Option (((List Int) × Int) ⊕ (List Int)) :=
  ifO (decide (k_0 < (wr (w_p0 * h_p1))))
  (Option.bind (app i_0 [p_p2]) fun x7_4 =>
  some (.inl (x7_4, (wr (k_0 + 1)))))
  (some (.inr i_0))
noncomputable def spec_NewImage (w_p0 : Int) (h_p1 : Int) (p_p2 : Int) : Option ImageT :=
  Option.bind (spec_l01In w_p0 1 16) fun x1_1 =>
  Option.bind (orO (!x1_1) (Option.bind (spec_l01In h_p1 1 16) fun x1_5 =>
  some (!x1_5))) fun q1_7 =>
  Option.bind (orO q1_7 (Option.bind (spec_l04Pixel p_p2) fun x1_10 =>
  some (!x1_10))) fun q1_12 =>
  ifO q1_12
  (some (ImageT.mk 0 0 []))
  (Option.bind (loopO (fun (i_0, k_0) => spec_NewImage_L0 w_p0 h_p1 p_p2 i_0 k_0) ([], 0)) fun i_0e =>
  some (ImageT.mk w_p0 h_p1 i_0e))
noncomputable def spec_l05Copy (i_p0 : ImageT) : Option ImageT :=
  Option.bind (app ([] : List Int) i_p0.Data) fun x1_7 =>
  some (ImageT.mk i_p0.W i_p0.H x1_7)
noncomputable def spec_ImageOk_L0 (i_p0 : ImageT) (k_0 : Int) : Option (Int ⊕ (Unit ⊕ Bool)) :=
  ifO (decide (k_0 < (i_p0.Data.length : Int)))
  (Option.bind (idx i_p0.Data k_0) fun x6_3 =>
  Option.bind (spec_l04Pixel x6_3) fun x6_5 =>
  ifO (!x6_5)
  (some (.inr (.inr (false))))
  (some (.inl (wr (k_0 + 1)))))
  (some (.inr (.inl ())))
noncomputable def spec_ImageOk (i_p0 : ImageT) : Option Bool :=
  Option.bind (spec_l01In i_p0.W 1 16) fun x1_2 =>
  Option.bind (orO (!x1_2) (Option.bind (spec_l01In i_p0.H 1 16) fun x1_7 =>
  some (!x1_7))) fun q1_9 =>
  ifO (q1_9 || (!decide ((i_p0.Data.length : Int) = (wr (i_p0.W * i_p0.H)))))
  (some false)
  (Option.bind (loopO (fun k_0 => spec_ImageOk_L0 i_p0 k_0) 0) fun y => fork y (fun () => some true) (fun r => some r))
noncomputable def spec_RectOk (r_p0 : RectT) : Option Bool :=
  Option.bind (spec_l01In r_p0.X (-1000) 1000) fun x1_2 =>
  Option.bind (andO x1_2 (Option.bind (spec_l01In r_p0.Y (-1000) 1000) fun x1_6 =>
  some x1_6)) fun q1_7 =>
  Option.bind (andO q1_7 (Option.bind (spec_l01In r_p0.W 0 1000) fun x1_11 =>
  some x1_11)) fun q1_12 =>
  Option.bind (andO q1_12 (Option.bind (spec_l01In r_p0.H 0 1000) fun x1_16 =>
  some x1_16)) fun q1_17 =>
  some q1_17
noncomputable def spec_Intersect (a_p0 : RectT) (a_p1 : RectT) : Option RectT :=
  Option.bind (spec_RectOk a_p0) fun x1_1 =>
  Option.bind (orO (!x1_1) (Option.bind (spec_RectOk a_p1) fun x1_5 =>
  some (!x1_5))) fun q1_7 =>
  ifO q1_7
  (some (RectT.mk 0 0 0 0))
  (ifO ((decide ((wr ((min (wr (a_p0.X + a_p0.W)) (wr (a_p1.X + a_p1.W))) - (max a_p0.X a_p1.X))) ≤ 0)) || (decide ((wr ((min (wr (a_p0.Y + a_p0.H)) (wr (a_p1.Y + a_p1.H))) - (max a_p0.Y a_p1.Y))) ≤ 0)))
  (some (RectT.mk 0 0 0 0))
  (some (RectT.mk (max a_p0.X a_p1.X) (max a_p0.Y a_p1.Y) (wr ((min (wr (a_p0.X + a_p0.W)) (wr (a_p1.X + a_p1.W))) - (max a_p0.X a_p1.X))) (wr ((min (wr (a_p0.Y + a_p0.H)) (wr (a_p1.Y + a_p1.H))) - (max a_p0.Y a_p1.Y))))))
noncomputable def spec_FillRect_L1 (a_p0 : ImageT) (a_p2 : Int) (x4_6 : RectT) (v_0 : Int) (x_1 : List Int) (v_1 : Int) : Option (((List Int) × Int) ⊕ (List Int)) :=
  ifO (decide (v_1 < (wr (x4_6.X + x4_6.W))))
  (Option.bind (upd x_1 (wr ((wr (v_0 * a_p0.W)) + v_1)) a_p2) fun x11_10 =>
  some (.inl (x11_10, (wr (v_1 + 1)))))
  (some (.inr x_1))
noncomputable def spec_FillRect_L0 (a_p0 : ImageT) (a_p2 : Int) (x4_6 : RectT) (x_0 : List Int) (v_0 : Int) : Option (((List Int) × Int) ⊕ (List Int)) :=
  ifO (decide (v_0 < (wr (x4_6.Y + x4_6.H))))
  (Option.bind (loopO (fun (x_1, v_1) => spec_FillRect_L1 a_p0 a_p2 x4_6 v_0 x_1 v_1) (x_0, x4_6.X)) fun x_1e =>
  some (.inl (x_1e, (wr (v_0 + 1)))))
  (some (.inr x_0))
noncomputable def spec_FillRect (a_p0 : ImageT) (a_p1 : RectT) (a_p2 : Int) : Option ImageT :=
  Option.bind (spec_l05Copy a_p0) fun x1_1 =>
  Option.bind (spec_ImageOk a_p0) fun x2_1 =>
  Option.bind (orO (!x2_1) (Option.bind (spec_RectOk a_p1) fun x2_5 =>
  some (!x2_5))) fun q2_7 =>
  Option.bind (orO q2_7 (Option.bind (spec_l04Pixel a_p2) fun x2_10 =>
  some (!x2_10))) fun q2_12 =>
  ifO q2_12
  (some x1_1)
  (Option.bind (spec_Intersect a_p1 (RectT.mk 0 0 a_p0.W a_p0.H)) fun x4_6 =>
  Option.bind (loopO (fun (x_0, v_0) => spec_FillRect_L0 a_p0 a_p2 x4_6 x_0 v_0) (x1_1.Data, x4_6.Y)) fun x_0e =>
  some (ImageT.mk x1_1.W x1_1.H x_0e))
noncomputable def spec_l05Image_L0 (c_p0 : L01CurT) (x1_2a : Int) (x2_2a : Int) (c_0 : Int) (c1_0 : Int) (i_0 : Int) (i1_0 : Int) (i2_0 : List Int) (k_0 : Int) : Option ((Int × Int × Int × Int × (List Int) × Int) ⊕ (Int × Int × (List Int) × Int × Int)) :=
  ifO (decide (0 < k_0))
  (Option.bind (spec_l01Below (L01CurT.mk c_p0.b c_0 c1_0) (wr (1 + x1_2a))) fun (x7_3a, x7_3b) =>
  Option.bind (spec_l01Below (L01CurT.mk c_p0.b x7_3b.i x7_3b.h) (wr (1 + x2_2a))) fun (x7_6a, x7_6b) =>
  Option.bind (spec_l01Below (L01CurT.mk c_p0.b x7_6b.i x7_6b.h) 4) fun (x7_8a, x7_8b) =>
  Option.bind (spec_l01Below (L01CurT.mk c_p0.b x7_8b.i x7_8b.h) 4) fun (x7_11a, x7_11b) =>
  Option.bind (spec_l04Draw (L01CurT.mk c_p0.b x7_11b.i x7_11b.h)) fun (x7_15a, x7_15b) =>
  Option.bind (spec_FillRect (ImageT.mk i_0 i1_0 i2_0) (RectT.mk x7_3a x7_6a (wr (1 + x7_8a)) (wr (1 + x7_11a))) x7_15a) fun x7_16 =>
  some (.inl (x7_15b.i, x7_15b.h, x7_16.W, x7_16.H, x7_16.Data, (wr (k_0 - 1)))))
  (some (.inr (i_0, i1_0, i2_0, c_0, c1_0)))
noncomputable def spec_l05Image (c_p0 : L01CurT) (most_p1 : Int) : Option (ImageT × L01CurT) :=
  Option.bind (spec_l01Below c_p0 most_p1) fun (x1_2a, x1_2b) =>
  Option.bind (spec_l01Below (L01CurT.mk c_p0.b x1_2b.i x1_2b.h) most_p1) fun (x2_2a, x2_2b) =>
  Option.bind (spec_l04Draw (L01CurT.mk c_p0.b x2_2b.i x2_2b.h)) fun (x3_3a, x3_3b) =>
  Option.bind (spec_NewImage (wr (1 + x1_2a)) (wr (1 + x2_2a)) x3_3a) fun x3_4 =>
  Option.bind (spec_l01Below (L01CurT.mk c_p0.b x3_3b.i x3_3b.h) 4) fun (x4_1a, x4_1b) =>
  Option.bind (loopO (fun (c_0, c1_0, i_0, i1_0, i2_0, k_0) => spec_l05Image_L0 c_p0 x1_2a x2_2a c_0 c1_0 i_0 i1_0 i2_0 k_0) (x4_1b.i, x4_1b.h, x3_4.W, x3_4.H, x3_4.Data, x4_1a)) fun (i_0e, i1_0e, i2_0e, c_0e, c1_0e) =>
  some ((ImageT.mk i_0e i1_0e i2_0e), (L01CurT.mk c_p0.b c_0e c1_0e))
noncomputable def spec_l10CopySurface (s_p0 : SurfaceT) : Option SurfaceT :=
  Option.bind (spec_l05Copy s_p0.Buffer) fun x1_2 =>
  some (SurfaceT.mk s_p0.Id s_p0.X s_p0.Y s_p0.W s_p0.H s_p0.Alpha s_p0.Orient s_p0.Visible x1_2)
noncomputable def spec_l10Copy_L0 (s_p0 : SceneT) (out_0 : List SurfaceT) (k_0 : Int) : Option (((List SurfaceT) × Int) ⊕ (List SurfaceT)) :=
  ifO (decide (k_0 < (s_p0.Surfaces.length : Int)))
  (Option.bind (idx s_p0.Surfaces k_0) fun x5_5 =>
  Option.bind (spec_l10CopySurface x5_5) fun x5_7 =>
  Option.bind (app out_0 [x5_7]) fun x5_9 =>
  some (.inl (x5_9, (wr (k_0 + 1)))))
  (some (.inr out_0))
noncomputable def spec_l10Copy (s_p0 : SceneT) : Option SceneT :=
  Option.bind (loopO (fun (out_0, k_0) => spec_l10Copy_L0 s_p0 out_0 k_0) ([], 0)) fun out_0e =>
  some (SceneT.mk s_p0.W s_p0.H s_p0.Back out_0e)
noncomputable def spec_SurfaceIndex_L0 (s_p0 : SceneT) (id_p1 : Int) (k_0 : Int) : Option (Int ⊕ (Unit ⊕ Int)) :=
  ifO (decide (k_0 < (s_p0.Surfaces.length : Int)))
  (Option.bind (idx s_p0.Surfaces k_0) fun x4_3 =>
  ifO (decide (x4_3.Id = id_p1))
  (some (.inr (.inr (k_0))))
  (some (.inl (wr (k_0 + 1)))))
  (some (.inr (.inl ())))
noncomputable def spec_SurfaceIndex (s_p0 : SceneT) (id_p1 : Int) : Option Int :=
  Option.bind (loopO (fun k_0 => spec_SurfaceIndex_L0 s_p0 id_p1 k_0) 0) fun y => fork y (fun () => some (-1)) (fun r => some r)
noncomputable def spec_ChannelOf (p_p0 : Int) (k_p1 : Int) : Option Int :=
  Option.bind (spec_l04Pixel p_p0) fun x1_1 =>
  Option.bind (orO (!x1_1) (Option.bind (spec_l01In k_p1 0 3) fun x1_5 =>
  some (!x1_5))) fun q1_7 =>
  ifO q1_7
  (some (-1))
  (Option.bind (shrO p_p0 (wr (24 - (wr (8 * k_p1))))) fun x3_4 =>
  some (and64 x3_4 255))
noncomputable def spec_l10Opaque (p_p0 : Int) : Option Bool :=
  Option.bind (spec_l04Pixel p_p0) fun x1_1 =>
  Option.bind (andO x1_1 (Option.bind (spec_ChannelOf p_p0 0) fun x1_4 =>
  some (decide (x1_4 = 255)))) fun q1_6 =>
  some q1_6
noncomputable def spec_SurfaceOk (s_p0 : SurfaceT) : Option Bool :=
  Option.bind (spec_l01In s_p0.Id 1 99) fun x1_2 =>
  Option.bind (orO (!x1_2) (Option.bind (spec_l01In s_p0.X (-32) 32) fun x1_7 =>
  some (!x1_7))) fun q1_9 =>
  Option.bind (orO q1_9 (Option.bind (spec_l01In s_p0.Y (-32) 32) fun x1_13 =>
  some (!x1_13))) fun q1_15 =>
  Option.bind (orO q1_15 (Option.bind (spec_l01In s_p0.Alpha 0 255) fun x1_19 =>
  some (!x1_19))) fun q1_21 =>
  Option.bind (orO q1_21 (Option.bind (spec_l01In s_p0.Orient 0 7) fun x1_25 =>
  some (!x1_25))) fun q1_27 =>
  Option.bind (orO q1_27 (Option.bind (spec_ImageOk s_p0.Buffer) fun x1_31 =>
  some (!x1_31))) fun q1_33 =>
  ifO q1_33
  (some false)
  (Option.bind (orO ((decide (s_p0.W = 0)) && (decide (s_p0.H = 0))) (Option.bind (spec_l01In s_p0.W 1 16) fun x3_11 =>
  Option.bind (andO x3_11 (Option.bind (spec_l01In s_p0.H 1 16) fun x3_15 =>
  some x3_15)) fun q3_16 =>
  some q3_16)) fun q3_17 =>
  some q3_17)
noncomputable def spec_SceneOk_L0 (s_p0 : SceneT) (k_0 : Int) : Option (Int ⊕ (Unit ⊕ Bool)) :=
  ifO (decide (k_0 < (s_p0.Surfaces.length : Int)))
  (Option.bind (idx s_p0.Surfaces k_0) fun x6_3 =>
  Option.bind (spec_SurfaceOk x6_3) fun x6_5 =>
  Option.bind (orO (!x6_5) (Option.bind (idx s_p0.Surfaces k_0) fun x6_12 =>
  Option.bind (spec_SurfaceIndex s_p0 x6_12.Id) fun x6_15 =>
  some (!decide (x6_15 = k_0)))) fun q6_18 =>
  ifO q6_18
  (some (.inr (.inr (false))))
  (some (.inl (wr (k_0 + 1)))))
  (some (.inr (.inl ())))
noncomputable def spec_SceneOk (s_p0 : SceneT) : Option Bool :=
  Option.bind (spec_l01In s_p0.W 1 16) fun x1_2 =>
  Option.bind (orO (!x1_2) (Option.bind (spec_l01In s_p0.H 1 16) fun x1_7 =>
  some (!x1_7))) fun q1_9 =>
  Option.bind (orO q1_9 (Option.bind (spec_l10Opaque s_p0.Back) fun x1_13 =>
  some (!x1_13))) fun q1_15 =>
  ifO (q1_15 || (decide (6 < (s_p0.Surfaces.length : Int))))
  (some false)
  (Option.bind (loopO (fun k_0 => spec_SceneOk_L0 s_p0 k_0) 0) fun y => fork y (fun () => some true) (fun r => some r))
noncomputable def spec_DoEdit_L0 (x1_1 : SceneT) (x2_3 : Int) (x_0 : List SurfaceT) (v_0 : Int) : Option (((List SurfaceT) × Int) ⊕ (List SurfaceT)) :=
  ifO ((decide (v_0 < (x1_1.Surfaces.length : Int))) && (decide (0 ≤ x2_3)))
  (Option.bind (ifO (!decide (v_0 = x2_3))
  (Option.bind (idx x1_1.Surfaces v_0) fun x10_5 =>
  Option.bind (app x_0 [x10_5]) fun x10_8 =>
  some x10_8)
  (some x_0)) fun x_2j =>
  some (.inl (x_2j, (wr (v_0 + 1)))))
  (some (.inr x_0))
noncomputable def spec_DoEdit (a_p0 : SceneT) (a_p1 : EditT) : Option (SceneT × Bool) :=
  Option.bind (spec_l10Copy a_p0) fun x1_1 =>
  Option.bind (spec_SurfaceIndex a_p0 a_p1.Id) fun x2_3 =>
  Option.bind (spec_SceneOk a_p0) fun x3_1 =>
  Option.bind (orO (!x3_1) (Option.bind (spec_l01In a_p1.Kind 0 10) fun x3_6 =>
  some (!x3_6))) fun q3_8 =>
  ifO (q3_8 || (((decide (x2_3 < 0)) && (!decide (a_p1.Kind = 0))) && (!decide (a_p1.Kind = 10))))
  (some (x1_1, false))
  (Option.bind (loopO (fun (x_0, v_0) => spec_DoEdit_L0 x1_1 x2_3 x_0 v_0) ([], 0)) fun x_0e =>
  Option.bind (ifO (decide (a_p1.Kind = 0))
  (Option.bind (spec_l05Copy a_p1.Buffer) fun x14_10 =>
  Option.bind (app x1_1.Surfaces [(SurfaceT.mk a_p1.Id a_p1.A a_p1.B 0 0 255 0 true x14_10)]) fun x14_13 =>
  some (x1_1.Back, x14_13))
  (ifO (decide (a_p1.Kind = 1))
  (some (x1_1.Back, x_0e))
  (ifO (decide (a_p1.Kind = 2))
  (Option.bind (idx x1_1.Surfaces x2_3) fun x18_5 =>
  Option.bind (upd x1_1.Surfaces x2_3 (SurfaceT.mk x18_5.Id a_p1.A x18_5.Y x18_5.W x18_5.H x18_5.Alpha x18_5.Orient x18_5.Visible x18_5.Buffer)) fun x18_7 =>
  Option.bind (idx x18_7 x2_3) fun x19_5 =>
  Option.bind (upd x18_7 x2_3 (SurfaceT.mk x19_5.Id x19_5.X a_p1.B x19_5.W x19_5.H x19_5.Alpha x19_5.Orient x19_5.Visible x19_5.Buffer)) fun x19_7 =>
  some (x1_1.Back, x19_7))
  (ifO (decide (a_p1.Kind = 3))
  (Option.bind (idx x1_1.Surfaces x2_3) fun x21_5 =>
  Option.bind (app x_0e [x21_5]) fun x21_8 =>
  some (x1_1.Back, x21_8))
  (ifO (decide (a_p1.Kind = 4))
  (Option.bind (idx x1_1.Surfaces x2_3) fun x23_3 =>
  Option.bind (app [x23_3] x_0e) fun x23_8 =>
  some (x1_1.Back, x23_8))
  (ifO (decide (a_p1.Kind = 5))
  (Option.bind (spec_l05Copy a_p1.Buffer) fun x25_5 =>
  Option.bind (idx x1_1.Surfaces x2_3) fun x25_6 =>
  Option.bind (upd x1_1.Surfaces x2_3 (SurfaceT.mk x25_6.Id x25_6.X x25_6.Y x25_6.W x25_6.H x25_6.Alpha x25_6.Orient x25_6.Visible x25_5)) fun x25_8 =>
  some (x1_1.Back, x25_8))
  (ifO (decide (a_p1.Kind = 6))
  (Option.bind (idx x1_1.Surfaces x2_3) fun x27_5 =>
  Option.bind (upd x1_1.Surfaces x2_3 (SurfaceT.mk x27_5.Id x27_5.X x27_5.Y x27_5.W x27_5.H a_p1.A x27_5.Orient x27_5.Visible x27_5.Buffer)) fun x27_7 =>
  some (x1_1.Back, x27_7))
  (ifO (decide (a_p1.Kind = 7))
  (Option.bind (idx x1_1.Surfaces x2_3) fun x29_5 =>
  Option.bind (upd x1_1.Surfaces x2_3 (SurfaceT.mk x29_5.Id x29_5.X x29_5.Y x29_5.W x29_5.H x29_5.Alpha a_p1.A x29_5.Visible x29_5.Buffer)) fun x29_7 =>
  some (x1_1.Back, x29_7))
  (ifO (decide (a_p1.Kind = 8))
  (Option.bind (idx x1_1.Surfaces x2_3) fun x31_5 =>
  Option.bind (upd x1_1.Surfaces x2_3 (SurfaceT.mk x31_5.Id x31_5.X x31_5.Y a_p1.A x31_5.H x31_5.Alpha x31_5.Orient x31_5.Visible x31_5.Buffer)) fun x31_7 =>
  Option.bind (idx x31_7 x2_3) fun x32_5 =>
  Option.bind (upd x31_7 x2_3 (SurfaceT.mk x32_5.Id x32_5.X x32_5.Y x32_5.W a_p1.B x32_5.Alpha x32_5.Orient x32_5.Visible x32_5.Buffer)) fun x32_7 =>
  some (x1_1.Back, x32_7))
  (ifO (decide (a_p1.Kind = 9))
  (Option.bind (idx x1_1.Surfaces x2_3) fun x34_6 =>
  Option.bind (upd x1_1.Surfaces x2_3 (SurfaceT.mk x34_6.Id x34_6.X x34_6.Y x34_6.W x34_6.H x34_6.Alpha x34_6.Orient (decide (a_p1.A = 1)) x34_6.Buffer)) fun x34_8 =>
  some (x1_1.Back, x34_8))
  (some (a_p1.A, x1_1.Surfaces)))))))))))) fun (x_1j, x1_1j) =>
  Option.bind (spec_SceneOk (SceneT.mk x1_1.W x1_1.H x_1j x1_1j)) fun x35_1 =>
  ifO (!x35_1)
  (Option.bind (spec_l10Copy a_p0) fun x36_1 =>
  some (x36_1, false))
  (Option.bind (spec_l10Copy (SceneT.mk x1_1.W x1_1.H x_1j x1_1j)) fun x37_1 =>
  some (x37_1, true)))
noncomputable def spec_l01Once (c_p0 : L01CurT) (n_p1 : Int) : Option (Bool × L01CurT) :=
  Option.bind (spec_l01Below c_p0 n_p1) fun (x1_2a, x1_2b) =>
  some ((decide (x1_2a = 0)), (L01CurT.mk c_p0.b x1_2b.i x1_2b.h))
noncomputable def spec_l10Edit (a_p0 : L01CurT) : Option (EditT × L01CurT) :=
  Option.bind (spec_l01Below a_p0 11) fun (x1_1a, x1_1b) =>
  Option.bind (spec_l01Below (L01CurT.mk a_p0.b x1_1b.i x1_1b.h) 4) fun (x1_3a, x1_3b) =>
  ifO (decide (x1_1a = 0))
  (ifO (decide (x1_1a = 0))
  (Option.bind (spec_l01Below (L01CurT.mk a_p0.b x1_3b.i x1_3b.h) 12) fun (x5_1a, x5_1b) =>
  Option.bind (spec_l01Below (L01CurT.mk a_p0.b x5_1b.i x5_1b.h) 8) fun (x6_1a, x6_1b) =>
  Option.bind (spec_l05Image (L01CurT.mk a_p0.b x6_1b.i x6_1b.h) 6) fun (x7_1a, x7_1b) =>
  some ((EditT.mk x1_1a (wr (1 + x1_3a)) (wr (x5_1a - 2)) (wr (x6_1a - 2)) x7_1a), (L01CurT.mk a_p0.b x7_1b.i x7_1b.h)))
  (ifO (decide (x1_1a = 2))
  (Option.bind (spec_l01Below (L01CurT.mk a_p0.b x1_3b.i x1_3b.h) 14) fun (x9_1a, x9_1b) =>
  Option.bind (spec_l01Below (L01CurT.mk a_p0.b x9_1b.i x9_1b.h) 10) fun (x10_1a, x10_1b) =>
  some ((EditT.mk x1_1a (wr (1 + x1_3a)) (wr (x9_1a - 3)) (wr (x10_1a - 3)) (ImageT.mk 0 0 [])), (L01CurT.mk a_p0.b x10_1b.i x10_1b.h)))
  (ifO (decide (x1_1a = 6))
  (Option.bind (spec_l01PickInt (L01CurT.mk a_p0.b x1_3b.i x1_3b.h) [255, 128, 0]) fun (x12_2a, x12_2b) =>
  some ((EditT.mk x1_1a (wr (1 + x1_3a)) x12_2a 0 (ImageT.mk 0 0 [])), (L01CurT.mk a_p0.b x12_2b.i x12_2b.h)))
  (ifO (decide (x1_1a = 7))
  (Option.bind (spec_l01Below (L01CurT.mk a_p0.b x1_3b.i x1_3b.h) 8) fun (x14_1a, x14_1b) =>
  some ((EditT.mk x1_1a (wr (1 + x1_3a)) x14_1a 0 (ImageT.mk 0 0 [])), (L01CurT.mk a_p0.b x14_1b.i x14_1b.h)))
  (ifO (decide (x1_1a = 8))
  (Option.bind (spec_l01Once (L01CurT.mk a_p0.b x1_3b.i x1_3b.h) 2) fun (x16_1a, x16_1b) =>
  ifO x16_1a
  (Option.bind (spec_l01Below (L01CurT.mk a_p0.b x16_1b.i x16_1b.h) 9) fun (x17_1a, x17_1b) =>
  Option.bind (spec_l01Below (L01CurT.mk a_p0.b x17_1b.i x17_1b.h) 9) fun (x18_1a, x18_1b) =>
  some ((EditT.mk x1_1a (wr (1 + x1_3a)) (wr (1 + x17_1a)) (wr (1 + x18_1a)) (ImageT.mk 0 0 [])), (L01CurT.mk a_p0.b x18_1b.i x18_1b.h)))
  (some ((EditT.mk x1_1a (wr (1 + x1_3a)) 0 0 (ImageT.mk 0 0 [])), (L01CurT.mk a_p0.b x16_1b.i x16_1b.h))))
  (ifO (decide (x1_1a = 9))
  (Option.bind (spec_l01Below (L01CurT.mk a_p0.b x1_3b.i x1_3b.h) 2) fun (x20_1a, x20_1b) =>
  some ((EditT.mk x1_1a (wr (1 + x1_3a)) x20_1a 0 (ImageT.mk 0 0 [])), (L01CurT.mk a_p0.b x20_1b.i x20_1b.h)))
  (ifO (decide (x1_1a = 10))
  (Option.bind (spec_l04Draw (L01CurT.mk a_p0.b x1_3b.i x1_3b.h)) fun (x22_1a, x22_1b) =>
  some ((EditT.mk x1_1a (wr (1 + x1_3a)) (or64 x22_1a 4278190080) 0 (ImageT.mk 0 0 [])), (L01CurT.mk a_p0.b x22_1b.i x22_1b.h)))
  (some ((EditT.mk x1_1a (wr (1 + x1_3a)) 0 0 (ImageT.mk 0 0 [])), (L01CurT.mk a_p0.b x1_3b.i x1_3b.h))))))))))
  (ifO (decide (x1_1a = 5))
  (Option.bind (spec_l01Below (L01CurT.mk a_p0.b x1_3b.i x1_3b.h) 12) fun (x5_1a, x5_1b) =>
  Option.bind (spec_l01Below (L01CurT.mk a_p0.b x5_1b.i x5_1b.h) 8) fun (x6_1a, x6_1b) =>
  Option.bind (spec_l05Image (L01CurT.mk a_p0.b x6_1b.i x6_1b.h) 6) fun (x7_1a, x7_1b) =>
  some ((EditT.mk x1_1a (wr (1 + x1_3a)) (wr (x5_1a - 2)) (wr (x6_1a - 2)) x7_1a), (L01CurT.mk a_p0.b x7_1b.i x7_1b.h)))
  (ifO (decide (x1_1a = 2))
  (Option.bind (spec_l01Below (L01CurT.mk a_p0.b x1_3b.i x1_3b.h) 14) fun (x9_1a, x9_1b) =>
  Option.bind (spec_l01Below (L01CurT.mk a_p0.b x9_1b.i x9_1b.h) 10) fun (x10_1a, x10_1b) =>
  some ((EditT.mk x1_1a (wr (1 + x1_3a)) (wr (x9_1a - 3)) (wr (x10_1a - 3)) (ImageT.mk 0 0 [])), (L01CurT.mk a_p0.b x10_1b.i x10_1b.h)))
  (ifO (decide (x1_1a = 6))
  (Option.bind (spec_l01PickInt (L01CurT.mk a_p0.b x1_3b.i x1_3b.h) [255, 128, 0]) fun (x12_2a, x12_2b) =>
  some ((EditT.mk x1_1a (wr (1 + x1_3a)) x12_2a 0 (ImageT.mk 0 0 [])), (L01CurT.mk a_p0.b x12_2b.i x12_2b.h)))
  (ifO (decide (x1_1a = 7))
  (Option.bind (spec_l01Below (L01CurT.mk a_p0.b x1_3b.i x1_3b.h) 8) fun (x14_1a, x14_1b) =>
  some ((EditT.mk x1_1a (wr (1 + x1_3a)) x14_1a 0 (ImageT.mk 0 0 [])), (L01CurT.mk a_p0.b x14_1b.i x14_1b.h)))
  (ifO (decide (x1_1a = 8))
  (Option.bind (spec_l01Once (L01CurT.mk a_p0.b x1_3b.i x1_3b.h) 2) fun (x16_1a, x16_1b) =>
  ifO x16_1a
  (Option.bind (spec_l01Below (L01CurT.mk a_p0.b x16_1b.i x16_1b.h) 9) fun (x17_1a, x17_1b) =>
  Option.bind (spec_l01Below (L01CurT.mk a_p0.b x17_1b.i x17_1b.h) 9) fun (x18_1a, x18_1b) =>
  some ((EditT.mk x1_1a (wr (1 + x1_3a)) (wr (1 + x17_1a)) (wr (1 + x18_1a)) (ImageT.mk 0 0 [])), (L01CurT.mk a_p0.b x18_1b.i x18_1b.h)))
  (some ((EditT.mk x1_1a (wr (1 + x1_3a)) 0 0 (ImageT.mk 0 0 [])), (L01CurT.mk a_p0.b x16_1b.i x16_1b.h))))
  (ifO (decide (x1_1a = 9))
  (Option.bind (spec_l01Below (L01CurT.mk a_p0.b x1_3b.i x1_3b.h) 2) fun (x20_1a, x20_1b) =>
  some ((EditT.mk x1_1a (wr (1 + x1_3a)) x20_1a 0 (ImageT.mk 0 0 [])), (L01CurT.mk a_p0.b x20_1b.i x20_1b.h)))
  (ifO (decide (x1_1a = 10))
  (Option.bind (spec_l04Draw (L01CurT.mk a_p0.b x1_3b.i x1_3b.h)) fun (x22_1a, x22_1b) =>
  some ((EditT.mk x1_1a (wr (1 + x1_3a)) (or64 x22_1a 4278190080) 0 (ImageT.mk 0 0 [])), (L01CurT.mk a_p0.b x22_1b.i x22_1b.h)))
  (some ((EditT.mk x1_1a (wr (1 + x1_3a)) 0 0 (ImageT.mk 0 0 [])), (L01CurT.mk a_p0.b x1_3b.i x1_3b.h))))))))))
noncomputable def spec_l10Scene_L1 (c_p0 : L01CurT) (c_1 : Int) (c1_1 : Int) (s_1 : Int) (s1_1 : Int) (s2_1 : Int) (s3_1 : List SurfaceT) (k_1 : Int) : Option ((Int × Int × Int × Int × Int × (List SurfaceT) × Int) ⊕ (Int × Int × Int × (List SurfaceT) × Int × Int)) :=
  ifO (decide (0 < k_1))
  (Option.bind (spec_l10Edit (L01CurT.mk c_p0.b c_1 c1_1)) fun (x9_2a, x9_2b) =>
  Option.bind (spec_DoEdit (SceneT.mk s_1 s1_1 s2_1 s3_1) x9_2a) fun (x9_3a, x9_3b) =>
  some (.inl (x9_2b.i, x9_2b.h, x9_3a.W, x9_3a.H, x9_3a.Back, x9_3a.Surfaces, (wr (k_1 - 1)))))
  (some (.inr (s_1, s1_1, s2_1, s3_1, c_1, c1_1)))
noncomputable def spec_l10Scene_L0 (c_p0 : L01CurT) (c_0 : Int) (c1_0 : Int) (s_0 : Int) (s1_0 : Int) (s2_0 : Int) (s3_0 : List SurfaceT) (k_0 : Int) : Option ((Int × Int × Int × Int × Int × (List SurfaceT) × Int) ⊕ (Int × Int × Int × Int × Int × (List SurfaceT))) :=
  ifO (decide (0 < k_0))
  (Option.bind (spec_l01Below (L01CurT.mk c_p0.b c_0 c1_0) 9) fun (x5_3a, x5_3b) =>
  Option.bind (spec_l01Below (L01CurT.mk c_p0.b x5_3b.i x5_3b.h) 7) fun (x5_6a, x5_6b) =>
  Option.bind (spec_l05Image (L01CurT.mk c_p0.b x5_6b.i x5_6b.h) 6) fun (x5_9a, x5_9b) =>
  Option.bind (spec_DoEdit (SceneT.mk s_0 s1_0 s2_0 s3_0) (EditT.mk 0 k_0 (wr (x5_3a - 2)) (wr (x5_6a - 2)) x5_9a)) fun (x5_11a, x5_11b) =>
  some (.inl (x5_9b.i, x5_9b.h, x5_11a.W, x5_11a.H, x5_11a.Back, x5_11a.Surfaces, (wr (k_0 - 1)))))
  (some (.inr (c_0, c1_0, s_0, s1_0, s2_0, s3_0)))
noncomputable def spec_l10Scene (c_p0 : L01CurT) : Option (SceneT × L01CurT) :=
  Option.bind (spec_l01Below c_p0 7) fun (x1_1a, x1_1b) =>
  Option.bind (spec_l01Below (L01CurT.mk c_p0.b x1_1b.i x1_1b.h) 6) fun (x1_4a, x1_4b) =>
  Option.bind (spec_l04Draw (L01CurT.mk c_p0.b x1_4b.i x1_4b.h)) fun (x1_7a, x1_7b) =>
  Option.bind (spec_l01Below (L01CurT.mk c_p0.b x1_7b.i x1_7b.h) 4) fun (x2_1a, x2_1b) =>
  Option.bind (loopO (fun (c_0, c1_0, s_0, s1_0, s2_0, s3_0, k_0) => spec_l10Scene_L0 c_p0 c_0 c1_0 s_0 s1_0 s2_0 s3_0 k_0) (x2_1b.i, x2_1b.h, (wr (4 + x1_1a)), (wr (3 + x1_4a)), (or64 x1_7a 4278190080), [], x2_1a)) fun (c_0e, c1_0e, s_0e, s1_0e, s2_0e, s3_0e) =>
  Option.bind (spec_l01Below (L01CurT.mk c_p0.b c_0e c1_0e) 4) fun (x6_1a, x6_1b) =>
  Option.bind (loopO (fun (c_1, c1_1, s_1, s1_1, s2_1, s3_1, k_1) => spec_l10Scene_L1 c_p0 c_1 c1_1 s_1 s1_1 s2_1 s3_1 k_1) (x6_1b.i, x6_1b.h, s_0e, s1_0e, s2_0e, s3_0e, x6_1a)) fun (s_1e, s1_1e, s2_1e, s3_1e, c_1e, c1_1e) =>
  some ((SceneT.mk s_1e s1_1e s2_1e s3_1e), (L01CurT.mk c_p0.b c_1e c1_1e))
noncomputable def spec_l21Options (c_p0 : L01CurT) : Option (OptionsT × L01CurT) :=
  Option.bind (spec_l01Below c_p0 3) fun (x1_1a, x1_1b) =>
  Option.bind (spec_l01Once (L01CurT.mk c_p0.b x1_1b.i x1_1b.h) 2) fun (x1_3a, x1_3b) =>
  Option.bind (spec_l01Below (L01CurT.mk c_p0.b x1_3b.i x1_3b.h) 3) fun (x1_5a, x1_5b) =>
  Option.bind (spec_l01Once (L01CurT.mk c_p0.b x1_5b.i x1_5b.h) 2) fun (x2_1a, x2_1b) =>
  Option.bind (spec_l01Once (L01CurT.mk c_p0.b x2_1b.i x2_1b.h) 2) fun (x3_1a, x3_1b) =>
  Option.bind (spec_l01Once (L01CurT.mk c_p0.b x3_1b.i x3_1b.h) 2) fun (x4_1a, x4_1b) =>
  some ((OptionsT.mk x1_1a x1_3a x1_5a x2_1a x3_1a x4_1a), (L01CurT.mk c_p0.b x4_1b.i x4_1b.h))
noncomputable def spec_DrawAssignment (code_p0 : List Int) : Option (SceneT × OptionsT) :=
  Option.bind (spec_l01New code_p0) fun x1_1 =>
  Option.bind (spec_l10Scene (L01CurT.mk code_p0 x1_1.i x1_1.h)) fun (x2_1a, x2_1b) =>
  Option.bind (spec_l21Options (L01CurT.mk code_p0 x2_1b.i x2_1b.h)) fun (x3_2a, x3_2b) =>
  some (x2_1a, x3_2a)
noncomputable def laws_at (code_p0 : List Int) (i_p1 : Int) : Option Int :=
  ifO (decide ((code_p0.length : Int) = 0))
  (some 0)
  (Option.bind (remO (wr ((wr (i_p1 * 5)) + 1)) (code_p0.length : Int)) fun x3_6 =>
  Option.bind (idx code_p0 x3_6) fun x3_7 =>
  some (wr x3_7))
noncomputable def impl_within (n_p0 : Int) (low_p1 : Int) (high_p2 : Int) : Option Bool :=
  some ((decide (low_p1 ≤ n_p0)) && (decide (n_p0 ≤ high_p2)))
noncomputable def impl_isSide (n_p0 : Int) : Option Bool :=
  Option.bind (impl_within n_p0 1 16) fun x1_1 =>
  some x1_1
noncomputable def impl_isPixel (p_p0 : Int) : Option Bool :=
  Option.bind (impl_within p_p0 0 4294967295) fun x1_1 =>
  some x1_1
noncomputable def impl_channel (p_p0 : Int) (k_p1 : Int) : Option Int :=
  Option.bind (shrO p_p0 (wr (24 - (wr (8 * k_p1))))) fun x1_4 =>
  some (and64 x1_4 255)
noncomputable def impl_isOpaquePixel (p_p0 : Int) : Option Bool :=
  Option.bind (impl_isPixel p_p0) fun x1_1 =>
  Option.bind (andO x1_1 (Option.bind (impl_channel p_p0 0) fun x1_4 =>
  some (decide (x1_4 = 255)))) fun q1_6 =>
  some q1_6
noncomputable def impl_isOrient (o_p0 : Int) : Option Bool :=
  Option.bind (impl_within o_p0 0 7) fun x1_1 =>
  some x1_1
noncomputable def impl_ImageOk_L0 (i_p0 : ImageT) (v_0 : Int) : Option (Int ⊕ (Unit ⊕ Bool)) :=
  ifO (decide (v_0 < (i_p0.Data.length : Int)))
  (Option.bind (idx i_p0.Data v_0) fun x5_0 =>
  Option.bind (impl_isPixel x5_0) fun x6_1 =>
  ifO (!x6_1)
  (some (.inr (.inr (false))))
  (some (.inl (wr (v_0 + 1)))))
  (some (.inr (.inl ())))
noncomputable def impl_ImageOk (i_p0 : ImageT) : Option Bool :=
  Option.bind (impl_isSide i_p0.W) fun x1_2 =>
  Option.bind (orO (!x1_2) (Option.bind (impl_isSide i_p0.H) fun x1_7 =>
  some (!x1_7))) fun q1_9 =>
  ifO (q1_9 || (!decide ((i_p0.Data.length : Int) = (wr (i_p0.W * i_p0.H)))))
  (some false)
  (Option.bind (loopO (fun v_0 => impl_ImageOk_L0 i_p0 v_0) 0) fun y => fork y (fun () => some true) (fun r => some r))
noncomputable def impl_SurfaceOk (s_p0 : SurfaceT) : Option Bool :=
  Option.bind (impl_isSide s_p0.W) fun x1_2 =>
  Option.bind (andO x1_2 (Option.bind (impl_isSide s_p0.H) fun x1_6 =>
  some x1_6)) fun q1_7 =>
  Option.bind (impl_within s_p0.Id 1 99) fun x2_2 =>
  Option.bind (andO x2_2 (Option.bind (impl_within s_p0.X (-32) 32) fun x2_6 =>
  some x2_6)) fun q2_7 =>
  Option.bind (andO q2_7 (Option.bind (impl_within s_p0.Y (-32) 32) fun x2_11 =>
  some x2_11)) fun q2_12 =>
  Option.bind (andO (q2_12 && (q1_7 || ((decide (s_p0.W = 0)) && (decide (s_p0.H = 0))))) (Option.bind (impl_within s_p0.Alpha 0 255) fun x2_19 =>
  some x2_19)) fun q2_20 =>
  Option.bind (andO q2_20 (Option.bind (impl_isOrient s_p0.Orient) fun x2_24 =>
  some x2_24)) fun q2_25 =>
  Option.bind (andO q2_25 (Option.bind (impl_ImageOk s_p0.Buffer) fun x2_29 =>
  some x2_29)) fun q2_30 =>
  some q2_30
noncomputable def impl_SceneOk_L0 (s_p0 : SceneT) (seen_0 : List (Int × Bool)) (v_0 : Int) : Option (((List (Int × Bool)) × Int) ⊕ (Unit ⊕ Bool)) :=
  ifO (decide (v_0 < (s_p0.Surfaces.length : Int)))
  (Option.bind (idx s_p0.Surfaces v_0) fun x6_0 =>
  Option.bind (orO (mget seen_0 x6_0.Id) (Option.bind (impl_SurfaceOk x6_0) fun x7_6 =>
  some (!x7_6))) fun q7_8 =>
  ifO q7_8
  (some (.inr (.inr (false))))
  (some (.inl ((mset seen_0 x6_0.Id true), (wr (v_0 + 1))))))
  (some (.inr (.inl ())))
noncomputable def impl_SceneOk (s_p0 : SceneT) : Option Bool :=
  Option.bind (impl_isSide s_p0.W) fun x1_2 =>
  Option.bind (orO (!x1_2) (Option.bind (impl_isSide s_p0.H) fun x1_7 =>
  some (!x1_7))) fun q1_9 =>
  Option.bind (orO q1_9 (Option.bind (impl_isOpaquePixel s_p0.Back) fun x1_13 =>
  some (!x1_13))) fun q1_15 =>
  ifO (q1_15 || (decide (6 < (s_p0.Surfaces.length : Int))))
  (some false)
  (Option.bind (loopO (fun (seen_0, v_0) => impl_SceneOk_L0 s_p0 seen_0 v_0) (([] : List (Int × Bool)), 0)) fun y => fork y (fun () => some true) (fun r => some r))
noncomputable def impl_OptionsOk (o_p0 : OptionsT) : Option Bool :=
  Option.bind (impl_within o_p0.Overlays 0 2) fun x1_2 =>
  Option.bind (andO x1_2 (Option.bind (impl_within o_p0.Layout 0 2) fun x1_6 =>
  some x1_6)) fun q1_7 =>
  some q1_7
noncomputable def impl_TopVisible_L0 (s_p0 : SceneT) (n_0 : Int) (k_0 : Int) : Option ((Int × Int) ⊕ (Unit ⊕ Int)) :=
  ifO (decide (0 ≤ k_0))
  (Option.bind (idx s_p0.Surfaces k_0) fun x6_3 =>
  ifO (!x6_3.Visible)
  (some (.inl (n_0, (wr (k_0 - 1)))))
  (ifO (decide (n_0 = 0))
  (some (.inr (.inr (k_0))))
  (some (.inl ((wr (n_0 - 1)), (wr (k_0 - 1)))))))
  (some (.inr (.inl ())))
noncomputable def impl_TopVisible (s_p0 : SceneT) (n_p1 : Int) : Option Int :=
  Option.bind (impl_SceneOk s_p0) fun x1_1 =>
  ifO ((!x1_1) || (decide (n_p1 < 0)))
  (some (-1))
  (Option.bind (loopO (fun (n_0, k_0) => impl_TopVisible_L0 s_p0 n_0 k_0) (n_p1, (wr ((s_p0.Surfaces.length : Int) - 1)))) fun y => fork y (fun () => some (-1)) (fun r => some r))
noncomputable def impl_FitsCursor (s_p0 : SurfaceT) : Option Bool :=
  Option.bind (impl_SurfaceOk s_p0) fun x1_1 =>
  some ((((((x1_1 && (decide (s_p0.Alpha = 255))) && (decide (s_p0.Orient = 0))) && (decide (s_p0.W = 0))) && (decide (s_p0.H = 0))) && (decide (s_p0.Buffer.W ≤ 4))) && (decide (s_p0.Buffer.H ≤ 4)))
noncomputable def impl_AssignedOf_L0 (a_p0 : SceneT) (v_0 : List Int) (v1_0 : Int) (v2_0 : Int) (v3_0 : Bool) (v4_0 : Int) : Option (((List Int) × Int × Int × Bool × Int) ⊕ ((List Int) × Int)) :=
  ifO (decide (1 ≤ v4_0))
  (Option.bind (orO (decide (v2_0 < 0)) (Option.bind (idx a_p0.Surfaces v2_0) fun x14_6 =>
  some ((!decide (x14_6.W = 0)) && v3_0))) fun q14_13 =>
  ifO q14_13
  (some (.inr (v_0, v1_0)))
  (Option.bind (orO v3_0 (Option.bind (idx a_p0.Surfaces v2_0) fun x15_5 =>
  some (!decide (x15_5.W = 0)))) fun q15_9 =>
  Option.bind (upd v_0 (wr (v4_0 - 1)) v2_0) fun x16_5 =>
  Option.bind (impl_TopVisible a_p0 (wr (v1_0 + 1))) fun x18_2 =>
  some (.inl (x16_5, (wr (v1_0 + 1)), x18_2, q15_9, (wr (v4_0 - 1))))))
  (some (.inr (v_0, v1_0)))
noncomputable def impl_AssignedOf_L1 (a_p0 : SceneT) (v_1 : List Int) (v1_1 : Int) (v2_1 : Int) (v3_1 : Bool) (v4_1 : Int) : Option (((List Int) × Int × Int × Bool × Int) ⊕ ((List Int) × Int)) :=
  ifO (decide (1 ≤ v4_1))
  (Option.bind (orO (decide (v2_1 < 0)) (Option.bind (idx a_p0.Surfaces v2_1) fun x14_6 =>
  some ((!decide (x14_6.W = 0)) && v3_1))) fun q14_13 =>
  ifO q14_13
  (some (.inr (v_1, v1_1)))
  (Option.bind (orO v3_1 (Option.bind (idx a_p0.Surfaces v2_1) fun x15_5 =>
  some (!decide (x15_5.W = 0)))) fun q15_9 =>
  Option.bind (upd v_1 (wr (v4_1 - 1)) v2_1) fun x16_5 =>
  Option.bind (impl_TopVisible a_p0 (wr (v1_1 + 1))) fun x18_2 =>
  some (.inl (x16_5, (wr (v1_1 + 1)), x18_2, q15_9, (wr (v4_1 - 1))))))
  (some (.inr (v_1, v1_1)))
noncomputable def impl_AssignedOf (a_p0 : SceneT) (a_p1 : OptionsT) : Option ((List Int) × Int) :=
  Option.bind (impl_SceneOk a_p0) fun x1_1 =>
  Option.bind (orO (!x1_1) (Option.bind (impl_OptionsOk a_p1) fun x1_5 =>
  some (!x1_5))) fun q1_7 =>
  ifO q1_7
  (some (([] : List Int), 0))
  (Option.bind (impl_TopVisible a_p0 0) fun x5_1 =>
  Option.bind (andO (a_p1.Cursor && (decide (0 ≤ x5_1))) (Option.bind (idx a_p0.Surfaces x5_1) fun x6_10 =>
  Option.bind (impl_FitsCursor x6_10) fun x6_12 =>
  some x6_12)) fun q6_13 =>
  ifO q6_13
  (Option.bind (upd [(-1), (-1), (-1)] 2 x5_1) fun x7_3 =>
  Option.bind (impl_TopVisible a_p0 (wr (0 + 1))) fun x9_2 =>
  Option.bind (loopO (fun (v_0, v1_0, v2_0, v3_0, v4_0) => impl_AssignedOf_L0 a_p0 v_0 v1_0 v2_0 v3_0 v4_0) (x7_3, (wr (0 + 1)), x9_2, false, a_p1.Overlays)) fun (v_0e, v1_0e) =>
  some (v_0e, v1_0e))
  (Option.bind (loopO (fun (v_1, v1_1, v2_1, v3_1, v4_1) => impl_AssignedOf_L1 a_p0 v_1 v1_1 v2_1 v3_1 v4_1) ([(-1), (-1), (-1)], 0, x5_1, false, a_p1.Overlays)) fun (v_1e, v1_1e) =>
  some (v_1e, v1_1e)))
noncomputable def laws_get (list_p0 : List Int) (i_p1 : Int) : Option Int :=
  ifO ((decide (i_p1 < 0)) || (decide ((list_p0.length : Int) ≤ i_p1)))
  (some (-99))
  (Option.bind (idx list_p0 i_p1) fun x3_2 =>
  some x3_2)
noncomputable def slices_Index_S_int_int_L0 (s_p0 : List Int) (v_p1 : Int) (v_0 : Int) : Option (Int ⊕ (Unit ⊕ Int)) :=
  ifO (decide (v_0 < (s_p0.length : Int)))
  (Option.bind (idx s_p0 v_0) fun x4_3 =>
  ifO (decide (v_p1 = x4_3))
  (some (.inr (.inr (v_0))))
  (some (.inl (wr (v_0 + 1)))))
  (some (.inr (.inl ())))
noncomputable def slices_Index_S_int_int (s_p0 : List Int) (v_p1 : Int) : Option Int :=
  Option.bind (loopO (fun v_0 => slices_Index_S_int_int_L0 s_p0 v_p1 v_0) 0) fun y => fork y (fun () => some (-1)) (fun r => some r)
noncomputable def slices_Contains_S_int_int (s_p0 : List Int) (v_p1 : Int) : Option Bool :=
  Option.bind (slices_Index_S_int_int s_p0 v_p1) fun x1_2 =>
  some (decide (0 ≤ x1_2))
def slices_Clone_S_int_int (s_p0 : List Int) : Option (List Int) := need (s_p0.length ≤ 1073741824) (some s_p0)
noncomputable def impl_copyImage (i_p0 : ImageT) : Option ImageT :=
  Option.bind (slices_Clone_S_int_int i_p0.Data) fun x1_6 =>
  some (ImageT.mk i_p0.W i_p0.H x1_6)
noncomputable def impl_copySurface (s_p0 : SurfaceT) : Option SurfaceT :=
  Option.bind (impl_copyImage s_p0.Buffer) fun x1_2 =>
  some (SurfaceT.mk s_p0.Id s_p0.X s_p0.Y s_p0.W s_p0.H s_p0.Alpha s_p0.Orient s_p0.Visible x1_2)
noncomputable def impl_RestOf_L0 (s_p0 : SceneT) (x3_2a : List Int) (out_0 : List SurfaceT) (v_0 : Int) : Option (((List SurfaceT) × Int) ⊕ (List SurfaceT)) :=
  ifO (decide (v_0 < (s_p0.Surfaces.length : Int)))
  (Option.bind (Option.bind (idx s_p0.Surfaces v_0) fun x7_1 =>
  Option.bind (slices_Contains_S_int_int x3_2a v_0) fun x8_2 =>
  ifO (!x8_2)
  (Option.bind (impl_copySurface x7_1) fun x9_3 =>
  Option.bind (app out_0 [x9_3]) fun x9_5 =>
  some x9_5)
  (some out_0)) fun out_1j =>
  some (.inl (out_1j, (wr (v_0 + 1)))))
  (some (.inr out_0))
noncomputable def impl_RestOf (s_p0 : SceneT) (o_p1 : OptionsT) : Option SceneT :=
  Option.bind (impl_SceneOk s_p0) fun x1_1 =>
  Option.bind (orO (!x1_1) (Option.bind (impl_OptionsOk o_p1) fun x1_5 =>
  some (!x1_5))) fun q1_7 =>
  ifO q1_7
  (some (SceneT.mk 0 0 0 []))
  (Option.bind (impl_AssignedOf s_p0 o_p1) fun (x3_2a, x3_2b) =>
  Option.bind (loopO (fun (out_0, v_0) => impl_RestOf_L0 s_p0 x3_2a out_0 v_0) ([], 0)) fun out_0e =>
  some (SceneT.mk s_p0.W s_p0.H s_p0.Back out_0e))
noncomputable def spec_l05Ints_L0 (a_p0 : List Int) (b_p1 : List Int) (k_0 : Int) : Option (Int ⊕ (Unit ⊕ Bool)) :=
  ifO (decide (k_0 < (a_p0.length : Int)))
  (Option.bind (idx a_p0 k_0) fun x6_2 =>
  Option.bind (idx b_p1 k_0) fun x6_6 =>
  ifO (!decide (x6_2 = x6_6))
  (some (.inr (.inr (false))))
  (some (.inl (wr (k_0 + 1)))))
  (some (.inr (.inl ())))
noncomputable def spec_l05Ints (a_p0 : List Int) (b_p1 : List Int) : Option Bool :=
  ifO (!decide ((a_p0.length : Int) = (b_p1.length : Int)))
  (some false)
  (Option.bind (loopO (fun k_0 => spec_l05Ints_L0 a_p0 b_p1 k_0) 0) fun y => fork y (fun () => some true) (fun r => some r))
noncomputable def spec_SameImage (a_p0 : ImageT) (b_p1 : ImageT) : Option Bool :=
  Option.bind (andO ((decide (a_p0.W = b_p1.W)) && (decide (a_p0.H = b_p1.H))) (Option.bind (spec_l05Ints a_p0.Data b_p1.Data) fun x1_17 =>
  some x1_17)) fun q1_18 =>
  some q1_18
noncomputable def spec_SameSurface (a_p0 : SurfaceT) (a_p1 : SurfaceT) : Option Bool :=
  Option.bind (andO ((((((((decide (a_p0.Id = a_p1.Id)) && (decide (a_p0.X = a_p1.X))) && (decide (a_p0.Y = a_p1.Y))) && (decide (a_p0.W = a_p1.W))) && (decide (a_p0.H = a_p1.H))) && (decide (a_p0.Alpha = a_p1.Alpha))) && (decide (a_p0.Orient = a_p1.Orient))) && (a_p0.Visible == a_p1.Visible)) (Option.bind (spec_SameImage a_p0.Buffer a_p1.Buffer) fun x1_59 =>
  some x1_59)) fun q1_60 =>
  some q1_60
noncomputable def laws_sameScene_L0 (a_p0 : SceneT) (b_p1 : SceneT) (k_0 : Int) : Option (Int ⊕ (Unit ⊕ Bool)) :=
  ifO (decide (k_0 < (a_p0.Surfaces.length : Int)))
  (Option.bind (idx a_p0.Surfaces k_0) fun x6_3 =>
  Option.bind (idx b_p1.Surfaces k_0) fun x6_8 =>
  Option.bind (spec_SameSurface x6_3 x6_8) fun x6_10 =>
  ifO (!x6_10)
  (some (.inr (.inr (false))))
  (some (.inl (wr (k_0 + 1)))))
  (some (.inr (.inl ())))
noncomputable def laws_sameScene (a_p0 : SceneT) (b_p1 : SceneT) : Option Bool :=
  ifO ((((!decide (a_p0.W = b_p1.W)) || (!decide (a_p0.H = b_p1.H))) || (!decide (a_p0.Back = b_p1.Back))) || (!decide ((a_p0.Surfaces.length : Int) = (b_p1.Surfaces.length : Int))))
  (some false)
  (Option.bind (loopO (fun k_0 => laws_sameScene_L0 a_p0 b_p1 k_0) 0) fun y => fork y (fun () => some true) (fun r => some r))
noncomputable def spec_OptionsOk (o_p0 : OptionsT) : Option Bool :=
  Option.bind (spec_l01In o_p0.Overlays 0 2) fun x1_2 =>
  Option.bind (andO x1_2 (Option.bind (spec_l01In o_p0.Layout 0 2) fun x1_6 =>
  some x1_6)) fun q1_7 =>
  some q1_7
noncomputable def spec_TopVisible_L0 (s_p0 : SceneT) (n_0 : Int) (k_0 : Int) : Option ((Int × Int) ⊕ (Unit ⊕ Int)) :=
  ifO (decide (0 ≤ k_0))
  (Option.bind (idx s_p0.Surfaces k_0) fun x6_3 =>
  ifO x6_3.Visible
  (ifO (decide (n_0 = 0))
  (some (.inr (.inr (k_0))))
  (some (.inl ((wr (n_0 - 1)), (wr (k_0 - 1))))))
  (some (.inl (n_0, (wr (k_0 - 1))))))
  (some (.inr (.inl ())))
noncomputable def spec_TopVisible (s_p0 : SceneT) (n_p1 : Int) : Option Int :=
  Option.bind (spec_SceneOk s_p0) fun x1_1 =>
  ifO ((!x1_1) || (decide (n_p1 < 0)))
  (some (-1))
  (Option.bind (loopO (fun (n_0, k_0) => spec_TopVisible_L0 s_p0 n_0 k_0) (n_p1, (wr ((s_p0.Surfaces.length : Int) - 1)))) fun y => fork y (fun () => some (-1)) (fun r => some r))
noncomputable def spec_FitsCursor (s_p0 : SurfaceT) : Option Bool :=
  Option.bind (spec_SurfaceOk s_p0) fun x1_1 =>
  some ((((((x1_1 && (decide (s_p0.Alpha = 255))) && (decide (s_p0.Orient = 0))) && (decide (s_p0.W = 0))) && (decide (s_p0.H = 0))) && (decide (s_p0.Buffer.W ≤ 4))) && (decide (s_p0.Buffer.H ≤ 4)))
noncomputable def spec_AssignedOf_L0 (a_p0 : SceneT) (v_0 : List Int) (v1_0 : Int) (v2_0 : Int) (v3_0 : Bool) (v4_0 : Int) : Option (((List Int) × Int × Int × Bool × Int) ⊕ ((List Int) × Int)) :=
  ifO (decide (0 ≤ v4_0))
  (Option.bind (orO (decide (v2_0 < 0)) (Option.bind (idx a_p0.Surfaces v2_0) fun x14_6 =>
  some ((decide (0 < x14_6.W)) && v3_0))) fun q14_13 =>
  ifO q14_13
  (some (.inr (v_0, v1_0)))
  (Option.bind (orO v3_0 (Option.bind (idx a_p0.Surfaces v2_0) fun x15_5 =>
  some (decide (0 < x15_5.W)))) fun q15_9 =>
  Option.bind (upd v_0 v4_0 v2_0) fun x16_4 =>
  Option.bind (spec_TopVisible a_p0 (wr (v1_0 + 1))) fun x18_2 =>
  some (.inl (x16_4, (wr (v1_0 + 1)), x18_2, q15_9, (wr (v4_0 - 1))))))
  (some (.inr (v_0, v1_0)))
noncomputable def spec_AssignedOf_L1 (a_p0 : SceneT) (v_1 : List Int) (v1_1 : Int) (v2_1 : Int) (v3_1 : Bool) (v4_1 : Int) : Option (((List Int) × Int × Int × Bool × Int) ⊕ ((List Int) × Int)) :=
  ifO (decide (0 ≤ v4_1))
  (Option.bind (orO (decide (v2_1 < 0)) (Option.bind (idx a_p0.Surfaces v2_1) fun x14_6 =>
  some ((decide (0 < x14_6.W)) && v3_1))) fun q14_13 =>
  ifO q14_13
  (some (.inr (v_1, v1_1)))
  (Option.bind (orO v3_1 (Option.bind (idx a_p0.Surfaces v2_1) fun x15_5 =>
  some (decide (0 < x15_5.W)))) fun q15_9 =>
  Option.bind (upd v_1 v4_1 v2_1) fun x16_4 =>
  Option.bind (spec_TopVisible a_p0 (wr (v1_1 + 1))) fun x18_2 =>
  some (.inl (x16_4, (wr (v1_1 + 1)), x18_2, q15_9, (wr (v4_1 - 1))))))
  (some (.inr (v_1, v1_1)))
noncomputable def spec_AssignedOf (a_p0 : SceneT) (a_p1 : OptionsT) : Option ((List Int) × Int) :=
  Option.bind (spec_SceneOk a_p0) fun x1_1 =>
  Option.bind (orO (!x1_1) (Option.bind (spec_OptionsOk a_p1) fun x1_5 =>
  some (!x1_5))) fun q1_7 =>
  ifO q1_7
  (some (([] : List Int), 0))
  (Option.bind (spec_TopVisible a_p0 0) fun x5_1 =>
  Option.bind (andO (a_p1.Cursor && (decide (0 ≤ x5_1))) (Option.bind (idx a_p0.Surfaces x5_1) fun x6_10 =>
  Option.bind (spec_FitsCursor x6_10) fun x6_12 =>
  some x6_12)) fun q6_13 =>
  ifO q6_13
  (Option.bind (upd [(-1), (-1), (-1)] 2 x5_1) fun x7_3 =>
  Option.bind (spec_TopVisible a_p0 (wr (0 + 1))) fun x9_2 =>
  Option.bind (loopO (fun (v_0, v1_0, v2_0, v3_0, v4_0) => spec_AssignedOf_L0 a_p0 v_0 v1_0 v2_0 v3_0 v4_0) (x7_3, (wr (0 + 1)), x9_2, false, (wr (a_p1.Overlays - 1)))) fun (v_0e, v1_0e) =>
  some (v_0e, v1_0e))
  (Option.bind (loopO (fun (v_1, v1_1, v2_1, v3_1, v4_1) => spec_AssignedOf_L1 a_p0 v_1 v1_1 v2_1 v3_1 v4_1) ([(-1), (-1), (-1)], 0, x5_1, false, (wr (a_p1.Overlays - 1)))) fun (v_1e, v1_1e) =>
  some (v_1e, v1_1e)))
noncomputable def spec_RestOf_L0 (s_p0 : SceneT) (x1_2a : List Int) (out_0 : List SurfaceT) (k_0 : Int) : Option (((List SurfaceT) × Int) ⊕ (List SurfaceT)) :=
  ifO (decide (k_0 < (s_p0.Surfaces.length : Int)))
  (Option.bind (Option.bind (idx x1_2a 0) fun x8_2 =>
  Option.bind (andO (!decide (k_0 = x8_2)) (Option.bind (idx x1_2a 1) fun x8_8 =>
  some (!decide (k_0 = x8_8)))) fun q8_11 =>
  Option.bind (andO q8_11 (Option.bind (idx x1_2a 2) fun x8_15 =>
  some (!decide (k_0 = x8_15)))) fun q8_18 =>
  ifO q8_18
  (Option.bind (idx s_p0.Surfaces k_0) fun x9_5 =>
  Option.bind (spec_l10CopySurface x9_5) fun x9_7 =>
  Option.bind (app out_0 [x9_7]) fun x9_9 =>
  some x9_9)
  (some out_0)) fun out_1j =>
  some (.inl (out_1j, (wr (k_0 + 1)))))
  (some (.inr out_0))
noncomputable def spec_RestOf (s_p0 : SceneT) (o_p1 : OptionsT) : Option SceneT :=
  Option.bind (spec_AssignedOf s_p0 o_p1) fun (x1_2a, x1_2b) =>
  ifO (decide ((x1_2a.length : Int) = 0))
  (some (SceneT.mk 0 0 0 []))
  (Option.bind (loopO (fun (out_0, k_0) => spec_RestOf_L0 s_p0 x1_2a out_0 k_0) ([], 0)) fun out_0e =>
  some (SceneT.mk s_p0.W s_p0.H s_p0.Back out_0e))
noncomputable def spec_l03Grid_L2 (x6_5 : RectT) (y_1 : Int) (g_2 : List Bool) (x_2 : Int) : Option (((List Bool) × Int) ⊕ (List Bool)) :=
  ifO (decide (x_2 < (wr (x6_5.X + x6_5.W))))
  (Option.bind (upd g_2 (wr ((wr (y_1 * 16)) + x_2)) true) fun x13_6 =>
  some (.inl (x13_6, (wr (x_2 + 1)))))
  (some (.inr g_2))
noncomputable def spec_l03Grid_L1 (x6_5 : RectT) (g_1 : List Bool) (y_1 : Int) : Option (((List Bool) × Int) ⊕ (List Bool)) :=
  ifO (decide (y_1 < (wr (x6_5.Y + x6_5.H))))
  (Option.bind (loopO (fun (g_2, x_2) => spec_l03Grid_L2 x6_5 y_1 g_2 x_2) (g_1, x6_5.X)) fun g_2e =>
  some (.inl (g_2e, (wr (y_1 + 1)))))
  (some (.inr g_1))
noncomputable def spec_l03Grid_L0 (list_p0 : List RectT) (g_0 : List Bool) (k_0 : Int) : Option (((List Bool) × Int) ⊕ (List Bool)) :=
  ifO (decide (k_0 < (list_p0.length : Int)))
  (Option.bind (idx list_p0 k_0) fun x6_2 =>
  Option.bind (spec_Intersect x6_2 (RectT.mk 0 0 16 16)) fun x6_5 =>
  Option.bind (loopO (fun (g_1, y_1) => spec_l03Grid_L1 x6_5 g_1 y_1) (g_0, x6_5.Y)) fun g_1e =>
  some (.inl (g_1e, (wr (k_0 + 1)))))
  (some (.inr g_0))
noncomputable def spec_l03Grid (list_p0 : List RectT) : Option (List Bool) :=
  Option.bind (mkO 256 false) fun x1_0 =>
  Option.bind (loopO (fun (g_0, k_0) => spec_l03Grid_L0 list_p0 g_0 k_0) (x1_0, 0)) fun g_0e =>
  some g_0e
noncomputable def spec_l03Row_L0 (g_p0 : List Bool) (y_p1 : Int) (z_p2 : Int) (x_0 : Int) : Option (Int ⊕ (Unit ⊕ Bool)) :=
  ifO (decide (x_0 < 16))
  (Option.bind (idx g_p0 (wr ((wr (y_p1 * 16)) + x_0))) fun x4_5 =>
  Option.bind (idx g_p0 (wr ((wr (z_p2 * 16)) + x_0))) fun x4_12 =>
  ifO (!(x4_5 == x4_12))
  (some (.inr (.inr (false))))
  (some (.inl (wr (x_0 + 1)))))
  (some (.inr (.inl ())))
noncomputable def spec_l03Row (g_p0 : List Bool) (y_p1 : Int) (z_p2 : Int) : Option Bool :=
  Option.bind (loopO (fun x_0 => spec_l03Row_L0 g_p0 y_p1 z_p2 x_0) 0) fun y => fork y (fun () => some true) (fun r => some r)
noncomputable def spec_l03Canon_L3 (g_p0 : List Bool) (y_0 : Int) (x_2 : Int) (w_3 : Int) : Option (Int ⊕ Int) :=
  Option.bind (andO (decide ((wr (x_2 + w_3)) < 16)) (Option.bind (idx g_p0 (wr ((wr ((wr (y_0 * 16)) + x_2)) + w_3))) fun x10_12 =>
  some x10_12)) fun q10_14 =>
  ifO q10_14
  (some (.inl (wr (w_3 + 1))))
  (some (.inr w_3))
noncomputable def spec_l03Canon_L2 (g_p0 : List Bool) (y_0 : Int) (h_1e : Int) (out_2 : List RectT) (x_2 : Int) : Option (((List RectT) × Int) ⊕ (List RectT)) :=
  ifO (decide (x_2 < 16))
  (Option.bind (loopO (fun w_3 => spec_l03Canon_L3 g_p0 y_0 x_2 w_3) 0) fun w_3e =>
  ifO (decide (0 < w_3e))
  (Option.bind (app out_2 [(RectT.mk x_2 y_0 w_3e h_1e)]) fun x13_8 =>
  some (.inl (x13_8, (wr ((wr (x_2 + w_3e)) + 1)))))
  (some (.inl (out_2, (wr ((wr (x_2 + w_3e)) + 1))))))
  (some (.inr out_2))
noncomputable def spec_l03Canon_L1 (g_p0 : List Bool) (y_0 : Int) (h_1 : Int) : Option (Int ⊕ Int) :=
  Option.bind (andO (decide ((wr (y_0 + h_1)) < 16)) (Option.bind (spec_l03Row g_p0 y_0 (wr (y_0 + h_1))) fun x5_10 =>
  some x5_10)) fun q5_11 =>
  ifO q5_11
  (some (.inl (wr (h_1 + 1))))
  (some (.inr h_1))
noncomputable def spec_l03Canon_L0 (g_p0 : List Bool) (out_0 : List RectT) (y_0 : Int) : Option (((List RectT) × Int) ⊕ (List RectT)) :=
  ifO (decide (y_0 < 16))
  (Option.bind (loopO (fun h_1 => spec_l03Canon_L1 g_p0 y_0 h_1) 1) fun h_1e =>
  Option.bind (loopO (fun (out_2, x_2) => spec_l03Canon_L2 g_p0 y_0 h_1e out_2 x_2) (out_0, 0)) fun out_2e =>
  some (.inl (out_2e, (wr (y_0 + h_1e)))))
  (some (.inr out_0))
noncomputable def spec_l03Canon (g_p0 : List Bool) : Option RegionT :=
  Option.bind (loopO (fun (out_0, y_0) => spec_l03Canon_L0 g_p0 out_0 y_0) ([], 0)) fun out_0e =>
  some (RegionT.mk out_0e)
noncomputable def spec_RegionOf (list_p0 : List RectT) : Option RegionT :=
  Option.bind (spec_l03Grid list_p0) fun x1_1 =>
  Option.bind (spec_l03Canon x1_1) fun x1_2 =>
  some x1_2
noncomputable def spec_OrientSize (w_p0 : Int) (h_p1 : Int) (o_p2 : Int) : Option (Int × Int) :=
  Option.bind (spec_l01In w_p0 1 16) fun x1_1 =>
  Option.bind (orO (!x1_1) (Option.bind (spec_l01In h_p1 1 16) fun x1_5 =>
  some (!x1_5))) fun q1_7 =>
  Option.bind (orO q1_7 (Option.bind (spec_l01In o_p2 0 7) fun x1_10 =>
  some (!x1_10))) fun q1_12 =>
  ifO q1_12
  (some (0, 0))
  (ifO (decide ((Int.tmod o_p2 2) = 1))
  (some (h_p1, w_p0))
  (some (w_p0, h_p1)))
noncomputable def spec_SurfaceRect (s_p0 : SurfaceT) : Option RectT :=
  Option.bind (spec_SurfaceOk s_p0) fun x1_1 =>
  ifO ((!x1_1) || (!s_p0.Visible))
  (some (RectT.mk 0 0 0 0))
  (Option.bind (spec_OrientSize s_p0.Buffer.W s_p0.Buffer.H s_p0.Orient) fun (x3_8a, x3_8b) =>
  ifO (decide (0 < s_p0.W))
  (some (RectT.mk s_p0.X s_p0.Y s_p0.W s_p0.H))
  (some (RectT.mk s_p0.X s_p0.Y x3_8a x3_8b)))
noncomputable def spec_DamageOf_L2 (a_p1 : SceneT) (v_2 : List RectT) (v1_2 : Int) : Option (((List RectT) × Int) ⊕ (List RectT)) :=
  ifO (decide (v1_2 < (v_2.length : Int)))
  (Option.bind (idx v_2 v1_2) fun x28_4 =>
  Option.bind (spec_Intersect x28_4 (RectT.mk 0 0 a_p1.W a_p1.H)) fun x28_7 =>
  Option.bind (upd v_2 v1_2 x28_7) fun x28_9 =>
  some (.inl (x28_9, (wr (v1_2 + 1)))))
  (some (.inr v_2))
noncomputable def spec_DamageOf_L4 (a_p0 : SceneT) (a_p1 : SceneT) (v1_1 : Int) (x16_7 : Int) (v_4 : List RectT) (v1_4 : Int) : Option (((List RectT) × Int) ⊕ (List RectT)) :=
  ifO (decide (v1_4 < v1_1))
  (Option.bind (Option.bind (idx a_p1.Surfaces v1_4) fun x22_4 =>
  Option.bind (spec_SurfaceIndex a_p0 x22_4.Id) fun x22_7 =>
  ifO ((decide (0 ≤ x16_7)) && (decide (x16_7 < x22_7)))
  (Option.bind (idx a_p1.Surfaces v1_1) fun x24_4 =>
  Option.bind (spec_SurfaceRect x24_4) fun x24_6 =>
  Option.bind (idx a_p1.Surfaces v1_4) fun x24_10 =>
  Option.bind (spec_SurfaceRect x24_10) fun x24_12 =>
  Option.bind (spec_Intersect x24_6 x24_12) fun x24_13 =>
  Option.bind (app v_4 [x24_13]) fun x24_15 =>
  some x24_15)
  (some v_4)) fun v_5j =>
  some (.inl (v_5j, (wr (v1_4 + 1)))))
  (some (.inr v_4))
noncomputable def spec_DamageOf_L6 (a_p0 : SceneT) (a_p1 : SceneT) (v1_1 : Int) (x16_7 : Int) (v_6 : List RectT) (v1_6 : Int) : Option (((List RectT) × Int) ⊕ (List RectT)) :=
  ifO (decide (v1_6 < v1_1))
  (Option.bind (Option.bind (idx a_p1.Surfaces v1_6) fun x22_4 =>
  Option.bind (spec_SurfaceIndex a_p0 x22_4.Id) fun x22_7 =>
  ifO ((decide (0 ≤ x16_7)) && (decide (x16_7 < x22_7)))
  (Option.bind (idx a_p1.Surfaces v1_1) fun x24_4 =>
  Option.bind (spec_SurfaceRect x24_4) fun x24_6 =>
  Option.bind (idx a_p1.Surfaces v1_6) fun x24_10 =>
  Option.bind (spec_SurfaceRect x24_10) fun x24_12 =>
  Option.bind (spec_Intersect x24_6 x24_12) fun x24_13 =>
  Option.bind (app v_6 [x24_13]) fun x24_15 =>
  some x24_15)
  (some v_6)) fun v_7j =>
  some (.inl (v_7j, (wr (v1_6 + 1)))))
  (some (.inr v_6))
noncomputable def spec_DamageOf_L1 (a_p0 : SceneT) (a_p1 : SceneT) (v_1 : List RectT) (v1_1 : Int) : Option (((List RectT) × Int) ⊕ (List RectT)) :=
  ifO (decide (v1_1 < (a_p1.Surfaces.length : Int)))
  (Option.bind (Option.bind (idx a_p1.Surfaces v1_1) fun x16_4 =>
  Option.bind (spec_SurfaceIndex a_p0 x16_4.Id) fun x16_7 =>
  Option.bind (orO (decide (x16_7 < 0)) (Option.bind (idx a_p0.Surfaces x16_7) fun x17_6 =>
  Option.bind (idx a_p1.Surfaces v1_1) fun x17_11 =>
  Option.bind (spec_SameSurface x17_6 x17_11) fun x17_13 =>
  some (!x17_13))) fun q17_15 =>
  ifO q17_15
  (Option.bind (idx a_p1.Surfaces v1_1) fun x18_4 =>
  Option.bind (spec_SurfaceRect x18_4) fun x18_6 =>
  Option.bind (app v_1 [x18_6]) fun x18_8 =>
  Option.bind (loopO (fun (v_4, v1_4) => spec_DamageOf_L4 a_p0 a_p1 v1_1 x16_7 v_4 v1_4) (x18_8, 0)) fun v_4e =>
  some v_4e)
  (Option.bind (loopO (fun (v_6, v1_6) => spec_DamageOf_L6 a_p0 a_p1 v1_1 x16_7 v_6 v1_6) (v_1, 0)) fun v_6e =>
  some v_6e)) fun v_3j =>
  some (.inl (v_3j, (wr (v1_1 + 1)))))
  (some (.inr v_1))
noncomputable def spec_DamageOf_L0 (a_p0 : SceneT) (a_p1 : SceneT) (v_0 : List RectT) (v1_0 : Int) : Option (((List RectT) × Int) ⊕ (List RectT)) :=
  ifO (decide (v1_0 < (a_p0.Surfaces.length : Int)))
  (Option.bind (Option.bind (idx a_p0.Surfaces v1_0) fun x10_4 =>
  Option.bind (spec_SurfaceIndex a_p1 x10_4.Id) fun x10_7 =>
  Option.bind (orO (decide (x10_7 < 0)) (Option.bind (idx a_p0.Surfaces v1_0) fun x11_6 =>
  Option.bind (idx a_p1.Surfaces x10_7) fun x11_11 =>
  Option.bind (spec_SameSurface x11_6 x11_11) fun x11_13 =>
  some (!x11_13))) fun q11_15 =>
  ifO q11_15
  (Option.bind (idx a_p0.Surfaces v1_0) fun x12_4 =>
  Option.bind (spec_SurfaceRect x12_4) fun x12_6 =>
  Option.bind (app v_0 [x12_6]) fun x12_8 =>
  some x12_8)
  (some v_0)) fun v_8j =>
  some (.inl (v_8j, (wr (v1_0 + 1)))))
  (some (.inr v_0))
noncomputable def spec_DamageOf (a_p0 : SceneT) (a_p1 : SceneT) : Option RegionT :=
  Option.bind (spec_SceneOk a_p0) fun x1_1 =>
  Option.bind (orO (!x1_1) (Option.bind (spec_SceneOk a_p1) fun x1_5 =>
  some (!x1_5))) fun q1_7 =>
  ifO q1_7
  (some (RegionT.mk []))
  (ifO (((!decide (a_p0.W = a_p1.W)) || (!decide (a_p0.H = a_p1.H))) || (!decide (a_p0.Back = a_p1.Back)))
  (Option.bind (spec_RegionOf [(RectT.mk 0 0 a_p1.W a_p1.H)]) fun x5_2 =>
  some x5_2)
  (Option.bind (loopO (fun (v_0, v1_0) => spec_DamageOf_L0 a_p0 a_p1 v_0 v1_0) (([] : List RectT), 0)) fun v_0e =>
  Option.bind (loopO (fun (v_1, v1_1) => spec_DamageOf_L1 a_p0 a_p1 v_1 v1_1) (v_0e, 0)) fun v_1e =>
  Option.bind (loopO (fun (v_2, v1_2) => spec_DamageOf_L2 a_p1 v_2 v1_2) (v_1e, 0)) fun v_2e =>
  Option.bind (spec_RegionOf v_2e) fun x29_1 =>
  some x29_1))
noncomputable def laws_FnCursorFree (a_p0 : List Int) : Option Bool :=
  Option.bind (laws_big a_p0) fun x1_1 =>
  ifO x1_1
  (some true)
  (Option.bind (spec_DrawAssignment a_p0) fun (x3_1a, x3_1b) =>
  Option.bind (laws_at a_p0 0) fun x5_2 =>
  Option.bind (spec_NewImage 2 2 (wr (4278190080 + x5_2))) fun x5_4 =>
  Option.bind (spec_DoEdit x3_1a (EditT.mk 0 77 1 1 x5_4)) fun (x5_6a, x5_6b) =>
  ifO (!x5_6b)
  (some (decide ((x3_1a.Surfaces.length : Int) = 6)))
  (Option.bind (laws_at a_p0 1) fun x8_2 =>
  Option.bind (laws_at a_p0 2) fun x8_6 =>
  Option.bind (spec_DoEdit x5_6a (EditT.mk 2 77 (wr ((Int.tmod x8_2 12) - 2)) (wr ((Int.tmod x8_6 10) - 2)) (ImageT.mk 0 0 []))) fun (x8_10a, x8_10b) =>
  Option.bind (impl_AssignedOf x5_6a (OptionsT.mk x3_1b.Overlays true x3_1b.Layout x3_1b.Partial x3_1b.Sleep x3_1b.Secret)) fun (x9_2a, x9_2b) =>
  Option.bind (andO (decide (0 < x9_2b)) (Option.bind (laws_get x9_2a 2) fun x10_4 =>
  some (decide (x10_4 = (wr ((x5_6a.Surfaces.length : Int) - 1)))))) fun q10_10 =>
  Option.bind (andO q10_10 (Option.bind (impl_RestOf x5_6a (OptionsT.mk x3_1b.Overlays true x3_1b.Layout x3_1b.Partial x3_1b.Sleep x3_1b.Secret)) fun x10_14 =>
  Option.bind (impl_RestOf x8_10a (OptionsT.mk x3_1b.Overlays true x3_1b.Layout x3_1b.Partial x3_1b.Sleep x3_1b.Secret)) fun x10_17 =>
  Option.bind (laws_sameScene x10_14 x10_17) fun x10_18 =>
  some x10_18)) fun q10_19 =>
  Option.bind (andO q10_19 (Option.bind (spec_RestOf x5_6a (OptionsT.mk x3_1b.Overlays true x3_1b.Layout x3_1b.Partial x3_1b.Sleep x3_1b.Secret)) fun x10_23 =>
  Option.bind (impl_RestOf x8_10a (OptionsT.mk x3_1b.Overlays true x3_1b.Layout x3_1b.Partial x3_1b.Sleep x3_1b.Secret)) fun x10_26 =>
  Option.bind (spec_DamageOf x10_23 x10_26) fun x10_27 =>
  some (decide ((x10_27.Rects.length : Int) = 0)))) fun q10_31 =>
  some q10_31))
end Go.Proofs.Ytmhalmnbgkpmnaa
