/- The pure functions that the walks bring out of the program. -/
import Derived.Test.YtbdpbboonilhhaaStructs
namespace Go.Proofs.Ytbdpbboonilhhaa
open Go.RowKit K
set_option maxRecDepth 100000
set_option maxHeartbeats 4000000

noncomputable def laws_big (code_p0 : List Int) : Option Bool :=
  some (decide (1048576 < (code_p0.length : Int)))
noncomputable def spec_l01New_L0 (code_p0 : List Int) (h_0 : Int) (i_0 : Int) : Option ((Int × Int) ⊕ Int) :=
  ifO ((decide (i_0 < (code_p0.length : Int))) && (decide (i_0 < 4000)))
  (Option.bind (idx code_p0 i_0) fun x5_4 =>
  some (.inl ((and64 (wr ((wr ((wr (h_0 * 131)) + (wr x5_4))) + 7)) 1073741823), (wr (i_0 + 1)))))
  (some (.inr h_0))
noncomputable def spec_l01New (code_p0 : List Int) : Option L01CurT :=
  Option.bind (loopO (fun (h_0, i_0) => spec_l01New_L0 code_p0 h_0 i_0) ((wr (33137 + (code_p0.length : Int))), 0)) fun h_0e =>
  some (L01CurT.mk code_p0 0 h_0e)
noncomputable def spec_l01Byte (c_p0 : L01CurT) : Option (Int × L01CurT) :=
  ifO (decide (c_p0.i < (c_p0.b.length : Int)))
  (Option.bind (idx c_p0.b c_p0.i) fun x4_9 =>
  some ((and64 (wr ((and64 (xor64 (shr (wr ((wr (c_p0.h * 6364136223846793005)) + 1442695040888963407)) 33) (shr (wr ((wr (c_p0.h * 6364136223846793005)) + 1442695040888963407)) 45)) 255) + (wr x4_9))) 255), (L01CurT.mk c_p0.b (wr (c_p0.i + 1)) (wr ((wr (c_p0.h * 6364136223846793005)) + 1442695040888963407)))))
  (some ((and64 (xor64 (shr (wr ((wr (c_p0.h * 6364136223846793005)) + 1442695040888963407)) 33) (shr (wr ((wr (c_p0.h * 6364136223846793005)) + 1442695040888963407)) 45)) 255), (L01CurT.mk c_p0.b c_p0.i (wr ((wr (c_p0.h * 6364136223846793005)) + 1442695040888963407)))))
noncomputable def spec_l01Below (c_p0 : L01CurT) (n_p1 : Int) : Option (Int × L01CurT) :=
  ifO (decide (n_p1 ≤ 0))
  (some (0, c_p0))
  (ifO (decide (n_p1 ≤ 256))
  (Option.bind (spec_l01Byte c_p0) fun (x4_1a, x4_1b) =>
  Option.bind (remO x4_1a n_p1) fun x4_3 =>
  some (x4_3, (L01CurT.mk c_p0.b x4_1b.i x4_1b.h)))
  (Option.bind (spec_l01Byte c_p0) fun (x5_1a, x5_1b) =>
  Option.bind (spec_l01Byte (L01CurT.mk c_p0.b x5_1b.i x5_1b.h)) fun (x6_1a, x6_1b) =>
  Option.bind (spec_l01Byte (L01CurT.mk c_p0.b x6_1b.i x6_1b.h)) fun (x7_1a, x7_1b) =>
  Option.bind (spec_l01Byte (L01CurT.mk c_p0.b x7_1b.i x7_1b.h)) fun (x8_1a, x8_1b) =>
  Option.bind (remO (wr ((wr ((wr ((wr (x5_1a * 16777216)) + (wr (x6_1a * 65536)))) + (wr (x7_1a * 256)))) + x8_1a)) n_p1) fun x9_11 =>
  some (x9_11, (L01CurT.mk c_p0.b x8_1b.i x8_1b.h))))
noncomputable def spec_l01PickInt (c_p0 : L01CurT) (list_p1 : List Int) : Option (Int × L01CurT) :=
  Option.bind (spec_l01Below c_p0 (list_p1.length : Int)) fun (x1_4a, x1_4b) =>
  Option.bind (idx list_p1 x1_4a) fun x1_5 =>
  some (x1_5, (L01CurT.mk c_p0.b x1_4b.i x1_4b.h))
noncomputable def spec_l04Byte (c_p0 : L01CurT) : Option (Int × L01CurT) :=
  Option.bind (spec_l01Below c_p0 256) fun (x1_2a, x1_2b) =>
  Option.bind (spec_l01PickInt (L01CurT.mk c_p0.b x1_2b.i x1_2b.h) [0, 255, 127, 128, 1, 254, x1_2a]) fun (x1_4a, x1_4b) =>
  some (x1_4a, (L01CurT.mk c_p0.b x1_4b.i x1_4b.h))
noncomputable def spec_l01In (x_p0 : Int) (least_p1 : Int) (most_p2 : Int) : Option Bool :=
  some ((decide (least_p1 ≤ x_p0)) && (decide (x_p0 ≤ most_p2)))
noncomputable def spec_MakePixel (a_p0 : Int) (r_p1 : Int) (g_p2 : Int) (b_p3 : Int) : Option Int :=
  Option.bind (spec_l01In a_p0 0 255) fun x1_1 =>
  Option.bind (orO (!x1_1) (Option.bind (spec_l01In r_p1 0 255) fun x1_5 =>
  some (!x1_5))) fun q1_7 =>
  Option.bind (orO q1_7 (Option.bind (spec_l01In g_p2 0 255) fun x1_10 =>
  some (!x1_10))) fun q1_12 =>
  Option.bind (orO q1_12 (Option.bind (spec_l01In b_p3 0 255) fun x1_15 =>
  some (!x1_15))) fun q1_17 =>
  ifO q1_17
  (some (-1))
  (some (wr ((wr ((wr ((shl a_p0 24) + (shl r_p1 16))) + (shl g_p2 8))) + b_p3)))
noncomputable def spec_l04Draw (c_p0 : L01CurT) : Option (Int × L01CurT) :=
  Option.bind (spec_l01Below c_p0 256) fun (x1_2a, x1_2b) =>
  Option.bind (spec_l01PickInt (L01CurT.mk c_p0.b x1_2b.i x1_2b.h) [255, 255, 255, 0, 128, 200, x1_2a]) fun (x1_4a, x1_4b) =>
  Option.bind (spec_l04Byte (L01CurT.mk c_p0.b x1_4b.i x1_4b.h)) fun (x2_1a, x2_1b) =>
  Option.bind (spec_l04Byte (L01CurT.mk c_p0.b x2_1b.i x2_1b.h)) fun (x3_1a, x3_1b) =>
  Option.bind (spec_l04Byte (L01CurT.mk c_p0.b x3_1b.i x3_1b.h)) fun (x4_4a, x4_4b) =>
  Option.bind (spec_MakePixel x1_4a x2_1a x3_1a x4_4a) fun x4_5 =>
  some (x4_5, (L01CurT.mk c_p0.b x4_4b.i x4_4b.h))
noncomputable def spec_l04Pixel (p_p0 : Int) : Option Bool :=
  Option.bind (spec_l01In p_p0 0 4294967295) fun x1_1 =>
  some x1_1
noncomputable def spec_NewImage_L0 (w_p0 : Int) (h_p1 : Int) (p_p2 : Int) (i_0 : List Int) (k_0 : Int) : Option (((List Int) × Int) ⊕ (List Int)) :=
  ifO (decide (k_0 < (wr (w_p0 * h_p1))))
  (Option.bind (app i_0 [p_p2]) fun x7_4 =>
  some (.inl (x7_4, (wr (k_0 + 1)))))
  (some (.inr i_0))
noncomputable def spec_NewImage (w_p0 : Int) (h_p1 : Int) (p_p2 : Int) : Option ImageT :=
  Option.bind (spec_l01In w_p0 1 16) fun x1_1 =>
  Option.bind (orO (!x1_1) (Option.bind (spec_l01In h_p1 1 16) fun x1_5 =>
  some (!x1_5))) fun q1_7 =>
  Option.bind (orO q1_7 (Option.bind (spec_l04Pixel p_p2) fun x1_10 =>
  some (!x1_10))) fun q1_12 =>
  ifO q1_12
  (some (ImageT.mk 0 0 []))
  (Option.bind (loopO (fun (i_0, k_0) => spec_NewImage_L0 w_p0 h_p1 p_p2 i_0 k_0) ([], 0)) fun i_0e =>
  some (ImageT.mk w_p0 h_p1 i_0e))
noncomputable def spec_l05Copy (i_p0 : ImageT) : Option ImageT :=
  Option.bind (app ([] : List Int) i_p0.Data) fun x1_7 =>
  some (ImageT.mk i_p0.W i_p0.H x1_7)
noncomputable def spec_ImageOk_L0 (i_p0 : ImageT) (k_0 : Int) : Option (Int ⊕ (Unit ⊕ Bool)) :=
  ifO (decide (k_0 < (i_p0.Data.length : Int)))
  (Option.bind (idx i_p0.Data k_0) fun x6_3 =>
  Option.bind (spec_l04Pixel x6_3) fun x6_5 =>
  ifO (!x6_5)
  (some (.inr (.inr (false))))
  (some (.inl (wr (k_0 + 1)))))
  (some (.inr (.inl ())))
noncomputable def spec_ImageOk (i_p0 : ImageT) : Option Bool :=
  Option.bind (spec_l01In i_p0.W 1 16) fun x1_2 =>
  Option.bind (orO (!x1_2) (Option.bind (spec_l01In i_p0.H 1 16) fun x1_7 =>
  some (!x1_7))) fun q1_9 =>
  ifO (q1_9 || (!decide ((i_p0.Data.length : Int) = (wr (i_p0.W * i_p0.H)))))
  (some false)
  (Option.bind (loopO (fun k_0 => spec_ImageOk_L0 i_p0 k_0) 0) fun y => fork y (fun () => some true) (fun r => some r))
noncomputable def spec_RectOk (r_p0 : RectT) : Option Bool :=
  Option.bind (spec_l01In r_p0.X (-1000) 1000) fun x1_2 =>
  Option.bind (andO x1_2 (Option.bind (spec_l01In r_p0.Y (-1000) 1000) fun x1_6 =>
  some x1_6)) fun q1_7 =>
  Option.bind (andO q1_7 (Option.bind (spec_l01In r_p0.W 0 1000) fun x1_11 =>
  some x1_11)) fun q1_12 =>
  Option.bind (andO q1_12 (Option.bind (spec_l01In r_p0.H 0 1000) fun x1_16 =>
  some x1_16)) fun q1_17 =>
  some q1_17
noncomputable def spec_Intersect (a_p0 : RectT) (a_p1 : RectT) : Option RectT :=
  Option.bind (spec_RectOk a_p0) fun x1_1 =>
  Option.bind (orO (!x1_1) (Option.bind (spec_RectOk a_p1) fun x1_5 =>
  some (!x1_5))) fun q1_7 =>
  ifO q1_7
  (some (RectT.mk 0 0 0 0))
  (ifO ((decide ((wr ((min (wr (a_p0.X + a_p0.W)) (wr (a_p1.X + a_p1.W))) - (max a_p0.X a_p1.X))) ≤ 0)) || (decide ((wr ((min (wr (a_p0.Y + a_p0.H)) (wr (a_p1.Y + a_p1.H))) - (max a_p0.Y a_p1.Y))) ≤ 0)))
  (some (RectT.mk 0 0 0 0))
  (some (RectT.mk (max a_p0.X a_p1.X) (max a_p0.Y a_p1.Y) (wr ((min (wr (a_p0.X + a_p0.W)) (wr (a_p1.X + a_p1.W))) - (max a_p0.X a_p1.X))) (wr ((min (wr (a_p0.Y + a_p0.H)) (wr (a_p1.Y + a_p1.H))) - (max a_p0.Y a_p1.Y))))))
noncomputable def spec_FillRect_L1 (a_p0 : ImageT) (a_p2 : Int) (x4_6 : RectT) (v_0 : Int) (x_1 : List Int) (v_1 : Int) : Option (((List Int) × Int) ⊕ (List Int)) :=
  ifO (decide (v_1 < (wr (x4_6.X + x4_6.W))))
  (Option.bind (upd x_1 (wr ((wr (v_0 * a_p0.W)) + v_1)) a_p2) fun x11_10 =>
  some (.inl (x11_10, (wr (v_1 + 1)))))
  (some (.inr x_1))
noncomputable def spec_FillRect_L0 (a_p0 : ImageT) (a_p2 : Int) (x4_6 : RectT) (x_0 : List Int) (v_0 : Int) : Option (((List Int) × Int) ⊕ (List Int)) :=
  ifO (decide (v_0 < (wr (x4_6.Y + x4_6.H))))
  (Option.bind (loopO (fun (x_1, v_1) => spec_FillRect_L1 a_p0 a_p2 x4_6 v_0 x_1 v_1) (x_0, x4_6.X)) fun x_1e =>
  some (.inl (x_1e, (wr (v_0 + 1)))))
  (some (.inr x_0))
noncomputable def spec_FillRect (a_p0 : ImageT) (a_p1 : RectT) (a_p2 : Int) : Option ImageT :=
  Option.bind (spec_l05Copy a_p0) fun x1_1 =>
  Option.bind (spec_ImageOk a_p0) fun x2_1 =>
  Option.bind (orO (!x2_1) (Option.bind (spec_RectOk a_p1) fun x2_5 =>
  some (!x2_5))) fun q2_7 =>
  Option.bind (orO q2_7 (Option.bind (spec_l04Pixel a_p2) fun x2_10 =>
  some (!x2_10))) fun q2_12 =>
  ifO q2_12
  (some x1_1)
  (Option.bind (spec_Intersect a_p1 (RectT.mk 0 0 a_p0.W a_p0.H)) fun x4_6 =>
  Option.bind (loopO (fun (x_0, v_0) => spec_FillRect_L0 a_p0 a_p2 x4_6 x_0 v_0) (x1_1.Data, x4_6.Y)) fun x_0e =>
  some (ImageT.mk x1_1.W x1_1.H x_0e))
noncomputable def spec_l05Image_L0 (c_p0 : L01CurT) (x1_2a : Int) (x2_2a : Int) (c_0 : Int) (c1_0 : Int) (i_0 : Int) (i1_0 : Int) (i2_0 : List Int) (k_0 : Int) : Option ((Int × Int × Int × Int × (List Int) × Int) ⊕ (Int × Int × (List Int) × Int × Int)) :=
  ifO (decide (0 < k_0))
  (Option.bind (spec_l01Below (L01CurT.mk c_p0.b c_0 c1_0) (wr (1 + x1_2a))) fun (x7_3a, x7_3b) =>
  Option.bind (spec_l01Below (L01CurT.mk c_p0.b x7_3b.i x7_3b.h) (wr (1 + x2_2a))) fun (x7_6a, x7_6b) =>
  Option.bind (spec_l01Below (L01CurT.mk c_p0.b x7_6b.i x7_6b.h) 4) fun (x7_8a, x7_8b) =>
  Option.bind (spec_l01Below (L01CurT.mk c_p0.b x7_8b.i x7_8b.h) 4) fun (x7_11a, x7_11b) =>
  Option.bind (spec_l04Draw (L01CurT.mk c_p0.b x7_11b.i x7_11b.h)) fun (x7_15a, x7_15b) =>
  Option.bind (spec_FillRect (ImageT.mk i_0 i1_0 i2_0) (RectT.mk x7_3a x7_6a (wr (1 + x7_8a)) (wr (1 + x7_11a))) x7_15a) fun x7_16 =>
  some (.inl (x7_15b.i, x7_15b.h, x7_16.W, x7_16.H, x7_16.Data, (wr (k_0 - 1)))))
  (some (.inr (i_0, i1_0, i2_0, c_0, c1_0)))
noncomputable def spec_l05Image (c_p0 : L01CurT) (most_p1 : Int) : Option (ImageT × L01CurT) :=
  Option.bind (spec_l01Below c_p0 most_p1) fun (x1_2a, x1_2b) =>
  Option.bind (spec_l01Below (L01CurT.mk c_p0.b x1_2b.i x1_2b.h) most_p1) fun (x2_2a, x2_2b) =>
  Option.bind (spec_l04Draw (L01CurT.mk c_p0.b x2_2b.i x2_2b.h)) fun (x3_3a, x3_3b) =>
  Option.bind (spec_NewImage (wr (1 + x1_2a)) (wr (1 + x2_2a)) x3_3a) fun x3_4 =>
  Option.bind (spec_l01Below (L01CurT.mk c_p0.b x3_3b.i x3_3b.h) 4) fun (x4_1a, x4_1b) =>
  Option.bind (loopO (fun (c_0, c1_0, i_0, i1_0, i2_0, k_0) => spec_l05Image_L0 c_p0 x1_2a x2_2a c_0 c1_0 i_0 i1_0 i2_0 k_0) (x4_1b.i, x4_1b.h, x3_4.W, x3_4.H, x3_4.Data, x4_1a)) fun (i_0e, i1_0e, i2_0e, c_0e, c1_0e) =>
  some ((ImageT.mk i_0e i1_0e i2_0e), (L01CurT.mk c_p0.b c_0e c1_0e))
noncomputable def spec_l10CopySurface (s_p0 : SurfaceT) : Option SurfaceT :=
  Option.bind (spec_l05Copy s_p0.Buffer) fun x1_2 =>
  some (SurfaceT.mk s_p0.Id s_p0.X s_p0.Y s_p0.W s_p0.H s_p0.Alpha s_p0.Orient s_p0.Visible x1_2)
noncomputable def spec_l10Copy_L0 (s_p0 : SceneT) (out_0 : List SurfaceT) (k_0 : Int) : Option (((List SurfaceT) × Int) ⊕ (List SurfaceT)) :=
  ifO (decide (k_0 < (s_p0.Surfaces.length : Int)))
  (Option.bind (idx s_p0.Surfaces k_0) fun x5_5 =>
  Option.bind (spec_l10CopySurface x5_5) fun x5_7 =>
  Option.bind (app out_0 [x5_7]) fun x5_9 =>
  some (.inl (x5_9, (wr (k_0 + 1)))))
  (some (.inr out_0))
noncomputable def spec_l10Copy (s_p0 : SceneT) : Option SceneT :=
  Option.bind (loopO (fun (out_0, k_0) => spec_l10Copy_L0 s_p0 out_0 k_0) ([], 0)) fun out_0e =>
  some (SceneT.mk s_p0.W s_p0.H s_p0.Back out_0e)
noncomputable def spec_SurfaceIndex_L0 (s_p0 : SceneT) (id_p1 : Int) (k_0 : Int) : Option (Int ⊕ (Unit ⊕ Int)) :=
  ifO (decide (k_0 < (s_p0.Surfaces.length : Int)))
  (Option.bind (idx s_p0.Surfaces k_0) fun x4_3 =>
  ifO (decide (x4_3.Id = id_p1))
  (some (.inr (.inr (k_0))))
  (some (.inl (wr (k_0 + 1)))))
  (some (.inr (.inl ())))
noncomputable def spec_SurfaceIndex (s_p0 : SceneT) (id_p1 : Int) : Option Int :=
  Option.bind (loopO (fun k_0 => spec_SurfaceIndex_L0 s_p0 id_p1 k_0) 0) fun y => fork y (fun () => some (-1)) (fun r => some r)
noncomputable def spec_ChannelOf (p_p0 : Int) (k_p1 : Int) : Option Int :=
  Option.bind (spec_l04Pixel p_p0) fun x1_1 =>
  Option.bind (orO (!x1_1) (Option.bind (spec_l01In k_p1 0 3) fun x1_5 =>
  some (!x1_5))) fun q1_7 =>
  ifO q1_7
  (some (-1))
  (Option.bind (shrO p_p0 (wr (24 - (wr (8 * k_p1))))) fun x3_4 =>
  some (and64 x3_4 255))
noncomputable def spec_l10Opaque (p_p0 : Int) : Option Bool :=
  Option.bind (spec_l04Pixel p_p0) fun x1_1 =>
  Option.bind (andO x1_1 (Option.bind (spec_ChannelOf p_p0 0) fun x1_4 =>
  some (decide (x1_4 = 255)))) fun q1_6 =>
  some q1_6
noncomputable def spec_SurfaceOk (s_p0 : SurfaceT) : Option Bool :=
  Option.bind (spec_l01In s_p0.Id 1 99) fun x1_2 =>
  Option.bind (orO (!x1_2) (Option.bind (spec_l01In s_p0.X (-32) 32) fun x1_7 =>
  some (!x1_7))) fun q1_9 =>
  Option.bind (orO q1_9 (Option.bind (spec_l01In s_p0.Y (-32) 32) fun x1_13 =>
  some (!x1_13))) fun q1_15 =>
  Option.bind (orO q1_15 (Option.bind (spec_l01In s_p0.Alpha 0 255) fun x1_19 =>
  some (!x1_19))) fun q1_21 =>
  Option.bind (orO q1_21 (Option.bind (spec_l01In s_p0.Orient 0 7) fun x1_25 =>
  some (!x1_25))) fun q1_27 =>
  Option.bind (orO q1_27 (Option.bind (spec_ImageOk s_p0.Buffer) fun x1_31 =>
  some (!x1_31))) fun q1_33 =>
  ifO q1_33
  (some false)
  (Option.bind (orO ((decide (s_p0.W = 0)) && (decide (s_p0.H = 0))) (Option.bind (spec_l01In s_p0.W 1 16) fun x3_11 =>
  Option.bind (andO x3_11 (Option.bind (spec_l01In s_p0.H 1 16) fun x3_15 =>
  some x3_15)) fun q3_16 =>
  some q3_16)) fun q3_17 =>
  some q3_17)
noncomputable def spec_SceneOk_L0 (s_p0 : SceneT) (k_0 : Int) : Option (Int ⊕ (Unit ⊕ Bool)) :=
  ifO (decide (k_0 < (s_p0.Surfaces.length : Int)))
  (Option.bind (idx s_p0.Surfaces k_0) fun x6_3 =>
  Option.bind (spec_SurfaceOk x6_3) fun x6_5 =>
  Option.bind (orO (!x6_5) (Option.bind (idx s_p0.Surfaces k_0) fun x6_12 =>
  Option.bind (spec_SurfaceIndex s_p0 x6_12.Id) fun x6_15 =>
  some (!decide (x6_15 = k_0)))) fun q6_18 =>
  ifO q6_18
  (some (.inr (.inr (false))))
  (some (.inl (wr (k_0 + 1)))))
  (some (.inr (.inl ())))
noncomputable def spec_SceneOk (s_p0 : SceneT) : Option Bool :=
  Option.bind (spec_l01In s_p0.W 1 16) fun x1_2 =>
  Option.bind (orO (!x1_2) (Option.bind (spec_l01In s_p0.H 1 16) fun x1_7 =>
  some (!x1_7))) fun q1_9 =>
  Option.bind (orO q1_9 (Option.bind (spec_l10Opaque s_p0.Back) fun x1_13 =>
  some (!x1_13))) fun q1_15 =>
  ifO (q1_15 || (decide (6 < (s_p0.Surfaces.length : Int))))
  (some false)
  (Option.bind (loopO (fun k_0 => spec_SceneOk_L0 s_p0 k_0) 0) fun y => fork y (fun () => some true) (fun r => some r))
noncomputable def spec_DoEdit_L0 (x1_1 : SceneT) (x2_3 : Int) (x_0 : List SurfaceT) (v_0 : Int) : Option (((List SurfaceT) × Int) ⊕ (List SurfaceT)) :=
  ifO ((decide (v_0 < (x1_1.Surfaces.length : Int))) && (decide (0 ≤ x2_3)))
  (Option.bind (ifO (!decide (v_0 = x2_3))
  (Option.bind (idx x1_1.Surfaces v_0) fun x10_5 =>
  Option.bind (app x_0 [x10_5]) fun x10_8 =>
  some x10_8)
  (some x_0)) fun x_2j =>
  some (.inl (x_2j, (wr (v_0 + 1)))))
  (some (.inr x_0))
noncomputable def spec_DoEdit (a_p0 : SceneT) (a_p1 : EditT) : Option (SceneT × Bool) :=
  Option.bind (spec_l10Copy a_p0) fun x1_1 =>
  Option.bind (spec_SurfaceIndex a_p0 a_p1.Id) fun x2_3 =>
  Option.bind (spec_SceneOk a_p0) fun x3_1 =>
  Option.bind (orO (!x3_1) (Option.bind (spec_l01In a_p1.Kind 0 10) fun x3_6 =>
  some (!x3_6))) fun q3_8 =>
  ifO (q3_8 || (((decide (x2_3 < 0)) && (!decide (a_p1.Kind = 0))) && (!decide (a_p1.Kind = 10))))
  (some (x1_1, false))
  (Option.bind (loopO (fun (x_0, v_0) => spec_DoEdit_L0 x1_1 x2_3 x_0 v_0) ([], 0)) fun x_0e =>
  Option.bind (ifO (decide (a_p1.Kind = 0))
  (Option.bind (spec_l05Copy a_p1.Buffer) fun x14_10 =>
  Option.bind (app x1_1.Surfaces [(SurfaceT.mk a_p1.Id a_p1.A a_p1.B 0 0 255 0 true x14_10)]) fun x14_13 =>
  some (x1_1.Back, x14_13))
  (ifO (decide (a_p1.Kind = 1))
  (some (x1_1.Back, x_0e))
  (ifO (decide (a_p1.Kind = 2))
  (Option.bind (idx x1_1.Surfaces x2_3) fun x18_5 =>
  Option.bind (upd x1_1.Surfaces x2_3 (SurfaceT.mk x18_5.Id a_p1.A x18_5.Y x18_5.W x18_5.H x18_5.Alpha x18_5.Orient x18_5.Visible x18_5.Buffer)) fun x18_7 =>
  Option.bind (idx x18_7 x2_3) fun x19_5 =>
  Option.bind (upd x18_7 x2_3 (SurfaceT.mk x19_5.Id x19_5.X a_p1.B x19_5.W x19_5.H x19_5.Alpha x19_5.Orient x19_5.Visible x19_5.Buffer)) fun x19_7 =>
  some (x1_1.Back, x19_7))
  (ifO (decide (a_p1.Kind = 3))
  (Option.bind (idx x1_1.Surfaces x2_3) fun x21_5 =>
  Option.bind (app x_0e [x21_5]) fun x21_8 =>
  some (x1_1.Back, x21_8))
  (ifO (decide (a_p1.Kind = 4))
  (Option.bind (idx x1_1.Surfaces x2_3) fun x23_3 =>
  Option.bind (app [x23_3] x_0e) fun x23_8 =>
  some (x1_1.Back, x23_8))
  (ifO (decide (a_p1.Kind = 5))
  (Option.bind (spec_l05Copy a_p1.Buffer) fun x25_5 =>
  Option.bind (idx x1_1.Surfaces x2_3) fun x25_6 =>
  Option.bind (upd x1_1.Surfaces x2_3 (SurfaceT.mk x25_6.Id x25_6.X x25_6.Y x25_6.W x25_6.H x25_6.Alpha x25_6.Orient x25_6.Visible x25_5)) fun x25_8 =>
  some (x1_1.Back, x25_8))
  (ifO (decide (a_p1.Kind = 6))
  (Option.bind (idx x1_1.Surfaces x2_3) fun x27_5 =>
  Option.bind (upd x1_1.Surfaces x2_3 (SurfaceT.mk x27_5.Id x27_5.X x27_5.Y x27_5.W x27_5.H a_p1.A x27_5.Orient x27_5.Visible x27_5.Buffer)) fun x27_7 =>
  some (x1_1.Back, x27_7))
  (ifO (decide (a_p1.Kind = 7))
  (Option.bind (idx x1_1.Surfaces x2_3) fun x29_5 =>
  Option.bind (upd x1_1.Surfaces x2_3 (SurfaceT.mk x29_5.Id x29_5.X x29_5.Y x29_5.W x29_5.H x29_5.Alpha a_p1.A x29_5.Visible x29_5.Buffer)) fun x29_7 =>
  some (x1_1.Back, x29_7))
  (ifO (decide (a_p1.Kind = 8))
  (Option.bind (idx x1_1.Surfaces x2_3) fun x31_5 =>
  Option.bind (upd x1_1.Surfaces x2_3 (SurfaceT.mk x31_5.Id x31_5.X x31_5.Y a_p1.A x31_5.H x31_5.Alpha x31_5.Orient x31_5.Visible x31_5.Buffer)) fun x31_7 =>
  Option.bind (idx x31_7 x2_3) fun x32_5 =>
  Option.bind (upd x31_7 x2_3 (SurfaceT.mk x32_5.Id x32_5.X x32_5.Y x32_5.W a_p1.B x32_5.Alpha x32_5.Orient x32_5.Visible x32_5.Buffer)) fun x32_7 =>
  some (x1_1.Back, x32_7))
  (ifO (decide (a_p1.Kind = 9))
  (Option.bind (idx x1_1.Surfaces x2_3) fun x34_6 =>
  Option.bind (upd x1_1.Surfaces x2_3 (SurfaceT.mk x34_6.Id x34_6.X x34_6.Y x34_6.W x34_6.H x34_6.Alpha x34_6.Orient (decide (a_p1.A = 1)) x34_6.Buffer)) fun x34_8 =>
  some (x1_1.Back, x34_8))
  (some (a_p1.A, x1_1.Surfaces)))))))))))) fun (x_1j, x1_1j) =>
  Option.bind (spec_SceneOk (SceneT.mk x1_1.W x1_1.H x_1j x1_1j)) fun x35_1 =>
  ifO (!x35_1)
  (Option.bind (spec_l10Copy a_p0) fun x36_1 =>
  some (x36_1, false))
  (Option.bind (spec_l10Copy (SceneT.mk x1_1.W x1_1.H x_1j x1_1j)) fun x37_1 =>
  some (x37_1, true)))
noncomputable def spec_l01Once (c_p0 : L01CurT) (n_p1 : Int) : Option (Bool × L01CurT) :=
  Option.bind (spec_l01Below c_p0 n_p1) fun (x1_2a, x1_2b) =>
  some ((decide (x1_2a = 0)), (L01CurT.mk c_p0.b x1_2b.i x1_2b.h))
noncomputable def spec_l10Edit (a_p0 : L01CurT) : Option (EditT × L01CurT) :=
  Option.bind (spec_l01Below a_p0 11) fun (x1_1a, x1_1b) =>
  Option.bind (spec_l01Below (L01CurT.mk a_p0.b x1_1b.i x1_1b.h) 4) fun (x1_3a, x1_3b) =>
  ifO (decide (x1_1a = 0))
  (ifO (decide (x1_1a = 0))
  (Option.bind (spec_l01Below (L01CurT.mk a_p0.b x1_3b.i x1_3b.h) 12) fun (x5_1a, x5_1b) =>
  Option.bind (spec_l01Below (L01CurT.mk a_p0.b x5_1b.i x5_1b.h) 8) fun (x6_1a, x6_1b) =>
  Option.bind (spec_l05Image (L01CurT.mk a_p0.b x6_1b.i x6_1b.h) 6) fun (x7_1a, x7_1b) =>
  some ((EditT.mk x1_1a (wr (1 + x1_3a)) (wr (x5_1a - 2)) (wr (x6_1a - 2)) x7_1a), (L01CurT.mk a_p0.b x7_1b.i x7_1b.h)))
  (ifO (decide (x1_1a = 2))
  (Option.bind (spec_l01Below (L01CurT.mk a_p0.b x1_3b.i x1_3b.h) 14) fun (x9_1a, x9_1b) =>
  Option.bind (spec_l01Below (L01CurT.mk a_p0.b x9_1b.i x9_1b.h) 10) fun (x10_1a, x10_1b) =>
  some ((EditT.mk x1_1a (wr (1 + x1_3a)) (wr (x9_1a - 3)) (wr (x10_1a - 3)) (ImageT.mk 0 0 [])), (L01CurT.mk a_p0.b x10_1b.i x10_1b.h)))
  (ifO (decide (x1_1a = 6))
  (Option.bind (spec_l01PickInt (L01CurT.mk a_p0.b x1_3b.i x1_3b.h) [255, 128, 0]) fun (x12_2a, x12_2b) =>
  some ((EditT.mk x1_1a (wr (1 + x1_3a)) x12_2a 0 (ImageT.mk 0 0 [])), (L01CurT.mk a_p0.b x12_2b.i x12_2b.h)))
  (ifO (decide (x1_1a = 7))
  (Option.bind (spec_l01Below (L01CurT.mk a_p0.b x1_3b.i x1_3b.h) 8) fun (x14_1a, x14_1b) =>
  some ((EditT.mk x1_1a (wr (1 + x1_3a)) x14_1a 0 (ImageT.mk 0 0 [])), (L01CurT.mk a_p0.b x14_1b.i x14_1b.h)))
  (ifO (decide (x1_1a = 8))
  (Option.bind (spec_l01Once (L01CurT.mk a_p0.b x1_3b.i x1_3b.h) 2) fun (x16_1a, x16_1b) =>
  ifO x16_1a
  (Option.bind (spec_l01Below (L01CurT.mk a_p0.b x16_1b.i x16_1b.h) 9) fun (x17_1a, x17_1b) =>
  Option.bind (spec_l01Below (L01CurT.mk a_p0.b x17_1b.i x17_1b.h) 9) fun (x18_1a, x18_1b) =>
  some ((EditT.mk x1_1a (wr (1 + x1_3a)) (wr (1 + x17_1a)) (wr (1 + x18_1a)) (ImageT.mk 0 0 [])), (L01CurT.mk a_p0.b x18_1b.i x18_1b.h)))
  (some ((EditT.mk x1_1a (wr (1 + x1_3a)) 0 0 (ImageT.mk 0 0 [])), (L01CurT.mk a_p0.b x16_1b.i x16_1b.h))))
  (ifO (decide (x1_1a = 9))
  (Option.bind (spec_l01Below (L01CurT.mk a_p0.b x1_3b.i x1_3b.h) 2) fun (x20_1a, x20_1b) =>
  some ((EditT.mk x1_1a (wr (1 + x1_3a)) x20_1a 0 (ImageT.mk 0 0 [])), (L01CurT.mk a_p0.b x20_1b.i x20_1b.h)))
  (ifO (decide (x1_1a = 10))
  (Option.bind (spec_l04Draw (L01CurT.mk a_p0.b x1_3b.i x1_3b.h)) fun (x22_1a, x22_1b) =>
  some ((EditT.mk x1_1a (wr (1 + x1_3a)) (or64 x22_1a 4278190080) 0 (ImageT.mk 0 0 [])), (L01CurT.mk a_p0.b x22_1b.i x22_1b.h)))
  (some ((EditT.mk x1_1a (wr (1 + x1_3a)) 0 0 (ImageT.mk 0 0 [])), (L01CurT.mk a_p0.b x1_3b.i x1_3b.h))))))))))
  (ifO (decide (x1_1a = 5))
  (Option.bind (spec_l01Below (L01CurT.mk a_p0.b x1_3b.i x1_3b.h) 12) fun (x5_1a, x5_1b) =>
  Option.bind (spec_l01Below (L01CurT.mk a_p0.b x5_1b.i x5_1b.h) 8) fun (x6_1a, x6_1b) =>
  Option.bind (spec_l05Image (L01CurT.mk a_p0.b x6_1b.i x6_1b.h) 6) fun (x7_1a, x7_1b) =>
  some ((EditT.mk x1_1a (wr (1 + x1_3a)) (wr (x5_1a - 2)) (wr (x6_1a - 2)) x7_1a), (L01CurT.mk a_p0.b x7_1b.i x7_1b.h)))
  (ifO (decide (x1_1a = 2))
  (Option.bind (spec_l01Below (L01CurT.mk a_p0.b x1_3b.i x1_3b.h) 14) fun (x9_1a, x9_1b) =>
  Option.bind (spec_l01Below (L01CurT.mk a_p0.b x9_1b.i x9_1b.h) 10) fun (x10_1a, x10_1b) =>
  some ((EditT.mk x1_1a (wr (1 + x1_3a)) (wr (x9_1a - 3)) (wr (x10_1a - 3)) (ImageT.mk 0 0 [])), (L01CurT.mk a_p0.b x10_1b.i x10_1b.h)))
  (ifO (decide (x1_1a = 6))
  (Option.bind (spec_l01PickInt (L01CurT.mk a_p0.b x1_3b.i x1_3b.h) [255, 128, 0]) fun (x12_2a, x12_2b) =>
  some ((EditT.mk x1_1a (wr (1 + x1_3a)) x12_2a 0 (ImageT.mk 0 0 [])), (L01CurT.mk a_p0.b x12_2b.i x12_2b.h)))
  (ifO (decide (x1_1a = 7))
  (Option.bind (spec_l01Below (L01CurT.mk a_p0.b x1_3b.i x1_3b.h) 8) fun (x14_1a, x14_1b) =>
  some ((EditT.mk x1_1a (wr (1 + x1_3a)) x14_1a 0 (ImageT.mk 0 0 [])), (L01CurT.mk a_p0.b x14_1b.i x14_1b.h)))
  (ifO (decide (x1_1a = 8))
  (Option.bind (spec_l01Once (L01CurT.mk a_p0.b x1_3b.i x1_3b.h) 2) fun (x16_1a, x16_1b) =>
  ifO x16_1a
  (Option.bind (spec_l01Below (L01CurT.mk a_p0.b x16_1b.i x16_1b.h) 9) fun (x17_1a, x17_1b) =>
  Option.bind (spec_l01Below (L01CurT.mk a_p0.b x17_1b.i x17_1b.h) 9) fun (x18_1a, x18_1b) =>
  some ((EditT.mk x1_1a (wr (1 + x1_3a)) (wr (1 + x17_1a)) (wr (1 + x18_1a)) (ImageT.mk 0 0 [])), (L01CurT.mk a_p0.b x18_1b.i x18_1b.h)))
  (some ((EditT.mk x1_1a (wr (1 + x1_3a)) 0 0 (ImageT.mk 0 0 [])), (L01CurT.mk a_p0.b x16_1b.i x16_1b.h))))
  (ifO (decide (x1_1a = 9))
  (Option.bind (spec_l01Below (L01CurT.mk a_p0.b x1_3b.i x1_3b.h) 2) fun (x20_1a, x20_1b) =>
  some ((EditT.mk x1_1a (wr (1 + x1_3a)) x20_1a 0 (ImageT.mk 0 0 [])), (L01CurT.mk a_p0.b x20_1b.i x20_1b.h)))
  (ifO (decide (x1_1a = 10))
  (Option.bind (spec_l04Draw (L01CurT.mk a_p0.b x1_3b.i x1_3b.h)) fun (x22_1a, x22_1b) =>
  some ((EditT.mk x1_1a (wr (1 + x1_3a)) (or64 x22_1a 4278190080) 0 (ImageT.mk 0 0 [])), (L01CurT.mk a_p0.b x22_1b.i x22_1b.h)))
  (some ((EditT.mk x1_1a (wr (1 + x1_3a)) 0 0 (ImageT.mk 0 0 [])), (L01CurT.mk a_p0.b x1_3b.i x1_3b.h))))))))))
noncomputable def spec_l10Scene_L1 (c_p0 : L01CurT) (c_1 : Int) (c1_1 : Int) (s_1 : Int) (s1_1 : Int) (s2_1 : Int) (s3_1 : List SurfaceT) (k_1 : Int) : Option ((Int × Int × Int × Int × Int × (List SurfaceT) × Int) ⊕ (Int × Int × Int × (List SurfaceT) × Int × Int)) :=
  ifO (decide (0 < k_1))
  (Option.bind (spec_l10Edit (L01CurT.mk c_p0.b c_1 c1_1)) fun (x9_2a, x9_2b) =>
  Option.bind (spec_DoEdit (SceneT.mk s_1 s1_1 s2_1 s3_1) x9_2a) fun (x9_3a, x9_3b) =>
  some (.inl (x9_2b.i, x9_2b.h, x9_3a.W, x9_3a.H, x9_3a.Back, x9_3a.Surfaces, (wr (k_1 - 1)))))
  (some (.inr (s_1, s1_1, s2_1, s3_1, c_1, c1_1)))
noncomputable def spec_l10Scene_L0 (c_p0 : L01CurT) (c_0 : Int) (c1_0 : Int) (s_0 : Int) (s1_0 : Int) (s2_0 : Int) (s3_0 : List SurfaceT) (k_0 : Int) : Option ((Int × Int × Int × Int × Int × (List SurfaceT) × Int) ⊕ (Int × Int × Int × Int × Int × (List SurfaceT))) :=
  ifO (decide (0 < k_0))
  (Option.bind (spec_l01Below (L01CurT.mk c_p0.b c_0 c1_0) 9) fun (x5_3a, x5_3b) =>
  Option.bind (spec_l01Below (L01CurT.mk c_p0.b x5_3b.i x5_3b.h) 7) fun (x5_6a, x5_6b) =>
  Option.bind (spec_l05Image (L01CurT.mk c_p0.b x5_6b.i x5_6b.h) 6) fun (x5_9a, x5_9b) =>
  Option.bind (spec_DoEdit (SceneT.mk s_0 s1_0 s2_0 s3_0) (EditT.mk 0 k_0 (wr (x5_3a - 2)) (wr (x5_6a - 2)) x5_9a)) fun (x5_11a, x5_11b) =>
  some (.inl (x5_9b.i, x5_9b.h, x5_11a.W, x5_11a.H, x5_11a.Back, x5_11a.Surfaces, (wr (k_0 - 1)))))
  (some (.inr (c_0, c1_0, s_0, s1_0, s2_0, s3_0)))
noncomputable def spec_l10Scene (c_p0 : L01CurT) : Option (SceneT × L01CurT) :=
  Option.bind (spec_l01Below c_p0 7) fun (x1_1a, x1_1b) =>
  Option.bind (spec_l01Below (L01CurT.mk c_p0.b x1_1b.i x1_1b.h) 6) fun (x1_4a, x1_4b) =>
  Option.bind (spec_l04Draw (L01CurT.mk c_p0.b x1_4b.i x1_4b.h)) fun (x1_7a, x1_7b) =>
  Option.bind (spec_l01Below (L01CurT.mk c_p0.b x1_7b.i x1_7b.h) 4) fun (x2_1a, x2_1b) =>
  Option.bind (loopO (fun (c_0, c1_0, s_0, s1_0, s2_0, s3_0, k_0) => spec_l10Scene_L0 c_p0 c_0 c1_0 s_0 s1_0 s2_0 s3_0 k_0) (x2_1b.i, x2_1b.h, (wr (4 + x1_1a)), (wr (3 + x1_4a)), (or64 x1_7a 4278190080), [], x2_1a)) fun (c_0e, c1_0e, s_0e, s1_0e, s2_0e, s3_0e) =>
  Option.bind (spec_l01Below (L01CurT.mk c_p0.b c_0e c1_0e) 4) fun (x6_1a, x6_1b) =>
  Option.bind (loopO (fun (c_1, c1_1, s_1, s1_1, s2_1, s3_1, k_1) => spec_l10Scene_L1 c_p0 c_1 c1_1 s_1 s1_1 s2_1 s3_1 k_1) (x6_1b.i, x6_1b.h, s_0e, s1_0e, s2_0e, s3_0e, x6_1a)) fun (s_1e, s1_1e, s2_1e, s3_1e, c_1e, c1_1e) =>
  some ((SceneT.mk s_1e s1_1e s2_1e s3_1e), (L01CurT.mk c_p0.b c_1e c1_1e))
noncomputable def spec_l21Options (c_p0 : L01CurT) : Option (OptionsT × L01CurT) :=
  Option.bind (spec_l01Below c_p0 3) fun (x1_1a, x1_1b) =>
  Option.bind (spec_l01Once (L01CurT.mk c_p0.b x1_1b.i x1_1b.h) 2) fun (x1_3a, x1_3b) =>
  Option.bind (spec_l01Below (L01CurT.mk c_p0.b x1_3b.i x1_3b.h) 3) fun (x1_5a, x1_5b) =>
  Option.bind (spec_l01Once (L01CurT.mk c_p0.b x1_5b.i x1_5b.h) 2) fun (x2_1a, x2_1b) =>
  Option.bind (spec_l01Once (L01CurT.mk c_p0.b x2_1b.i x2_1b.h) 2) fun (x3_1a, x3_1b) =>
  Option.bind (spec_l01Once (L01CurT.mk c_p0.b x3_1b.i x3_1b.h) 2) fun (x4_1a, x4_1b) =>
  some ((OptionsT.mk x1_1a x1_3a x1_5a x2_1a x3_1a x4_1a), (L01CurT.mk c_p0.b x4_1b.i x4_1b.h))
noncomputable def spec_DrawAssignment (code_p0 : List Int) : Option (SceneT × OptionsT) :=
  Option.bind (spec_l01New code_p0) fun x1_1 =>
  Option.bind (spec_l10Scene (L01CurT.mk code_p0 x1_1.i x1_1.h)) fun (x2_1a, x2_1b) =>
  Option.bind (spec_l21Options (L01CurT.mk code_p0 x2_1b.i x2_1b.h)) fun (x3_2a, x3_2b) =>
  some (x2_1a, x3_2a)
noncomputable def impl_within (n_p0 : Int) (low_p1 : Int) (high_p2 : Int) : Option Bool :=
  some ((decide (low_p1 ≤ n_p0)) && (decide (n_p0 ≤ high_p2)))
noncomputable def impl_isSide (n_p0 : Int) : Option Bool :=
  Option.bind (impl_within n_p0 1 16) fun x1_1 =>
  some x1_1
noncomputable def impl_isPixel (p_p0 : Int) : Option Bool :=
  Option.bind (impl_within p_p0 0 4294967295) fun x1_1 =>
  some x1_1
noncomputable def impl_channel (p_p0 : Int) (k_p1 : Int) : Option Int :=
  Option.bind (shrO p_p0 (wr (24 - (wr (8 * k_p1))))) fun x1_4 =>
  some (and64 x1_4 255)
noncomputable def impl_isOpaquePixel (p_p0 : Int) : Option Bool :=
  Option.bind (impl_isPixel p_p0) fun x1_1 =>
  Option.bind (andO x1_1 (Option.bind (impl_channel p_p0 0) fun x1_4 =>
  some (decide (x1_4 = 255)))) fun q1_6 =>
  some q1_6
noncomputable def impl_isOrient (o_p0 : Int) : Option Bool :=
  Option.bind (impl_within o_p0 0 7) fun x1_1 =>
  some x1_1
noncomputable def impl_ImageOk_L0 (i_p0 : ImageT) (v_0 : Int) : Option (Int ⊕ (Unit ⊕ Bool)) :=
  ifO (decide (v_0 < (i_p0.Data.length : Int)))
  (Option.bind (idx i_p0.Data v_0) fun x5_0 =>
  Option.bind (impl_isPixel x5_0) fun x6_1 =>
  ifO (!x6_1)
  (some (.inr (.inr (false))))
  (some (.inl (wr (v_0 + 1)))))
  (some (.inr (.inl ())))
noncomputable def impl_ImageOk (i_p0 : ImageT) : Option Bool :=
  Option.bind (impl_isSide i_p0.W) fun x1_2 =>
  Option.bind (orO (!x1_2) (Option.bind (impl_isSide i_p0.H) fun x1_7 =>
  some (!x1_7))) fun q1_9 =>
  ifO (q1_9 || (!decide ((i_p0.Data.length : Int) = (wr (i_p0.W * i_p0.H)))))
  (some false)
  (Option.bind (loopO (fun v_0 => impl_ImageOk_L0 i_p0 v_0) 0) fun y => fork y (fun () => some true) (fun r => some r))
noncomputable def impl_SurfaceOk (s_p0 : SurfaceT) : Option Bool :=
  Option.bind (impl_isSide s_p0.W) fun x1_2 =>
  Option.bind (andO x1_2 (Option.bind (impl_isSide s_p0.H) fun x1_6 =>
  some x1_6)) fun q1_7 =>
  Option.bind (impl_within s_p0.Id 1 99) fun x2_2 =>
  Option.bind (andO x2_2 (Option.bind (impl_within s_p0.X (-32) 32) fun x2_6 =>
  some x2_6)) fun q2_7 =>
  Option.bind (andO q2_7 (Option.bind (impl_within s_p0.Y (-32) 32) fun x2_11 =>
  some x2_11)) fun q2_12 =>
  Option.bind (andO (q2_12 && (q1_7 || ((decide (s_p0.W = 0)) && (decide (s_p0.H = 0))))) (Option.bind (impl_within s_p0.Alpha 0 255) fun x2_19 =>
  some x2_19)) fun q2_20 =>
  Option.bind (andO q2_20 (Option.bind (impl_isOrient s_p0.Orient) fun x2_24 =>
  some x2_24)) fun q2_25 =>
  Option.bind (andO q2_25 (Option.bind (impl_ImageOk s_p0.Buffer) fun x2_29 =>
  some x2_29)) fun q2_30 =>
  some q2_30
noncomputable def impl_SceneOk_L0 (s_p0 : SceneT) (seen_0 : List (Int × Bool)) (v_0 : Int) : Option (((List (Int × Bool)) × Int) ⊕ (Unit ⊕ Bool)) :=
  ifO (decide (v_0 < (s_p0.Surfaces.length : Int)))
  (Option.bind (idx s_p0.Surfaces v_0) fun x6_0 =>
  Option.bind (orO (mget seen_0 x6_0.Id) (Option.bind (impl_SurfaceOk x6_0) fun x7_6 =>
  some (!x7_6))) fun q7_8 =>
  ifO q7_8
  (some (.inr (.inr (false))))
  (some (.inl ((mset seen_0 x6_0.Id true), (wr (v_0 + 1))))))
  (some (.inr (.inl ())))
noncomputable def impl_SceneOk (s_p0 : SceneT) : Option Bool :=
  Option.bind (impl_isSide s_p0.W) fun x1_2 =>
  Option.bind (orO (!x1_2) (Option.bind (impl_isSide s_p0.H) fun x1_7 =>
  some (!x1_7))) fun q1_9 =>
  Option.bind (orO q1_9 (Option.bind (impl_isOpaquePixel s_p0.Back) fun x1_13 =>
  some (!x1_13))) fun q1_15 =>
  ifO (q1_15 || (decide (6 < (s_p0.Surfaces.length : Int))))
  (some false)
  (Option.bind (loopO (fun (seen_0, v_0) => impl_SceneOk_L0 s_p0 seen_0 v_0) (([] : List (Int × Bool)), 0)) fun y => fork y (fun () => some true) (fun r => some r))
noncomputable def impl_OptionsOk (o_p0 : OptionsT) : Option Bool :=
  Option.bind (impl_within o_p0.Overlays 0 2) fun x1_2 =>
  Option.bind (andO x1_2 (Option.bind (impl_within o_p0.Layout 0 2) fun x1_6 =>
  some x1_6)) fun q1_7 =>
  some q1_7
noncomputable def impl_TopVisible_L0 (s_p0 : SceneT) (n_0 : Int) (k_0 : Int) : Option ((Int × Int) ⊕ (Unit ⊕ Int)) :=
  ifO (decide (0 ≤ k_0))
  (Option.bind (idx s_p0.Surfaces k_0) fun x6_3 =>
  ifO (!x6_3.Visible)
  (some (.inl (n_0, (wr (k_0 - 1)))))
  (ifO (decide (n_0 = 0))
  (some (.inr (.inr (k_0))))
  (some (.inl ((wr (n_0 - 1)), (wr (k_0 - 1)))))))
  (some (.inr (.inl ())))
noncomputable def impl_TopVisible (s_p0 : SceneT) (n_p1 : Int) : Option Int :=
  Option.bind (impl_SceneOk s_p0) fun x1_1 =>
  ifO ((!x1_1) || (decide (n_p1 < 0)))
  (some (-1))
  (Option.bind (loopO (fun (n_0, k_0) => impl_TopVisible_L0 s_p0 n_0 k_0) (n_p1, (wr ((s_p0.Surfaces.length : Int) - 1)))) fun y => fork y (fun () => some (-1)) (fun r => some r))
noncomputable def impl_FitsCursor (s_p0 : SurfaceT) : Option Bool :=
  Option.bind (impl_SurfaceOk s_p0) fun x1_1 =>
  some ((((((x1_1 && (decide (s_p0.Alpha = 255))) && (decide (s_p0.Orient = 0))) && (decide (s_p0.W = 0))) && (decide (s_p0.H = 0))) && (decide (s_p0.Buffer.W ≤ 4))) && (decide (s_p0.Buffer.H ≤ 4)))
noncomputable def impl_AssignedOf_L0 (a_p0 : SceneT) (v_0 : List Int) (v1_0 : Int) (v2_0 : Int) (v3_0 : Bool) (v4_0 : Int) : Option (((List Int) × Int × Int × Bool × Int) ⊕ ((List Int) × Int)) :=
  ifO (decide (1 ≤ v4_0))
  (Option.bind (orO (decide (v2_0 < 0)) (Option.bind (idx a_p0.Surfaces v2_0) fun x14_6 =>
  some ((!decide (x14_6.W = 0)) && v3_0))) fun q14_13 =>
  ifO q14_13
  (some (.inr (v_0, v1_0)))
  (Option.bind (orO v3_0 (Option.bind (idx a_p0.Surfaces v2_0) fun x15_5 =>
  some (!decide (x15_5.W = 0)))) fun q15_9 =>
  Option.bind (upd v_0 (wr (v4_0 - 1)) v2_0) fun x16_5 =>
  Option.bind (impl_TopVisible a_p0 (wr (v1_0 + 1))) fun x18_2 =>
  some (.inl (x16_5, (wr (v1_0 + 1)), x18_2, q15_9, (wr (v4_0 - 1))))))
  (some (.inr (v_0, v1_0)))
noncomputable def impl_AssignedOf_L1 (a_p0 : SceneT) (v_1 : List Int) (v1_1 : Int) (v2_1 : Int) (v3_1 : Bool) (v4_1 : Int) : Option (((List Int) × Int × Int × Bool × Int) ⊕ ((List Int) × Int)) :=
  ifO (decide (1 ≤ v4_1))
  (Option.bind (orO (decide (v2_1 < 0)) (Option.bind (idx a_p0.Surfaces v2_1) fun x14_6 =>
  some ((!decide (x14_6.W = 0)) && v3_1))) fun q14_13 =>
  ifO q14_13
  (some (.inr (v_1, v1_1)))
  (Option.bind (orO v3_1 (Option.bind (idx a_p0.Surfaces v2_1) fun x15_5 =>
  some (!decide (x15_5.W = 0)))) fun q15_9 =>
  Option.bind (upd v_1 (wr (v4_1 - 1)) v2_1) fun x16_5 =>
  Option.bind (impl_TopVisible a_p0 (wr (v1_1 + 1))) fun x18_2 =>
  some (.inl (x16_5, (wr (v1_1 + 1)), x18_2, q15_9, (wr (v4_1 - 1))))))
  (some (.inr (v_1, v1_1)))
noncomputable def impl_AssignedOf (a_p0 : SceneT) (a_p1 : OptionsT) : Option ((List Int) × Int) :=
  Option.bind (impl_SceneOk a_p0) fun x1_1 =>
  Option.bind (orO (!x1_1) (Option.bind (impl_OptionsOk a_p1) fun x1_5 =>
  some (!x1_5))) fun q1_7 =>
  ifO q1_7
  (some (([] : List Int), 0))
  (Option.bind (impl_TopVisible a_p0 0) fun x5_1 =>
  Option.bind (andO (a_p1.Cursor && (decide (0 ≤ x5_1))) (Option.bind (idx a_p0.Surfaces x5_1) fun x6_10 =>
  Option.bind (impl_FitsCursor x6_10) fun x6_12 =>
  some x6_12)) fun q6_13 =>
  ifO q6_13
  (Option.bind (upd [(-1), (-1), (-1)] 2 x5_1) fun x7_3 =>
  Option.bind (impl_TopVisible a_p0 (wr (0 + 1))) fun x9_2 =>
  Option.bind (loopO (fun (v_0, v1_0, v2_0, v3_0, v4_0) => impl_AssignedOf_L0 a_p0 v_0 v1_0 v2_0 v3_0 v4_0) (x7_3, (wr (0 + 1)), x9_2, false, a_p1.Overlays)) fun (v_0e, v1_0e) =>
  some (v_0e, v1_0e))
  (Option.bind (loopO (fun (v_1, v1_1, v2_1, v3_1, v4_1) => impl_AssignedOf_L1 a_p0 v_1 v1_1 v2_1 v3_1 v4_1) ([(-1), (-1), (-1)], 0, x5_1, false, a_p1.Overlays)) fun (v_1e, v1_1e) =>
  some (v_1e, v1_1e)))
noncomputable def slices_Index_S_int_int_L0 (s_p0 : List Int) (v_p1 : Int) (v_0 : Int) : Option (Int ⊕ (Unit ⊕ Int)) :=
  ifO (decide (v_0 < (s_p0.length : Int)))
  (Option.bind (idx s_p0 v_0) fun x4_3 =>
  ifO (decide (v_p1 = x4_3))
  (some (.inr (.inr (v_0))))
  (some (.inl (wr (v_0 + 1)))))
  (some (.inr (.inl ())))
noncomputable def slices_Index_S_int_int (s_p0 : List Int) (v_p1 : Int) : Option Int :=
  Option.bind (loopO (fun v_0 => slices_Index_S_int_int_L0 s_p0 v_p1 v_0) 0) fun y => fork y (fun () => some (-1)) (fun r => some r)
noncomputable def slices_Contains_S_int_int (s_p0 : List Int) (v_p1 : Int) : Option Bool :=
  Option.bind (slices_Index_S_int_int s_p0 v_p1) fun x1_2 =>
  some (decide (0 ≤ x1_2))
def slices_Clone_S_int_int (s_p0 : List Int) : Option (List Int) := need (s_p0.length ≤ 1073741824) (some s_p0)
noncomputable def impl_copyImage (i_p0 : ImageT) : Option ImageT :=
  Option.bind (slices_Clone_S_int_int i_p0.Data) fun x1_6 =>
  some (ImageT.mk i_p0.W i_p0.H x1_6)
noncomputable def impl_copySurface (s_p0 : SurfaceT) : Option SurfaceT :=
  Option.bind (impl_copyImage s_p0.Buffer) fun x1_2 =>
  some (SurfaceT.mk s_p0.Id s_p0.X s_p0.Y s_p0.W s_p0.H s_p0.Alpha s_p0.Orient s_p0.Visible x1_2)
noncomputable def impl_RestOf_L0 (s_p0 : SceneT) (x3_2a : List Int) (out_0 : List SurfaceT) (v_0 : Int) : Option (((List SurfaceT) × Int) ⊕ (List SurfaceT)) :=
  ifO (decide (v_0 < (s_p0.Surfaces.length : Int)))
  (Option.bind (Option.bind (idx s_p0.Surfaces v_0) fun x7_1 =>
  Option.bind (slices_Contains_S_int_int x3_2a v_0) fun x8_2 =>
  ifO (!x8_2)
  (Option.bind (impl_copySurface x7_1) fun x9_3 =>
  Option.bind (app out_0 [x9_3]) fun x9_5 =>
  some x9_5)
  (some out_0)) fun out_1j =>
  some (.inl (out_1j, (wr (v_0 + 1)))))
  (some (.inr out_0))
noncomputable def impl_RestOf (s_p0 : SceneT) (o_p1 : OptionsT) : Option SceneT :=
  Option.bind (impl_SceneOk s_p0) fun x1_1 =>
  Option.bind (orO (!x1_1) (Option.bind (impl_OptionsOk o_p1) fun x1_5 =>
  some (!x1_5))) fun q1_7 =>
  ifO q1_7
  (some (SceneT.mk 0 0 0 []))
  (Option.bind (impl_AssignedOf s_p0 o_p1) fun (x3_2a, x3_2b) =>
  Option.bind (loopO (fun (out_0, v_0) => impl_RestOf_L0 s_p0 x3_2a out_0 v_0) ([], 0)) fun out_0e =>
  some (SceneT.mk s_p0.W s_p0.H s_p0.Back out_0e))
noncomputable def spec_OrientSize (w_p0 : Int) (h_p1 : Int) (o_p2 : Int) : Option (Int × Int) :=
  Option.bind (spec_l01In w_p0 1 16) fun x1_1 =>
  Option.bind (orO (!x1_1) (Option.bind (spec_l01In h_p1 1 16) fun x1_5 =>
  some (!x1_5))) fun q1_7 =>
  Option.bind (orO q1_7 (Option.bind (spec_l01In o_p2 0 7) fun x1_10 =>
  some (!x1_10))) fun q1_12 =>
  ifO q1_12
  (some (0, 0))
  (ifO (decide ((Int.tmod o_p2 2) = 1))
  (some (h_p1, w_p0))
  (some (w_p0, h_p1)))
noncomputable def spec_SurfaceRect (s_p0 : SurfaceT) : Option RectT :=
  Option.bind (spec_SurfaceOk s_p0) fun x1_1 =>
  ifO ((!x1_1) || (!s_p0.Visible))
  (some (RectT.mk 0 0 0 0))
  (Option.bind (spec_OrientSize s_p0.Buffer.W s_p0.Buffer.H s_p0.Orient) fun (x3_8a, x3_8b) =>
  ifO (decide (0 < s_p0.W))
  (some (RectT.mk s_p0.X s_p0.Y s_p0.W s_p0.H))
  (some (RectT.mk s_p0.X s_p0.Y x3_8a x3_8b)))
noncomputable def spec_OrientPoint_L0 (a_p2 : Int) (v_0 : Int) (v1_0 : Int) (v2_0 : Int) (v3_0 : Int) (v4_0 : Int) : Option ((Int × Int × Int × Int × Int) ⊕ (Int × Int)) :=
  ifO (decide (v4_0 < (Int.tmod a_p2 4)))
  (some (.inl (v1_0, v_0, (wr ((wr (v1_0 - 1)) - v3_0)), v2_0, (wr (v4_0 + 1)))))
  (some (.inr (v2_0, v3_0)))
noncomputable def spec_OrientPoint_L1 (a_p2 : Int) (v_1 : Int) (v1_1 : Int) (v2_1 : Int) (v3_1 : Int) (v4_1 : Int) : Option ((Int × Int × Int × Int × Int) ⊕ (Int × Int)) :=
  ifO (decide (v4_1 < (Int.tmod a_p2 4)))
  (some (.inl (v1_1, v_1, (wr ((wr (v1_1 - 1)) - v3_1)), v2_1, (wr (v4_1 + 1)))))
  (some (.inr (v2_1, v3_1)))
noncomputable def spec_OrientPoint (a_p0 : Int) (a_p1 : Int) (a_p2 : Int) (a_p3 : Int) (a_p4 : Int) : Option (Int × Int) :=
  Option.bind (spec_l01In a_p0 1 16) fun x1_1 =>
  Option.bind (orO (!x1_1) (Option.bind (spec_l01In a_p1 1 16) fun x1_5 =>
  some (!x1_5))) fun q1_7 =>
  Option.bind (orO q1_7 (Option.bind (spec_l01In a_p2 0 7) fun x1_10 =>
  some (!x1_10))) fun q1_12 =>
  Option.bind (orO q1_12 (Option.bind (spec_l01In a_p3 0 (wr (a_p0 - 1))) fun x1_17 =>
  some (!x1_17))) fun q1_19 =>
  Option.bind (orO q1_19 (Option.bind (spec_l01In a_p4 0 (wr (a_p1 - 1))) fun x1_24 =>
  some (!x1_24))) fun q1_26 =>
  ifO q1_26
  (some ((-1), (-1)))
  (ifO (decide (4 ≤ a_p2))
  (Option.bind (loopO (fun (v_0, v1_0, v2_0, v3_0, v4_0) => spec_OrientPoint_L0 a_p2 v_0 v1_0 v2_0 v3_0 v4_0) (a_p0, a_p1, (wr ((wr (a_p0 - 1)) - a_p3)), a_p4, 0)) fun (v_0e, v1_0e) =>
  some (v_0e, v1_0e))
  (Option.bind (loopO (fun (v_1, v1_1, v2_1, v3_1, v4_1) => spec_OrientPoint_L1 a_p2 v_1 v1_1 v2_1 v3_1 v4_1) (a_p0, a_p1, a_p3, a_p4, 0)) fun (v_1e, v1_1e) =>
  some (v_1e, v1_1e)))
noncomputable def spec_Oriented_L1 (a_p0 : ImageT) (a_p1 : Int) (x3_5a : Int) (v_0 : Int) (x_1 : List Int) (v_1 : Int) : Option (((List Int) × Int) ⊕ (List Int)) :=
  ifO (decide (v_1 < a_p0.W))
  (Option.bind (spec_OrientPoint a_p0.W a_p0.H a_p1 v_1 v_0) fun (x11_7a, x11_7b) =>
  Option.bind (idx a_p0.Data (wr ((wr (v_0 * a_p0.W)) + v_1))) fun x12_15 =>
  Option.bind (upd x_1 (wr ((wr (x11_7b * x3_5a)) + x11_7a)) x12_15) fun x12_18 =>
  some (.inl (x12_18, (wr (v_1 + 1)))))
  (some (.inr x_1))
noncomputable def spec_Oriented_L0 (a_p0 : ImageT) (a_p1 : Int) (x3_5a : Int) (x_0 : List Int) (v_0 : Int) : Option (((List Int) × Int) ⊕ (List Int)) :=
  ifO (decide (v_0 < a_p0.H))
  (Option.bind (loopO (fun (x_1, v_1) => spec_Oriented_L1 a_p0 a_p1 x3_5a v_0 x_1 v_1) (x_0, 0)) fun x_1e =>
  some (.inl (x_1e, (wr (v_0 + 1)))))
  (some (.inr x_0))
noncomputable def spec_Oriented (a_p0 : ImageT) (a_p1 : Int) : Option ImageT :=
  Option.bind (spec_ImageOk a_p0) fun x1_1 =>
  Option.bind (orO (!x1_1) (Option.bind (spec_l01In a_p1 0 7) fun x1_5 =>
  some (!x1_5))) fun q1_7 =>
  ifO q1_7
  (some (ImageT.mk 0 0 []))
  (Option.bind (spec_OrientSize a_p0.W a_p0.H a_p1) fun (x3_5a, x3_5b) =>
  Option.bind (mkO (wr (x3_5a * x3_5b)) 0) fun x4_5 =>
  Option.bind (loopO (fun (x_0, v_0) => spec_Oriented_L0 a_p0 a_p1 x3_5a x_0 v_0) (x4_5, 0)) fun x_0e =>
  some (ImageT.mk x3_5a x3_5b x_0e))
noncomputable def spec_ScalePoint (from_p0 : Int) (to_p1 : Int) (k_p2 : Int) : Option Int :=
  Option.bind (spec_l01In from_p0 1 16) fun x1_1 =>
  Option.bind (orO (!x1_1) (Option.bind (spec_l01In to_p1 1 16) fun x1_5 =>
  some (!x1_5))) fun q1_7 =>
  Option.bind (orO q1_7 (Option.bind (spec_l01In k_p2 0 (wr (to_p1 - 1))) fun x1_12 =>
  some (!x1_12))) fun q1_14 =>
  ifO q1_14
  (some (-1))
  (Option.bind (quoO (wr (k_p2 * from_p0)) to_p1) fun x3_4 =>
  some x3_4)
noncomputable def spec_Scaled_L1 (i_p0 : ImageT) (w_p1 : Int) (h_p2 : Int) (y_0 : Int) (out_1 : List Int) (x_1 : Int) : Option (((List Int) × Int) ⊕ (List Int)) :=
  ifO (decide (x_1 < w_p1))
  (Option.bind (spec_ScalePoint i_p0.H h_p2 y_0) fun x10_8 =>
  Option.bind (spec_ScalePoint i_p0.W w_p1 x_1) fun x10_16 =>
  Option.bind (idx i_p0.Data (wr ((wr (x10_8 * i_p0.W)) + x10_16))) fun x10_18 =>
  Option.bind (app out_1 [x10_18]) fun x10_21 =>
  some (.inl (x10_21, (wr (x_1 + 1)))))
  (some (.inr out_1))
noncomputable def spec_Scaled_L0 (i_p0 : ImageT) (w_p1 : Int) (h_p2 : Int) (out_0 : List Int) (y_0 : Int) : Option (((List Int) × Int) ⊕ (List Int)) :=
  ifO (decide (y_0 < h_p2))
  (Option.bind (loopO (fun (out_1, x_1) => spec_Scaled_L1 i_p0 w_p1 h_p2 y_0 out_1 x_1) (out_0, 0)) fun out_1e =>
  some (.inl (out_1e, (wr (y_0 + 1)))))
  (some (.inr out_0))
noncomputable def spec_Scaled (i_p0 : ImageT) (w_p1 : Int) (h_p2 : Int) : Option ImageT :=
  Option.bind (spec_ImageOk i_p0) fun x1_1 =>
  Option.bind (orO (!x1_1) (Option.bind (spec_l01In w_p1 1 16) fun x1_5 =>
  some (!x1_5))) fun q1_7 =>
  Option.bind (orO q1_7 (Option.bind (spec_l01In h_p2 1 16) fun x1_10 =>
  some (!x1_10))) fun q1_12 =>
  ifO q1_12
  (some (ImageT.mk 0 0 []))
  (Option.bind (loopO (fun (out_0, y_0) => spec_Scaled_L0 i_p0 w_p1 h_p2 out_0 y_0) ([], 0)) fun out_0e =>
  some (ImageT.mk w_p1 h_p2 out_0e))
noncomputable def spec_Part (a_p0 : Int) (b_p1 : Int) : Option Int :=
  Option.bind (spec_l01In a_p0 0 255) fun x1_1 =>
  Option.bind (orO (!x1_1) (Option.bind (spec_l01In b_p1 0 255) fun x1_5 =>
  some (!x1_5))) fun q1_7 =>
  ifO q1_7
  (some (-1))
  (some (wr (Int.tdiv (wr ((wr (a_p0 * b_p1)) + 127)) 255)))
noncomputable def spec_Fade (p_p0 : Int) (alpha_p1 : Int) : Option Int :=
  Option.bind (spec_l04Pixel p_p0) fun x1_1 =>
  Option.bind (orO (!x1_1) (Option.bind (spec_l01In alpha_p1 0 255) fun x1_5 =>
  some (!x1_5))) fun q1_7 =>
  ifO q1_7
  (some (-1))
  (Option.bind (spec_ChannelOf p_p0 0) fun x3_1 =>
  Option.bind (spec_Part x3_1 alpha_p1) fun x3_3 =>
  some (wr ((shl x3_3 24) + (and64 p_p0 16777215))))
noncomputable def spec_PictureOf_L0 (s_p0 : SurfaceT) (i_0 : List Int) (k_0 : Int) : Option (((List Int) × Int) ⊕ (List Int)) :=
  ifO (decide (k_0 < (i_0.length : Int)))
  (Option.bind (idx i_0 k_0) fun x9_6 =>
  Option.bind (spec_Fade x9_6 s_p0.Alpha) fun x9_10 =>
  Option.bind (upd i_0 k_0 x9_10) fun x9_12 =>
  some (.inl (x9_12, (wr (k_0 + 1)))))
  (some (.inr i_0))
noncomputable def spec_PictureOf_L1 (s_p0 : SurfaceT) (i_1 : List Int) (k_1 : Int) : Option (((List Int) × Int) ⊕ (List Int)) :=
  ifO (decide (k_1 < (i_1.length : Int)))
  (Option.bind (idx i_1 k_1) fun x9_6 =>
  Option.bind (spec_Fade x9_6 s_p0.Alpha) fun x9_10 =>
  Option.bind (upd i_1 k_1 x9_10) fun x9_12 =>
  some (.inl (x9_12, (wr (k_1 + 1)))))
  (some (.inr i_1))
noncomputable def spec_PictureOf (s_p0 : SurfaceT) : Option ImageT :=
  Option.bind (spec_SurfaceOk s_p0) fun x1_1 =>
  ifO (!x1_1)
  (some (ImageT.mk 0 0 []))
  (Option.bind (spec_Oriented s_p0.Buffer s_p0.Orient) fun x3_4 =>
  ifO (decide (0 < s_p0.W))
  (Option.bind (spec_Scaled x3_4 s_p0.W s_p0.H) fun x5_5 =>
  Option.bind (loopO (fun (i_0, k_0) => spec_PictureOf_L0 s_p0 i_0 k_0) (x5_5.Data, 0)) fun i_0e =>
  some (ImageT.mk x5_5.W x5_5.H i_0e))
  (Option.bind (loopO (fun (i_1, k_1) => spec_PictureOf_L1 s_p0 i_1 k_1) (x3_4.Data, 0)) fun i_1e =>
  some (ImageT.mk x3_4.W x3_4.H i_1e)))
noncomputable def spec_Over_L0 (top_p0 : Int) (bottom_p1 : Int) (x3_1 : Int) (out_0 : Int) (k_0 : Int) : Option ((Int × Int) ⊕ Int) :=
  ifO (decide (k_0 ≤ 3))
  (Option.bind (spec_ChannelOf top_p0 k_0) fun x8_4 =>
  Option.bind (spec_Part x8_4 x3_1) fun x8_6 =>
  Option.bind (spec_ChannelOf bottom_p1 k_0) fun x8_10 =>
  Option.bind (spec_Part x8_10 (wr (255 - x3_1))) fun x8_13 =>
  some (.inl ((wr ((wr ((shl out_0 8) + x8_6)) + x8_13)), (wr (k_0 + 1)))))
  (some (.inr out_0))
noncomputable def spec_Over (top_p0 : Int) (bottom_p1 : Int) : Option Int :=
  Option.bind (spec_l04Pixel top_p0) fun x1_1 =>
  Option.bind (orO (!x1_1) (Option.bind (spec_l04Pixel bottom_p1) fun x1_5 =>
  some (!x1_5))) fun q1_7 =>
  ifO q1_7
  (some (-1))
  (Option.bind (spec_ChannelOf top_p0 0) fun x3_1 =>
  Option.bind (loopO (fun (out_0, k_0) => spec_Over_L0 top_p0 bottom_p1 x3_1 out_0 k_0) (255, 1)) fun out_0e =>
  some out_0e)
noncomputable def spec_l11Paint_L2 (a_p0 : SceneT) (x5_5 : RectT) (x6_5 : ImageT) (x7_6 : RectT) (v_1 : Int) (x_2 : List Int) (v_2 : Int) : Option (((List Int) × Int) ⊕ (List Int)) :=
  ifO (decide (v_2 < (wr (x7_6.X + x7_6.W))))
  (Option.bind (idx x6_5.Data (wr ((wr ((wr ((wr (v_1 - x5_5.Y)) * x6_5.W)) + v_2)) - x5_5.X))) fun x14_22 =>
  Option.bind (idx x_2 (wr ((wr (v_1 * a_p0.W)) + v_2))) fun x14_32 =>
  Option.bind (spec_Over x14_22 x14_32) fun x14_34 =>
  Option.bind (upd x_2 (wr ((wr (v_1 * a_p0.W)) + v_2)) x14_34) fun x14_36 =>
  some (.inl (x14_36, (wr (v_2 + 1)))))
  (some (.inr x_2))
noncomputable def spec_l11Paint_L1 (a_p0 : SceneT) (x5_5 : RectT) (x6_5 : ImageT) (x7_6 : RectT) (x_1 : List Int) (v_1 : Int) : Option (((List Int) × Int) ⊕ (List Int)) :=
  ifO (decide (v_1 < (wr (x7_6.Y + x7_6.H))))
  (Option.bind (loopO (fun (x_2, v_2) => spec_l11Paint_L2 a_p0 x5_5 x6_5 x7_6 v_1 x_2 v_2) (x_1, x7_6.X)) fun x_2e =>
  some (.inl (x_2e, (wr (v_1 + 1)))))
  (some (.inr x_1))
noncomputable def spec_l11Paint_L0 (a_p0 : SceneT) (x_0 : List Int) (v_0 : Int) : Option (((List Int) × Int) ⊕ (List Int)) :=
  ifO (decide (v_0 < (a_p0.Surfaces.length : Int)))
  (Option.bind (idx a_p0.Surfaces v_0) fun x5_3 =>
  Option.bind (spec_SurfaceRect x5_3) fun x5_5 =>
  Option.bind (idx a_p0.Surfaces v_0) fun x6_3 =>
  Option.bind (spec_PictureOf x6_3) fun x6_5 =>
  Option.bind (spec_Intersect x5_5 (RectT.mk 0 0 a_p0.W a_p0.H)) fun x7_6 =>
  Option.bind (loopO (fun (x_1, v_1) => spec_l11Paint_L1 a_p0 x5_5 x6_5 x7_6 x_1 v_1) (x_0, x7_6.Y)) fun x_1e =>
  some (.inl (x_1e, (wr (v_0 + 1)))))
  (some (.inr x_0))
noncomputable def spec_l11Paint (a_p0 : SceneT) : Option ImageT :=
  Option.bind (spec_NewImage a_p0.W a_p0.H a_p0.Back) fun x1_6 =>
  Option.bind (loopO (fun (x_0, v_0) => spec_l11Paint_L0 a_p0 x_0 v_0) (x1_6.Data, 0)) fun x_0e =>
  some (ImageT.mk x1_6.W x1_6.H x_0e)
noncomputable def spec_Paint (s_p0 : SceneT) : Option ImageT :=
  Option.bind (spec_SceneOk s_p0) fun x1_1 =>
  ifO (!x1_1)
  (some (ImageT.mk 0 0 []))
  (Option.bind (spec_l11Paint s_p0) fun x3_1 =>
  some x3_1)
noncomputable def impl_runsOf_L1 (i_p0 : ImageT) (k_0 : Int) (end_1 : Int) : Option (Int ⊕ Int) :=
  Option.bind (remO end_1 i_p0.W) fun x5_3 =>
  Option.bind (andO (!decide (x5_3 = 0)) (Option.bind (idx i_p0.Data end_1) fun x5_9 =>
  Option.bind (idx i_p0.Data k_0) fun x5_14 =>
  some (decide (x5_9 = x5_14)))) fun q5_17 =>
  ifO q5_17
  (some (.inl (wr (end_1 + 1))))
  (some (.inr end_1))
noncomputable def impl_runsOf_L0 (i_p0 : ImageT) (out_0 : List Int) (k_0 : Int) : Option (((List Int) × Int) ⊕ (List Int)) :=
  ifO (decide (k_0 < (i_p0.Data.length : Int)))
  (Option.bind (loopO (fun end_1 => impl_runsOf_L1 i_p0 k_0 end_1) (wr (k_0 + 1))) fun end_1e =>
  Option.bind (idx i_p0.Data k_0) fun x7_7 =>
  Option.bind (app out_0 [(wr (end_1e - k_0)), x7_7]) fun x7_10 =>
  some (.inl (x7_10, end_1e)))
  (some (.inr out_0))
noncomputable def impl_runsOf (i_p0 : ImageT) : Option (List Int) :=
  Option.bind (loopO (fun (out_0, k_0) => impl_runsOf_L0 i_p0 out_0 k_0) (([] : List Int), 0)) fun out_0e =>
  some out_0e
noncomputable def impl_tilesOf (n_p0 : Int) : Option Int :=
  some (wr (Int.tdiv (wr ((wr (n_p0 + 4)) - 1)) 4))
noncomputable def impl_WordCount (w_p0 : Int) (h_p1 : Int) (layout_p2 : Int) : Option Int :=
  Option.bind (impl_isSide w_p0) fun x1_1 =>
  Option.bind (orO (!x1_1) (Option.bind (impl_isSide h_p1) fun x1_5 =>
  some (!x1_5))) fun q1_7 =>
  ifO q1_7
  (some (-1))
  (ifO (decide (layout_p2 = 0))
  (some (wr (w_p0 * h_p1)))
  (ifO (decide (layout_p2 = 1))
  (Option.bind (impl_tilesOf w_p0) fun x7_1 =>
  Option.bind (impl_tilesOf h_p1) fun x7_3 =>
  some (wr ((wr ((wr (x7_1 * x7_3)) * 4)) * 4)))
  (some (-1))))
noncomputable def impl_wordPlace (w_p0 : Int) (layout_p1 : Int) (x_p2 : Int) (y_p3 : Int) : Option Int :=
  ifO (decide (layout_p1 = 0))
  (some (wr ((wr (y_p3 * w_p0)) + x_p2)))
  (Option.bind (impl_tilesOf w_p0) fun x3_3 =>
  some (wr ((wr ((wr ((wr ((wr ((wr ((wr (Int.tdiv y_p3 4)) * x3_3)) + (wr (Int.tdiv x_p2 4)))) * 4)) * 4)) + (wr ((Int.tmod y_p3 4) * 4)))) + (Int.tmod x_p2 4))))
noncomputable def impl_StoreImage_L0 (i_p0 : ImageT) (layout_p1 : Int) (out_0 : List Int) (v_0 : Int) : Option (((List Int) × Int) ⊕ (List Int)) :=
  ifO (decide (v_0 < (i_p0.Data.length : Int)))
  (Option.bind (idx i_p0.Data v_0) fun x8_1 =>
  Option.bind (remO v_0 i_p0.W) fun x9_7 =>
  Option.bind (quoO v_0 i_p0.W) fun x9_11 =>
  Option.bind (impl_wordPlace i_p0.W layout_p1 x9_7 x9_11) fun x9_12 =>
  Option.bind (upd out_0 x9_12 x8_1) fun x9_15 =>
  some (.inl (x9_15, (wr (v_0 + 1)))))
  (some (.inr out_0))
noncomputable def impl_StoreImage (i_p0 : ImageT) (layout_p1 : Int) : Option ((List Int) × Bool) :=
  Option.bind (impl_ImageOk i_p0) fun x1_1 =>
  Option.bind (orO (!x1_1) (Option.bind (impl_within layout_p1 0 2) fun x1_5 =>
  some (!x1_5))) fun q1_7 =>
  ifO q1_7
  (some (([] : List Int), false))
  (ifO (decide (layout_p1 = 2))
  (Option.bind (impl_runsOf i_p0) fun x4_1 =>
  some (x4_1, true))
  (Option.bind (impl_WordCount i_p0.W i_p0.H layout_p1) fun x5_5 =>
  Option.bind (mkO x5_5 0) fun x5_6 =>
  Option.bind (loopO (fun (out_0, v_0) => impl_StoreImage_L0 i_p0 layout_p1 out_0 v_0) (x5_6, 0)) fun out_0e =>
  some (out_0e, true)))
noncomputable def impl_PlaneOf (i_p0 : ImageT) (x_p1 : Int) (y_p2 : Int) (layout_p3 : Int) : Option PlaneT :=
  Option.bind (impl_StoreImage i_p0 layout_p3) fun (x1_2a, x1_2b) =>
  ifO (!x1_2b)
  (some (PlaneT.mk false 0 0 0 0 0 [] 0 0 0 0))
  (some (PlaneT.mk true x_p1 y_p2 i_p0.W i_p0.H layout_p3 x1_2a 255 0 0 0))
noncomputable def impl_PlanesOf_L0 (a_p0 : SceneT) (a_p1 : OptionsT) (x5_2a : List Int) (v_0 : List PlaneT) (v1_0 : Int) : Option (((List PlaneT) × Int) ⊕ (List PlaneT)) :=
  ifO (decide (v1_0 < (x5_2a.length : Int)))
  (Option.bind (Option.bind (idx x5_2a v1_0) fun x8_1 =>
  ifO (decide (x8_1 < 0))
  (some v_0)
  (Option.bind (idx a_p0.Surfaces x8_1) fun x10_3 =>
  Option.bind (impl_PlaneOf x10_3.Buffer x10_3.X x10_3.Y a_p1.Layout) fun x11_8 =>
  Option.bind (upd v_0 (wr (v1_0 + 1)) (PlaneT.mk x11_8.On x11_8.X x11_8.Y x11_8.W x11_8.H x11_8.Layout x11_8.Words x10_3.Alpha x10_3.Orient x10_3.W x10_3.H)) fun x13_5 =>
  some x13_5)) fun v_1j =>
  some (.inl (v_1j, (wr (v1_0 + 1)))))
  (some (.inr v_0))
noncomputable def impl_PlanesOf (a_p0 : SceneT) (a_p1 : OptionsT) (a_p2 : ImageT) : Option (List PlaneT) :=
  Option.bind (impl_SceneOk a_p0) fun x1_1 =>
  Option.bind (orO (!x1_1) (Option.bind (impl_OptionsOk a_p1) fun x1_5 =>
  some (!x1_5))) fun q1_7 =>
  Option.bind (orO q1_7 (Option.bind (impl_ImageOk a_p2) fun x1_10 =>
  some (!x1_10))) fun q1_12 =>
  ifO q1_12
  (some ([] : List PlaneT))
  (Option.bind (mkO 4 (PlaneT.mk false 0 0 0 0 0 [] 0 0 0 0)) fun x3_0 =>
  Option.bind (impl_PlaneOf a_p2 0 0 a_p1.Layout) fun x4_4 =>
  Option.bind (upd x3_0 0 x4_4) fun x4_6 =>
  Option.bind (impl_AssignedOf a_p0 a_p1) fun (x5_2a, x5_2b) =>
  Option.bind (loopO (fun (v_0, v1_0) => impl_PlanesOf_L0 a_p0 a_p1 x5_2a v_0 v1_0) (x4_6, 0)) fun v_0e =>
  some v_0e)
noncomputable def laws_btoi (b_p0 : Bool) : Option Int :=
  ifO b_p0
  (some 1)
  (some 0)
noncomputable def slices_Equal_S_int_int_L0 (s1_p0 : List Int) (s2_p1 : List Int) (v_0 : Int) : Option (Int ⊕ (Unit ⊕ Bool)) :=
  ifO (decide (v_0 < (s1_p0.length : Int)))
  (Option.bind (idx s1_p0 v_0) fun x6_2 =>
  Option.bind (idx s2_p1 v_0) fun x6_6 =>
  ifO (!decide (x6_2 = x6_6))
  (some (.inr (.inr (false))))
  (some (.inl (wr (v_0 + 1)))))
  (some (.inr (.inl ())))
noncomputable def slices_Equal_S_int_int (s1_p0 : List Int) (s2_p1 : List Int) : Option Bool :=
  ifO (!decide ((s1_p0.length : Int) = (s2_p1.length : Int)))
  (some false)
  (Option.bind (loopO (fun v_0 => slices_Equal_S_int_int_L0 s1_p0 s2_p1 v_0) 0) fun y => fork y (fun () => some true) (fun r => some r))
noncomputable def impl_samePlane (a_p0 : PlaneT) (a_p1 : PlaneT) : Option Bool :=
  Option.bind (andO ((((((((((a_p0.On == a_p1.On) && (decide (a_p0.X = a_p1.X))) && (decide (a_p0.Y = a_p1.Y))) && (decide (a_p0.W = a_p1.W))) && (decide (a_p0.H = a_p1.H))) && (decide (a_p0.Layout = a_p1.Layout))) && (decide (a_p0.Alpha = a_p1.Alpha))) && (decide (a_p0.Orient = a_p1.Orient))) && (decide (a_p0.ToW = a_p1.ToW))) && (decide (a_p0.ToH = a_p1.ToH))) (Option.bind (slices_Equal_S_int_int a_p0.Words a_p1.Words) fun x1_73 =>
  some x1_73)) fun q1_74 =>
  some q1_74
def slices_Repeat_S_int_int (s_p0 : List Int) (c_p1 : Int) : Option (List Int) := match s_p0 with
  | [p] => mkO c_p1 p
  | _ => .none
noncomputable def impl_mapImage_L1 (w_p0 : Int) (f_p2 : (Int → Int → Option Int)) (v_0 : Int) (out_1 : List Int) (v_1 : Int) : Option (((List Int) × Int) ⊕ (List Int)) :=
  ifO (decide (v_1 < w_p0))
  (Option.bind (f_p2 v_1 v_0) fun x8_5 =>
  Option.bind (app out_1 [x8_5]) fun x8_7 =>
  some (.inl (x8_7, (wr (v_1 + 1)))))
  (some (.inr out_1))
noncomputable def impl_mapImage_L0 (w_p0 : Int) (h_p1 : Int) (f_p2 : (Int → Int → Option Int)) (out_0 : List Int) (v_0 : Int) : Option (((List Int) × Int) ⊕ (List Int)) :=
  ifO (decide (v_0 < h_p1))
  (Option.bind (loopO (fun (out_1, v_1) => impl_mapImage_L1 w_p0 f_p2 v_0 out_1 v_1) (out_0, 0)) fun out_1e =>
  some (.inl (out_1e, (wr (v_0 + 1)))))
  (some (.inr out_0))
noncomputable def impl_mapImage (w_p0 : Int) (h_p1 : Int) (f_p2 : Int → Int → Option Int) : Option ImageT :=
  Option.bind (mkO 0 0) fun x1_5 =>
  need (0 ≤ (wr (w_p0 * h_p1)) ∧ (wr (w_p0 * h_p1)) ≤ 1073741824) <|
  Option.bind (loopO (fun (out_0, v_0) => impl_mapImage_L0 w_p0 h_p1 f_p2 out_0 v_0) (x1_5, 0)) fun out_0e =>
  some (ImageT.mk w_p0 h_p1 out_0e)
noncomputable def impl_LoadImage_1 (x_p0 : Int) (y_p1 : Int) (c_p2 : List Int) (c_p3 : Int) (c_p4 : Int) : Option Int :=
  Option.bind (impl_wordPlace c_p3 c_p4 x_p0 y_p1) fun x1_5 =>
  Option.bind (idx c_p2 x1_5) fun x1_6 =>
  some x1_6
noncomputable def impl_LoadImage_L0 (a_p0 : List Int) (a_p1 : Int) (a_p2 : Int) (x_0 : List Int) (v_0 : Int) : Option (((List Int) × Int) ⊕ ((List Int) ⊕ (ImageT × Bool))) :=
  ifO (decide ((wr (v_0 + 1)) < (a_p0.length : Int)))
  (Option.bind (idx a_p0 v_0) fun x8_2 =>
  Option.bind (impl_within x8_2 1 (wr ((wr (a_p1 * a_p2)) - (x_0.length : Int)))) fun x8_11 =>
  ifO (!x8_11)
  (some (.inr (.inr (((ImageT.mk 0 0 []), false)))))
  (Option.bind (idx a_p0 (wr (v_0 + 1))) fun x10_5 =>
  Option.bind (idx a_p0 v_0) fun x10_10 =>
  Option.bind (slices_Repeat_S_int_int [x10_5] x10_10) fun x10_12 =>
  Option.bind (app x_0 x10_12) fun x10_13 =>
  some (.inl (x10_13, (wr (v_0 + 2))))))
  (some (.inr (.inl x_0)))
noncomputable def impl_LoadImage (a_p0 : List Int) (a_p1 : Int) (a_p2 : Int) (a_p3 : Int) : Option (ImageT × Bool) :=
  Option.bind (impl_isSide a_p1) fun x1_1 =>
  Option.bind (orO (!x1_1) (Option.bind (impl_isSide a_p2) fun x1_5 =>
  some (!x1_5))) fun q1_7 =>
  Option.bind (orO q1_7 (Option.bind (impl_within a_p3 0 2) fun x1_10 =>
  some (!x1_10))) fun q1_12 =>
  ifO q1_12
  (some ((ImageT.mk 0 0 []), false))
  (ifO (decide (a_p3 = 2))
  (Option.bind (loopO (fun (x_0, v_0) => impl_LoadImage_L0 a_p0 a_p1 a_p2 x_0 v_0) ([], 0)) fun y => fork y (fun x_0e => Option.bind (impl_StoreImage (ImageT.mk a_p1 a_p2 x_0e) a_p3) fun (x13_2a, x13_2b) =>
  Option.bind (orO (!x13_2b) (Option.bind (slices_Equal_S_int_int x13_2a a_p0) fun x14_5 =>
  some (!x14_5))) fun q14_7 =>
  ifO q14_7
  (some ((ImageT.mk 0 0 []), false))
  (some ((ImageT.mk a_p1 a_p2 x_0e), true))) (fun r => some r))
  (Option.bind (impl_WordCount a_p1 a_p2 a_p3) fun x11_5 =>
  ifO (decide ((a_p0.length : Int) = x11_5))
  (Option.bind (impl_mapImage a_p1 a_p2 (fun z0 z1 => impl_LoadImage_1 z0 z1 a_p0 a_p1 a_p3)) fun x12_3 =>
  Option.bind (impl_StoreImage x12_3 a_p3) fun (x13_2a, x13_2b) =>
  Option.bind (orO (!x13_2b) (Option.bind (slices_Equal_S_int_int x13_2a a_p0) fun x14_5 =>
  some (!x14_5))) fun q14_7 =>
  ifO q14_7
  (some ((ImageT.mk 0 0 []), false))
  (some (x12_3, true)))
  (Option.bind (impl_StoreImage (ImageT.mk a_p1 a_p2 []) a_p3) fun (x13_2a, x13_2b) =>
  Option.bind (orO (!x13_2b) (Option.bind (slices_Equal_S_int_int x13_2a a_p0) fun x14_5 =>
  some (!x14_5))) fun q14_7 =>
  ifO q14_7
  (some ((ImageT.mk 0 0 []), false))
  (some ((ImageT.mk a_p1 a_p2 []), true)))))
noncomputable def impl_OrientSize (w_p0 : Int) (h_p1 : Int) (o_p2 : Int) : Option (Int × Int) :=
  Option.bind (impl_isSide w_p0) fun x1_1 =>
  Option.bind (orO (!x1_1) (Option.bind (impl_isSide h_p1) fun x1_5 =>
  some (!x1_5))) fun q1_7 =>
  Option.bind (orO q1_7 (Option.bind (impl_isOrient o_p2) fun x1_10 =>
  some (!x1_10))) fun q1_12 =>
  ifO q1_12
  (some (0, 0))
  (ifO (decide ((Int.tmod o_p2 2) = 1))
  (some (h_p1, w_p0))
  (some (w_p0, h_p1)))
noncomputable def impl_OrientPoint_L0 (o_p2 : Int) (w_0 : Int) (h_0 : Int) (x_0 : Int) (y_0 : Int) (v_0 : Int) : Option ((Int × Int × Int × Int × Int) ⊕ (Int × Int)) :=
  ifO (decide (v_0 < (Int.tmod o_p2 4)))
  (some (.inl (h_0, w_0, (wr ((wr (h_0 - 1)) - y_0)), x_0, (wr (v_0 + 1)))))
  (some (.inr (x_0, y_0)))
noncomputable def impl_OrientPoint_L1 (o_p2 : Int) (w_1 : Int) (h_1 : Int) (x_1 : Int) (y_1 : Int) (v_1 : Int) : Option ((Int × Int × Int × Int × Int) ⊕ (Int × Int)) :=
  ifO (decide (v_1 < (Int.tmod o_p2 4)))
  (some (.inl (h_1, w_1, (wr ((wr (h_1 - 1)) - y_1)), x_1, (wr (v_1 + 1)))))
  (some (.inr (x_1, y_1)))
noncomputable def impl_OrientPoint (w_p0 : Int) (h_p1 : Int) (o_p2 : Int) (x_p3 : Int) (y_p4 : Int) : Option (Int × Int) :=
  Option.bind (impl_isSide w_p0) fun x1_1 =>
  Option.bind (orO (!x1_1) (Option.bind (impl_isSide h_p1) fun x1_5 =>
  some (!x1_5))) fun q1_7 =>
  Option.bind (orO q1_7 (Option.bind (impl_isOrient o_p2) fun x1_10 =>
  some (!x1_10))) fun q1_12 =>
  Option.bind (orO q1_12 (Option.bind (impl_within x_p3 0 (wr (w_p0 - 1))) fun x1_17 =>
  some (!x1_17))) fun q1_19 =>
  Option.bind (orO q1_19 (Option.bind (impl_within y_p4 0 (wr (h_p1 - 1))) fun x1_24 =>
  some (!x1_24))) fun q1_26 =>
  ifO q1_26
  (some ((-1), (-1)))
  (ifO (decide (4 ≤ o_p2))
  (Option.bind (loopO (fun (w_0, h_0, x_0, y_0, v_0) => impl_OrientPoint_L0 o_p2 w_0 h_0 x_0 y_0 v_0) (w_p0, h_p1, (wr ((wr (w_p0 - 1)) - x_p3)), y_p4, 0)) fun (x_0e, y_0e) =>
  some (x_0e, y_0e))
  (Option.bind (loopO (fun (w_1, h_1, x_1, y_1, v_1) => impl_OrientPoint_L1 o_p2 w_1 h_1 x_1 y_1 v_1) (w_p0, h_p1, x_p3, y_p4, 0)) fun (x_1e, y_1e) =>
  some (x_1e, y_1e)))
noncomputable def impl_Oriented_L0 (a_p0 : ImageT) (a_p1 : Int) (x3_5a : Int) (x_0 : List Int) (v_0 : Int) : Option (((List Int) × Int) ⊕ (List Int)) :=
  ifO (decide (v_0 < (a_p0.Data.length : Int)))
  (Option.bind (idx a_p0.Data v_0) fun x7_1 =>
  Option.bind (remO v_0 a_p0.W) fun x8_8 =>
  Option.bind (quoO v_0 a_p0.W) fun x8_12 =>
  Option.bind (impl_OrientPoint a_p0.W a_p0.H a_p1 x8_8 x8_12) fun (x8_13a, x8_13b) =>
  Option.bind (upd x_0 (wr ((wr (x8_13b * x3_5a)) + x8_13a)) x7_1) fun x9_9 =>
  some (.inl (x9_9, (wr (v_0 + 1)))))
  (some (.inr x_0))
noncomputable def impl_Oriented (a_p0 : ImageT) (a_p1 : Int) : Option ImageT :=
  Option.bind (impl_ImageOk a_p0) fun x1_1 =>
  Option.bind (orO (!x1_1) (Option.bind (impl_isOrient a_p1) fun x1_5 =>
  some (!x1_5))) fun q1_7 =>
  ifO q1_7
  (some (ImageT.mk 0 0 []))
  (Option.bind (impl_OrientSize a_p0.W a_p0.H a_p1) fun (x3_5a, x3_5b) =>
  Option.bind (mkO (wr (x3_5a * x3_5b)) 0) fun x4_5 =>
  Option.bind (loopO (fun (x_0, v_0) => impl_Oriented_L0 a_p0 a_p1 x3_5a x_0 v_0) (x4_5, 0)) fun x_0e =>
  some (ImageT.mk x3_5a x3_5b x_0e))
noncomputable def impl_ScalePoint (from_p0 : Int) (to_p1 : Int) (k_p2 : Int) : Option Int :=
  Option.bind (impl_isSide from_p0) fun x1_1 =>
  Option.bind (orO (!x1_1) (Option.bind (impl_isSide to_p1) fun x1_5 =>
  some (!x1_5))) fun q1_7 =>
  Option.bind (orO q1_7 (Option.bind (impl_within k_p2 0 (wr (to_p1 - 1))) fun x1_12 =>
  some (!x1_12))) fun q1_14 =>
  ifO q1_14
  (some (-1))
  (Option.bind (quoO (wr (k_p2 * from_p0)) to_p1) fun x3_4 =>
  some x3_4)
noncomputable def impl_Scaled_1 (x_p0 : Int) (y_p1 : Int) (c_p2 : ImageT) (c_p3 : Int) (c_p4 : Int) : Option Int :=
  Option.bind (impl_ScalePoint c_p2.H c_p3 y_p1) fun x1_6 =>
  Option.bind (impl_ScalePoint c_p2.W c_p4 x_p0) fun x1_14 =>
  Option.bind (idx c_p2.Data (wr ((wr (x1_6 * c_p2.W)) + x1_14))) fun x1_16 =>
  some x1_16
noncomputable def impl_Scaled (i_p0 : ImageT) (w_p1 : Int) (h_p2 : Int) : Option ImageT :=
  Option.bind (impl_ImageOk i_p0) fun x1_1 =>
  Option.bind (orO (!x1_1) (Option.bind (impl_isSide w_p1) fun x1_5 =>
  some (!x1_5))) fun q1_7 =>
  Option.bind (orO q1_7 (Option.bind (impl_isSide h_p2) fun x1_10 =>
  some (!x1_10))) fun q1_12 =>
  ifO q1_12
  (some (ImageT.mk 0 0 []))
  (Option.bind (impl_mapImage w_p1 h_p2 (fun z0 z1 => impl_Scaled_1 z0 z1 i_p0 h_p2 w_p1)) fun x3_3 =>
  some x3_3)
noncomputable def impl_Part (a_p0 : Int) (b_p1 : Int) : Option Int :=
  Option.bind (impl_within a_p0 0 255) fun x1_1 =>
  Option.bind (orO (!x1_1) (Option.bind (impl_within b_p1 0 255) fun x1_5 =>
  some (!x1_5))) fun q1_7 =>
  ifO q1_7
  (some (-1))
  (some (wr (Int.tdiv (wr ((wr (a_p0 * b_p1)) + 127)) 255)))
noncomputable def impl_Fade (p_p0 : Int) (alpha_p1 : Int) : Option Int :=
  Option.bind (impl_isPixel p_p0) fun x1_1 =>
  Option.bind (orO (!x1_1) (Option.bind (impl_within alpha_p1 0 255) fun x1_5 =>
  some (!x1_5))) fun q1_7 =>
  ifO q1_7
  (some (-1))
  (Option.bind (impl_channel p_p0 0) fun x3_1 =>
  Option.bind (impl_Part x3_1 alpha_p1) fun x3_3 =>
  some (or64 (shl x3_3 24) (and64 p_p0 16777215)))
noncomputable def impl_faded_L0 (i_p0 : ImageT) (alpha_p1 : Int) (i_0 : List Int) (v_0 : Int) : Option (((List Int) × Int) ⊕ (List Int)) :=
  ifO (decide (v_0 < (i_p0.Data.length : Int)))
  (Option.bind (idx i_0 v_0) fun x3_1 =>
  Option.bind (impl_Fade x3_1 alpha_p1) fun x4_5 =>
  Option.bind (upd i_0 v_0 x4_5) fun x4_7 =>
  some (.inl (x4_7, (wr (v_0 + 1)))))
  (some (.inr i_0))
noncomputable def impl_faded (i_p0 : ImageT) (alpha_p1 : Int) : Option (ImageT × (List Int)) :=
  Option.bind (loopO (fun (i_0, v_0) => impl_faded_L0 i_p0 alpha_p1 i_0 v_0) (i_p0.Data, 0)) fun i_0e =>
  some ((ImageT.mk i_p0.W i_p0.H i_0e), i_0e)
noncomputable def impl_PlaneImage (p_p0 : PlaneT) : Option (ImageT × Bool) :=
  Option.bind (orO (!p_p0.On) (Option.bind (impl_within p_p0.Alpha 0 255) fun x1_6 =>
  some (!x1_6))) fun q1_8 =>
  ifO q1_8
  (some ((ImageT.mk 0 0 []), false))
  (Option.bind (impl_LoadImage p_p0.Words p_p0.W p_p0.H p_p0.Layout) fun (x3_8a, x3_8b) =>
  Option.bind (impl_Oriented x3_8a p_p0.Orient) fun x4_3 =>
  ifO ((!decide (p_p0.ToW = 0)) || (!decide (p_p0.ToH = 0)))
  (Option.bind (impl_Scaled x4_3 p_p0.ToW p_p0.ToH) fun x6_5 =>
  Option.bind (orO (!x3_8b) (Option.bind (impl_ImageOk x6_5) fun x7_4 =>
  some (!x7_4))) fun q7_6 =>
  ifO q7_6
  (some ((ImageT.mk 0 0 []), false))
  (Option.bind (impl_faded x6_5 p_p0.Alpha) fun (x9_3a, x9_3b) =>
  some ((ImageT.mk x9_3a.W x9_3a.H x9_3b), true)))
  (Option.bind (orO (!x3_8b) (Option.bind (impl_ImageOk x4_3) fun x7_4 =>
  some (!x7_4))) fun q7_6 =>
  ifO q7_6
  (some ((ImageT.mk 0 0 []), false))
  (Option.bind (impl_faded x4_3 p_p0.Alpha) fun (x9_3a, x9_3b) =>
  some ((ImageT.mk x9_3a.W x9_3a.H x9_3b), true))))
noncomputable def slices_IndexFunc_S_int_int_L0 (s_p0 : List Int) (f_p1 : (Int → Option Bool)) (v_0 : Int) : Option (Int ⊕ (Unit ⊕ Int)) :=
  ifO (decide (v_0 < (s_p0.length : Int)))
  (Option.bind (idx s_p0 v_0) fun x4_3 =>
  Option.bind (f_p1 x4_3) fun x4_5 =>
  ifO x4_5
  (some (.inr (.inr (v_0))))
  (some (.inl (wr (v_0 + 1)))))
  (some (.inr (.inl ())))
noncomputable def slices_IndexFunc_S_int_int (s_p0 : List Int) (f_p1 : Int → Option Bool) : Option Int :=
  Option.bind (loopO (fun v_0 => slices_IndexFunc_S_int_int_L0 s_p0 f_p1 v_0) 0) fun y => fork y (fun () => some (-1)) (fun r => some r)
noncomputable def slices_ContainsFunc_S_int_int (s_p0 : List Int) (f_p1 : Int → Option Bool) : Option Bool :=
  Option.bind (slices_IndexFunc_S_int_int s_p0 f_p1) fun x1_2 =>
  some (decide (0 ≤ x1_2))
noncomputable def impl_PlaneOk_1 (p_p0 : Int) : Option Bool :=
  Option.bind (impl_isOpaquePixel p_p0) fun x1_1 =>
  some (!x1_1)
noncomputable def impl_PlaneOk (a_p0 : Int) (a_p1 : PlaneT) (a_p2 : Int) (a_p3 : Int) : Option Bool :=
  Option.bind (impl_within a_p0 0 3) fun x1_1 =>
  Option.bind (orO (!x1_1) (Option.bind (impl_isSide a_p2) fun x1_5 =>
  some (!x1_5))) fun q1_7 =>
  Option.bind (orO q1_7 (Option.bind (impl_isSide a_p3) fun x1_10 =>
  some (!x1_10))) fun q1_12 =>
  ifO q1_12
  (some false)
  (ifO (!a_p1.On)
  (Option.bind (andO (!decide (a_p0 = 0)) (Option.bind (impl_samePlane a_p1 (PlaneT.mk false 0 0 0 0 0 [] 0 0 0 0)) fun x4_5 =>
  some x4_5)) fun q4_6 =>
  some q4_6)
  (Option.bind (impl_PlaneImage a_p1) fun (x5_1a, x5_1b) =>
  Option.bind (orO (!x5_1b) (Option.bind (impl_within a_p1.X (-32) 32) fun x6_5 =>
  some (!x6_5))) fun q6_7 =>
  Option.bind (orO q6_7 (Option.bind (impl_within a_p1.Y (-32) 32) fun x6_11 =>
  some (!x6_11))) fun q6_13 =>
  ifO q6_13
  (some false)
  (ifO (decide (a_p0 = 0))
  (Option.bind (andO ((((((((decide (a_p1.Orient = 0)) && (decide (a_p1.ToW = 0))) && (decide (a_p1.ToH = 0))) && (decide (a_p1.Alpha = 255))) && (decide (a_p1.X = 0))) && (decide (a_p1.Y = 0))) && (decide (a_p1.W = a_p2))) && (decide (a_p1.H = a_p3))) (Option.bind (slices_ContainsFunc_S_int_int x5_1a.Data impl_PlaneOk_1) fun x11_26 =>
  some (!x11_26))) fun q11_28 =>
  some q11_28)
  (ifO (decide (a_p0 = 3))
  (some ((((((decide (a_p1.Orient = 0)) && (decide (a_p1.ToW = 0))) && (decide (a_p1.ToH = 0))) && (decide (a_p1.Alpha = 255))) && (decide (a_p1.W ≤ 4))) && (decide (a_p1.H ≤ 4))))
  (some true)))))
noncomputable def impl_PlanesOk_L0 (list_p0 : List PlaneT) (w_p1 : Int) (h_p2 : Int) (v_0 : Int) : Option (Int ⊕ (Unit ⊕ Bool)) :=
  ifO (decide (v_0 < (list_p0.length : Int)))
  (Option.bind (idx list_p0 v_0) fun x5_1 =>
  Option.bind (impl_PlaneOk v_0 x5_1 w_p1 h_p2) fun x6_4 =>
  ifO (!x6_4)
  (some (.inr (.inr (false))))
  (some (.inl (wr (v_0 + 1)))))
  (some (.inr (.inl ())))
noncomputable def impl_PlanesOk (list_p0 : List PlaneT) (w_p1 : Int) (h_p2 : Int) : Option Bool :=
  Option.bind (orO (!decide ((list_p0.length : Int) = 4)) (Option.bind (idx list_p0 1) fun x1_5 =>
  Option.bind (andO (!decide (x1_5.ToW = 0)) (Option.bind (idx list_p0 2) fun x1_11 =>
  some (!decide (x1_11.ToW = 0)))) fun q1_15 =>
  some q1_15)) fun q1_16 =>
  ifO q1_16
  (some false)
  (Option.bind (loopO (fun v_0 => impl_PlanesOk_L0 list_p0 w_p1 h_p2 v_0) 0) fun y => fork y (fun () => some true) (fun r => some r))
noncomputable def impl_Over_L0 (top_p0 : Int) (bottom_p1 : Int) (x3_1 : Int) (out_0 : Int) (k_0 : Int) : Option ((Int × Int) ⊕ Int) :=
  ifO (decide (k_0 < 4))
  (Option.bind (impl_channel top_p0 k_0) fun x8_4 =>
  Option.bind (impl_Part x8_4 x3_1) fun x8_6 =>
  Option.bind (impl_channel bottom_p1 k_0) fun x8_10 =>
  Option.bind (impl_Part x8_10 (wr (255 - x3_1))) fun x8_13 =>
  some (.inl ((wr ((or64 (shl out_0 8) x8_6) + x8_13)), (wr (k_0 + 1)))))
  (some (.inr out_0))
noncomputable def impl_Over (top_p0 : Int) (bottom_p1 : Int) : Option Int :=
  Option.bind (impl_isPixel top_p0) fun x1_1 =>
  Option.bind (orO (!x1_1) (Option.bind (impl_isPixel bottom_p1) fun x1_5 =>
  some (!x1_5))) fun q1_7 =>
  ifO q1_7
  (some (-1))
  (Option.bind (impl_channel top_p0 0) fun x3_1 =>
  Option.bind (loopO (fun (out_0, k_0) => impl_Over_L0 top_p0 bottom_p1 x3_1 out_0 k_0) (255, 1)) fun out_0e =>
  some out_0e)
noncomputable def impl_scanned_L2 (x1_3a : ImageT) (x4_0 : PlaneT) (x5_1a : ImageT) (x_2 : List Int) (v_2 : Int) : Option (((List Int) × Int) ⊕ (List Int)) :=
  ifO (decide (v_2 < (x5_1a.Data.length : Int)))
  (Option.bind (Option.bind (idx x5_1a.Data v_2) fun x9_1 =>
  Option.bind (remO v_2 x5_1a.W) fun x10_5 =>
  Option.bind (quoO v_2 x5_1a.W) fun x10_12 =>
  Option.bind (impl_within (wr (x4_0.X + x10_5)) 0 (wr (x1_3a.W - 1))) fun x11_4 =>
  Option.bind (andO x11_4 (Option.bind (impl_within (wr (x4_0.Y + x10_12)) 0 (wr (x1_3a.H - 1))) fun x11_10 =>
  some x11_10)) fun q11_11 =>
  ifO q11_11
  (Option.bind (idx x_2 (wr ((wr ((wr (x4_0.Y + x10_12)) * x1_3a.W)) + (wr (x4_0.X + x10_5))))) fun x12_17 =>
  Option.bind (impl_Over x9_1 x12_17) fun x12_19 =>
  Option.bind (upd x_2 (wr ((wr ((wr (x4_0.Y + x10_12)) * x1_3a.W)) + (wr (x4_0.X + x10_5)))) x12_19) fun x12_21 =>
  some x12_21)
  (some x_2)) fun x_3j =>
  some (.inl (x_3j, (wr (v_2 + 1)))))
  (some (.inr x_2))
noncomputable def impl_scanned_L0 (x1_3a : ImageT) (x2_1 : List PlaneT) (x_0 : List Int) (v_0 : Int) : Option (((List Int) × Int) ⊕ (List Int)) :=
  ifO (decide (v_0 < (x2_1.length : Int)))
  (Option.bind (Option.bind (idx x2_1 v_0) fun x4_0 =>
  Option.bind (impl_PlaneImage x4_0) fun (x5_1a, x5_1b) =>
  ifO (!x5_1b)
  (some x_0)
  (Option.bind (loopO (fun (x_2, v_2) => impl_scanned_L2 x1_3a x4_0 x5_1a x_2 v_2) (x_0, 0)) fun x_2e =>
  some x_2e)) fun x_1j =>
  some (.inl (x_1j, (wr (v_0 + 1)))))
  (some (.inr x_0))
noncomputable def impl_scanned (a_p0 : List PlaneT) : Option ImageT :=
  Option.bind (idx a_p0 0) fun x1_1 =>
  Option.bind (impl_PlaneImage x1_1) fun (x1_3a, x1_3b) =>
  Option.bind (subO a_p0 1 a_p0.length) fun x2_1 =>
  Option.bind (loopO (fun (x_0, v_0) => impl_scanned_L0 x1_3a x2_1 x_0 v_0) (x1_3a.Data, 0)) fun x_0e =>
  some (ImageT.mk x1_3a.W x1_3a.H x_0e)
noncomputable def impl_ScanOut (list_p0 : List PlaneT) (w_p1 : Int) (h_p2 : Int) : Option ImageT :=
  Option.bind (impl_PlanesOk list_p0 w_p1 h_p2) fun x1_3 =>
  ifO (!x1_3)
  (some (ImageT.mk 0 0 []))
  (Option.bind (impl_scanned list_p0) fun x3_1 =>
  some x3_1)
noncomputable def laws_sameInts_L0 (a_p0 : List Int) (b_p1 : List Int) (i_0 : Int) : Option (Int ⊕ (Unit ⊕ Bool)) :=
  ifO (decide (i_0 < (a_p0.length : Int)))
  (Option.bind (idx a_p0 i_0) fun x6_2 =>
  Option.bind (idx b_p1 i_0) fun x6_6 =>
  ifO (!decide (x6_2 = x6_6))
  (some (.inr (.inr (false))))
  (some (.inl (wr (i_0 + 1)))))
  (some (.inr (.inl ())))
noncomputable def laws_sameInts (a_p0 : List Int) (b_p1 : List Int) : Option Bool :=
  ifO (!decide ((a_p0.length : Int) = (b_p1.length : Int)))
  (some false)
  (Option.bind (loopO (fun i_0 => laws_sameInts_L0 a_p0 b_p1 i_0) 0) fun y => fork y (fun () => some true) (fun r => some r))
noncomputable def laws_sameImage (a_p0 : ImageT) (b_p1 : ImageT) : Option Bool :=
  Option.bind (andO ((decide (a_p0.W = b_p1.W)) && (decide (a_p0.H = b_p1.H))) (Option.bind (laws_sameInts a_p0.Data b_p1.Data) fun x1_17 =>
  some x1_17)) fun q1_18 =>
  some q1_18
noncomputable def laws_FnAssigned_L0 (x6_2a : List Int) (v_0 : Int) (v1_0 : Int) : Option ((Int × Int) ⊕ Int) :=
  ifO (decide (v1_0 < (x6_2a.length : Int)))
  (Option.bind (idx x6_2a v1_0) fun x11_3 =>
  Option.bind (laws_btoi (decide (0 ≤ x11_3))) fun x11_6 =>
  some (.inl ((wr (v_0 + x11_6)), (wr (v1_0 + 1)))))
  (some (.inr v_0))
noncomputable def laws_FnAssigned (a_p0 : List Int) : Option Bool :=
  Option.bind (laws_big a_p0) fun x1_1 =>
  ifO x1_1
  (some true)
  (Option.bind (spec_DrawAssignment a_p0) fun (x3_1a, x3_1b) =>
  Option.bind (impl_RestOf x3_1a x3_1b) fun x4_2 =>
  Option.bind (spec_Paint x4_2) fun x5_3 =>
  Option.bind (impl_PlanesOf x3_1a x3_1b x5_3) fun x5_4 =>
  Option.bind (impl_AssignedOf x3_1a x3_1b) fun (x6_2a, x6_2b) =>
  Option.bind (loopO (fun (v_0, v1_0) => laws_FnAssigned_L0 x6_2a v_0 v1_0) (0, 0)) fun v_0e =>
  Option.bind (impl_PlanesOk x5_4 x3_1a.W x3_1a.H) fun x12_5 =>
  Option.bind (andO x12_5 (Option.bind (impl_ScanOut x5_4 x3_1a.W x3_1a.H) fun x12_12 =>
  Option.bind (spec_Paint x3_1a) fun x12_14 =>
  Option.bind (laws_sameImage x12_12 x12_14) fun x12_15 =>
  some x12_15)) fun q12_16 =>
  Option.bind (andO q12_16 (some (decide (v_0e = x6_2b)))) fun q12_21 =>
  Option.bind (andO q12_21 (some (decide ((x4_2.Surfaces.length : Int) = (wr ((x3_1a.Surfaces.length : Int) - x6_2b)))))) fun q12_32 =>
  some q12_32)
noncomputable def spec_l19Zero (p_p0 : PlaneT) : Option Bool :=
  some ((((((((((decide (p_p0.X = 0)) && (decide (p_p0.Y = 0))) && (decide (p_p0.W = 0))) && (decide (p_p0.H = 0))) && (decide (p_p0.Layout = 0))) && (decide ((p_p0.Words.length : Int) = 0))) && (decide (p_p0.Alpha = 0))) && (decide (p_p0.Orient = 0))) && (decide (p_p0.ToW = 0))) && (decide (p_p0.ToH = 0)))
noncomputable def spec_l15Expand_L1 (words_p0 : List Int) (k_0 : Int) (out_1 : List Int) (n_1 : Int) : Option (((List Int) × Int) ⊕ (List Int)) :=
  ifO (decide (0 < n_1))
  (Option.bind (idx words_p0 (wr (k_0 + 1))) fun x10_4 =>
  Option.bind (app out_1 [x10_4]) fun x10_7 =>
  some (.inl (x10_7, (wr (n_1 - 1)))))
  (some (.inr out_1))
noncomputable def spec_l15Expand_L0 (words_p0 : List Int) (most_p1 : Int) (out_0 : List Int) (k_0 : Int) : Option (((List Int) × Int) ⊕ ((List Int) ⊕ (List Int))) :=
  ifO (decide ((wr (k_0 + 1)) < (words_p0.length : Int)))
  (Option.bind (idx words_p0 k_0) fun x5_2 =>
  Option.bind (spec_l01In x5_2 1 (wr (most_p1 - (out_0.length : Int)))) fun x5_8 =>
  ifO (!x5_8)
  (some (.inr (.inr (([] : List Int)))))
  (Option.bind (idx words_p0 k_0) fun x7_2 =>
  Option.bind (loopO (fun (out_1, n_1) => spec_l15Expand_L1 words_p0 k_0 out_1 n_1) (out_0, x7_2)) fun out_1e =>
  some (.inl (out_1e, (wr (k_0 + 2))))))
  (some (.inr (.inl out_0)))
noncomputable def spec_l15Expand (words_p0 : List Int) (most_p1 : Int) : Option (List Int) :=
  Option.bind (loopO (fun (out_0, k_0) => spec_l15Expand_L0 words_p0 most_p1 out_0 k_0) (([] : List Int), 0)) fun y => fork y (fun out_0e => some out_0e) (fun r => some r)
noncomputable def spec_WordCount (w_p0 : Int) (h_p1 : Int) (layout_p2 : Int) : Option Int :=
  Option.bind (spec_l01In w_p0 1 16) fun x1_1 =>
  Option.bind (orO (!x1_1) (Option.bind (spec_l01In h_p1 1 16) fun x1_5 =>
  some (!x1_5))) fun q1_7 =>
  ifO q1_7
  (some (-1))
  (ifO (decide (layout_p2 = 0))
  (some (wr (w_p0 * h_p1)))
  (ifO (decide (layout_p2 = 1))
  (some (wr ((wr ((wr (Int.tdiv (wr (w_p0 + 3)) 4)) * 4)) * (wr ((wr (Int.tdiv (wr (h_p1 + 3)) 4)) * 4)))))
  (some (-1))))
noncomputable def spec_WordPlace (w_p0 : Int) (h_p1 : Int) (layout_p2 : Int) (x_p3 : Int) (y_p4 : Int) : Option Int :=
  Option.bind (spec_WordCount w_p0 h_p1 layout_p2) fun x1_3 =>
  Option.bind (orO (decide (x1_3 < 0)) (Option.bind (spec_l01In x_p3 0 (wr (w_p0 - 1))) fun x1_9 =>
  some (!x1_9))) fun q1_11 =>
  Option.bind (orO q1_11 (Option.bind (spec_l01In y_p4 0 (wr (h_p1 - 1))) fun x1_16 =>
  some (!x1_16))) fun q1_18 =>
  ifO q1_18
  (some (-1))
  (ifO (decide (layout_p2 = 0))
  (some (wr ((wr (y_p4 * w_p0)) + x_p3)))
  (some (wr ((wr ((wr ((wr ((wr ((wr (Int.tdiv y_p4 4)) * (wr (Int.tdiv (wr (w_p0 + 3)) 4)))) + (wr (Int.tdiv x_p3 4)))) * 16)) + (wr ((Int.tmod y_p4 4) * 4)))) + (Int.tmod x_p3 4)))))
noncomputable def spec_StoreImage_L2 (a_p0 : ImageT) (v1_0 : Int) (v1_1 : Int) (v_2 : Int) : Option (Int ⊕ Int) :=
  Option.bind (andO (decide ((wr (v1_1 + v_2)) < a_p0.W)) (Option.bind (idx a_p0.Data (wr ((wr ((wr (v1_0 * a_p0.W)) + v1_1)) + v_2))) fun x11_17 =>
  Option.bind (idx a_p0.Data (wr ((wr (v1_0 * a_p0.W)) + v1_1))) fun x11_27 =>
  some (decide (x11_17 = x11_27)))) fun q11_30 =>
  ifO q11_30
  (some (.inl (wr (v_2 + 1))))
  (some (.inr v_2))
noncomputable def spec_StoreImage_L1 (a_p0 : ImageT) (v1_0 : Int) (v_1 : List Int) (v1_1 : Int) : Option (((List Int) × Int) ⊕ (List Int)) :=
  ifO (decide (v1_1 < a_p0.W))
  (Option.bind (loopO (fun v_2 => spec_StoreImage_L2 a_p0 v1_0 v1_1 v_2) 1) fun v_2e =>
  Option.bind (idx a_p0.Data (wr ((wr (v1_0 * a_p0.W)) + v1_1))) fun x13_10 =>
  Option.bind (app v_1 [v_2e, x13_10]) fun x13_13 =>
  some (.inl (x13_13, (wr (v1_1 + v_2e)))))
  (some (.inr v_1))
noncomputable def spec_StoreImage_L0 (a_p0 : ImageT) (v_0 : List Int) (v1_0 : Int) : Option (((List Int) × Int) ⊕ (List Int)) :=
  ifO (decide (v1_0 < a_p0.H))
  (Option.bind (loopO (fun (v_1, v1_1) => spec_StoreImage_L1 a_p0 v1_0 v_1 v1_1) (v_0, 0)) fun v_1e =>
  some (.inl (v_1e, (wr (v1_0 + 1)))))
  (some (.inr v_0))
noncomputable def spec_StoreImage_L4 (a_p0 : ImageT) (a_p1 : Int) (v1_3 : Int) (v_4 : List Int) (v1_4 : Int) : Option (((List Int) × Int) ⊕ (List Int)) :=
  ifO (decide (v1_4 < a_p0.W))
  (Option.bind (spec_WordPlace a_p0.W a_p0.H a_p1 v1_4 v1_3) fun x23_8 =>
  Option.bind (idx a_p0.Data (wr ((wr (v1_3 * a_p0.W)) + v1_4))) fun x23_17 =>
  Option.bind (upd v_4 x23_8 x23_17) fun x23_20 =>
  some (.inl (x23_20, (wr (v1_4 + 1)))))
  (some (.inr v_4))
noncomputable def spec_StoreImage_L3 (a_p0 : ImageT) (a_p1 : Int) (v_3 : List Int) (v1_3 : Int) : Option (((List Int) × Int) ⊕ (List Int)) :=
  ifO (decide (v1_3 < a_p0.H))
  (Option.bind (loopO (fun (v_4, v1_4) => spec_StoreImage_L4 a_p0 a_p1 v1_3 v_4 v1_4) (v_3, 0)) fun v_4e =>
  some (.inl (v_4e, (wr (v1_3 + 1)))))
  (some (.inr v_3))
noncomputable def spec_StoreImage (a_p0 : ImageT) (a_p1 : Int) : Option ((List Int) × Bool) :=
  Option.bind (spec_ImageOk a_p0) fun x1_1 =>
  Option.bind (orO (!x1_1) (Option.bind (spec_l01In a_p1 0 2) fun x1_5 =>
  some (!x1_5))) fun q1_7 =>
  ifO q1_7
  (some (([] : List Int), false))
  (ifO (decide (a_p1 = 2))
  (Option.bind (loopO (fun (v_0, v1_0) => spec_StoreImage_L0 a_p0 v_0 v1_0) (([] : List Int), 0)) fun v_0e =>
  some (v_0e, true))
  (Option.bind (spec_WordCount a_p0.W a_p0.H a_p1) fun x16_5 =>
  Option.bind (mkO x16_5 0) fun x16_6 =>
  Option.bind (loopO (fun (v_3, v1_3) => spec_StoreImage_L3 a_p0 a_p1 v_3 v1_3) (x16_6, 0)) fun v_3e =>
  some (v_3e, true)))
noncomputable def spec_l05Ints_L0 (a_p0 : List Int) (b_p1 : List Int) (k_0 : Int) : Option (Int ⊕ (Unit ⊕ Bool)) :=
  ifO (decide (k_0 < (a_p0.length : Int)))
  (Option.bind (idx a_p0 k_0) fun x6_2 =>
  Option.bind (idx b_p1 k_0) fun x6_6 =>
  ifO (!decide (x6_2 = x6_6))
  (some (.inr (.inr (false))))
  (some (.inl (wr (k_0 + 1)))))
  (some (.inr (.inl ())))
noncomputable def spec_l05Ints (a_p0 : List Int) (b_p1 : List Int) : Option Bool :=
  ifO (!decide ((a_p0.length : Int) = (b_p1.length : Int)))
  (some false)
  (Option.bind (loopO (fun k_0 => spec_l05Ints_L0 a_p0 b_p1 k_0) 0) fun y => fork y (fun () => some true) (fun r => some r))
noncomputable def spec_LoadImage_L2 (a_p0 : List Int) (a_p1 : Int) (a_p2 : Int) (a_p3 : Int) (v_1 : Int) (x_2 : List Int) (v_2 : Int) : Option (((List Int) × Int) ⊕ (List Int)) :=
  ifO (decide (v_2 < a_p1))
  (Option.bind (spec_WordPlace a_p1 a_p2 a_p3 v_2 v_1) fun x13_8 =>
  Option.bind (idx a_p0 x13_8) fun x13_9 =>
  Option.bind (app x_2 [x13_9]) fun x13_12 =>
  some (.inl (x13_12, (wr (v_2 + 1)))))
  (some (.inr x_2))
noncomputable def spec_LoadImage_L1 (a_p0 : List Int) (a_p1 : Int) (a_p2 : Int) (a_p3 : Int) (x_1 : List Int) (v_1 : Int) : Option (((List Int) × Int) ⊕ (List Int)) :=
  ifO (decide (v_1 < a_p2))
  (Option.bind (loopO (fun (x_2, v_2) => spec_LoadImage_L2 a_p0 a_p1 a_p2 a_p3 v_1 x_2 v_2) (x_1, 0)) fun x_2e =>
  some (.inl (x_2e, (wr (v_1 + 1)))))
  (some (.inr x_1))
noncomputable def spec_LoadImage (a_p0 : List Int) (a_p1 : Int) (a_p2 : Int) (a_p3 : Int) : Option (ImageT × Bool) :=
  Option.bind (spec_l01In a_p1 1 16) fun x1_1 =>
  Option.bind (orO (!x1_1) (Option.bind (spec_l01In a_p2 1 16) fun x1_5 =>
  some (!x1_5))) fun q1_7 =>
  ifO q1_7
  (some ((ImageT.mk 0 0 []), false))
  (Option.bind (ifO (decide (a_p3 = 2))
  (Option.bind (spec_l15Expand a_p0 (wr (a_p1 * a_p2))) fun x5_4 =>
  some x5_4)
  (Option.bind (spec_WordCount a_p1 a_p2 a_p3) fun x6_3 =>
  ifO (decide (x6_3 = (a_p0.length : Int)))
  (Option.bind (loopO (fun (x_1, v_1) => spec_LoadImage_L1 a_p0 a_p1 a_p2 a_p3 x_1 v_1) ([], 0)) fun x_1e =>
  some x_1e)
  (some []))) fun x_0j =>
  Option.bind (spec_StoreImage (ImageT.mk a_p1 a_p2 x_0j) a_p3) fun (x14_2a, x14_2b) =>
  Option.bind (orO (!x14_2b) (Option.bind (spec_l05Ints x14_2a a_p0) fun x15_5 =>
  some (!x15_5))) fun q15_7 =>
  ifO q15_7
  (some ((ImageT.mk 0 0 []), false))
  (some ((ImageT.mk a_p1 a_p2 x_0j), true)))
noncomputable def spec_l19Loaded (p_p0 : PlaneT) : Option (ImageT × Bool) :=
  ifO (!p_p0.On)
  (some ((ImageT.mk 0 0 []), false))
  (Option.bind (spec_LoadImage p_p0.Words p_p0.W p_p0.H p_p0.Layout) fun (x3_8a, x3_8b) =>
  some (x3_8a, x3_8b))
noncomputable def spec_PlaneImage_L0 (p_p0 : PlaneT) (i_0 : List Int) (k_0 : Int) : Option (((List Int) × Int) ⊕ (List Int)) :=
  ifO (decide (k_0 < (i_0.length : Int)))
  (Option.bind (idx i_0 k_0) fun x12_6 =>
  Option.bind (spec_Fade x12_6 p_p0.Alpha) fun x12_10 =>
  Option.bind (upd i_0 k_0 x12_10) fun x12_12 =>
  some (.inl (x12_12, (wr (k_0 + 1)))))
  (some (.inr i_0))
noncomputable def spec_PlaneImage_L1 (p_p0 : PlaneT) (i_1 : List Int) (k_1 : Int) : Option (((List Int) × Int) ⊕ (List Int)) :=
  ifO (decide (k_1 < (i_1.length : Int)))
  (Option.bind (idx i_1 k_1) fun x12_6 =>
  Option.bind (spec_Fade x12_6 p_p0.Alpha) fun x12_10 =>
  Option.bind (upd i_1 k_1 x12_10) fun x12_12 =>
  some (.inl (x12_12, (wr (k_1 + 1)))))
  (some (.inr i_1))
noncomputable def spec_PlaneImage (p_p0 : PlaneT) : Option (ImageT × Bool) :=
  Option.bind (spec_l19Loaded p_p0) fun (x1_1a, x1_1b) =>
  Option.bind (orO (!x1_1b) (Option.bind (spec_l01In p_p0.Alpha 0 255) fun x2_5 =>
  some (!x2_5))) fun q2_7 =>
  ifO q2_7
  (some ((ImageT.mk 0 0 []), false))
  (Option.bind (spec_Oriented x1_1a p_p0.Orient) fun x4_3 =>
  ifO ((!decide (p_p0.ToW = 0)) || (!decide (p_p0.ToH = 0)))
  (Option.bind (spec_Scaled x4_3 p_p0.ToW p_p0.ToH) fun x6_5 =>
  Option.bind (spec_ImageOk x6_5) fun x7_1 =>
  ifO (!x7_1)
  (some ((ImageT.mk 0 0 []), false))
  (Option.bind (loopO (fun (i_0, k_0) => spec_PlaneImage_L0 p_p0 i_0 k_0) (x6_5.Data, 0)) fun i_0e =>
  some ((ImageT.mk x6_5.W x6_5.H i_0e), true)))
  (Option.bind (spec_ImageOk x4_3) fun x7_1 =>
  ifO (!x7_1)
  (some ((ImageT.mk 0 0 []), false))
  (Option.bind (loopO (fun (i_1, k_1) => spec_PlaneImage_L1 p_p0 i_1 k_1) (x4_3.Data, 0)) fun i_1e =>
  some ((ImageT.mk x4_3.W x4_3.H i_1e), true))))
noncomputable def spec_PlaneOk_L0 (x5_1a : ImageT) (v_0 : Int) : Option (Int ⊕ (Unit ⊕ Bool)) :=
  ifO (decide (v_0 < (x5_1a.Data.length : Int)))
  (Option.bind (idx x5_1a.Data v_0) fun x16_3 =>
  Option.bind (spec_l10Opaque x16_3) fun x16_5 =>
  ifO (!x16_5)
  (some (.inr (.inr (false))))
  (some (.inl (wr (v_0 + 1)))))
  (some (.inr (.inl ())))
noncomputable def spec_PlaneOk (a_p0 : Int) (a_p1 : PlaneT) (a_p2 : Int) (a_p3 : Int) : Option Bool :=
  Option.bind (spec_l01In a_p0 0 3) fun x1_1 =>
  Option.bind (orO (!x1_1) (Option.bind (spec_l01In a_p2 1 16) fun x1_5 =>
  some (!x1_5))) fun q1_7 =>
  Option.bind (orO q1_7 (Option.bind (spec_l01In a_p3 1 16) fun x1_10 =>
  some (!x1_10))) fun q1_12 =>
  ifO q1_12
  (some false)
  (ifO (!a_p1.On)
  (Option.bind (andO (!decide (a_p0 = 0)) (Option.bind (spec_l19Zero a_p1) fun x4_4 =>
  some x4_4)) fun q4_5 =>
  some q4_5)
  (Option.bind (spec_PlaneImage a_p1) fun (x5_1a, x5_1b) =>
  Option.bind (orO (!x5_1b) (Option.bind (spec_l01In a_p1.X (-32) 32) fun x6_5 =>
  some (!x6_5))) fun q6_7 =>
  Option.bind (orO q6_7 (Option.bind (spec_l01In a_p1.Y (-32) 32) fun x6_11 =>
  some (!x6_11))) fun q6_13 =>
  ifO q6_13
  (some false)
  (ifO (decide (a_p0 = 3))
  (some ((((((decide (a_p1.Orient = 0)) && (decide (a_p1.ToW = 0))) && (decide (a_p1.ToH = 0))) && (decide (a_p1.Alpha = 255))) && (decide (a_p1.W ≤ 4))) && (decide (a_p1.H ≤ 4))))
  (ifO (!decide (a_p0 = 0))
  (some true)
  (Option.bind (loopO (fun v_0 => spec_PlaneOk_L0 x5_1a v_0) 0) fun y => fork y (fun () => some ((((((((decide (a_p1.Orient = 0)) && (decide (a_p1.ToW = 0))) && (decide (a_p1.ToH = 0))) && (decide (a_p1.Alpha = 255))) && (decide (a_p1.X = 0))) && (decide (a_p1.Y = 0))) && (decide (a_p1.W = a_p2))) && (decide (a_p1.H = a_p3)))) (fun r => some r))))))
noncomputable def spec_PlanesOk_L0 (list_p0 : List PlaneT) (w_p1 : Int) (h_p2 : Int) (k_0 : Int) : Option (Int ⊕ (Unit ⊕ Bool)) :=
  ifO (decide (k_0 < (list_p0.length : Int)))
  (Option.bind (idx list_p0 k_0) fun x6_3 =>
  Option.bind (spec_PlaneOk k_0 x6_3 w_p1 h_p2) fun x6_7 =>
  ifO (!x6_7)
  (some (.inr (.inr (false))))
  (some (.inl (wr (k_0 + 1)))))
  (some (.inr (.inl ())))
noncomputable def spec_PlanesOk (list_p0 : List PlaneT) (w_p1 : Int) (h_p2 : Int) : Option Bool :=
  ifO (!decide ((list_p0.length : Int) = 4))
  (some false)
  (Option.bind (loopO (fun k_0 => spec_PlanesOk_L0 list_p0 w_p1 h_p2 k_0) 0) fun y => fork y (fun () => Option.bind (idx list_p0 1) fun x8_1 =>
  Option.bind (orO (decide (x8_1.ToW = 0)) (Option.bind (idx list_p0 2) fun x8_7 =>
  some (decide (x8_7.ToW = 0)))) fun q8_11 =>
  some q8_11) (fun r => some r))
noncomputable def spec_l05At (i_p0 : ImageT) (x_p1 : Int) (y_p2 : Int) : Option Int :=
  ifO ((((decide (x_p1 < 0)) || (decide (i_p0.W ≤ x_p1))) || (decide (y_p2 < 0))) || (decide (i_p0.H ≤ y_p2)))
  (some (-1))
  (Option.bind (idx i_p0.Data (wr ((wr (y_p2 * i_p0.W)) + x_p1))) fun x3_8 =>
  some x3_8)
noncomputable def spec_l20Out_L3 (a_p0 : List PlaneT) (a_p1 : Int) (v_0 : Int) (x5_4a : ImageT) (v_2 : Int) (x_3 : List Int) (v_3 : Int) : Option (((List Int) × Int) ⊕ (List Int)) :=
  ifO (decide (v_3 < a_p1))
  (Option.bind (Option.bind (idx a_p0 v_0) fun x13_4 =>
  Option.bind (idx a_p0 v_0) fun x13_11 =>
  Option.bind (spec_l05At x5_4a (wr (v_3 - x13_4.X)) (wr (v_2 - x13_11.Y))) fun x13_15 =>
  ifO (decide (0 ≤ x13_15))
  (Option.bind (idx x_3 (wr ((wr (v_2 * a_p1)) + v_3))) fun x15_15 =>
  Option.bind (spec_Over x13_15 x15_15) fun x15_17 =>
  Option.bind (upd x_3 (wr ((wr (v_2 * a_p1)) + v_3)) x15_17) fun x15_19 =>
  some x15_19)
  (some x_3)) fun x_4j =>
  some (.inl (x_4j, (wr (v_3 + 1)))))
  (some (.inr x_3))
noncomputable def spec_l20Out_L2 (a_p0 : List PlaneT) (a_p1 : Int) (a_p2 : Int) (v_0 : Int) (x5_4a : ImageT) (x_2 : List Int) (v_2 : Int) : Option (((List Int) × Int) ⊕ (List Int)) :=
  ifO (decide (v_2 < a_p2))
  (Option.bind (loopO (fun (x_3, v_3) => spec_l20Out_L3 a_p0 a_p1 v_0 x5_4a v_2 x_3 v_3) (x_2, 0)) fun x_3e =>
  some (.inl (x_3e, (wr (v_2 + 1)))))
  (some (.inr x_2))
noncomputable def spec_l20Out_L0 (a_p0 : List PlaneT) (a_p1 : Int) (a_p2 : Int) (x_0 : List Int) (v_0 : Int) : Option (((List Int) × Int) ⊕ (List Int)) :=
  ifO (decide (v_0 < (a_p0.length : Int)))
  (Option.bind (Option.bind (idx a_p0 v_0) fun x5_2 =>
  Option.bind (spec_PlaneImage x5_2) fun (x5_4a, x5_4b) =>
  ifO (!x5_4b)
  (some x_0)
  (Option.bind (loopO (fun (x_2, v_2) => spec_l20Out_L2 a_p0 a_p1 a_p2 v_0 x5_4a x_2 v_2) (x_0, 0)) fun x_2e =>
  some x_2e)) fun x_1j =>
  some (.inl (x_1j, (wr (v_0 + 1)))))
  (some (.inr x_0))
noncomputable def spec_l20Out (a_p0 : List PlaneT) (a_p1 : Int) (a_p2 : Int) : Option ImageT :=
  Option.bind (idx a_p0 0) fun x1_1 =>
  Option.bind (spec_PlaneImage x1_1) fun (x1_3a, x1_3b) =>
  Option.bind (loopO (fun (x_0, v_0) => spec_l20Out_L0 a_p0 a_p1 a_p2 x_0 v_0) (x1_3a.Data, 1)) fun x_0e =>
  some (ImageT.mk x1_3a.W x1_3a.H x_0e)
noncomputable def spec_ScanOut (list_p0 : List PlaneT) (w_p1 : Int) (h_p2 : Int) : Option ImageT :=
  Option.bind (spec_PlanesOk list_p0 w_p1 h_p2) fun x1_3 =>
  ifO (!x1_3)
  (some (ImageT.mk 0 0 []))
  (Option.bind (spec_l20Out list_p0 w_p1 h_p2) fun x3_3 =>
  some x3_3)
noncomputable def spec_OptionsOk (o_p0 : OptionsT) : Option Bool :=
  Option.bind (spec_l01In o_p0.Overlays 0 2) fun x1_2 =>
  Option.bind (andO x1_2 (Option.bind (spec_l01In o_p0.Layout 0 2) fun x1_6 =>
  some x1_6)) fun q1_7 =>
  some q1_7
noncomputable def spec_TopVisible_L0 (s_p0 : SceneT) (n_0 : Int) (k_0 : Int) : Option ((Int × Int) ⊕ (Unit ⊕ Int)) :=
  ifO (decide (0 ≤ k_0))
  (Option.bind (idx s_p0.Surfaces k_0) fun x6_3 =>
  ifO x6_3.Visible
  (ifO (decide (n_0 = 0))
  (some (.inr (.inr (k_0))))
  (some (.inl ((wr (n_0 - 1)), (wr (k_0 - 1))))))
  (some (.inl (n_0, (wr (k_0 - 1))))))
  (some (.inr (.inl ())))
noncomputable def spec_TopVisible (s_p0 : SceneT) (n_p1 : Int) : Option Int :=
  Option.bind (spec_SceneOk s_p0) fun x1_1 =>
  ifO ((!x1_1) || (decide (n_p1 < 0)))
  (some (-1))
  (Option.bind (loopO (fun (n_0, k_0) => spec_TopVisible_L0 s_p0 n_0 k_0) (n_p1, (wr ((s_p0.Surfaces.length : Int) - 1)))) fun y => fork y (fun () => some (-1)) (fun r => some r))
noncomputable def spec_FitsCursor (s_p0 : SurfaceT) : Option Bool :=
  Option.bind (spec_SurfaceOk s_p0) fun x1_1 =>
  some ((((((x1_1 && (decide (s_p0.Alpha = 255))) && (decide (s_p0.Orient = 0))) && (decide (s_p0.W = 0))) && (decide (s_p0.H = 0))) && (decide (s_p0.Buffer.W ≤ 4))) && (decide (s_p0.Buffer.H ≤ 4)))
noncomputable def spec_AssignedOf_L0 (a_p0 : SceneT) (v_0 : List Int) (v1_0 : Int) (v2_0 : Int) (v3_0 : Bool) (v4_0 : Int) : Option (((List Int) × Int × Int × Bool × Int) ⊕ ((List Int) × Int)) :=
  ifO (decide (0 ≤ v4_0))
  (Option.bind (orO (decide (v2_0 < 0)) (Option.bind (idx a_p0.Surfaces v2_0) fun x14_6 =>
  some ((decide (0 < x14_6.W)) && v3_0))) fun q14_13 =>
  ifO q14_13
  (some (.inr (v_0, v1_0)))
  (Option.bind (orO v3_0 (Option.bind (idx a_p0.Surfaces v2_0) fun x15_5 =>
  some (decide (0 < x15_5.W)))) fun q15_9 =>
  Option.bind (upd v_0 v4_0 v2_0) fun x16_4 =>
  Option.bind (spec_TopVisible a_p0 (wr (v1_0 + 1))) fun x18_2 =>
  some (.inl (x16_4, (wr (v1_0 + 1)), x18_2, q15_9, (wr (v4_0 - 1))))))
  (some (.inr (v_0, v1_0)))
noncomputable def spec_AssignedOf_L1 (a_p0 : SceneT) (v_1 : List Int) (v1_1 : Int) (v2_1 : Int) (v3_1 : Bool) (v4_1 : Int) : Option (((List Int) × Int × Int × Bool × Int) ⊕ ((List Int) × Int)) :=
  ifO (decide (0 ≤ v4_1))
  (Option.bind (orO (decide (v2_1 < 0)) (Option.bind (idx a_p0.Surfaces v2_1) fun x14_6 =>
  some ((decide (0 < x14_6.W)) && v3_1))) fun q14_13 =>
  ifO q14_13
  (some (.inr (v_1, v1_1)))
  (Option.bind (orO v3_1 (Option.bind (idx a_p0.Surfaces v2_1) fun x15_5 =>
  some (decide (0 < x15_5.W)))) fun q15_9 =>
  Option.bind (upd v_1 v4_1 v2_1) fun x16_4 =>
  Option.bind (spec_TopVisible a_p0 (wr (v1_1 + 1))) fun x18_2 =>
  some (.inl (x16_4, (wr (v1_1 + 1)), x18_2, q15_9, (wr (v4_1 - 1))))))
  (some (.inr (v_1, v1_1)))
noncomputable def spec_AssignedOf (a_p0 : SceneT) (a_p1 : OptionsT) : Option ((List Int) × Int) :=
  Option.bind (spec_SceneOk a_p0) fun x1_1 =>
  Option.bind (orO (!x1_1) (Option.bind (spec_OptionsOk a_p1) fun x1_5 =>
  some (!x1_5))) fun q1_7 =>
  ifO q1_7
  (some (([] : List Int), 0))
  (Option.bind (spec_TopVisible a_p0 0) fun x5_1 =>
  Option.bind (andO (a_p1.Cursor && (decide (0 ≤ x5_1))) (Option.bind (idx a_p0.Surfaces x5_1) fun x6_10 =>
  Option.bind (spec_FitsCursor x6_10) fun x6_12 =>
  some x6_12)) fun q6_13 =>
  ifO q6_13
  (Option.bind (upd [(-1), (-1), (-1)] 2 x5_1) fun x7_3 =>
  Option.bind (spec_TopVisible a_p0 (wr (0 + 1))) fun x9_2 =>
  Option.bind (loopO (fun (v_0, v1_0, v2_0, v3_0, v4_0) => spec_AssignedOf_L0 a_p0 v_0 v1_0 v2_0 v3_0 v4_0) (x7_3, (wr (0 + 1)), x9_2, false, (wr (a_p1.Overlays - 1)))) fun (v_0e, v1_0e) =>
  some (v_0e, v1_0e))
  (Option.bind (loopO (fun (v_1, v1_1, v2_1, v3_1, v4_1) => spec_AssignedOf_L1 a_p0 v_1 v1_1 v2_1 v3_1 v4_1) ([(-1), (-1), (-1)], 0, x5_1, false, (wr (a_p1.Overlays - 1)))) fun (v_1e, v1_1e) =>
  some (v_1e, v1_1e)))
noncomputable def spec_PlaneOf (i_p0 : ImageT) (x_p1 : Int) (y_p2 : Int) (layout_p3 : Int) : Option PlaneT :=
  Option.bind (spec_StoreImage i_p0 layout_p3) fun (x1_2a, x1_2b) =>
  ifO (!x1_2b)
  (some (PlaneT.mk false 0 0 0 0 0 [] 0 0 0 0))
  (some (PlaneT.mk true x_p1 y_p2 i_p0.W i_p0.H layout_p3 x1_2a 255 0 0 0))
end Go.Proofs.Ytbdpbboonilhhaa
