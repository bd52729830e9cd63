/- The pure functions that the walks bring out of the program. -/
import Derived.Test.YtmhalmnbgkpmnaaStructs
namespace Go.Proofs.Ytmhalmnbgkpmnaa
open Go.RowKit K
set_option maxRecDepth 100000
set_option maxHeartbeats 4000000

noncomputable def laws_szIntS (a_p0 : List Int) (left_p1 : Int) : Option Int :=
  ifO (decide ((wr (left_p1 - (a_p0.length : Int))) < 0))
  (some (-1))
  (some (wr (left_p1 - (a_p0.length : Int))))
noncomputable def laws_szPlane (a_p0 : PlaneT) (left_p1 : Int) : Option Int :=
  Option.bind (laws_szIntS a_p0.Words left_p1) fun x1_3 =>
  ifO (decide (x1_3 < 0))
  (some (-1))
  (some x1_3)
noncomputable def laws_szPlaneS_L0 (a_p0 : List PlaneT) (left_0 : Int) (i_0 : Int) : Option ((Int × Int) ⊕ (Int ⊕ Int)) :=
  ifO (decide (i_0 < (a_p0.length : Int)))
  (Option.bind (idx a_p0 i_0) fun x7_2 =>
  Option.bind (laws_szPlane x7_2 left_0) fun x7_5 =>
  ifO (decide (x7_5 < 0))
  (some (.inr (.inr ((-1)))))
  (some (.inl (x7_5, (wr (i_0 + 1))))))
  (some (.inr (.inl left_0)))
noncomputable def laws_szPlaneS (a_p0 : List PlaneT) (left_p1 : Int) : Option Int :=
  ifO (decide ((wr (left_p1 - (a_p0.length : Int))) < 0))
  (some (-1))
  (Option.bind (loopO (fun (left_0, i_0) => laws_szPlaneS_L0 a_p0 left_0 i_0) ((wr (left_p1 - (a_p0.length : Int))), 0)) fun y => fork y (fun left_0e => some left_0e) (fun r => some r))
noncomputable def laws_szColorMap (a_p0 : ColorMapT) (left_p1 : Int) : Option Int :=
  Option.bind (laws_szIntS a_p0.Matrix left_p1) fun x1_3 =>
  ifO (decide (x1_3 < 0))
  (some (-1))
  (Option.bind (laws_szIntS a_p0.Curve x1_3) fun x4_3 =>
  ifO (decide (x4_3 < 0))
  (some (-1))
  (some x4_3))
noncomputable def laws_szCrtc (a_p0 : CrtcT) (left_p1 : Int) : Option Int :=
  Option.bind (laws_szPlaneS a_p0.Planes left_p1) fun x1_3 =>
  ifO (decide (x1_3 < 0))
  (some (-1))
  (Option.bind (laws_szColorMap a_p0.Color x1_3) fun x4_3 =>
  ifO (decide (x4_3 < 0))
  (some (-1))
  (some x4_3))
noncomputable def laws_toIntS_L0 (a_p0 : List Int) (out_0 : List Int) (i_0 : Int) : Option (((List Int) × Int) ⊕ (List Int)) :=
  ifO (decide (i_0 < (a_p0.length : Int)))
  (Option.bind (idx a_p0 i_0) fun x5_4 =>
  Option.bind (upd out_0 i_0 x5_4) fun x5_7 =>
  some (.inl (x5_7, (wr (i_0 + 1)))))
  (some (.inr out_0))
noncomputable def laws_toIntS (a_p0 : List Int) : Option (List Int) :=
  Option.bind (mkO (a_p0.length : Int) 0) fun x1_2 =>
  Option.bind (loopO (fun (out_0, i_0) => laws_toIntS_L0 a_p0 out_0 i_0) (x1_2, 0)) fun out_0e =>
  some out_0e
noncomputable def laws_toPlane (a_p0 : PlaneT) : Option PlaneT :=
  Option.bind (laws_toIntS a_p0.Words) fun x8_2 =>
  some (PlaneT.mk a_p0.On a_p0.X a_p0.Y a_p0.W a_p0.H a_p0.Layout x8_2 a_p0.Alpha a_p0.Orient a_p0.ToW a_p0.ToH)
noncomputable def laws_toPlaneS_L0 (a_p0 : List PlaneT) (out_0 : List PlaneT) (i_0 : Int) : Option (((List PlaneT) × Int) ⊕ (List PlaneT)) :=
  ifO (decide (i_0 < (a_p0.length : Int)))
  (Option.bind (idx a_p0 i_0) fun x5_4 =>
  Option.bind (laws_toPlane x5_4) fun x5_6 =>
  Option.bind (upd out_0 i_0 x5_6) fun x5_8 =>
  some (.inl (x5_8, (wr (i_0 + 1)))))
  (some (.inr out_0))
noncomputable def laws_toPlaneS (a_p0 : List PlaneT) : Option (List PlaneT) :=
  Option.bind (mkO (a_p0.length : Int) (PlaneT.mk false 0 0 0 0 0 [] 0 0 0 0)) fun x1_2 =>
  Option.bind (loopO (fun (out_0, i_0) => laws_toPlaneS_L0 a_p0 out_0 i_0) (x1_2, 0)) fun out_0e =>
  some out_0e
noncomputable def laws_toColorMap (a_p0 : ColorMapT) : Option ColorMapT :=
  Option.bind (laws_toIntS a_p0.Matrix) fun x2_2 =>
  Option.bind (laws_toIntS a_p0.Curve) fun x3_2 =>
  some (ColorMapT.mk x2_2 x3_2)
noncomputable def laws_toCrtc (a_p0 : CrtcT) : Option CrtcT :=
  Option.bind (laws_toPlaneS a_p0.Planes) fun x4_2 =>
  Option.bind (laws_toColorMap a_p0.Color) fun x5_2 =>
  some (CrtcT.mk a_p0.W a_p0.H x4_2 x5_2)
noncomputable def spec_l05Ints_L0 (a_p0 : List Int) (b_p1 : List Int) (k_0 : Int) : Option (Int ⊕ (Unit ⊕ Bool)) :=
  ifO (decide (k_0 < (a_p0.length : Int)))
  (Option.bind (idx a_p0 k_0) fun x6_2 =>
  Option.bind (idx b_p1 k_0) fun x6_6 =>
  ifO (!decide (x6_2 = x6_6))
  (some (.inr (.inr (false))))
  (some (.inl (wr (k_0 + 1)))))
  (some (.inr (.inl ())))
noncomputable def spec_l05Ints (a_p0 : List Int) (b_p1 : List Int) : Option Bool :=
  ifO (!decide ((a_p0.length : Int) = (b_p1.length : Int)))
  (some false)
  (Option.bind (loopO (fun k_0 => spec_l05Ints_L0 a_p0 b_p1 k_0) 0) fun y => fork y (fun () => some true) (fun r => some r))
noncomputable def spec_l22SamePlane (a_p0 : PlaneT) (a_p1 : PlaneT) : Option Bool :=
  Option.bind (andO ((((((((((a_p0.On == a_p1.On) && (decide (a_p0.X = a_p1.X))) && (decide (a_p0.Y = a_p1.Y))) && (decide (a_p0.W = a_p1.W))) && (decide (a_p0.H = a_p1.H))) && (decide (a_p0.Layout = a_p1.Layout))) && (decide (a_p0.Alpha = a_p1.Alpha))) && (decide (a_p0.Orient = a_p1.Orient))) && (decide (a_p0.ToW = a_p1.ToW))) && (decide (a_p0.ToH = a_p1.ToH))) (Option.bind (spec_l05Ints a_p0.Words a_p1.Words) fun x1_73 =>
  some x1_73)) fun q1_74 =>
  some q1_74
noncomputable def spec_l19Copy (p_p0 : PlaneT) : Option PlaneT :=
  Option.bind (app ([] : List Int) p_p0.Words) fun x1_3 =>
  some (PlaneT.mk p_p0.On p_p0.X p_p0.Y p_p0.W p_p0.H p_p0.Layout x1_3 p_p0.Alpha p_p0.Orient p_p0.ToW p_p0.ToH)
noncomputable def spec_l22SameColor (a_p0 : ColorMapT) (b_p1 : ColorMapT) : Option Bool :=
  Option.bind (spec_l05Ints a_p0.Matrix b_p1.Matrix) fun x1_4 =>
  Option.bind (andO x1_4 (Option.bind (spec_l05Ints a_p0.Curve b_p1.Curve) fun x1_10 =>
  some x1_10)) fun q1_11 =>
  some q1_11
noncomputable def spec_l22CopyColor (m_p0 : ColorMapT) : Option ColorMapT :=
  Option.bind (app ([] : List Int) m_p0.Matrix) fun x1_3 =>
  Option.bind (app ([] : List Int) m_p0.Curve) fun x1_7 =>
  some (ColorMapT.mk x1_3 x1_7)
noncomputable def spec_ChangesFor_L0 (c_p0 : CrtcT) (planes_p1 : List PlaneT) (out_0 : List ChangeT) (k_0 : Int) : Option (((List ChangeT) × Int) ⊕ (List ChangeT)) :=
  ifO ((decide (k_0 < (c_p0.Planes.length : Int))) && (decide (k_0 < (planes_p1.length : Int))))
  (Option.bind (Option.bind (idx c_p0.Planes k_0) fun x5_3 =>
  Option.bind (idx planes_p1 k_0) fun x5_7 =>
  Option.bind (spec_l22SamePlane x5_3 x5_7) fun x5_9 =>
  ifO (!x5_9)
  (Option.bind (idx planes_p1 k_0) fun x6_4 =>
  Option.bind (spec_l19Copy x6_4) fun x6_6 =>
  Option.bind (app out_0 [(ChangeT.mk k_0 x6_6 (ColorMapT.mk [] []))]) fun x6_9 =>
  some x6_9)
  (some out_0)) fun out_1j =>
  some (.inl (out_1j, (wr (k_0 + 1)))))
  (some (.inr out_0))
noncomputable def spec_ChangesFor (c_p0 : CrtcT) (planes_p1 : List PlaneT) (m_p2 : ColorMapT) : Option (List ChangeT) :=
  Option.bind (loopO (fun (out_0, k_0) => spec_ChangesFor_L0 c_p0 planes_p1 out_0 k_0) (([] : List ChangeT), 0)) fun out_0e =>
  Option.bind (spec_l22SameColor c_p0.Color m_p2) fun x7_3 =>
  ifO (!x7_3)
  (Option.bind (spec_l22CopyColor m_p2) fun x8_2 =>
  Option.bind (app out_0e [(ChangeT.mk (-1) (PlaneT.mk false 0 0 0 0 0 [] 0 0 0 0) x8_2)]) fun x8_5 =>
  some x8_5)
  (some out_0e)
def slices_Clone_S_int_int (s_p0 : List Int) : Option (List Int) := need (s_p0.length ≤ 1073741824) (some s_p0)
def impl_copyPlanes (list_p0 : List PlaneT) : Option (List PlaneT) := need (list_p0.length ≤ 1073741824 ∧ ∀ p ∈ list_p0, p.Words.length ≤ 1073741824) (some list_p0)
noncomputable def slices_Equal_S_int_int_L0 (s1_p0 : List Int) (s2_p1 : List Int) (v_0 : Int) : Option (Int ⊕ (Unit ⊕ Bool)) :=
  ifO (decide (v_0 < (s1_p0.length : Int)))
  (Option.bind (idx s1_p0 v_0) fun x6_2 =>
  Option.bind (idx s2_p1 v_0) fun x6_6 =>
  ifO (!decide (x6_2 = x6_6))
  (some (.inr (.inr (false))))
  (some (.inl (wr (v_0 + 1)))))
  (some (.inr (.inl ())))
noncomputable def slices_Equal_S_int_int (s1_p0 : List Int) (s2_p1 : List Int) : Option Bool :=
  ifO (!decide ((s1_p0.length : Int) = (s2_p1.length : Int)))
  (some false)
  (Option.bind (loopO (fun v_0 => slices_Equal_S_int_int_L0 s1_p0 s2_p1 v_0) 0) fun y => fork y (fun () => some true) (fun r => some r))
noncomputable def impl_samePlane (a_p0 : PlaneT) (a_p1 : PlaneT) : Option Bool :=
  Option.bind (andO ((((((((((a_p0.On == a_p1.On) && (decide (a_p0.X = a_p1.X))) && (decide (a_p0.Y = a_p1.Y))) && (decide (a_p0.W = a_p1.W))) && (decide (a_p0.H = a_p1.H))) && (decide (a_p0.Layout = a_p1.Layout))) && (decide (a_p0.Alpha = a_p1.Alpha))) && (decide (a_p0.Orient = a_p1.Orient))) && (decide (a_p0.ToW = a_p1.ToW))) && (decide (a_p0.ToH = a_p1.ToH))) (Option.bind (slices_Equal_S_int_int a_p0.Words a_p1.Words) fun x1_73 =>
  some x1_73)) fun q1_74 =>
  some q1_74
noncomputable def impl_sameColor (a_p0 : ColorMapT) (b_p1 : ColorMapT) : Option Bool :=
  Option.bind (slices_Equal_S_int_int a_p0.Matrix b_p1.Matrix) fun x1_4 =>
  Option.bind (andO x1_4 (Option.bind (slices_Equal_S_int_int a_p0.Curve b_p1.Curve) fun x1_10 =>
  some x1_10)) fun q1_11 =>
  some q1_11
noncomputable def impl_copyColor (m_p0 : ColorMapT) : Option ColorMapT :=
  Option.bind (slices_Clone_S_int_int m_p0.Matrix) fun x1_2 =>
  Option.bind (slices_Clone_S_int_int m_p0.Curve) fun x1_5 =>
  some (ColorMapT.mk x1_2 x1_5)
noncomputable def impl_ChangesFor_L0 (c_p0 : CrtcT) (x2_1 : List PlaneT) (out_0 : List ChangeT) (v_0 : Int) : Option (((List ChangeT) × Int) ⊕ (List ChangeT)) :=
  ifO (decide (v_0 < (x2_1.length : Int)))
  (Option.bind (Option.bind (idx x2_1 v_0) fun x4_1 =>
  Option.bind (andO (decide (v_0 < (c_p0.Planes.length : Int))) (Option.bind (idx c_p0.Planes v_0) fun x5_10 =>
  Option.bind (impl_samePlane x4_1 x5_10) fun x5_12 =>
  some (!x5_12))) fun q5_14 =>
  ifO q5_14
  (Option.bind (app out_0 [(ChangeT.mk v_0 x4_1 (ColorMapT.mk [] []))]) fun x6_5 =>
  some x6_5)
  (some out_0)) fun out_1j =>
  some (.inl (out_1j, (wr (v_0 + 1)))))
  (some (.inr out_0))
noncomputable def impl_ChangesFor (c_p0 : CrtcT) (planes_p1 : List PlaneT) (m_p2 : ColorMapT) : Option (List ChangeT) :=
  Option.bind (impl_copyPlanes planes_p1) fun x2_1 =>
  Option.bind (loopO (fun (out_0, v_0) => impl_ChangesFor_L0 c_p0 x2_1 out_0 v_0) (([] : List ChangeT), 0)) fun out_0e =>
  Option.bind (impl_sameColor c_p0.Color m_p2) fun x8_3 =>
  ifO (!x8_3)
  (Option.bind (impl_copyColor m_p2) fun x9_2 =>
  Option.bind (app out_0e [(ChangeT.mk (-1) (PlaneT.mk false 0 0 0 0 0 [] 0 0 0 0) x9_2)]) fun x9_5 =>
  some x9_5)
  (some out_0e)
noncomputable def laws_eqIntS_L0 (a_p0 : List Int) (b_p1 : List Int) (i_0 : Int) : Option (Int ⊕ (Unit ⊕ Bool)) :=
  ifO (decide (i_0 < (a_p0.length : Int)))
  (Option.bind (idx a_p0 i_0) fun x6_2 =>
  Option.bind (idx b_p1 i_0) fun x6_6 =>
  ifO (!decide (x6_2 = x6_6))
  (some (.inr (.inr (false))))
  (some (.inl (wr (i_0 + 1)))))
  (some (.inr (.inl ())))
noncomputable def laws_eqIntS (a_p0 : List Int) (b_p1 : List Int) : Option Bool :=
  ifO (!decide ((a_p0.length : Int) = (b_p1.length : Int)))
  (some false)
  (Option.bind (loopO (fun i_0 => laws_eqIntS_L0 a_p0 b_p1 i_0) 0) fun y => fork y (fun () => some true) (fun r => some r))
noncomputable def laws_eqPlane (a_p0 : PlaneT) (b_p1 : PlaneT) : Option Bool :=
  ifO (!(a_p0.On == b_p1.On))
  (some false)
  (ifO (!decide (a_p0.X = b_p1.X))
  (some false)
  (ifO (!decide (a_p0.Y = b_p1.Y))
  (some false)
  (ifO (!decide (a_p0.W = b_p1.W))
  (some false)
  (ifO (!decide (a_p0.H = b_p1.H))
  (some false)
  (ifO (!decide (a_p0.Layout = b_p1.Layout))
  (some false)
  (Option.bind (laws_eqIntS a_p0.Words b_p1.Words) fun x13_4 =>
  ifO (!x13_4)
  (some false)
  (ifO (!decide (a_p0.Alpha = b_p1.Alpha))
  (some false)
  (ifO (!decide (a_p0.Orient = b_p1.Orient))
  (some false)
  (ifO (!decide (a_p0.ToW = b_p1.ToW))
  (some false)
  (ifO (!decide (a_p0.ToH = b_p1.ToH))
  (some false)
  (some true)))))))))))
noncomputable def laws_eqColorMap (a_p0 : ColorMapT) (b_p1 : ColorMapT) : Option Bool :=
  Option.bind (laws_eqIntS a_p0.Matrix b_p1.Matrix) fun x1_4 =>
  ifO (!x1_4)
  (some false)
  (Option.bind (laws_eqIntS a_p0.Curve b_p1.Curve) fun x3_4 =>
  ifO (!x3_4)
  (some false)
  (some true))
noncomputable def laws_eqChange (a_p0 : ChangeT) (b_p1 : ChangeT) : Option Bool :=
  ifO (!decide (a_p0.Plane = b_p1.Plane))
  (some false)
  (Option.bind (laws_eqPlane a_p0.Value b_p1.Value) fun x3_4 =>
  ifO (!x3_4)
  (some false)
  (Option.bind (laws_eqColorMap a_p0.Color b_p1.Color) fun x5_4 =>
  ifO (!x5_4)
  (some false)
  (some true)))
noncomputable def laws_eqChangeS_L0 (a_p0 : List ChangeT) (b_p1 : List ChangeT) (i_0 : Int) : Option (Int ⊕ (Unit ⊕ Bool)) :=
  ifO (decide (i_0 < (a_p0.length : Int)))
  (Option.bind (idx a_p0 i_0) fun x6_2 =>
  Option.bind (idx b_p1 i_0) fun x6_6 =>
  Option.bind (laws_eqChange x6_2 x6_6) fun x6_8 =>
  ifO (!x6_8)
  (some (.inr (.inr (false))))
  (some (.inl (wr (i_0 + 1)))))
  (some (.inr (.inl ())))
noncomputable def laws_eqChangeS (a_p0 : List ChangeT) (b_p1 : List ChangeT) : Option Bool :=
  ifO (!decide ((a_p0.length : Int) = (b_p1.length : Int)))
  (some false)
  (Option.bind (loopO (fun i_0 => laws_eqChangeS_L0 a_p0 b_p1 i_0) 0) fun y => fork y (fun () => some true) (fun r => some r))
noncomputable def laws_eqPlaneS_L0 (a_p0 : List PlaneT) (b_p1 : List PlaneT) (i_0 : Int) : Option (Int ⊕ (Unit ⊕ Bool)) :=
  ifO (decide (i_0 < (a_p0.length : Int)))
  (Option.bind (idx a_p0 i_0) fun x6_2 =>
  Option.bind (idx b_p1 i_0) fun x6_6 =>
  Option.bind (laws_eqPlane x6_2 x6_6) fun x6_8 =>
  ifO (!x6_8)
  (some (.inr (.inr (false))))
  (some (.inl (wr (i_0 + 1)))))
  (some (.inr (.inl ())))
noncomputable def laws_eqPlaneS (a_p0 : List PlaneT) (b_p1 : List PlaneT) : Option Bool :=
  ifO (!decide ((a_p0.length : Int) = (b_p1.length : Int)))
  (some false)
  (Option.bind (loopO (fun i_0 => laws_eqPlaneS_L0 a_p0 b_p1 i_0) 0) fun y => fork y (fun () => some true) (fun r => some r))
noncomputable def laws_eqCrtc (a_p0 : CrtcT) (b_p1 : CrtcT) : Option Bool :=
  ifO (!decide (a_p0.W = b_p1.W))
  (some false)
  (ifO (!decide (a_p0.H = b_p1.H))
  (some false)
  (Option.bind (laws_eqPlaneS a_p0.Planes b_p1.Planes) fun x5_4 =>
  ifO (!x5_4)
  (some false)
  (Option.bind (laws_eqColorMap a_p0.Color b_p1.Color) fun x7_4 =>
  ifO (!x7_4)
  (some false)
  (some true))))
noncomputable def laws_markIntS_L0  (a_0 : List Int) (k_0 : Int) (i_0 : Int) : Option (((List Int) × Int × Int) ⊕ (Int × (List Int))) :=
  ifO (decide (i_0 < (a_0.length : Int)))
  (Option.bind (upd a_0 i_0 k_0) fun x4_4 =>
  some (.inl (x4_4, (wr (k_0 + 1)), (wr (i_0 + 1)))))
  (some (.inr (k_0, a_0)))
noncomputable def laws_markIntS (a_p0 : List Int) (k_p1 : Int) : Option (Int × (List Int)) :=
  Option.bind (loopO (fun (a_0, k_0, i_0) => laws_markIntS_L0 a_0 k_0 i_0) (a_p0, k_p1, 0)) fun (k_0e, p_0e) =>
  some (k_0e, p_0e)
noncomputable def laws_markPlaneS_L0  (v_0 : List PlaneT) (v1_0 : Int) (v2_0 : Int) : Option (((List PlaneT) × Int × Int) ⊕ (Int × (List PlaneT))) :=
  ifO (decide (v2_0 < (v_0.length : Int)))
  (Option.bind (idx v_0 v2_0) fun x4_5 =>
  Option.bind (upd v_0 v2_0 (PlaneT.mk (decide ((Int.tmod v1_0 3) = 0)) x4_5.X x4_5.Y x4_5.W x4_5.H x4_5.Layout x4_5.Words x4_5.Alpha x4_5.Orient x4_5.ToW x4_5.ToH)) fun x4_7 =>
  Option.bind (idx x4_7 v2_0) fun x6_3 =>
  Option.bind (upd x4_7 v2_0 (PlaneT.mk x6_3.On (wr (v1_0 + 1)) x6_3.Y x6_3.W x6_3.H x6_3.Layout x6_3.Words x6_3.Alpha x6_3.Orient x6_3.ToW x6_3.ToH)) fun x6_5 =>
  Option.bind (idx x6_5 v2_0) fun x8_3 =>
  Option.bind (upd x6_5 v2_0 (PlaneT.mk x8_3.On x8_3.X (wr ((wr (v1_0 + 1)) + 1)) x8_3.W x8_3.H x8_3.Layout x8_3.Words x8_3.Alpha x8_3.Orient x8_3.ToW x8_3.ToH)) fun x8_5 =>
  Option.bind (idx x8_5 v2_0) fun x10_3 =>
  Option.bind (upd x8_5 v2_0 (PlaneT.mk x10_3.On x10_3.X x10_3.Y (wr ((wr ((wr (v1_0 + 1)) + 1)) + 1)) x10_3.H x10_3.Layout x10_3.Words x10_3.Alpha x10_3.Orient x10_3.ToW x10_3.ToH)) fun x10_5 =>
  Option.bind (idx x10_5 v2_0) fun x12_3 =>
  Option.bind (upd x10_5 v2_0 (PlaneT.mk x12_3.On x12_3.X x12_3.Y x12_3.W (wr ((wr ((wr ((wr (v1_0 + 1)) + 1)) + 1)) + 1)) x12_3.Layout x12_3.Words x12_3.Alpha x12_3.Orient x12_3.ToW x12_3.ToH)) fun x12_5 =>
  Option.bind (idx x12_5 v2_0) fun x14_3 =>
  Option.bind (upd x12_5 v2_0 (PlaneT.mk x14_3.On x14_3.X x14_3.Y x14_3.W x14_3.H (wr ((wr ((wr ((wr ((wr (v1_0 + 1)) + 1)) + 1)) + 1)) + 1)) x14_3.Words x14_3.Alpha x14_3.Orient x14_3.ToW x14_3.ToH)) fun x14_5 =>
  Option.bind (idx x14_5 v2_0) fun x16_2 =>
  Option.bind (laws_markIntS x16_2.Words (wr ((wr ((wr ((wr ((wr ((wr (v1_0 + 1)) + 1)) + 1)) + 1)) + 1)) + 1))) fun (x16_6a, x16_6b) =>
  Option.bind (upd x14_5 v2_0 (PlaneT.mk x16_2.On x16_2.X x16_2.Y x16_2.W x16_2.H x16_2.Layout x16_6b x16_2.Alpha x16_2.Orient x16_2.ToW x16_2.ToH)) fun x16_u =>
  Option.bind (idx x16_u v2_0) fun x17_3 =>
  Option.bind (upd x16_u v2_0 (PlaneT.mk x17_3.On x17_3.X x17_3.Y x17_3.W x17_3.H x17_3.Layout x17_3.Words x16_6a x17_3.Orient x17_3.ToW x17_3.ToH)) fun x17_5 =>
  Option.bind (idx x17_5 v2_0) fun x19_3 =>
  Option.bind (upd x17_5 v2_0 (PlaneT.mk x19_3.On x19_3.X x19_3.Y x19_3.W x19_3.H x19_3.Layout x19_3.Words x19_3.Alpha (wr (x16_6a + 1)) x19_3.ToW x19_3.ToH)) fun x19_5 =>
  Option.bind (idx x19_5 v2_0) fun x21_3 =>
  Option.bind (upd x19_5 v2_0 (PlaneT.mk x21_3.On x21_3.X x21_3.Y x21_3.W x21_3.H x21_3.Layout x21_3.Words x21_3.Alpha x21_3.Orient (wr ((wr (x16_6a + 1)) + 1)) x21_3.ToH)) fun x21_5 =>
  Option.bind (idx x21_5 v2_0) fun x23_3 =>
  Option.bind (upd x21_5 v2_0 (PlaneT.mk x23_3.On x23_3.X x23_3.Y x23_3.W x23_3.H x23_3.Layout x23_3.Words x23_3.Alpha x23_3.Orient x23_3.ToW (wr ((wr ((wr (x16_6a + 1)) + 1)) + 1)))) fun x23_5 =>
  some (.inl (x23_5, (wr ((wr ((wr ((wr (x16_6a + 1)) + 1)) + 1)) + 1)), (wr (v2_0 + 1)))))
  (some (.inr (v1_0, v_0)))
noncomputable def laws_markPlaneS (a_p0 : List PlaneT) (a_p1 : Int) : Option (Int × (List PlaneT)) :=
  Option.bind (loopO (fun (v_0, v1_0, v2_0) => laws_markPlaneS_L0 v_0 v1_0 v2_0) (a_p0, a_p1, 0)) fun (v_0e, p_0e) =>
  some (v_0e, p_0e)
noncomputable def laws_markColorMap (a_p0 : ColorMapT) (k_p1 : Int) : Option (Int × (List Int) × (List Int)) :=
  Option.bind (laws_markIntS a_p0.Matrix k_p1) fun (x1_3a, x1_3b) =>
  Option.bind (laws_markIntS a_p0.Curve x1_3a) fun (x2_3a, x2_3b) =>
  some (x2_3a, x1_3b, x2_3b)
noncomputable def laws_markCrtc (a_p0 : CrtcT) (k_p1 : Int) : Option (Int × (List PlaneT) × (List Int) × (List Int)) :=
  Option.bind (laws_markPlaneS a_p0.Planes k_p1) fun (x1_3a, x1_3b) =>
  Option.bind (laws_markColorMap a_p0.Color x1_3a) fun (x2_3a, x2_3b, x2_3c) =>
  some (x2_3a, x1_3b, x2_3b, x2_3c)
noncomputable def laws_markChangeS_L0  (v_0 : List ChangeT) (v1_0 : Int) (v2_0 : Int) : Option (((List ChangeT) × Int × Int) ⊕ (Int × (List ChangeT))) :=
  ifO (decide (v2_0 < (v_0.length : Int)))
  (Option.bind (idx v_0 v2_0) fun x4_3 =>
  Option.bind (upd v_0 v2_0 (ChangeT.mk v1_0 x4_3.Value x4_3.Color)) fun x4_5 =>
  Option.bind (idx x4_5 v2_0) fun x6_5 =>
  Option.bind (upd x4_5 v2_0 (ChangeT.mk x6_5.Plane (PlaneT.mk (decide ((Int.tmod (wr (v1_0 + 1)) 3) = 0)) x6_5.Value.X x6_5.Value.Y x6_5.Value.W x6_5.Value.H x6_5.Value.Layout x6_5.Value.Words x6_5.Value.Alpha x6_5.Value.Orient x6_5.Value.ToW x6_5.Value.ToH) x6_5.Color)) fun x6_8 =>
  Option.bind (idx x6_8 v2_0) fun x8_3 =>
  Option.bind (upd x6_8 v2_0 (ChangeT.mk x8_3.Plane (PlaneT.mk x8_3.Value.On (wr ((wr (v1_0 + 1)) + 1)) x8_3.Value.Y x8_3.Value.W x8_3.Value.H x8_3.Value.Layout x8_3.Value.Words x8_3.Value.Alpha x8_3.Value.Orient x8_3.Value.ToW x8_3.Value.ToH) x8_3.Color)) fun x8_6 =>
  Option.bind (idx x8_6 v2_0) fun x10_3 =>
  Option.bind (upd x8_6 v2_0 (ChangeT.mk x10_3.Plane (PlaneT.mk x10_3.Value.On x10_3.Value.X (wr ((wr ((wr (v1_0 + 1)) + 1)) + 1)) x10_3.Value.W x10_3.Value.H x10_3.Value.Layout x10_3.Value.Words x10_3.Value.Alpha x10_3.Value.Orient x10_3.Value.ToW x10_3.Value.ToH) x10_3.Color)) fun x10_6 =>
  Option.bind (idx x10_6 v2_0) fun x12_3 =>
  Option.bind (upd x10_6 v2_0 (ChangeT.mk x12_3.Plane (PlaneT.mk x12_3.Value.On x12_3.Value.X x12_3.Value.Y (wr ((wr ((wr ((wr (v1_0 + 1)) + 1)) + 1)) + 1)) x12_3.Value.H x12_3.Value.Layout x12_3.Value.Words x12_3.Value.Alpha x12_3.Value.Orient x12_3.Value.ToW x12_3.Value.ToH) x12_3.Color)) fun x12_6 =>
  Option.bind (idx x12_6 v2_0) fun x14_3 =>
  Option.bind (upd x12_6 v2_0 (ChangeT.mk x14_3.Plane (PlaneT.mk x14_3.Value.On x14_3.Value.X x14_3.Value.Y x14_3.Value.W (wr ((wr ((wr ((wr ((wr (v1_0 + 1)) + 1)) + 1)) + 1)) + 1)) x14_3.Value.Layout x14_3.Value.Words x14_3.Value.Alpha x14_3.Value.Orient x14_3.Value.ToW x14_3.Value.ToH) x14_3.Color)) fun x14_6 =>
  Option.bind (idx x14_6 v2_0) fun x16_3 =>
  Option.bind (upd x14_6 v2_0 (ChangeT.mk x16_3.Plane (PlaneT.mk x16_3.Value.On x16_3.Value.X x16_3.Value.Y x16_3.Value.W x16_3.Value.H (wr ((wr ((wr ((wr ((wr ((wr (v1_0 + 1)) + 1)) + 1)) + 1)) + 1)) + 1)) x16_3.Value.Words x16_3.Value.Alpha x16_3.Value.Orient x16_3.Value.ToW x16_3.Value.ToH) x16_3.Color)) fun x16_6 =>
  Option.bind (idx x16_6 v2_0) fun x18_2 =>
  Option.bind (laws_markIntS x18_2.Value.Words (wr ((wr ((wr ((wr ((wr ((wr ((wr (v1_0 + 1)) + 1)) + 1)) + 1)) + 1)) + 1)) + 1))) fun (x18_7a, x18_7b) =>
  Option.bind (upd x16_6 v2_0 (ChangeT.mk x18_2.Plane (PlaneT.mk x18_2.Value.On x18_2.Value.X x18_2.Value.Y x18_2.Value.W x18_2.Value.H x18_2.Value.Layout x18_7b x18_2.Value.Alpha x18_2.Value.Orient x18_2.Value.ToW x18_2.Value.ToH) x18_2.Color)) fun x18_u =>
  Option.bind (idx x18_u v2_0) fun x19_3 =>
  Option.bind (upd x18_u v2_0 (ChangeT.mk x19_3.Plane (PlaneT.mk x19_3.Value.On x19_3.Value.X x19_3.Value.Y x19_3.Value.W x19_3.Value.H x19_3.Value.Layout x19_3.Value.Words x18_7a x19_3.Value.Orient x19_3.Value.ToW x19_3.Value.ToH) x19_3.Color)) fun x19_6 =>
  Option.bind (idx x19_6 v2_0) fun x21_3 =>
  Option.bind (upd x19_6 v2_0 (ChangeT.mk x21_3.Plane (PlaneT.mk x21_3.Value.On x21_3.Value.X x21_3.Value.Y x21_3.Value.W x21_3.Value.H x21_3.Value.Layout x21_3.Value.Words x21_3.Value.Alpha (wr (x18_7a + 1)) x21_3.Value.ToW x21_3.Value.ToH) x21_3.Color)) fun x21_6 =>
  Option.bind (idx x21_6 v2_0) fun x23_3 =>
  Option.bind (upd x21_6 v2_0 (ChangeT.mk x23_3.Plane (PlaneT.mk x23_3.Value.On x23_3.Value.X x23_3.Value.Y x23_3.Value.W x23_3.Value.H x23_3.Value.Layout x23_3.Value.Words x23_3.Value.Alpha x23_3.Value.Orient (wr ((wr (x18_7a + 1)) + 1)) x23_3.Value.ToH) x23_3.Color)) fun x23_6 =>
  Option.bind (idx x23_6 v2_0) fun x25_3 =>
  Option.bind (upd x23_6 v2_0 (ChangeT.mk x25_3.Plane (PlaneT.mk x25_3.Value.On x25_3.Value.X x25_3.Value.Y x25_3.Value.W x25_3.Value.H x25_3.Value.Layout x25_3.Value.Words x25_3.Value.Alpha x25_3.Value.Orient x25_3.Value.ToW (wr ((wr ((wr (x18_7a + 1)) + 1)) + 1))) x25_3.Color)) fun x25_6 =>
  Option.bind (idx x25_6 v2_0) fun x27_2 =>
  Option.bind (laws_markIntS x27_2.Color.Matrix (wr ((wr ((wr ((wr (x18_7a + 1)) + 1)) + 1)) + 1))) fun (x27_7a, x27_7b) =>
  Option.bind (upd x25_6 v2_0 (ChangeT.mk x27_2.Plane x27_2.Value (ColorMapT.mk x27_7b x27_2.Color.Curve))) fun x27_u =>
  Option.bind (idx x27_u v2_0) fun x28_2 =>
  Option.bind (laws_markIntS x28_2.Color.Curve x27_7a) fun (x28_7a, x28_7b) =>
  Option.bind (upd x27_u v2_0 (ChangeT.mk x28_2.Plane x28_2.Value (ColorMapT.mk x28_2.Color.Matrix x28_7b))) fun x28_u =>
  some (.inl (x28_u, x28_7a, (wr (v2_0 + 1)))))
  (some (.inr (v1_0, v_0)))
noncomputable def laws_markChangeS (a_p0 : List ChangeT) (a_p1 : Int) : Option (Int × (List ChangeT)) :=
  Option.bind (loopO (fun (v_0, v1_0, v2_0) => laws_markChangeS_L0 v_0 v1_0 v2_0) (a_p0, a_p1, 0)) fun (v_0e, p_0e) =>
  some (v_0e, p_0e)
noncomputable def laws_heldIntS_L0 (a_p0 : List Int) (k_0 : Int) (i_0 : Int) : Option ((Int × Int) ⊕ (Int ⊕ Int)) :=
  ifO (decide (i_0 < (a_p0.length : Int)))
  (Option.bind (idx a_p0 i_0) fun x4_2 =>
  ifO (!decide (x4_2 = k_0))
  (some (.inr (.inr ((-1)))))
  (some (.inl ((wr (k_0 + 1)), (wr (i_0 + 1))))))
  (some (.inr (.inl k_0)))
noncomputable def laws_heldIntS (a_p0 : List Int) (k_p1 : Int) : Option Int :=
  Option.bind (loopO (fun (k_0, i_0) => laws_heldIntS_L0 a_p0 k_0 i_0) (k_p1, 0)) fun y => fork y (fun k_0e => some k_0e) (fun r => some r)
noncomputable def laws_heldChangeS_L0 (a_p0 : List ChangeT) (v_0 : Int) (v1_0 : Int) : Option ((Int × Int) ⊕ (Int ⊕ Int)) :=
  ifO (decide (v1_0 < (a_p0.length : Int)))
  (Option.bind (idx a_p0 v1_0) fun x4_2 =>
  ifO (!decide (x4_2.Plane = v_0))
  (some (.inr (.inr ((-1)))))
  (Option.bind (idx a_p0 v1_0) fun x7_2 =>
  ifO (!(x7_2.Value.On == (decide ((Int.tmod (wr (v_0 + 1)) 3) = 0))))
  (some (.inr (.inr ((-1)))))
  (Option.bind (idx a_p0 v1_0) fun x10_2 =>
  ifO (!decide (x10_2.Value.X = (wr ((wr (v_0 + 1)) + 1))))
  (some (.inr (.inr ((-1)))))
  (Option.bind (idx a_p0 v1_0) fun x13_2 =>
  ifO (!decide (x13_2.Value.Y = (wr ((wr ((wr (v_0 + 1)) + 1)) + 1))))
  (some (.inr (.inr ((-1)))))
  (Option.bind (idx a_p0 v1_0) fun x16_2 =>
  ifO (!decide (x16_2.Value.W = (wr ((wr ((wr ((wr (v_0 + 1)) + 1)) + 1)) + 1))))
  (some (.inr (.inr ((-1)))))
  (Option.bind (idx a_p0 v1_0) fun x19_2 =>
  ifO (!decide (x19_2.Value.H = (wr ((wr ((wr ((wr ((wr (v_0 + 1)) + 1)) + 1)) + 1)) + 1))))
  (some (.inr (.inr ((-1)))))
  (Option.bind (idx a_p0 v1_0) fun x22_2 =>
  ifO (!decide (x22_2.Value.Layout = (wr ((wr ((wr ((wr ((wr ((wr (v_0 + 1)) + 1)) + 1)) + 1)) + 1)) + 1))))
  (some (.inr (.inr ((-1)))))
  (Option.bind (idx a_p0 v1_0) fun x25_2 =>
  Option.bind (laws_heldIntS x25_2.Value.Words (wr ((wr ((wr ((wr ((wr ((wr ((wr (v_0 + 1)) + 1)) + 1)) + 1)) + 1)) + 1)) + 1))) fun x25_7 =>
  ifO (decide (x25_7 < 0))
  (some (.inr (.inr ((-1)))))
  (Option.bind (idx a_p0 v1_0) fun x28_2 =>
  ifO (!decide (x28_2.Value.Alpha = x25_7))
  (some (.inr (.inr ((-1)))))
  (Option.bind (idx a_p0 v1_0) fun x31_2 =>
  ifO (!decide (x31_2.Value.Orient = (wr (x25_7 + 1))))
  (some (.inr (.inr ((-1)))))
  (Option.bind (idx a_p0 v1_0) fun x34_2 =>
  ifO (!decide (x34_2.Value.ToW = (wr ((wr (x25_7 + 1)) + 1))))
  (some (.inr (.inr ((-1)))))
  (Option.bind (idx a_p0 v1_0) fun x37_2 =>
  ifO (!decide (x37_2.Value.ToH = (wr ((wr ((wr (x25_7 + 1)) + 1)) + 1))))
  (some (.inr (.inr ((-1)))))
  (Option.bind (idx a_p0 v1_0) fun x40_2 =>
  Option.bind (laws_heldIntS x40_2.Color.Matrix (wr ((wr ((wr ((wr (x25_7 + 1)) + 1)) + 1)) + 1))) fun x40_7 =>
  ifO (decide (x40_7 < 0))
  (some (.inr (.inr ((-1)))))
  (Option.bind (idx a_p0 v1_0) fun x43_2 =>
  Option.bind (laws_heldIntS x43_2.Color.Curve x40_7) fun x43_7 =>
  ifO (decide (x43_7 < 0))
  (some (.inr (.inr ((-1)))))
  (some (.inl (x43_7, (wr (v1_0 + 1)))))))))))))))))))
  (some (.inr (.inl v_0)))
noncomputable def laws_heldChangeS (a_p0 : List ChangeT) (a_p1 : Int) : Option Int :=
  Option.bind (loopO (fun (v_0, v1_0) => laws_heldChangeS_L0 a_p0 v_0 v1_0) (a_p1, 0)) fun y => fork y (fun v_0e => some v_0e) (fun r => some r)
noncomputable def laws_FnExactChangesFor (a_p0 : CrtcT) (a_p1 : List PlaneT) (a_p2 : ColorMapT) : Option Bool :=
  Option.bind (laws_szCrtc a_p0 1048576) fun x2_2 =>
  ifO (decide (x2_2 < 0))
  (some true)
  (Option.bind (laws_szPlaneS a_p1 x2_2) fun x5_2 =>
  ifO (decide (x5_2 < 0))
  (some true)
  (Option.bind (laws_szColorMap a_p2 x5_2) fun x8_2 =>
  ifO (decide (x8_2 < 0))
  (some true)
  (Option.bind (laws_toCrtc a_p0) fun x11_1 =>
  Option.bind (laws_toPlaneS a_p1) fun x11_3 =>
  Option.bind (laws_toColorMap a_p2) fun x11_5 =>
  Option.bind (spec_ChangesFor x11_1 x11_3 x11_5) fun x11_6 =>
  Option.bind (laws_toCrtc a_p0) fun x12_1 =>
  Option.bind (laws_toPlaneS a_p1) fun x13_1 =>
  Option.bind (laws_toColorMap a_p2) fun x14_1 =>
  Option.bind (impl_ChangesFor x12_1 x13_1 x14_1) fun x15_3 =>
  Option.bind (laws_eqChangeS x15_3 x11_6) fun x16_2 =>
  ifO (!x16_2)
  (some false)
  (Option.bind (laws_toCrtc a_p0) fun x18_2 =>
  Option.bind (laws_eqCrtc x12_1 x18_2) fun x18_3 =>
  ifO (!x18_3)
  (some false)
  (Option.bind (laws_toPlaneS a_p1) fun x20_2 =>
  Option.bind (laws_eqPlaneS x13_1 x20_2) fun x20_3 =>
  ifO (!x20_3)
  (some false)
  (Option.bind (laws_toColorMap a_p2) fun x22_2 =>
  Option.bind (laws_eqColorMap x14_1 x22_2) fun x22_3 =>
  ifO (!x22_3)
  (some false)
  (Option.bind (laws_markCrtc x12_1 1) fun (x25_2a, x25_2b, x25_2c, x25_2d) =>
  Option.bind (laws_markPlaneS x13_1 x25_2a) fun (x26_2a, x26_2b) =>
  Option.bind (laws_markColorMap x14_1 x26_2a) fun (x27_2a, x27_2b, x27_2c) =>
  Option.bind (orO (decide (x27_2a < 0)) (Option.bind (laws_eqChangeS x15_3 x11_6) fun x28_5 =>
  some (!x28_5))) fun q28_7 =>
  ifO q28_7
  (some false)
  (Option.bind (laws_markChangeS x15_3 1) fun (x31_2a, x31_2b) =>
  Option.bind (laws_heldChangeS x31_2b 1) fun x33_2 =>
  ifO (decide (x33_2 < 0))
  (some false)
  (ifO (!decide (x33_2 = x31_2a))
  (some false)
  (Option.bind (laws_toCrtc a_p0) fun x38_1 =>
  Option.bind (laws_toPlaneS a_p1) fun x38_3 =>
  Option.bind (laws_toColorMap a_p2) fun x38_5 =>
  Option.bind (impl_ChangesFor x38_1 x38_3 x38_5) fun x38_6 =>
  Option.bind (laws_eqChangeS x38_6 x11_6) fun x39_2 =>
  ifO (!x39_2)
  (some false)
  (Option.bind (laws_heldChangeS x31_2b 1) fun x42_2 =>
  ifO (decide (x42_2 < 0))
  (some false)
  (ifO (!decide (x42_2 = x31_2a))
  (some false)
  (some true)))))))))))))
end Go.Proofs.Ytmhalmnbgkpmnaa
