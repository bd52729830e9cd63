/- Walks: the program computes the pure functions. -/
import Derived.Test.YtgkflkecnmnipaaGreatW3
namespace Go.Proofs.YtgkflkecnmnipaaGreat
open Go.RowKit K
set_option maxRecDepth 100000
set_option maxHeartbeats 4000000

theorem w_laws_markFlipS {a_p0 : List FlipT} {a_p1 : Int} {r : Int × (List FlipT)} {q0_0 : Option Addr} {l0_0 k0_0 : Nat} {f0_0 : List Nat} (h : laws_markFlipS a_p0 a_p1 = some r) {w0 w : World} {C : List Chunk} (hs0 : St w0 (Chunk.own tFlip f0_0 q0_0 l0_0 k0_0 a_p0 :: C) w)  :
    Calls Tryz.prog 55 #[.slice q0_0 l0_0 k0_0, .int .i64 a_p1] w (fun en w' => ∃ rv G, en = .returned rv ∧ (∃ (g0_0 : List Nat), rv = .int .i64 r.1 ∧ G = Chunk.own tFlip g0_0 q0_0 l0_0 k0_0 r.2 :: C) ∧ St w0 G w') := by
 unfold laws_markFlipS at h
 refine enterF hs0 (vs := [_, _]) Tryz.func55 rfl rfl rfl rfl ?_
 refine WC.sr ?_
 refine ag ?_
 refine WL.nil (En.next (WC.seq (WC.sr ?_)))
 refine ag ?_
 refine WL.nil (En.next (WC.block ?_))
 obtain ⟨zy0, ezy0, h⟩ := bnd h
 refine WC.cut (X := (Int × (List FlipT)) × ((List Nat))) (.exit 0) (fun x => zy0 = x.1) (fun x => match x with | ((v_0e, p_0e), fp_0e) => [(1, .int .i64 v_0e)]) (fun x => match x with | ((v_0e, p_0e), fp_0e) => (Chunk.own tFlip fp_0e q0_0 l0_0 k0_0 p_0e :: C)) ?_ ?_
 ·
  rintro ⟨⟨v_0e, p_0e⟩, fp_0e⟩ hx
  replace hx : (v_0e, p_0e) = zy0 := hx.symm
  subst hx
  show En _ _ _ _ [(1, .int .i64 v_0e)] (Chunk.own tFlip fp_0e q0_0 l0_0 k0_0 p_0e :: C)
  refine En.block_exit (En.next (WC.sr ?_))
  refine mv ?_
  refine ag ?_
  refine WL.nil (En.next (WC.ret ?_))
  refine En.ret1 rfl (Res.tmp rfl) ?_
  obtain rfl := Option.some.inj h
  intro w' hs
  have hs := hs
  exact ⟨_, _, rfl, ⟨fp_0e, rfl, rfl⟩, hs⟩
 ·
  intro zK0_0
  refine WC.loopP (G := (List Nat)) (fun s g => match s, g with | (v_0, v1_0, v2_0), fv_0 => [(0, .slice q0_0 l0_0 k0_0), (1, .int .i64 v1_0), (5, .int .i64 v2_0)]) (fun s g => match s, g with | (v_0, v1_0, v2_0), fv_0 => (Chunk.own tFlip fv_0 q0_0 l0_0 k0_0 v_0 :: C)) (a_p0, a_p1, 0) f0_0 ezy0 (by exact sc (sc (sc sn))) (by exact (fun _ h => h)) ?_
  rintro zm0 ⟨v_0, v1_0, v2_0⟩ fv_0 zo0 zf0 zb0 ze0
  have zh0 : laws_markFlipS_L0 v_0 v1_0 v2_0 = some zo0 := zf0
  unfold laws_markFlipS_L0 at zh0
  show WC _ _ _ _ _ [(0, .slice q0_0 l0_0 k0_0), (1, .int .i64 v1_0), (5, .int .i64 v2_0)] (Chunk.own tFlip fv_0 q0_0 l0_0 k0_0 v_0 :: C)
  refine WC.seq (WC.sr ?_)
  refine mv ?_
  refine mv ?_
  refine sp (OpV.inhF fun hin => OpV.lenO (xs := v_0) rfl si_33 rfl (ownLen hin mq0)) ?_
  refine sp (OpV.lss rfl rfl) ?_
  refine WL.nil (En.next ?_)
  refine WC.cond rfl ?_ ?_
  ·
   intro hc_1
   replace zh0 := ifO_t hc_1 zh0
   refine WC.skip (En.next (WC.seq (WC.block (WC.seq ?_))))
   refine WC.inh fun hin4 => ?_
   obtain ⟨x4_3, e4_3, zh0⟩ := bnd zh0
   obtain ⟨g4_3, o4_3, ha4_3⟩ := ownAddr hin4 mq0 e4_3
   have hn4_3 := ownLen hin4 mq0
   obtain ⟨x4_5, e4_5, zh0⟩ := bnd zh0
   refine WC.region ?_
   refine mv ?_
   refine mv ?_
   refine mv ?_
   refine sp (OpV.idxA rfl rfl se_33 ha4_3 ⟨(idx_some e4_3).1, by rw [hn4_3]; exact (idx_some e4_3).2.1⟩) ?_
   refine sp (OpV.fieldAddr rfl fo_79_0) ?_
   refine WL.heavy0 rfl rfl (OpH.setFld (F := []) (A := tFlip) (off := 0) (i := v2_0) (v' := (FlipT.mk v1_0 x4_3.Fence x4_3.State)) ha4_3 rfl rfl rfl ts_3 rfl rfl e4_3 (fun _ _ _ ⟨_, _, _, _, _, _, _, _, _, hp, he, h0, h1, h2⟩ => ⟨_, _, _, _, _, _, _, _, _, hp, by rw [he]; rfl, h0, h1, h2⟩) e4_5 ?_)
   refine WL.nil (En.next (WC.sr ?_))
   refine mv ?_
   refine sp (OpV.addR rfl rfl) ?_
   refine ag ?_
   refine WL.nil (En.next (WC.seq ?_))
   refine WC.inh fun hin6 => ?_
   obtain ⟨x6_3, e6_3, zh0⟩ := bnd zh0
   obtain ⟨g6_3, o6_3, ha6_3⟩ := ownAddr hin6 mq0 e6_3
   have hn6_3 := ownLen hin6 mq0
   obtain ⟨x6_5, e6_5, zh0⟩ := bnd zh0
   refine WC.region ?_
   refine mv ?_
   refine mv ?_
   refine mv ?_
   refine sp (OpV.idxA rfl rfl se_33 ha6_3 ⟨(idx_some e6_3).1, by rw [hn6_3]; exact (idx_some e6_3).2.1⟩) ?_
   refine sp (OpV.fieldAddr rfl fo_79_1) ?_
   refine WL.heavy0 rfl rfl (OpH.setFld (F := []) (A := tFlip) (off := 1) (i := v2_0) (v' := (FlipT.mk x6_3.Seq (wr (v1_0 + 1)) x6_3.State)) ha6_3 rfl rfl rfl ts_3 rfl rfl e6_3 (fun _ _ _ ⟨_, _, _, _, _, _, _, _, _, hp, he, h0, h1, h2⟩ => ⟨_, _, _, _, _, _, _, _, _, hp, by rw [he]; rfl, h0, h1, h2⟩) e6_5 ?_)
   refine WL.nil (En.next (WC.sr ?_))
   refine mv ?_
   refine sp (OpV.addR rfl rfl) ?_
   refine ag ?_
   refine WL.nil (En.next (WC.seq ?_))
   refine WC.inh fun hin8 => ?_
   obtain ⟨x8_3, e8_3, zh0⟩ := bnd zh0
   obtain ⟨g8_3, o8_3, ha8_3⟩ := ownAddr hin8 mq0 e8_3
   have hn8_3 := ownLen hin8 mq0
   obtain ⟨x8_6, e8_6, zh0⟩ := bnd zh0
   refine WC.region ?_
   refine mv ?_
   refine mv ?_
   refine mv ?_
   refine sp (OpV.idxA rfl rfl se_33 ha8_3 ⟨(idx_some e8_3).1, by rw [hn8_3]; exact (idx_some e8_3).2.1⟩) ?_
   refine sp (OpV.fieldAddr rfl fo_79_2) ?_
   refine sp (OpV.fieldAddr rfl fo_39_0) ?_
   refine WL.heavy0 rfl rfl (OpH.setFld (F := []) (A := tFlip) (off := 2) (i := v2_0) (v' := (FlipT.mk x8_3.Seq x8_3.Fence (CrtcT.mk (wr ((wr (v1_0 + 1)) + 1)) x8_3.State.H x8_3.State.Planes x8_3.State.Color))) ha8_3 rfl rfl rfl ts_3 rfl rfl e8_3 (fun _ _ _ ⟨_, _, _, _, _, _, _, _, _, hp, he, h0, h1, h2⟩ => ⟨_, _, _, _, _, _, _, _, _, hp, by rw [he]; rfl, h0, h1, h2⟩) e8_6 ?_)
   refine WL.nil (En.next (WC.sr ?_))
   refine mv ?_
   refine sp (OpV.addR rfl rfl) ?_
   refine ag ?_
   refine WL.nil (En.next (WC.seq ?_))
   refine WC.inh fun hin10 => ?_
   obtain ⟨x10_3, e10_3, zh0⟩ := bnd zh0
   obtain ⟨g10_3, o10_3, ha10_3⟩ := ownAddr hin10 mq0 e10_3
   have hn10_3 := ownLen hin10 mq0
   obtain ⟨x10_6, e10_6, zh0⟩ := bnd zh0
   refine WC.region ?_
   refine mv ?_
   refine mv ?_
   refine mv ?_
   refine sp (OpV.idxA rfl rfl se_33 ha10_3 ⟨(idx_some e10_3).1, by rw [hn10_3]; exact (idx_some e10_3).2.1⟩) ?_
   refine sp (OpV.fieldAddr rfl fo_79_2) ?_
   refine sp (OpV.fieldAddr rfl fo_39_1) ?_
   refine WL.heavy0 rfl rfl (OpH.setFld (F := []) (A := tFlip) (off := 3) (i := v2_0) (v' := (FlipT.mk x10_3.Seq x10_3.Fence (CrtcT.mk x10_3.State.W (wr ((wr ((wr (v1_0 + 1)) + 1)) + 1)) x10_3.State.Planes x10_3.State.Color))) ha10_3 rfl rfl rfl ts_3 rfl rfl e10_3 (fun _ _ _ ⟨_, _, _, _, _, _, _, _, _, hp, he, h0, h1, h2⟩ => ⟨_, _, _, _, _, _, _, _, _, hp, by rw [he]; rfl, h0, h1, h2⟩) e10_6 ?_)
   refine WL.nil (En.next (WC.sr ?_))
   refine mv ?_
   refine sp (OpV.addR rfl rfl) ?_
   refine ag ?_
   refine WL.nil (En.next (WC.seq ?_))
   refine WC.inh fun hin12 => ?_
   obtain ⟨x12_2, e12_2, zh0⟩ := bnd zh0
   obtain ⟨g12_2, o12_2, ha12_2⟩ := ownAddr hin12 mq0 e12_2
   have hn12_2 := ownLen hin12 mq0
   obtain ⟨⟨x12_7a, x12_7b⟩, e12_7, zh0⟩ := bnd zh0
   obtain ⟨x12_u, e12_u, zh0⟩ := bnd zh0
   refine WC.exF (fun w h => St.focus (F := []) e12_2 h) ?_
   rintro ⟨css12_2, fps12_2, cs12_2, fz12_2⟩ ⟨hcs12_2, hk12_2⟩
   refine WC.exF (X := (Option Addr) × Nat × (List Nat) × (Option Addr) × Nat × (List Nat) × (Option Addr) × Nat × (List Nat)) (Pre := fun x => match x with | (a12_2_0, c12_2_0, f12_2_0, a12_2_1, c12_2_1, f12_2_1, a12_2_2, c12_2_2, f12_2_2) => cs12_2 = [.int .i64 x12_2.Seq, .int .i64 x12_2.Fence, .int .i64 x12_2.State.W, .int .i64 x12_2.State.H, .slice a12_2_0 x12_2.State.Planes.length c12_2_0, .slice a12_2_1 x12_2.State.Color.Matrix.length c12_2_1, .slice a12_2_2 x12_2.State.Color.Curve.length c12_2_2]) (F' := fun x => match x with | (a12_2_0, c12_2_0, f12_2_0, a12_2_1, c12_2_1, f12_2_1, a12_2_2, c12_2_2, f12_2_2) => (Chunk.own tPlane f12_2_0 a12_2_0 x12_2.State.Planes.length c12_2_0 x12_2.State.Planes :: Chunk.own tInt f12_2_1 a12_2_1 x12_2.State.Color.Matrix.length c12_2_1 x12_2.State.Color.Matrix :: Chunk.own tInt f12_2_2 a12_2_2 x12_2.State.Color.Curve.length c12_2_2 x12_2.State.Color.Curve :: Chunk.row tFlip.T tFlip.k q0_0 x10_6.length k0_0 css12_2.flatten :: Chunk.inX tFlip css12_2 fps12_2 x10_6 v2_0.toNat :: C)) (fun w h => let ⟨a12_2_0, c12_2_0, f12_2_0, a12_2_1, c12_2_1, f12_2_1, a12_2_2, c12_2_2, f12_2_2, e, hs⟩ := tFlip_open (F := []) h; ⟨(a12_2_0, c12_2_0, f12_2_0, a12_2_1, c12_2_1, f12_2_1, a12_2_2, c12_2_2, f12_2_2), e, hs⟩) ?_
   rintro ⟨a12_2_0, c12_2_0, f12_2_0, a12_2_1, c12_2_1, f12_2_1, a12_2_2, c12_2_2, f12_2_2⟩ hz12_2
   replace hz12_2 : cs12_2 = [.int .i64 x12_2.Seq, .int .i64 x12_2.Fence, .int .i64 x12_2.State.W, .int .i64 x12_2.State.H, .slice a12_2_0 x12_2.State.Planes.length c12_2_0, .slice a12_2_1 x12_2.State.Color.Matrix.length c12_2_1, .slice a12_2_2 x12_2.State.Color.Curve.length c12_2_2] := hz12_2
   subst hz12_2
   show WC _ _ _ _ _ _ (Chunk.own tPlane f12_2_0 a12_2_0 x12_2.State.Planes.length c12_2_0 x12_2.State.Planes :: Chunk.own tInt f12_2_1 a12_2_1 x12_2.State.Color.Matrix.length c12_2_1 x12_2.State.Color.Matrix :: Chunk.own tInt f12_2_2 a12_2_2 x12_2.State.Color.Curve.length c12_2_2 x12_2.State.Color.Curve :: Chunk.row tFlip.T tFlip.k q0_0 x10_6.length k0_0 css12_2.flatten :: Chunk.inX tFlip css12_2 fps12_2 x10_6 v2_0.toNat :: C)
   refine WC.region ?_
   refine mv ?_
   refine mv ?_
   refine sp (OpV.idxA rfl rfl se_33 ha12_2 ⟨(idx_some e12_2).1, by rw [hn12_2]; exact (idx_some e12_2).2.1⟩) ?_
   refine sp (OpV.fieldAddr rfl fo_79_2) ?_
   refine sp (OpV.fieldAddr rfl fo_39_2) ?_
   refine sp (OpV.load1 rfl pt_36 (fun w hs => focCell (j := 4) (hs.mem mq3) hk12_2 hcs12_2 ha12_2 rfl)) ?_
   refine mv ?_
   refine WL.heavy rfl rfl rfl (OpH.callX (ec rfl (ec rfl e0)) ca_57 (fun w hs => w_laws_markPlaneS e12_7 hs) ?_)
   rintro _ _ ⟨g12_700, rfl, rfl⟩
   refine ag ?_
   refine WL.nil ?_
   refine En.exF (fun w h => St.unfocus (F := []) hcs12_2 hn12_2 e12_u (tFlip_mk x12_2.Seq x12_2.Fence (CrtcT.mk x12_2.State.W x12_2.State.H x12_7b x12_2.State.Color) h)) ?_
   rintro fp12_u _
   refine En.next (WC.seq ?_)
   refine WC.inh fun hin13 => ?_
   obtain ⟨x13_2, e13_2, zh0⟩ := bnd zh0
   obtain ⟨g13_2, o13_2, ha13_2⟩ := ownAddr hin13 mq0 e13_2
   have hn13_2 := ownLen hin13 mq0
   obtain ⟨⟨x13_8a, x13_8b⟩, e13_8, zh0⟩ := bnd zh0
   obtain ⟨x13_u, e13_u, zh0⟩ := bnd zh0
   refine WC.exF (fun w h => St.focus (F := []) e13_2 h) ?_
   rintro ⟨css13_2, fps13_2, cs13_2, fz13_2⟩ ⟨hcs13_2, hk13_2⟩
   refine WC.exF (X := (Option Addr) × Nat × (List Nat) × (Option Addr) × Nat × (List Nat) × (Option Addr) × Nat × (List Nat)) (Pre := fun x => match x with | (a13_2_0, c13_2_0, f13_2_0, a13_2_1, c13_2_1, f13_2_1, a13_2_2, c13_2_2, f13_2_2) => cs13_2 = [.int .i64 x13_2.Seq, .int .i64 x13_2.Fence, .int .i64 x13_2.State.W, .int .i64 x13_2.State.H, .slice a13_2_0 x13_2.State.Planes.length c13_2_0, .slice a13_2_1 x13_2.State.Color.Matrix.length c13_2_1, .slice a13_2_2 x13_2.State.Color.Curve.length c13_2_2]) (F' := fun x => match x with | (a13_2_0, c13_2_0, f13_2_0, a13_2_1, c13_2_1, f13_2_1, a13_2_2, c13_2_2, f13_2_2) => (Chunk.own tPlane f13_2_0 a13_2_0 x13_2.State.Planes.length c13_2_0 x13_2.State.Planes :: Chunk.own tInt f13_2_1 a13_2_1 x13_2.State.Color.Matrix.length c13_2_1 x13_2.State.Color.Matrix :: Chunk.own tInt f13_2_2 a13_2_2 x13_2.State.Color.Curve.length c13_2_2 x13_2.State.Color.Curve :: Chunk.row tFlip.T tFlip.k q0_0 x12_u.length k0_0 css13_2.flatten :: Chunk.inX tFlip css13_2 fps13_2 x12_u v2_0.toNat :: C)) (fun w h => let ⟨a13_2_0, c13_2_0, f13_2_0, a13_2_1, c13_2_1, f13_2_1, a13_2_2, c13_2_2, f13_2_2, e, hs⟩ := tFlip_open (F := []) h; ⟨(a13_2_0, c13_2_0, f13_2_0, a13_2_1, c13_2_1, f13_2_1, a13_2_2, c13_2_2, f13_2_2), e, hs⟩) ?_
   rintro ⟨a13_2_0, c13_2_0, f13_2_0, a13_2_1, c13_2_1, f13_2_1, a13_2_2, c13_2_2, f13_2_2⟩ hz13_2
   replace hz13_2 : cs13_2 = [.int .i64 x13_2.Seq, .int .i64 x13_2.Fence, .int .i64 x13_2.State.W, .int .i64 x13_2.State.H, .slice a13_2_0 x13_2.State.Planes.length c13_2_0, .slice a13_2_1 x13_2.State.Color.Matrix.length c13_2_1, .slice a13_2_2 x13_2.State.Color.Curve.length c13_2_2] := hz13_2
   subst hz13_2
   show WC _ _ _ _ _ _ (Chunk.own tPlane f13_2_0 a13_2_0 x13_2.State.Planes.length c13_2_0 x13_2.State.Planes :: Chunk.own tInt f13_2_1 a13_2_1 x13_2.State.Color.Matrix.length c13_2_1 x13_2.State.Color.Matrix :: Chunk.own tInt f13_2_2 a13_2_2 x13_2.State.Color.Curve.length c13_2_2 x13_2.State.Color.Curve :: Chunk.row tFlip.T tFlip.k q0_0 x12_u.length k0_0 css13_2.flatten :: Chunk.inX tFlip css13_2 fps13_2 x12_u v2_0.toNat :: C)
   refine WC.region ?_
   refine mv ?_
   refine mv ?_
   refine sp (OpV.idxA rfl rfl se_33 ha13_2 ⟨(idx_some e13_2).1, by rw [hn13_2]; exact (idx_some e13_2).2.1⟩) ?_
   refine sp (OpV.fieldAddr rfl fo_79_2) ?_
   refine sp (OpV.fieldAddr rfl fo_39_3) ?_
   refine sp (OpV.fieldAddr rfl fo_37_0) ?_
   refine sp (OpV.load1 rfl pt_23 (fun w hs => focCell (j := 5) (hs.mem mq3) hk13_2 hcs13_2 ha13_2 rfl)) ?_
   refine mv ?_
   refine WL.wkF (fun _ h => h.pm 1) ?_
   refine WL.heavy rfl rfl rfl (OpH.callX (ec rfl (ec rfl e0)) ca_56 (fun w hs => w_laws_markIntS e13_8 hs) ?_)
   rintro _ _ ⟨g13_800, rfl, rfl⟩
   refine ag ?_
   refine WL.nil ?_
   refine En.wk _ _ (Sub.refl _) (fun _ h => (((((h).pm 4).pm 4).pm 4).pm 3).pm 4) ?_
   refine En.exF (fun w h => St.unfocus (F := []) hcs13_2 hn13_2 e13_u (tFlip_mk x13_2.Seq x13_2.Fence (CrtcT.mk x13_2.State.W x13_2.State.H x13_2.State.Planes (ColorMapT.mk x13_8b x13_2.State.Color.Curve)) h)) ?_
   rintro fp13_u _
   refine En.next ?_
   refine WC.inh fun hin14 => ?_
   obtain ⟨x14_2, e14_2, zh0⟩ := bnd zh0
   obtain ⟨g14_2, o14_2, ha14_2⟩ := ownAddr hin14 mq0 e14_2
   have hn14_2 := ownLen hin14 mq0
   obtain ⟨⟨x14_8a, x14_8b⟩, e14_8, zh0⟩ := bnd zh0
   obtain ⟨x14_u, e14_u, zh0⟩ := bnd zh0
   refine WC.exF (fun w h => St.focus (F := []) e14_2 h) ?_
   rintro ⟨css14_2, fps14_2, cs14_2, fz14_2⟩ ⟨hcs14_2, hk14_2⟩
   refine WC.exF (X := (Option Addr) × Nat × (List Nat) × (Option Addr) × Nat × (List Nat) × (Option Addr) × Nat × (List Nat)) (Pre := fun x => match x with | (a14_2_0, c14_2_0, f14_2_0, a14_2_1, c14_2_1, f14_2_1, a14_2_2, c14_2_2, f14_2_2) => cs14_2 = [.int .i64 x14_2.Seq, .int .i64 x14_2.Fence, .int .i64 x14_2.State.W, .int .i64 x14_2.State.H, .slice a14_2_0 x14_2.State.Planes.length c14_2_0, .slice a14_2_1 x14_2.State.Color.Matrix.length c14_2_1, .slice a14_2_2 x14_2.State.Color.Curve.length c14_2_2]) (F' := fun x => match x with | (a14_2_0, c14_2_0, f14_2_0, a14_2_1, c14_2_1, f14_2_1, a14_2_2, c14_2_2, f14_2_2) => (Chunk.own tPlane f14_2_0 a14_2_0 x14_2.State.Planes.length c14_2_0 x14_2.State.Planes :: Chunk.own tInt f14_2_1 a14_2_1 x14_2.State.Color.Matrix.length c14_2_1 x14_2.State.Color.Matrix :: Chunk.own tInt f14_2_2 a14_2_2 x14_2.State.Color.Curve.length c14_2_2 x14_2.State.Color.Curve :: Chunk.row tFlip.T tFlip.k q0_0 x13_u.length k0_0 css14_2.flatten :: Chunk.inX tFlip css14_2 fps14_2 x13_u v2_0.toNat :: C)) (fun w h => let ⟨a14_2_0, c14_2_0, f14_2_0, a14_2_1, c14_2_1, f14_2_1, a14_2_2, c14_2_2, f14_2_2, e, hs⟩ := tFlip_open (F := []) h; ⟨(a14_2_0, c14_2_0, f14_2_0, a14_2_1, c14_2_1, f14_2_1, a14_2_2, c14_2_2, f14_2_2), e, hs⟩) ?_
   rintro ⟨a14_2_0, c14_2_0, f14_2_0, a14_2_1, c14_2_1, f14_2_1, a14_2_2, c14_2_2, f14_2_2⟩ hz14_2
   replace hz14_2 : cs14_2 = [.int .i64 x14_2.Seq, .int .i64 x14_2.Fence, .int .i64 x14_2.State.W, .int .i64 x14_2.State.H, .slice a14_2_0 x14_2.State.Planes.length c14_2_0, .slice a14_2_1 x14_2.State.Color.Matrix.length c14_2_1, .slice a14_2_2 x14_2.State.Color.Curve.length c14_2_2] := hz14_2
   subst hz14_2
   show WC _ _ _ _ _ _ (Chunk.own tPlane f14_2_0 a14_2_0 x14_2.State.Planes.length c14_2_0 x14_2.State.Planes :: Chunk.own tInt f14_2_1 a14_2_1 x14_2.State.Color.Matrix.length c14_2_1 x14_2.State.Color.Matrix :: Chunk.own tInt f14_2_2 a14_2_2 x14_2.State.Color.Curve.length c14_2_2 x14_2.State.Color.Curve :: Chunk.row tFlip.T tFlip.k q0_0 x13_u.length k0_0 css14_2.flatten :: Chunk.inX tFlip css14_2 fps14_2 x13_u v2_0.toNat :: C)
   refine WC.region ?_
   refine mv ?_
   refine mv ?_
   refine sp (OpV.idxA rfl rfl se_33 ha14_2 ⟨(idx_some e14_2).1, by rw [hn14_2]; exact (idx_some e14_2).2.1⟩) ?_
   refine sp (OpV.fieldAddr rfl fo_79_2) ?_
   refine sp (OpV.fieldAddr rfl fo_39_3) ?_
   refine sp (OpV.fieldAddr rfl fo_37_1) ?_
   refine sp (OpV.load1 rfl pt_23 (fun w hs => focCell (j := 6) (hs.mem mq3) hk14_2 hcs14_2 ha14_2 rfl)) ?_
   refine mv ?_
   refine WL.wkF (fun _ h => h.pm 2) ?_
   refine WL.heavy rfl rfl rfl (OpH.callX (ec rfl (ec rfl e0)) ca_56 (fun w hs => w_laws_markIntS e14_8 hs) ?_)
   rintro _ _ ⟨g14_800, rfl, rfl⟩
   refine ag ?_
   refine WL.nil ?_
   refine En.wk _ _ (Sub.refl _) (fun _ h => (((((h).pm 4).pm 4).pm 2).pm 4).pm 4) ?_
   refine En.exF (fun w h => St.unfocus (F := []) hcs14_2 hn14_2 e14_u (tFlip_mk x14_2.Seq x14_2.Fence (CrtcT.mk x14_2.State.W x14_2.State.H x14_2.State.Planes (ColorMapT.mk x14_2.State.Color.Matrix x14_8b)) h)) ?_
   rintro fp14_u _
   refine En.block_norm (En.next (WC.region ?_))
   refine mv ?_
   refine sp (OpV.addR rfl rfl) ?_
   refine ag ?_
   refine WL.nil ?_
   exact En.backP zb0 zh0 fp14_u (sc (sc (sc sn))) (fun _ h => h)
  ·
   intro hc_1
   replace zh0 := ifO_f hc_1 zh0
   refine WC.exit (En.then_exit (En.then_exit ?_))
   have hx := exitP ze0 zh0
   exact En.wk _ _ (sc sn) (fun _ h => h) (zK0_0 ((v1_0, v_0), fv_0) hx.symm)

theorem w_laws_markFlips {a_p0 : FlipsT} {k_p1 : Int} {r : Int × (List FlipT) × (List Int) × (List Int)} {q0_0 : Option Addr} {l0_0 k0_0 : Nat} {f0_0 : List Nat} {q0_1 : Option Addr} {l0_1 k0_1 : Nat} {f0_1 : List Nat} {q0_2 : Option Addr} {l0_2 k0_2 : Nat} {f0_2 : List Nat} (h : laws_markFlips a_p0 k_p1 = some r) {w0 w : World} {C : List Chunk} (hs0 : St w0 (Chunk.own tFlip f0_0 q0_0 l0_0 k0_0 a_p0.Pending :: Chunk.own tInt f0_1 q0_1 l0_1 k0_1 a_p0.Signalled :: Chunk.own tInt f0_2 q0_2 l0_2 k0_2 a_p0.Events :: C) w)  :
    Calls Tryz.prog 15 #[.agg #[.slice q0_0 l0_0 k0_0, .slice q0_1 l0_1 k0_1, .int .i64 a_p0.Next, .slice q0_2 l0_2 k0_2], .int .i64 k_p1] w (fun en w' => ∃ rv G, en = .returned rv ∧ (∃ (g0_0 : List Nat) (g0_1 : List Nat) (g0_2 : List Nat), rv = .int .i64 r.1 ∧ G = Chunk.own tFlip g0_0 q0_0 l0_0 k0_0 r.2.1 :: Chunk.own tInt g0_1 q0_1 l0_1 k0_1 r.2.2.1 :: Chunk.own tInt g0_2 q0_2 l0_2 k0_2 r.2.2.2 :: C) ∧ St w0 G w') := by
 unfold laws_markFlips at h
 refine enterF hs0 (vs := [_, _]) Tryz.func15 rfl rfl rfl rfl ?_
 refine WC.sr ?_
 refine WL.heavy rfl rfl rfl (OpH.box rfl rfl ?_)
 intro b0_0
 refine ag ?_
 refine WL.nil (En.next (WC.seq ?_))
 obtain ⟨⟨x1_3a, x1_3b⟩, e1_3, h⟩ := bnd h
 refine WC.region ?_
 refine sp (OpV.fieldAddr rfl fo_35_0) ?_
 refine sp (OpV.loadBox rfl pt_33 mq0 rfl) ?_
 refine mv ?_
 refine WL.wkF (fun _ h => h.pm 1) ?_
 refine WL.heavy rfl rfl rfl (OpH.callX (ec rfl (ec rfl e0)) ca_55 (fun w hs => w_laws_markFlipS e1_3 hs) ?_)
 rintro _ _ ⟨g1_300, rfl, rfl⟩
 refine ag ?_
 refine WL.nil (En.next (WC.seq ?_))
 obtain ⟨⟨x2_3a, x2_3b⟩, e2_3, h⟩ := bnd h
 refine WC.region ?_
 refine sp (OpV.fieldAddr rfl fo_35_1) ?_
 refine sp (OpV.loadBox rfl pt_23 mq1 rfl) ?_
 refine mv ?_
 refine WL.wkF (fun _ h => h.pm 2) ?_
 refine WL.heavy rfl rfl rfl (OpH.callX (ec rfl (ec rfl e0)) ca_56 (fun w hs => w_laws_markIntS e2_3 hs) ?_)
 rintro _ _ ⟨g2_300, rfl, rfl⟩
 refine ag ?_
 refine WL.nil (En.next (WC.seq ?_))
 obtain ⟨⟨x3_3a, x3_3b⟩, e3_3, h⟩ := bnd h
 refine WC.region ?_
 refine sp (OpV.fieldAddr rfl fo_35_3) ?_
 refine sp (OpV.loadBox rfl pt_23 mq2 rfl) ?_
 refine mv ?_
 refine WL.wkF (fun _ h => h.pm 3) ?_
 refine WL.heavy rfl rfl rfl (OpH.callX (ec rfl (ec rfl e0)) ca_56 (fun w hs => w_laws_markIntS e3_3 hs) ?_)
 rintro _ _ ⟨g3_300, rfl, rfl⟩
 refine ag ?_
 refine WL.nil (En.next (WC.sr ?_))
 refine mv ?_
 refine ag ?_
 refine WL.nil (En.next (WC.ret ?_))
 refine En.ret1 rfl (Res.tmp rfl) ?_
 obtain rfl := Option.some.inj h
 intro w' hs
 have hs := (((hs).pm 1).pm 2).sub (.cons_cons _ (.cons_cons _ (.cons_cons _ (.cons _ (List.Sublist.refl _)))))
 exact ⟨_, _, rfl, ⟨g1_300, g2_300, g3_300, rfl, rfl⟩, hs⟩

theorem w_laws_markColorMap {a_p0 : ColorMapT} {k_p1 : Int} {r : Int × (List Int) × (List Int)} {q0_0 : Option Addr} {l0_0 k0_0 : Nat} {f0_0 : List Nat} {q0_1 : Option Addr} {l0_1 k0_1 : Nat} {f0_1 : List Nat} (h : laws_markColorMap a_p0 k_p1 = some r) {w0 w : World} {C : List Chunk} (hs0 : St w0 (Chunk.own tInt f0_0 q0_0 l0_0 k0_0 a_p0.Matrix :: Chunk.own tInt f0_1 q0_1 l0_1 k0_1 a_p0.Curve :: C) w)  :
    Calls Tryz.prog 58 #[.agg #[.slice q0_0 l0_0 k0_0, .slice q0_1 l0_1 k0_1], .int .i64 k_p1] w (fun en w' => ∃ rv G, en = .returned rv ∧ (∃ (g0_0 : List Nat) (g0_1 : List Nat), rv = .int .i64 r.1 ∧ G = Chunk.own tInt g0_0 q0_0 l0_0 k0_0 r.2.1 :: Chunk.own tInt g0_1 q0_1 l0_1 k0_1 r.2.2 :: C) ∧ St w0 G w') := by
 unfold laws_markColorMap at h
 refine enterF hs0 (vs := [_, _]) Tryz.func58 rfl rfl rfl rfl ?_
 refine WC.sr ?_
 refine WL.heavy rfl rfl rfl (OpH.box rfl rfl ?_)
 intro b0_0
 refine ag ?_
 refine WL.nil (En.next (WC.seq ?_))
 obtain ⟨⟨x1_3a, x1_3b⟩, e1_3, h⟩ := bnd h
 refine WC.region ?_
 refine sp (OpV.fieldAddr rfl fo_37_0) ?_
 refine sp (OpV.loadBox rfl pt_23 mq0 rfl) ?_
 refine mv ?_
 refine WL.wkF (fun _ h => h.pm 1) ?_
 refine WL.heavy rfl rfl rfl (OpH.callX (ec rfl (ec rfl e0)) ca_56 (fun w hs => w_laws_markIntS e1_3 hs) ?_)
 rintro _ _ ⟨g1_300, rfl, rfl⟩
 refine ag ?_
 refine WL.nil (En.next (WC.seq ?_))
 obtain ⟨⟨x2_3a, x2_3b⟩, e2_3, h⟩ := bnd h
 refine WC.region ?_
 refine sp (OpV.fieldAddr rfl fo_37_1) ?_
 refine sp (OpV.loadBox rfl pt_23 mq1 rfl) ?_
 refine mv ?_
 refine WL.wkF (fun _ h => h.pm 2) ?_
 refine WL.heavy rfl rfl rfl (OpH.callX (ec rfl (ec rfl e0)) ca_56 (fun w hs => w_laws_markIntS e2_3 hs) ?_)
 rintro _ _ ⟨g2_300, rfl, rfl⟩
 refine ag ?_
 refine WL.nil (En.next (WC.sr ?_))
 refine mv ?_
 refine ag ?_
 refine WL.nil (En.next (WC.ret ?_))
 refine En.ret1 rfl (Res.tmp rfl) ?_
 obtain rfl := Option.some.inj h
 intro w' hs
 have hs := ((hs).pm 1).sub (.cons_cons _ (.cons_cons _ (.cons _ (List.Sublist.refl _))))
 exact ⟨_, _, rfl, ⟨g1_300, g2_300, rfl, rfl⟩, hs⟩

theorem w_laws_markCrtc {a_p0 : CrtcT} {k_p1 : Int} {r : Int × (List PlaneT) × (List Int) × (List Int)} {q0_0 : Option Addr} {l0_0 k0_0 : Nat} {f0_0 : List Nat} {q0_1 : Option Addr} {l0_1 k0_1 : Nat} {f0_1 : List Nat} {q0_2 : Option Addr} {l0_2 k0_2 : Nat} {f0_2 : List Nat} (h : laws_markCrtc a_p0 k_p1 = some r) {w0 w : World} {C : List Chunk} (hs0 : St w0 (Chunk.own tPlane f0_0 q0_0 l0_0 k0_0 a_p0.Planes :: Chunk.own tInt f0_1 q0_1 l0_1 k0_1 a_p0.Color.Matrix :: Chunk.own tInt f0_2 q0_2 l0_2 k0_2 a_p0.Color.Curve :: C) w)  :
    Calls Tryz.prog 16 #[.agg #[.int .i64 a_p0.W, .int .i64 a_p0.H, .slice q0_0 l0_0 k0_0, .slice q0_1 l0_1 k0_1, .slice q0_2 l0_2 k0_2], .int .i64 k_p1] w (fun en w' => ∃ rv G, en = .returned rv ∧ (∃ (g0_0 : List Nat) (g0_1 : List Nat) (g0_2 : List Nat), rv = .int .i64 r.1 ∧ G = Chunk.own tPlane g0_0 q0_0 l0_0 k0_0 r.2.1 :: Chunk.own tInt g0_1 q0_1 l0_1 k0_1 r.2.2.1 :: Chunk.own tInt g0_2 q0_2 l0_2 k0_2 r.2.2.2 :: C) ∧ St w0 G w') := by
 unfold laws_markCrtc at h
 refine enterF hs0 (vs := [_, _]) Tryz.func16 rfl rfl rfl rfl ?_
 refine WC.sr ?_
 refine WL.heavy rfl rfl rfl (OpH.box rfl rfl ?_)
 intro b0_0
 refine ag ?_
 refine WL.nil (En.next (WC.seq ?_))
 obtain ⟨⟨x1_3a, x1_3b⟩, e1_3, h⟩ := bnd h
 refine WC.region ?_
 refine sp (OpV.fieldAddr rfl fo_39_2) ?_
 refine sp (OpV.loadBox rfl pt_36 mq0 rfl) ?_
 refine mv ?_
 refine WL.wkF (fun _ h => h.pm 1) ?_
 refine WL.heavy rfl rfl rfl (OpH.callX (ec rfl (ec rfl e0)) ca_57 (fun w hs => w_laws_markPlaneS e1_3 hs) ?_)
 rintro _ _ ⟨g1_300, rfl, rfl⟩
 refine ag ?_
 refine WL.nil (En.next (WC.seq ?_))
 obtain ⟨⟨x2_3a, x2_3b, x2_3c⟩, e2_3, h⟩ := bnd h
 refine WC.region ?_
 refine sp (OpV.fieldAddr rfl fo_39_3) ?_
 refine sp (OpV.loadPart rfl mq1 ag_37 rfl rfl) ?_
 refine mv ?_
 refine WL.wkF (fun _ h => h.pm 3) ?_
 refine WL.wkF (fun _ h => h.pm 3) ?_
 refine WL.heavy rfl rfl rfl (OpH.callX (ec rfl (ec rfl e0)) ca_58 (fun w hs => w_laws_markColorMap e2_3 hs) ?_)
 rintro _ _ ⟨g2_300, g2_301, rfl, rfl⟩
 refine ag ?_
 refine WL.nil (En.next (WC.sr ?_))
 refine mv ?_
 refine ag ?_
 refine WL.nil (En.next (WC.ret ?_))
 refine En.ret1 rfl (Res.tmp rfl) ?_
 obtain rfl := Option.some.inj h
 intro w' hs
 have hs := ((((hs).pm 1).pm 1).pm 2).sub (.cons_cons _ (.cons_cons _ (.cons_cons _ (.cons _ (List.Sublist.refl _)))))
 exact ⟨_, _, rfl, ⟨g1_300, g2_300, g2_301, rfl, rfl⟩, hs⟩

theorem w_laws_heldIntS {a_p0 : List Int} {k_p1 : Int} {r : Int} {q0_0 : Option Addr} {l0_0 k0_0 : Nat} (h : laws_heldIntS a_p0 k_p1 = some r) {w : World} (r0_0 : Rd tInt w q0_0 l0_0 k0_0 a_p0)   :
    Calls Tryz.prog 60 #[.slice q0_0 l0_0 k0_0, .int .i64 k_p1] w (fun en w' => en = .returned (.int .i64 r) ∧ Ext w w') := by
 obtain rfl := r0_0.1
 unfold laws_heldIntS at h
 refine enter (vs := [_, _]) Tryz.func60 rfl rfl rfl rfl ?_
 refine WC.sr ?_
 refine ag ?_
 refine WL.nil (En.next (WC.seq (WC.sr ?_)))
 refine ag ?_
 refine WL.nil (En.next (WC.block ?_))
 obtain ⟨zy0, ezy0, h⟩ := bnd h
 refine WC.cut (X := (Int) × (Unit)) (.exit 0) (fun x => zy0 = .inl x.1) (fun x => match x with | (k_0e, ()) => [(1, .int .i64 k_0e)]) (fun x => match x with | (k_0e, ()) => []) ?_ ?_
 ·
  rintro ⟨k_0e, ⟨⟩⟩ hx
  replace hx : .inl k_0e = zy0 := hx.symm
  subst hx
  replace h := fork_l h
  show En _ _ _ _ [(1, .int .i64 k_0e)] []
  refine En.block_exit (En.next (WC.sr ?_))
  refine mv ?_
  refine ag ?_
  refine WL.nil (En.next (WC.ret ?_))
  refine En.ret1 rfl (Res.tmp rfl) ?_
  obtain rfl := Option.some.inj h
  intro w' hs
  exact ⟨rfl, hs.below⟩
 ·
  intro zK0_0
  refine WC.loopP (G := Unit) (fun s g => match s, g with | (k_0, i_0), () => [(0, .slice q0_0 a_p0.length k0_0), (1, .int .i64 k_0), (5, .int .i64 i_0)]) (fun s g => match s, g with | (k_0, i_0), () => []) (k_p1, 0) () ezy0 (by exact sc (sc (sc sn))) (by exact (fun _ h => h)) ?_
  rintro zm0 ⟨k_0, i_0⟩ ⟨⟩ zo0 zf0 zb0 ze0
  have zh0 : laws_heldIntS_L0 a_p0 k_0 i_0 = some zo0 := zf0
  unfold laws_heldIntS_L0 at zh0
  show WC _ _ _ _ _ [(0, .slice q0_0 a_p0.length k0_0), (1, .int .i64 k_0), (5, .int .i64 i_0)] []
  refine WC.seq (WC.sr ?_)
  refine mv ?_
  refine mv ?_
  refine sp (OpV.len rfl si_23 rfl) ?_
  refine sp (OpV.lss rfl rfl) ?_
  refine WL.nil (En.next ?_)
  refine WC.cond rfl ?_ ?_
  ·
   intro hc_1
   replace zh0 := ifO_t hc_1 zh0
   refine WC.skip (En.next (WC.seq (WC.block (WC.seq (WC.seq ?_)))))
   obtain ⟨x4_2, e4_2, zh0⟩ := bnd zh0
   obtain ⟨g4_2, o4_2, _, ha4_2, rfl, hd4_2⟩ := Rd.atIdx r0_0 e4_2
   replace hd4_2 : ∀ (j : Nat) v, ([.int .i64 x4_2] : List Value)[j]? = some v → w.cell? ⟨g4_2, o4_2 + i_0.toNat * 1 + j, .none⟩ = some v := hd4_2
   refine WC.region ?_
   refine mv ?_
   refine mv ?_
   refine sp (OpV.idxA rfl rfl se_23 ha4_2 ⟨(idx_some e4_2).1, (idx_some e4_2).2.1⟩) ?_
   refine sp (OpV.load1 rfl pt_3 (fun w hs => hs.cell (hd4_2 0 _ rfl))) ?_
   refine mv ?_
   refine sp (OpV.neq rfl rfl) ?_
   refine WL.nil (En.next ?_)
   refine WC.cond rfl ?_ ?_
   ·
    intro hc_2
    replace zh0 := ifO_t hc_2 zh0
    refine WC.sr ?_
    refine ag ?_
    refine WL.nil (En.next (WC.ret (En.then_ret (En.block_ret (En.then_ret (En.then_ret (En.block_ret (En.then_ret ?_))))))))
    refine En.ret1 rfl (Res.tmp rfl) ?_
    have hx := exitP ze0 zh0
    subst hx
    replace h := fork_r h
    obtain rfl := Option.some.inj h
    intro w' hs
    exact ⟨rfl, hs.below⟩
   ·
    intro hc_2
    replace zh0 := ifO_f hc_2 zh0
    refine WC.skip (En.next (WC.region ?_))
    refine mv ?_
    refine sp (OpV.addR rfl rfl) ?_
    refine ag ?_
    refine WL.nil (En.block_norm (En.next (WC.region ?_)))
    refine mv ?_
    refine sp (OpV.addR rfl rfl) ?_
    refine ag ?_
    refine WL.nil ?_
    exact En.backP zb0 zh0 () (sc (sc (sc sn))) (fun _ h => h)
  ·
   intro hc_1
   replace zh0 := ifO_f hc_1 zh0
   refine WC.exit (En.then_exit (En.then_exit ?_))
   have hx := exitP ze0 zh0
   exact En.wk _ _ (sc sn) (fun _ h => h) (zK0_0 (k_0, ()) hx.symm)

theorem w_laws_heldPlaneS {a_p0 : List PlaneT} {a_p1 : Int} {r : Int} {q0_0 : Option Addr} {l0_0 k0_0 : Nat} (h : laws_heldPlaneS a_p0 a_p1 = some r) {w : World} (r0_0 : Rd tPlane w q0_0 l0_0 k0_0 a_p0)   :
    Calls Tryz.prog 61 #[.slice q0_0 l0_0 k0_0, .int .i64 a_p1] w (fun en w' => en = .returned (.int .i64 r) ∧ Ext w w') := by
 obtain rfl := r0_0.1
 unfold laws_heldPlaneS at h
 refine enter (vs := [_, _]) Tryz.func61 rfl rfl rfl rfl ?_
 refine WC.sr ?_
 refine ag ?_
 refine WL.nil (En.next (WC.seq (WC.sr ?_)))
 refine ag ?_
 refine WL.nil (En.next (WC.block ?_))
 obtain ⟨zy0, ezy0, h⟩ := bnd h
 refine WC.cut (X := (Int) × (Unit)) (.exit 0) (fun x => zy0 = .inl x.1) (fun x => match x with | (v_0e, ()) => [(1, .int .i64 v_0e)]) (fun x => match x with | (v_0e, ()) => []) ?_ ?_
 ·
  rintro ⟨v_0e, ⟨⟩⟩ hx
  replace hx : .inl v_0e = zy0 := hx.symm
  subst hx
  replace h := fork_l h
  show En _ _ _ _ [(1, .int .i64 v_0e)] []
  refine En.block_exit (En.next (WC.sr ?_))
  refine mv ?_
  refine ag ?_
  refine WL.nil (En.next (WC.ret ?_))
  refine En.ret1 rfl (Res.tmp rfl) ?_
  obtain rfl := Option.some.inj h
  intro w' hs
  exact ⟨rfl, hs.below⟩
 ·
  intro zK0_0
  refine WC.loopP (G := Unit) (fun s g => match s, g with | (v_0, v1_0), () => [(0, .slice q0_0 a_p0.length k0_0), (1, .int .i64 v_0), (5, .int .i64 v1_0)]) (fun s g => match s, g with | (v_0, v1_0), () => []) (a_p1, 0) () ezy0 (by exact sc (sc (sc sn))) (by exact (fun _ h => h)) ?_
  rintro zm0 ⟨v_0, v1_0⟩ ⟨⟩ zo0 zf0 zb0 ze0
  have zh0 : laws_heldPlaneS_L0 a_p0 v_0 v1_0 = some zo0 := zf0
  unfold laws_heldPlaneS_L0 at zh0
  show WC _ _ _ _ _ [(0, .slice q0_0 a_p0.length k0_0), (1, .int .i64 v_0), (5, .int .i64 v1_0)] []
  refine WC.seq (WC.sr ?_)
  refine mv ?_
  refine mv ?_
  refine sp (OpV.len rfl si_36 rfl) ?_
  refine sp (OpV.lss rfl rfl) ?_
  refine WL.nil (En.next ?_)
  refine WC.cond rfl ?_ ?_
  ·
   intro hc_1
   replace zh0 := ifO_t hc_1 zh0
   refine WC.skip (En.next (WC.seq (WC.block (WC.seq (WC.seq ?_)))))
   obtain ⟨x4_2, e4_2, zh0⟩ := bnd zh0
   obtain ⟨g4_2, o4_2, _, ha4_2, ⟨a4_2_1, c4_2_1, rfl, r4_2_1⟩, hd4_2⟩ := Rd.atIdx r0_0 e4_2
   replace hd4_2 : ∀ (j : Nat) v, ([.bool x4_2.On, .int .i64 x4_2.X, .int .i64 x4_2.Y, .int .i64 x4_2.W, .int .i64 x4_2.H, .int .i64 x4_2.Layout, .slice a4_2_1 x4_2.Words.length c4_2_1, .int .i64 x4_2.Alpha, .int .i64 x4_2.Orient, .int .i64 x4_2.ToW, .int .i64 x4_2.ToH] : List Value)[j]? = some v → w.cell? ⟨g4_2, o4_2 + v1_0.toNat * 11 + j, .none⟩ = some v := hd4_2
   refine WC.region ?_
   refine mv ?_
   refine mv ?_
   refine sp (OpV.idxA rfl rfl se_36 ha4_2 ⟨(idx_some e4_2).1, (idx_some e4_2).2.1⟩) ?_
   refine sp (OpV.fieldAddr rfl fo_61_0) ?_
   refine sp (OpV.load1 rfl pt_4 (fun w hs => hs.cell (hd4_2 0 _ rfl))) ?_
   refine mv ?_
   refine sp (OpV.remR rfl rfl rfl) ?_
   refine sp (OpV.eql rfl rfl) ?_
   refine sp (OpV.bneq rfl rfl ub_4) ?_
   refine WL.nil (En.next ?_)
   refine WC.cond rfl ?_ ?_
   ·
    intro hc_2
    replace zh0 := ifO_t hc_2 zh0
    refine WC.sr ?_
    refine ag ?_
    refine WL.nil (En.next (WC.ret (En.then_ret (En.block_ret (En.then_ret (En.then_ret (En.block_ret (En.then_ret ?_))))))))
    refine En.ret1 rfl (Res.tmp rfl) ?_
    have hx := exitP ze0 zh0
    subst hx
    replace h := fork_r h
    obtain rfl := Option.some.inj h
    intro w' hs
    exact ⟨rfl, hs.below⟩
   ·
    intro hc_2
    replace zh0 := ifO_f hc_2 zh0
    refine WC.skip (En.next (WC.sr ?_))
    refine mv ?_
    refine sp (OpV.addR rfl rfl) ?_
    refine ag ?_
    refine WL.nil (En.next (WC.seq (WC.seq ?_)))
    obtain ⟨x7_2, e7_2, zh0⟩ := bnd zh0
    obtain ⟨g7_2, o7_2, _, ha7_2, ⟨a7_2_1, c7_2_1, rfl, r7_2_1⟩, hd7_2⟩ := Rd.atIdx r0_0 e7_2
    replace hd7_2 : ∀ (j : Nat) v, ([.bool x7_2.On, .int .i64 x7_2.X, .int .i64 x7_2.Y, .int .i64 x7_2.W, .int .i64 x7_2.H, .int .i64 x7_2.Layout, .slice a7_2_1 x7_2.Words.length c7_2_1, .int .i64 x7_2.Alpha, .int .i64 x7_2.Orient, .int .i64 x7_2.ToW, .int .i64 x7_2.ToH] : List Value)[j]? = some v → w.cell? ⟨g7_2, o7_2 + v1_0.toNat * 11 + j, .none⟩ = some v := hd7_2
    refine WC.region ?_
    refine mv ?_
    refine mv ?_
    refine sp (OpV.idxA rfl rfl se_36 ha7_2 ⟨(idx_some e7_2).1, (idx_some e7_2).2.1⟩) ?_
    refine sp (OpV.fieldAddr rfl fo_61_1) ?_
    refine sp (OpV.load1 rfl pt_3 (fun w hs => hs.cell (hd7_2 1 _ rfl))) ?_
    refine mv ?_
    refine sp (OpV.neq rfl rfl) ?_
    refine WL.nil (En.next ?_)
    refine WC.cond rfl ?_ ?_
    ·
     intro hc_3
     replace zh0 := ifO_t hc_3 zh0
     refine WC.sr ?_
     refine ag ?_
     refine WL.nil (En.next (WC.ret (En.then_ret (En.block_ret (En.then_ret (En.then_ret (En.block_ret (En.then_ret ?_))))))))
     refine En.ret1 rfl (Res.tmp rfl) ?_
     have hx := exitP ze0 zh0
     subst hx
     replace h := fork_r h
     obtain rfl := Option.some.inj h
     intro w' hs
     exact ⟨rfl, hs.below⟩
    ·
     intro hc_3
     replace zh0 := ifO_f hc_3 zh0
     refine WC.skip (En.next (WC.sr ?_))
     refine mv ?_
     refine sp (OpV.addR rfl rfl) ?_
     refine ag ?_
     refine WL.nil (En.next (WC.seq (WC.seq ?_)))
     obtain ⟨x10_2, e10_2, zh0⟩ := bnd zh0
     obtain ⟨g10_2, o10_2, _, ha10_2, ⟨a10_2_1, c10_2_1, rfl, r10_2_1⟩, hd10_2⟩ := Rd.atIdx r0_0 e10_2
     replace hd10_2 : ∀ (j : Nat) v, ([.bool x10_2.On, .int .i64 x10_2.X, .int .i64 x10_2.Y, .int .i64 x10_2.W, .int .i64 x10_2.H, .int .i64 x10_2.Layout, .slice a10_2_1 x10_2.Words.length c10_2_1, .int .i64 x10_2.Alpha, .int .i64 x10_2.Orient, .int .i64 x10_2.ToW, .int .i64 x10_2.ToH] : List Value)[j]? = some v → w.cell? ⟨g10_2, o10_2 + v1_0.toNat * 11 + j, .none⟩ = some v := hd10_2
     refine WC.region ?_
     refine mv ?_
     refine mv ?_
     refine sp (OpV.idxA rfl rfl se_36 ha10_2 ⟨(idx_some e10_2).1, (idx_some e10_2).2.1⟩) ?_
     refine sp (OpV.fieldAddr rfl fo_61_2) ?_
     refine sp (OpV.load1 rfl pt_3 (fun w hs => hs.cell (hd10_2 2 _ rfl))) ?_
     refine mv ?_
     refine sp (OpV.neq rfl rfl) ?_
     refine WL.nil (En.next ?_)
     refine WC.cond rfl ?_ ?_
     ·
      intro hc_4
      replace zh0 := ifO_t hc_4 zh0
      refine WC.sr ?_
      refine ag ?_
      refine WL.nil (En.next (WC.ret (En.then_ret (En.block_ret (En.then_ret (En.then_ret (En.block_ret (En.then_ret ?_))))))))
      refine En.ret1 rfl (Res.tmp rfl) ?_
      have hx := exitP ze0 zh0
      subst hx
      replace h := fork_r h
      obtain rfl := Option.some.inj h
      intro w' hs
      exact ⟨rfl, hs.below⟩
     ·
      intro hc_4
      replace zh0 := ifO_f hc_4 zh0
      refine WC.skip (En.next (WC.sr ?_))
      refine mv ?_
      refine sp (OpV.addR rfl rfl) ?_
      refine ag ?_
      refine WL.nil (En.next (WC.seq (WC.seq ?_)))
      obtain ⟨x13_2, e13_2, zh0⟩ := bnd zh0
      obtain ⟨g13_2, o13_2, _, ha13_2, ⟨a13_2_1, c13_2_1, rfl, r13_2_1⟩, hd13_2⟩ := Rd.atIdx r0_0 e13_2
      replace hd13_2 : ∀ (j : Nat) v, ([.bool x13_2.On, .int .i64 x13_2.X, .int .i64 x13_2.Y, .int .i64 x13_2.W, .int .i64 x13_2.H, .int .i64 x13_2.Layout, .slice a13_2_1 x13_2.Words.length c13_2_1, .int .i64 x13_2.Alpha, .int .i64 x13_2.Orient, .int .i64 x13_2.ToW, .int .i64 x13_2.ToH] : List Value)[j]? = some v → w.cell? ⟨g13_2, o13_2 + v1_0.toNat * 11 + j, .none⟩ = some v := hd13_2
      refine WC.region ?_
      refine mv ?_
      refine mv ?_
      refine sp (OpV.idxA rfl rfl se_36 ha13_2 ⟨(idx_some e13_2).1, (idx_some e13_2).2.1⟩) ?_
      refine sp (OpV.fieldAddr rfl fo_61_3) ?_
      refine sp (OpV.load1 rfl pt_3 (fun w hs => hs.cell (hd13_2 3 _ rfl))) ?_
      refine mv ?_
      refine sp (OpV.neq rfl rfl) ?_
      refine WL.nil (En.next ?_)
      refine WC.cond rfl ?_ ?_
      ·
       intro hc_5
       replace zh0 := ifO_t hc_5 zh0
       refine WC.sr ?_
       refine ag ?_
       refine WL.nil (En.next (WC.ret (En.then_ret (En.block_ret (En.then_ret (En.then_ret (En.block_ret (En.then_ret ?_))))))))
       refine En.ret1 rfl (Res.tmp rfl) ?_
       have hx := exitP ze0 zh0
       subst hx
       replace h := fork_r h
       obtain rfl := Option.some.inj h
       intro w' hs
       exact ⟨rfl, hs.below⟩
      ·
       intro hc_5
       replace zh0 := ifO_f hc_5 zh0
       refine WC.skip (En.next (WC.sr ?_))
       refine mv ?_
       refine sp (OpV.addR rfl rfl) ?_
       refine ag ?_
       refine WL.nil (En.next (WC.seq (WC.seq ?_)))
       obtain ⟨x16_2, e16_2, zh0⟩ := bnd zh0
       obtain ⟨g16_2, o16_2, _, ha16_2, ⟨a16_2_1, c16_2_1, rfl, r16_2_1⟩, hd16_2⟩ := Rd.atIdx r0_0 e16_2
       replace hd16_2 : ∀ (j : Nat) v, ([.bool x16_2.On, .int .i64 x16_2.X, .int .i64 x16_2.Y, .int .i64 x16_2.W, .int .i64 x16_2.H, .int .i64 x16_2.Layout, .slice a16_2_1 x16_2.Words.length c16_2_1, .int .i64 x16_2.Alpha, .int .i64 x16_2.Orient, .int .i64 x16_2.ToW, .int .i64 x16_2.ToH] : List Value)[j]? = some v → w.cell? ⟨g16_2, o16_2 + v1_0.toNat * 11 + j, .none⟩ = some v := hd16_2
       refine WC.region ?_
       refine mv ?_
       refine mv ?_
       refine sp (OpV.idxA rfl rfl se_36 ha16_2 ⟨(idx_some e16_2).1, (idx_some e16_2).2.1⟩) ?_
       refine sp (OpV.fieldAddr rfl fo_61_4) ?_
       refine sp (OpV.load1 rfl pt_3 (fun w hs => hs.cell (hd16_2 4 _ rfl))) ?_
       refine mv ?_
       refine sp (OpV.neq rfl rfl) ?_
       refine WL.nil (En.next ?_)
       refine WC.cond rfl ?_ ?_
       ·
        intro hc_6
        replace zh0 := ifO_t hc_6 zh0
        refine WC.sr ?_
        refine ag ?_
        refine WL.nil (En.next (WC.ret (En.then_ret (En.block_ret (En.then_ret (En.then_ret (En.block_ret (En.then_ret ?_))))))))
        refine En.ret1 rfl (Res.tmp rfl) ?_
        have hx := exitP ze0 zh0
        subst hx
        replace h := fork_r h
        obtain rfl := Option.some.inj h
        intro w' hs
        exact ⟨rfl, hs.below⟩
       ·
        intro hc_6
        replace zh0 := ifO_f hc_6 zh0
        refine WC.skip (En.next (WC.sr ?_))
        refine mv ?_
        refine sp (OpV.addR rfl rfl) ?_
        refine ag ?_
        refine WL.nil (En.next (WC.seq (WC.seq ?_)))
        obtain ⟨x19_2, e19_2, zh0⟩ := bnd zh0
        obtain ⟨g19_2, o19_2, _, ha19_2, ⟨a19_2_1, c19_2_1, rfl, r19_2_1⟩, hd19_2⟩ := Rd.atIdx r0_0 e19_2
        replace hd19_2 : ∀ (j : Nat) v, ([.bool x19_2.On, .int .i64 x19_2.X, .int .i64 x19_2.Y, .int .i64 x19_2.W, .int .i64 x19_2.H, .int .i64 x19_2.Layout, .slice a19_2_1 x19_2.Words.length c19_2_1, .int .i64 x19_2.Alpha, .int .i64 x19_2.Orient, .int .i64 x19_2.ToW, .int .i64 x19_2.ToH] : List Value)[j]? = some v → w.cell? ⟨g19_2, o19_2 + v1_0.toNat * 11 + j, .none⟩ = some v := hd19_2
        refine WC.region ?_
        refine mv ?_
        refine mv ?_
        refine sp (OpV.idxA rfl rfl se_36 ha19_2 ⟨(idx_some e19_2).1, (idx_some e19_2).2.1⟩) ?_
        refine sp (OpV.fieldAddr rfl fo_61_5) ?_
        refine sp (OpV.load1 rfl pt_3 (fun w hs => hs.cell (hd19_2 5 _ rfl))) ?_
        refine mv ?_
        refine sp (OpV.neq rfl rfl) ?_
        refine WL.nil (En.next ?_)
        refine WC.cond rfl ?_ ?_
        ·
         intro hc_7
         replace zh0 := ifO_t hc_7 zh0
         refine WC.sr ?_
         refine ag ?_
         refine WL.nil (En.next (WC.ret (En.then_ret (En.block_ret (En.then_ret (En.then_ret (En.block_ret (En.then_ret ?_))))))))
         refine En.ret1 rfl (Res.tmp rfl) ?_
         have hx := exitP ze0 zh0
         subst hx
         replace h := fork_r h
         obtain rfl := Option.some.inj h
         intro w' hs
         exact ⟨rfl, hs.below⟩
        ·
         intro hc_7
         replace zh0 := ifO_f hc_7 zh0
         refine WC.skip (En.next (WC.sr ?_))
         refine mv ?_
         refine sp (OpV.addR rfl rfl) ?_
         refine ag ?_
         refine WL.nil (En.next (WC.seq ?_))
         obtain ⟨x22_2, e22_2, zh0⟩ := bnd zh0
         obtain ⟨g22_2, o22_2, _, ha22_2, ⟨a22_2_1, c22_2_1, rfl, r22_2_1⟩, hd22_2⟩ := Rd.atIdx r0_0 e22_2
         replace hd22_2 : ∀ (j : Nat) v, ([.bool x22_2.On, .int .i64 x22_2.X, .int .i64 x22_2.Y, .int .i64 x22_2.W, .int .i64 x22_2.H, .int .i64 x22_2.Layout, .slice a22_2_1 x22_2.Words.length c22_2_1, .int .i64 x22_2.Alpha, .int .i64 x22_2.Orient, .int .i64 x22_2.ToW, .int .i64 x22_2.ToH] : List Value)[j]? = some v → w.cell? ⟨g22_2, o22_2 + v1_0.toNat * 11 + j, .none⟩ = some v := hd22_2
         obtain ⟨x22_6, e22_6, zh0⟩ := bnd zh0
         refine WC.region ?_
         refine mv ?_
         refine mv ?_
         refine sp (OpV.idxA rfl rfl se_36 ha22_2 ⟨(idx_some e22_2).1, (idx_some e22_2).2.1⟩) ?_
         refine sp (OpV.fieldAddr rfl fo_61_6) ?_
         refine sp (OpV.load1 rfl pt_23 (fun w hs => hs.cell (hd22_2 6 _ rfl))) ?_
         refine mv ?_
         refine sp (OpV.call (ec rfl (ec rfl e0)) ca_60 (fun w hs => w_laws_heldIntS e22_6 (r22_2_1.ext hs.below))) ?_
         refine ag ?_
         refine WL.nil (En.next (WC.seq (WC.sr ?_)))
         refine mv ?_
         refine sp (OpV.lss rfl rfl) ?_
         refine WL.nil (En.next ?_)
         refine WC.cond rfl ?_ ?_
         ·
          intro hc_8
          replace zh0 := ifO_t hc_8 zh0
          refine WC.sr ?_
          refine ag ?_
          refine WL.nil (En.next (WC.ret (En.then_ret (En.block_ret (En.then_ret (En.then_ret (En.block_ret (En.then_ret ?_))))))))
          refine En.ret1 rfl (Res.tmp rfl) ?_
          have hx := exitP ze0 zh0
          subst hx
          replace h := fork_r h
          obtain rfl := Option.some.inj h
          intro w' hs
          exact ⟨rfl, hs.below⟩
         ·
          intro hc_8
          replace zh0 := ifO_f hc_8 zh0
          refine WC.skip (En.next (WC.seq (WC.seq ?_)))
          obtain ⟨x25_2, e25_2, zh0⟩ := bnd zh0
          obtain ⟨g25_2, o25_2, _, ha25_2, ⟨a25_2_1, c25_2_1, rfl, r25_2_1⟩, hd25_2⟩ := Rd.atIdx r0_0 e25_2
          replace hd25_2 : ∀ (j : Nat) v, ([.bool x25_2.On, .int .i64 x25_2.X, .int .i64 x25_2.Y, .int .i64 x25_2.W, .int .i64 x25_2.H, .int .i64 x25_2.Layout, .slice a25_2_1 x25_2.Words.length c25_2_1, .int .i64 x25_2.Alpha, .int .i64 x25_2.Orient, .int .i64 x25_2.ToW, .int .i64 x25_2.ToH] : List Value)[j]? = some v → w.cell? ⟨g25_2, o25_2 + v1_0.toNat * 11 + j, .none⟩ = some v := hd25_2
          refine WC.region ?_
          refine mv ?_
          refine mv ?_
          refine sp (OpV.idxA rfl rfl se_36 ha25_2 ⟨(idx_some e25_2).1, (idx_some e25_2).2.1⟩) ?_
          refine sp (OpV.fieldAddr rfl fo_61_7) ?_
          refine sp (OpV.load1 rfl pt_3 (fun w hs => hs.cell (hd25_2 7 _ rfl))) ?_
          refine mv ?_
          refine sp (OpV.neq rfl rfl) ?_
          refine WL.nil (En.next ?_)
          refine WC.cond rfl ?_ ?_
          ·
           intro hc_9
           replace zh0 := ifO_t hc_9 zh0
           refine WC.sr ?_
           refine ag ?_
           refine WL.nil (En.next (WC.ret (En.then_ret (En.block_ret (En.then_ret (En.then_ret (En.block_ret (En.then_ret ?_))))))))
           refine En.ret1 rfl (Res.tmp rfl) ?_
           have hx := exitP ze0 zh0
           subst hx
           replace h := fork_r h
           obtain rfl := Option.some.inj h
           intro w' hs
           exact ⟨rfl, hs.below⟩
          ·
           intro hc_9
           replace zh0 := ifO_f hc_9 zh0
           refine WC.skip (En.next (WC.sr ?_))
           refine mv ?_
           refine sp (OpV.addR rfl rfl) ?_
           refine ag ?_
           refine WL.nil (En.next (WC.seq (WC.seq ?_)))
           obtain ⟨x28_2, e28_2, zh0⟩ := bnd zh0
           obtain ⟨g28_2, o28_2, _, ha28_2, ⟨a28_2_1, c28_2_1, rfl, r28_2_1⟩, hd28_2⟩ := Rd.atIdx r0_0 e28_2
           replace hd28_2 : ∀ (j : Nat) v, ([.bool x28_2.On, .int .i64 x28_2.X, .int .i64 x28_2.Y, .int .i64 x28_2.W, .int .i64 x28_2.H, .int .i64 x28_2.Layout, .slice a28_2_1 x28_2.Words.length c28_2_1, .int .i64 x28_2.Alpha, .int .i64 x28_2.Orient, .int .i64 x28_2.ToW, .int .i64 x28_2.ToH] : List Value)[j]? = some v → w.cell? ⟨g28_2, o28_2 + v1_0.toNat * 11 + j, .none⟩ = some v := hd28_2
           refine WC.region ?_
           refine mv ?_
           refine mv ?_
           refine sp (OpV.idxA rfl rfl se_36 ha28_2 ⟨(idx_some e28_2).1, (idx_some e28_2).2.1⟩) ?_
           refine sp (OpV.fieldAddr rfl fo_61_8) ?_
           refine sp (OpV.load1 rfl pt_3 (fun w hs => hs.cell (hd28_2 8 _ rfl))) ?_
           refine mv ?_
           refine sp (OpV.neq rfl rfl) ?_
           refine WL.nil (En.next ?_)
           refine WC.cond rfl ?_ ?_
           ·
            intro hc_10
            replace zh0 := ifO_t hc_10 zh0
            refine WC.sr ?_
            refine ag ?_
            refine WL.nil (En.next (WC.ret (En.then_ret (En.block_ret (En.then_ret (En.then_ret (En.block_ret (En.then_ret ?_))))))))
            refine En.ret1 rfl (Res.tmp rfl) ?_
            have hx := exitP ze0 zh0
            subst hx
            replace h := fork_r h
            obtain rfl := Option.some.inj h
            intro w' hs
            exact ⟨rfl, hs.below⟩
           ·
            intro hc_10
            replace zh0 := ifO_f hc_10 zh0
            refine WC.skip (En.next (WC.sr ?_))
            refine mv ?_
            refine sp (OpV.addR rfl rfl) ?_
            refine ag ?_
            refine WL.nil (En.next (WC.seq (WC.seq ?_)))
            obtain ⟨x31_2, e31_2, zh0⟩ := bnd zh0
            obtain ⟨g31_2, o31_2, _, ha31_2, ⟨a31_2_1, c31_2_1, rfl, r31_2_1⟩, hd31_2⟩ := Rd.atIdx r0_0 e31_2
            replace hd31_2 : ∀ (j : Nat) v, ([.bool x31_2.On, .int .i64 x31_2.X, .int .i64 x31_2.Y, .int .i64 x31_2.W, .int .i64 x31_2.H, .int .i64 x31_2.Layout, .slice a31_2_1 x31_2.Words.length c31_2_1, .int .i64 x31_2.Alpha, .int .i64 x31_2.Orient, .int .i64 x31_2.ToW, .int .i64 x31_2.ToH] : List Value)[j]? = some v → w.cell? ⟨g31_2, o31_2 + v1_0.toNat * 11 + j, .none⟩ = some v := hd31_2
            refine WC.region ?_
            refine mv ?_
            refine mv ?_
            refine sp (OpV.idxA rfl rfl se_36 ha31_2 ⟨(idx_some e31_2).1, (idx_some e31_2).2.1⟩) ?_
            refine sp (OpV.fieldAddr rfl fo_61_9) ?_
            refine sp (OpV.load1 rfl pt_3 (fun w hs => hs.cell (hd31_2 9 _ rfl))) ?_
            refine mv ?_
            refine sp (OpV.neq rfl rfl) ?_
            refine WL.nil (En.next ?_)
            refine WC.cond rfl ?_ ?_
            ·
             intro hc_11
             replace zh0 := ifO_t hc_11 zh0
             refine WC.sr ?_
             refine ag ?_
             refine WL.nil (En.next (WC.ret (En.then_ret (En.block_ret (En.then_ret (En.then_ret (En.block_ret (En.then_ret ?_))))))))
             refine En.ret1 rfl (Res.tmp rfl) ?_
             have hx := exitP ze0 zh0
             subst hx
             replace h := fork_r h
             obtain rfl := Option.some.inj h
             intro w' hs
             exact ⟨rfl, hs.below⟩
            ·
             intro hc_11
             replace zh0 := ifO_f hc_11 zh0
             refine WC.skip (En.next (WC.sr ?_))
             refine mv ?_
             refine sp (OpV.addR rfl rfl) ?_
             refine ag ?_
             refine WL.nil (En.next (WC.seq (WC.seq ?_)))
             obtain ⟨x34_2, e34_2, zh0⟩ := bnd zh0
             obtain ⟨g34_2, o34_2, _, ha34_2, ⟨a34_2_1, c34_2_1, rfl, r34_2_1⟩, hd34_2⟩ := Rd.atIdx r0_0 e34_2
             replace hd34_2 : ∀ (j : Nat) v, ([.bool x34_2.On, .int .i64 x34_2.X, .int .i64 x34_2.Y, .int .i64 x34_2.W, .int .i64 x34_2.H, .int .i64 x34_2.Layout, .slice a34_2_1 x34_2.Words.length c34_2_1, .int .i64 x34_2.Alpha, .int .i64 x34_2.Orient, .int .i64 x34_2.ToW, .int .i64 x34_2.ToH] : List Value)[j]? = some v → w.cell? ⟨g34_2, o34_2 + v1_0.toNat * 11 + j, .none⟩ = some v := hd34_2
             refine WC.region ?_
             refine mv ?_
             refine mv ?_
             refine sp (OpV.idxA rfl rfl se_36 ha34_2 ⟨(idx_some e34_2).1, (idx_some e34_2).2.1⟩) ?_
             refine sp (OpV.fieldAddr rfl fo_61_10) ?_
             refine sp (OpV.load1 rfl pt_3 (fun w hs => hs.cell (hd34_2 10 _ rfl))) ?_
             refine mv ?_
             refine sp (OpV.neq rfl rfl) ?_
             refine WL.nil (En.next ?_)
             refine WC.cond rfl ?_ ?_
             ·
              intro hc_12
              replace zh0 := ifO_t hc_12 zh0
              refine WC.sr ?_
              refine ag ?_
              refine WL.nil (En.next (WC.ret (En.then_ret (En.block_ret (En.then_ret (En.then_ret (En.block_ret (En.then_ret ?_))))))))
              refine En.ret1 rfl (Res.tmp rfl) ?_
              have hx := exitP ze0 zh0
              subst hx
              replace h := fork_r h
              obtain rfl := Option.some.inj h
              intro w' hs
              exact ⟨rfl, hs.below⟩
             ·
              intro hc_12
              replace zh0 := ifO_f hc_12 zh0
              refine WC.skip (En.next (WC.region ?_))
              refine mv ?_
              refine sp (OpV.addR rfl rfl) ?_
              refine ag ?_
              refine WL.nil (En.block_norm (En.next (WC.region ?_)))
              refine mv ?_
              refine sp (OpV.addR rfl rfl) ?_
              refine ag ?_
              refine WL.nil ?_
              exact En.backP zb0 zh0 () (sc (sc (sc sn))) (fun _ h => h)
  ·
   intro hc_1
   replace zh0 := ifO_f hc_1 zh0
   refine WC.exit (En.then_exit (En.then_exit ?_))
   have hx := exitP ze0 zh0
   exact En.wk _ _ (sc sn) (fun _ h => h) (zK0_0 (v_0, ()) hx.symm)

theorem w_laws_heldFlipS {a_p0 : List FlipT} {a_p1 : Int} {r : Int} {q0_0 : Option Addr} {l0_0 k0_0 : Nat} (h : laws_heldFlipS a_p0 a_p1 = some r) {w : World} (r0_0 : Rd tFlip w q0_0 l0_0 k0_0 a_p0)   :
    Calls Tryz.prog 59 #[.slice q0_0 l0_0 k0_0, .int .i64 a_p1] w (fun en w' => en = .returned (.int .i64 r) ∧ Ext w w') := by
 obtain rfl := r0_0.1
 unfold laws_heldFlipS at h
 refine enter (vs := [_, _]) Tryz.func59 rfl rfl rfl rfl ?_
 refine WC.sr ?_
 refine ag ?_
 refine WL.nil (En.next (WC.seq (WC.sr ?_)))
 refine ag ?_
 refine WL.nil (En.next (WC.block ?_))
 obtain ⟨zy0, ezy0, h⟩ := bnd h
 refine WC.cut (X := (Int) × (Unit)) (.exit 0) (fun x => zy0 = .inl x.1) (fun x => match x with | (v_0e, ()) => [(1, .int .i64 v_0e)]) (fun x => match x with | (v_0e, ()) => []) ?_ ?_
 ·
  rintro ⟨v_0e, ⟨⟩⟩ hx
  replace hx : .inl v_0e = zy0 := hx.symm
  subst hx
  replace h := fork_l h
  show En _ _ _ _ [(1, .int .i64 v_0e)] []
  refine En.block_exit (En.next (WC.sr ?_))
  refine mv ?_
  refine ag ?_
  refine WL.nil (En.next (WC.ret ?_))
  refine En.ret1 rfl (Res.tmp rfl) ?_
  obtain rfl := Option.some.inj h
  intro w' hs
  exact ⟨rfl, hs.below⟩
 ·
  intro zK0_0
  refine WC.loopP (G := Unit) (fun s g => match s, g with | (v_0, v1_0), () => [(0, .slice q0_0 a_p0.length k0_0), (1, .int .i64 v_0), (5, .int .i64 v1_0)]) (fun s g => match s, g with | (v_0, v1_0), () => []) (a_p1, 0) () ezy0 (by exact sc (sc (sc sn))) (by exact (fun _ h => h)) ?_
  rintro zm0 ⟨v_0, v1_0⟩ ⟨⟩ zo0 zf0 zb0 ze0
  have zh0 : laws_heldFlipS_L0 a_p0 v_0 v1_0 = some zo0 := zf0
  unfold laws_heldFlipS_L0 at zh0
  show WC _ _ _ _ _ [(0, .slice q0_0 a_p0.length k0_0), (1, .int .i64 v_0), (5, .int .i64 v1_0)] []
  refine WC.seq (WC.sr ?_)
  refine mv ?_
  refine mv ?_
  refine sp (OpV.len rfl si_33 rfl) ?_
  refine sp (OpV.lss rfl rfl) ?_
  refine WL.nil (En.next ?_)
  refine WC.cond rfl ?_ ?_
  ·
   intro hc_1
   replace zh0 := ifO_t hc_1 zh0
   refine WC.skip (En.next (WC.seq (WC.block (WC.seq (WC.seq ?_)))))
   obtain ⟨x4_2, e4_2, zh0⟩ := bnd zh0
   obtain ⟨g4_2, o4_2, _, ha4_2, ⟨a4_2_1, c4_2_1, a4_2_2, c4_2_2, a4_2_3, c4_2_3, rfl, r4_2_1, r4_2_2, r4_2_3⟩, hd4_2⟩ := Rd.atIdx r0_0 e4_2
   replace hd4_2 : ∀ (j : Nat) v, ([.int .i64 x4_2.Seq, .int .i64 x4_2.Fence, .int .i64 x4_2.State.W, .int .i64 x4_2.State.H, .slice a4_2_1 x4_2.State.Planes.length c4_2_1, .slice a4_2_2 x4_2.State.Color.Matrix.length c4_2_2, .slice a4_2_3 x4_2.State.Color.Curve.length c4_2_3] : List Value)[j]? = some v → w.cell? ⟨g4_2, o4_2 + v1_0.toNat * 7 + j, .none⟩ = some v := hd4_2
   refine WC.region ?_
   refine mv ?_
   refine mv ?_
   refine sp (OpV.idxA rfl rfl se_33 ha4_2 ⟨(idx_some e4_2).1, (idx_some e4_2).2.1⟩) ?_
   refine sp (OpV.fieldAddr rfl fo_79_0) ?_
   refine sp (OpV.load1 rfl pt_3 (fun w hs => hs.cell (hd4_2 0 _ rfl))) ?_
   refine mv ?_
   refine sp (OpV.neq rfl rfl) ?_
   refine WL.nil (En.next ?_)
   refine WC.cond rfl ?_ ?_
   ·
    intro hc_2
    replace zh0 := ifO_t hc_2 zh0
    refine WC.sr ?_
    refine ag ?_
    refine WL.nil (En.next (WC.ret (En.then_ret (En.block_ret (En.then_ret (En.then_ret (En.block_ret (En.then_ret ?_))))))))
    refine En.ret1 rfl (Res.tmp rfl) ?_
    have hx := exitP ze0 zh0
    subst hx
    replace h := fork_r h
    obtain rfl := Option.some.inj h
    intro w' hs
    exact ⟨rfl, hs.below⟩
   ·
    intro hc_2
    replace zh0 := ifO_f hc_2 zh0
    refine WC.skip (En.next (WC.sr ?_))
    refine mv ?_
    refine sp (OpV.addR rfl rfl) ?_
    refine ag ?_
    refine WL.nil (En.next (WC.seq (WC.seq ?_)))
    obtain ⟨x7_2, e7_2, zh0⟩ := bnd zh0
    obtain ⟨g7_2, o7_2, _, ha7_2, ⟨a7_2_1, c7_2_1, a7_2_2, c7_2_2, a7_2_3, c7_2_3, rfl, r7_2_1, r7_2_2, r7_2_3⟩, hd7_2⟩ := Rd.atIdx r0_0 e7_2
    replace hd7_2 : ∀ (j : Nat) v, ([.int .i64 x7_2.Seq, .int .i64 x7_2.Fence, .int .i64 x7_2.State.W, .int .i64 x7_2.State.H, .slice a7_2_1 x7_2.State.Planes.length c7_2_1, .slice a7_2_2 x7_2.State.Color.Matrix.length c7_2_2, .slice a7_2_3 x7_2.State.Color.Curve.length c7_2_3] : List Value)[j]? = some v → w.cell? ⟨g7_2, o7_2 + v1_0.toNat * 7 + j, .none⟩ = some v := hd7_2
    refine WC.region ?_
    refine mv ?_
    refine mv ?_
    refine sp (OpV.idxA rfl rfl se_33 ha7_2 ⟨(idx_some e7_2).1, (idx_some e7_2).2.1⟩) ?_
    refine sp (OpV.fieldAddr rfl fo_79_1) ?_
    refine sp (OpV.load1 rfl pt_3 (fun w hs => hs.cell (hd7_2 1 _ rfl))) ?_
    refine mv ?_
    refine sp (OpV.neq rfl rfl) ?_
    refine WL.nil (En.next ?_)
    refine WC.cond rfl ?_ ?_
    ·
     intro hc_3
     replace zh0 := ifO_t hc_3 zh0
     refine WC.sr ?_
     refine ag ?_
     refine WL.nil (En.next (WC.ret (En.then_ret (En.block_ret (En.then_ret (En.then_ret (En.block_ret (En.then_ret ?_))))))))
     refine En.ret1 rfl (Res.tmp rfl) ?_
     have hx := exitP ze0 zh0
     subst hx
     replace h := fork_r h
     obtain rfl := Option.some.inj h
     intro w' hs
     exact ⟨rfl, hs.below⟩
    ·
     intro hc_3
     replace zh0 := ifO_f hc_3 zh0
     refine WC.skip (En.next (WC.sr ?_))
     refine mv ?_
     refine sp (OpV.addR rfl rfl) ?_
     refine ag ?_
     refine WL.nil (En.next (WC.seq (WC.seq ?_)))
     obtain ⟨x10_2, e10_2, zh0⟩ := bnd zh0
     obtain ⟨g10_2, o10_2, _, ha10_2, ⟨a10_2_1, c10_2_1, a10_2_2, c10_2_2, a10_2_3, c10_2_3, rfl, r10_2_1, r10_2_2, r10_2_3⟩, hd10_2⟩ := Rd.atIdx r0_0 e10_2
     replace hd10_2 : ∀ (j : Nat) v, ([.int .i64 x10_2.Seq, .int .i64 x10_2.Fence, .int .i64 x10_2.State.W, .int .i64 x10_2.State.H, .slice a10_2_1 x10_2.State.Planes.length c10_2_1, .slice a10_2_2 x10_2.State.Color.Matrix.length c10_2_2, .slice a10_2_3 x10_2.State.Color.Curve.length c10_2_3] : List Value)[j]? = some v → w.cell? ⟨g10_2, o10_2 + v1_0.toNat * 7 + j, .none⟩ = some v := hd10_2
     refine WC.region ?_
     refine mv ?_
     refine mv ?_
     refine sp (OpV.idxA rfl rfl se_33 ha10_2 ⟨(idx_some e10_2).1, (idx_some e10_2).2.1⟩) ?_
     refine sp (OpV.fieldAddr rfl fo_79_2) ?_
     refine sp (OpV.fieldAddr rfl fo_39_0) ?_
     refine sp (OpV.load1 rfl pt_3 (fun w hs => hs.cell (hd10_2 2 _ rfl))) ?_
     refine mv ?_
     refine sp (OpV.neq rfl rfl) ?_
     refine WL.nil (En.next ?_)
     refine WC.cond rfl ?_ ?_
     ·
      intro hc_4
      replace zh0 := ifO_t hc_4 zh0
      refine WC.sr ?_
      refine ag ?_
      refine WL.nil (En.next (WC.ret (En.then_ret (En.block_ret (En.then_ret (En.then_ret (En.block_ret (En.then_ret ?_))))))))
      refine En.ret1 rfl (Res.tmp rfl) ?_
      have hx := exitP ze0 zh0
      subst hx
      replace h := fork_r h
      obtain rfl := Option.some.inj h
      intro w' hs
      exact ⟨rfl, hs.below⟩
     ·
      intro hc_4
      replace zh0 := ifO_f hc_4 zh0
      refine WC.skip (En.next (WC.sr ?_))
      refine mv ?_
      refine sp (OpV.addR rfl rfl) ?_
      refine ag ?_
      refine WL.nil (En.next (WC.seq (WC.seq ?_)))
      obtain ⟨x13_2, e13_2, zh0⟩ := bnd zh0
      obtain ⟨g13_2, o13_2, _, ha13_2, ⟨a13_2_1, c13_2_1, a13_2_2, c13_2_2, a13_2_3, c13_2_3, rfl, r13_2_1, r13_2_2, r13_2_3⟩, hd13_2⟩ := Rd.atIdx r0_0 e13_2
      replace hd13_2 : ∀ (j : Nat) v, ([.int .i64 x13_2.Seq, .int .i64 x13_2.Fence, .int .i64 x13_2.State.W, .int .i64 x13_2.State.H, .slice a13_2_1 x13_2.State.Planes.length c13_2_1, .slice a13_2_2 x13_2.State.Color.Matrix.length c13_2_2, .slice a13_2_3 x13_2.State.Color.Curve.length c13_2_3] : List Value)[j]? = some v → w.cell? ⟨g13_2, o13_2 + v1_0.toNat * 7 + j, .none⟩ = some v := hd13_2
      refine WC.region ?_
      refine mv ?_
      refine mv ?_
      refine sp (OpV.idxA rfl rfl se_33 ha13_2 ⟨(idx_some e13_2).1, (idx_some e13_2).2.1⟩) ?_
      refine sp (OpV.fieldAddr rfl fo_79_2) ?_
      refine sp (OpV.fieldAddr rfl fo_39_1) ?_
      refine sp (OpV.load1 rfl pt_3 (fun w hs => hs.cell (hd13_2 3 _ rfl))) ?_
      refine mv ?_
      refine sp (OpV.neq rfl rfl) ?_
      refine WL.nil (En.next ?_)
      refine WC.cond rfl ?_ ?_
      ·
       intro hc_5
       replace zh0 := ifO_t hc_5 zh0
       refine WC.sr ?_
       refine ag ?_
       refine WL.nil (En.next (WC.ret (En.then_ret (En.block_ret (En.then_ret (En.then_ret (En.block_ret (En.then_ret ?_))))))))
       refine En.ret1 rfl (Res.tmp rfl) ?_
       have hx := exitP ze0 zh0
       subst hx
       replace h := fork_r h
       obtain rfl := Option.some.inj h
       intro w' hs
       exact ⟨rfl, hs.below⟩
      ·
       intro hc_5
       replace zh0 := ifO_f hc_5 zh0
       refine WC.skip (En.next (WC.sr ?_))
       refine mv ?_
       refine sp (OpV.addR rfl rfl) ?_
       refine ag ?_
       refine WL.nil (En.next (WC.seq ?_))
       obtain ⟨x16_2, e16_2, zh0⟩ := bnd zh0
       obtain ⟨g16_2, o16_2, _, ha16_2, ⟨a16_2_1, c16_2_1, a16_2_2, c16_2_2, a16_2_3, c16_2_3, rfl, r16_2_1, r16_2_2, r16_2_3⟩, hd16_2⟩ := Rd.atIdx r0_0 e16_2
       replace hd16_2 : ∀ (j : Nat) v, ([.int .i64 x16_2.Seq, .int .i64 x16_2.Fence, .int .i64 x16_2.State.W, .int .i64 x16_2.State.H, .slice a16_2_1 x16_2.State.Planes.length c16_2_1, .slice a16_2_2 x16_2.State.Color.Matrix.length c16_2_2, .slice a16_2_3 x16_2.State.Color.Curve.length c16_2_3] : List Value)[j]? = some v → w.cell? ⟨g16_2, o16_2 + v1_0.toNat * 7 + j, .none⟩ = some v := hd16_2
       obtain ⟨x16_7, e16_7, zh0⟩ := bnd zh0
       refine WC.region ?_
       refine mv ?_
       refine mv ?_
       refine sp (OpV.idxA rfl rfl se_33 ha16_2 ⟨(idx_some e16_2).1, (idx_some e16_2).2.1⟩) ?_
       refine sp (OpV.fieldAddr rfl fo_79_2) ?_
       refine sp (OpV.fieldAddr rfl fo_39_2) ?_
       refine sp (OpV.load1 rfl pt_36 (fun w hs => hs.cell (hd16_2 4 _ rfl))) ?_
       refine mv ?_
       refine sp (OpV.call (ec rfl (ec rfl e0)) ca_61 (fun w hs => w_laws_heldPlaneS e16_7 (r16_2_1.ext hs.below))) ?_
       refine ag ?_
       refine WL.nil (En.next (WC.seq (WC.sr ?_)))
       refine mv ?_
       refine sp (OpV.lss rfl rfl) ?_
       refine WL.nil (En.next ?_)
       refine WC.cond rfl ?_ ?_
       ·
        intro hc_6
        replace zh0 := ifO_t hc_6 zh0
        refine WC.sr ?_
        refine ag ?_
        refine WL.nil (En.next (WC.ret (En.then_ret (En.block_ret (En.then_ret (En.then_ret (En.block_ret (En.then_ret ?_))))))))
        refine En.ret1 rfl (Res.tmp rfl) ?_
        have hx := exitP ze0 zh0
        subst hx
        replace h := fork_r h
        obtain rfl := Option.some.inj h
        intro w' hs
        exact ⟨rfl, hs.below⟩
       ·
        intro hc_6
        replace zh0 := ifO_f hc_6 zh0
        refine WC.skip (En.next (WC.seq ?_))
        obtain ⟨x19_2, e19_2, zh0⟩ := bnd zh0
        obtain ⟨g19_2, o19_2, _, ha19_2, ⟨a19_2_1, c19_2_1, a19_2_2, c19_2_2, a19_2_3, c19_2_3, rfl, r19_2_1, r19_2_2, r19_2_3⟩, hd19_2⟩ := Rd.atIdx r0_0 e19_2
        replace hd19_2 : ∀ (j : Nat) v, ([.int .i64 x19_2.Seq, .int .i64 x19_2.Fence, .int .i64 x19_2.State.W, .int .i64 x19_2.State.H, .slice a19_2_1 x19_2.State.Planes.length c19_2_1, .slice a19_2_2 x19_2.State.Color.Matrix.length c19_2_2, .slice a19_2_3 x19_2.State.Color.Curve.length c19_2_3] : List Value)[j]? = some v → w.cell? ⟨g19_2, o19_2 + v1_0.toNat * 7 + j, .none⟩ = some v := hd19_2
        obtain ⟨x19_8, e19_8, zh0⟩ := bnd zh0
        refine WC.region ?_
        refine mv ?_
        refine mv ?_
        refine sp (OpV.idxA rfl rfl se_33 ha19_2 ⟨(idx_some e19_2).1, (idx_some e19_2).2.1⟩) ?_
        refine sp (OpV.fieldAddr rfl fo_79_2) ?_
        refine sp (OpV.fieldAddr rfl fo_39_3) ?_
        refine sp (OpV.fieldAddr rfl fo_37_0) ?_
        refine sp (OpV.load1 rfl pt_23 (fun w hs => hs.cell (hd19_2 5 _ rfl))) ?_
        refine mv ?_
        refine sp (OpV.call (ec rfl (ec rfl e0)) ca_60 (fun w hs => w_laws_heldIntS e19_8 (r19_2_2.ext hs.below))) ?_
        refine ag ?_
        refine WL.nil (En.next (WC.seq (WC.sr ?_)))
        refine mv ?_
        refine sp (OpV.lss rfl rfl) ?_
        refine WL.nil (En.next ?_)
        refine WC.cond rfl ?_ ?_
        ·
         intro hc_7
         replace zh0 := ifO_t hc_7 zh0
         refine WC.sr ?_
         refine ag ?_
         refine WL.nil (En.next (WC.ret (En.then_ret (En.block_ret (En.then_ret (En.then_ret (En.block_ret (En.then_ret ?_))))))))
         refine En.ret1 rfl (Res.tmp rfl) ?_
         have hx := exitP ze0 zh0
         subst hx
         replace h := fork_r h
         obtain rfl := Option.some.inj h
         intro w' hs
         exact ⟨rfl, hs.below⟩
        ·
         intro hc_7
         replace zh0 := ifO_f hc_7 zh0
         refine WC.skip (En.next (WC.seq ?_))
         obtain ⟨x22_2, e22_2, zh0⟩ := bnd zh0
         obtain ⟨g22_2, o22_2, _, ha22_2, ⟨a22_2_1, c22_2_1, a22_2_2, c22_2_2, a22_2_3, c22_2_3, rfl, r22_2_1, r22_2_2, r22_2_3⟩, hd22_2⟩ := Rd.atIdx r0_0 e22_2
         replace hd22_2 : ∀ (j : Nat) v, ([.int .i64 x22_2.Seq, .int .i64 x22_2.Fence, .int .i64 x22_2.State.W, .int .i64 x22_2.State.H, .slice a22_2_1 x22_2.State.Planes.length c22_2_1, .slice a22_2_2 x22_2.State.Color.Matrix.length c22_2_2, .slice a22_2_3 x22_2.State.Color.Curve.length c22_2_3] : List Value)[j]? = some v → w.cell? ⟨g22_2, o22_2 + v1_0.toNat * 7 + j, .none⟩ = some v := hd22_2
         obtain ⟨x22_8, e22_8, zh0⟩ := bnd zh0
         refine WC.region ?_
         refine mv ?_
         refine mv ?_
         refine sp (OpV.idxA rfl rfl se_33 ha22_2 ⟨(idx_some e22_2).1, (idx_some e22_2).2.1⟩) ?_
         refine sp (OpV.fieldAddr rfl fo_79_2) ?_
         refine sp (OpV.fieldAddr rfl fo_39_3) ?_
         refine sp (OpV.fieldAddr rfl fo_37_1) ?_
         refine sp (OpV.load1 rfl pt_23 (fun w hs => hs.cell (hd22_2 6 _ rfl))) ?_
         refine mv ?_
         refine sp (OpV.call (ec rfl (ec rfl e0)) ca_60 (fun w hs => w_laws_heldIntS e22_8 (r22_2_3.ext hs.below))) ?_
         refine ag ?_
         refine WL.nil (En.next (WC.sr ?_))
         refine mv ?_
         refine sp (OpV.lss rfl rfl) ?_
         refine WL.nil (En.next ?_)
         refine WC.cond rfl ?_ ?_
         ·
          intro hc_8
          replace zh0 := ifO_t hc_8 zh0
          refine WC.sr ?_
          refine ag ?_
          refine WL.nil (En.next (WC.ret (En.block_ret (En.then_ret (En.then_ret (En.block_ret (En.then_ret ?_)))))))
          refine En.ret1 rfl (Res.tmp rfl) ?_
          have hx := exitP ze0 zh0
          subst hx
          replace h := fork_r h
          obtain rfl := Option.some.inj h
          intro w' hs
          exact ⟨rfl, hs.below⟩
         ·
          intro hc_8
          replace zh0 := ifO_f hc_8 zh0
          refine WC.skip (En.block_norm (En.next (WC.region ?_)))
          refine mv ?_
          refine sp (OpV.addR rfl rfl) ?_
          refine ag ?_
          refine WL.nil ?_
          exact En.backP zb0 zh0 () (sc (sc (sc sn))) (fun _ h => h)
  ·
   intro hc_1
   replace zh0 := ifO_f hc_1 zh0
   refine WC.exit (En.then_exit (En.then_exit ?_))
   have hx := exitP ze0 zh0
   exact En.wk _ _ (sc sn) (fun _ h => h) (zK0_0 (v_0, ()) hx.symm)

theorem w_laws_heldFlips {a_p0 : FlipsT} {k_p1 : Int} {r : Int} {q0_0 : Option Addr} {l0_0 k0_0 : Nat} {q0_1 : Option Addr} {l0_1 k0_1 : Nat} {q0_2 : Option Addr} {l0_2 k0_2 : Nat} (h : laws_heldFlips a_p0 k_p1 = some r) {w : World} (r0_0 : Rd tFlip w q0_0 l0_0 k0_0 a_p0.Pending) (r0_1 : Rd tInt w q0_1 l0_1 k0_1 a_p0.Signalled) (r0_2 : Rd tInt w q0_2 l0_2 k0_2 a_p0.Events)   :
    Calls Tryz.prog 17 #[.agg #[.slice q0_0 l0_0 k0_0, .slice q0_1 l0_1 k0_1, .int .i64 a_p0.Next, .slice q0_2 l0_2 k0_2], .int .i64 k_p1] w (fun en w' => en = .returned (.int .i64 r) ∧ Ext w w') := by
 obtain rfl := r0_0.1
 obtain rfl := r0_1.1
 obtain rfl := r0_2.1
 unfold laws_heldFlips at h
 refine enter (vs := [_, _]) Tryz.func17 rfl rfl rfl rfl ?_
 refine WC.sr ?_
 refine WL.heavy rfl rfl rfl (OpH.box rfl rfl ?_)
 intro b0_0
 refine ag ?_
 refine WL.nil (En.next (WC.seq ?_))
 obtain ⟨x1_3, e1_3, h⟩ := bnd h
 refine WC.region ?_
 refine sp (OpV.fieldAddr rfl fo_35_0) ?_
 refine sp (OpV.loadBox rfl pt_33 mq0 rfl) ?_
 refine mv ?_
 refine sp (OpV.call (ec rfl (ec rfl e0)) ca_59 (fun w hs => w_laws_heldFlipS e1_3 (r0_0.ext hs.below))) ?_
 refine ag ?_
 refine WL.nil (En.next (WC.seq (WC.sr ?_)))
 refine mv ?_
 refine sp (OpV.lss rfl rfl) ?_
 refine WL.nil (En.next ?_)
 refine WC.cond rfl ?_ ?_
 ·
  intro hc_1
  replace h := ifO_t hc_1 h
  refine WC.sr ?_
  refine ag ?_
  refine WL.nil (En.next (WC.ret (En.then_ret ?_)))
  refine En.ret1 rfl (Res.tmp rfl) ?_
  obtain rfl := Option.some.inj h
  intro w' hs
  exact ⟨rfl, hs.below⟩
 ·
  intro hc_1
  replace h := ifO_f hc_1 h
  refine WC.skip (En.next (WC.seq ?_))
  obtain ⟨x4_3, e4_3, h⟩ := bnd h
  refine WC.region ?_
  refine sp (OpV.fieldAddr rfl fo_35_1) ?_
  refine sp (OpV.loadBox rfl pt_23 mq0 rfl) ?_
  refine mv ?_
  refine sp (OpV.call (ec rfl (ec rfl e0)) ca_60 (fun w hs => w_laws_heldIntS e4_3 (r0_1.ext hs.below))) ?_
  refine ag ?_
  refine WL.nil (En.next (WC.seq (WC.sr ?_)))
  refine mv ?_
  refine sp (OpV.lss rfl rfl) ?_
  refine WL.nil (En.next ?_)
  refine WC.cond rfl ?_ ?_
  ·
   intro hc_2
   replace h := ifO_t hc_2 h
   refine WC.sr ?_
   refine ag ?_
   refine WL.nil (En.next (WC.ret (En.then_ret ?_)))
   refine En.ret1 rfl (Res.tmp rfl) ?_
   obtain rfl := Option.some.inj h
   intro w' hs
   exact ⟨rfl, hs.below⟩
  ·
   intro hc_2
   replace h := ifO_f hc_2 h
   refine WC.skip (En.next (WC.seq ?_))
   obtain ⟨x7_3, e7_3, h⟩ := bnd h
   refine WC.region ?_
   refine sp (OpV.fieldAddr rfl fo_35_3) ?_
   refine sp (OpV.loadBox rfl pt_23 mq0 rfl) ?_
   refine mv ?_
   refine sp (OpV.call (ec rfl (ec rfl e0)) ca_60 (fun w hs => w_laws_heldIntS e7_3 (r0_2.ext hs.below))) ?_
   refine ag ?_
   refine WL.nil (En.next (WC.seq (WC.sr ?_)))
   refine mv ?_
   refine sp (OpV.lss rfl rfl) ?_
   refine WL.nil (En.next ?_)
   refine WC.cond rfl ?_ ?_
   ·
    intro hc_3
    replace h := ifO_t hc_3 h
    refine WC.sr ?_
    refine ag ?_
    refine WL.nil (En.next (WC.ret (En.then_ret ?_)))
    refine En.ret1 rfl (Res.tmp rfl) ?_
    obtain rfl := Option.some.inj h
    intro w' hs
    exact ⟨rfl, hs.below⟩
   ·
    intro hc_3
    replace h := ifO_f hc_3 h
    refine WC.skip (En.next (WC.sr ?_))
    refine mv ?_
    refine ag ?_
    refine WL.nil (En.next (WC.ret ?_))
    refine En.ret1 rfl (Res.tmp rfl) ?_
    obtain rfl := Option.some.inj h
    intro w' hs
    exact ⟨rfl, hs.below⟩

theorem w_laws_heldColorMap {a_p0 : ColorMapT} {k_p1 : Int} {r : Int} {q0_0 : Option Addr} {l0_0 k0_0 : Nat} {q0_1 : Option Addr} {l0_1 k0_1 : Nat} (h : laws_heldColorMap a_p0 k_p1 = some r) {w : World} (r0_0 : Rd tInt w q0_0 l0_0 k0_0 a_p0.Matrix) (r0_1 : Rd tInt w q0_1 l0_1 k0_1 a_p0.Curve)   :
    Calls Tryz.prog 62 #[.agg #[.slice q0_0 l0_0 k0_0, .slice q0_1 l0_1 k0_1], .int .i64 k_p1] w (fun en w' => en = .returned (.int .i64 r) ∧ Ext w w') := by
 obtain rfl := r0_0.1
 obtain rfl := r0_1.1
 unfold laws_heldColorMap at h
 refine enter (vs := [_, _]) Tryz.func62 rfl rfl rfl rfl ?_
 refine WC.sr ?_
 refine WL.heavy rfl rfl rfl (OpH.box rfl rfl ?_)
 intro b0_0
 refine ag ?_
 refine WL.nil (En.next (WC.seq ?_))
 obtain ⟨x1_3, e1_3, h⟩ := bnd h
 refine WC.region ?_
 refine sp (OpV.fieldAddr rfl fo_37_0) ?_
 refine sp (OpV.loadBox rfl pt_23 mq0 rfl) ?_
 refine mv ?_
 refine sp (OpV.call (ec rfl (ec rfl e0)) ca_60 (fun w hs => w_laws_heldIntS e1_3 (r0_0.ext hs.below))) ?_
 refine ag ?_
 refine WL.nil (En.next (WC.seq (WC.sr ?_)))
 refine mv ?_
 refine sp (OpV.lss rfl rfl) ?_
 refine WL.nil (En.next ?_)
 refine WC.cond rfl ?_ ?_
 ·
  intro hc_1
  replace h := ifO_t hc_1 h
  refine WC.sr ?_
  refine ag ?_
  refine WL.nil (En.next (WC.ret (En.then_ret ?_)))
  refine En.ret1 rfl (Res.tmp rfl) ?_
  obtain rfl := Option.some.inj h
  intro w' hs
  exact ⟨rfl, hs.below⟩
 ·
  intro hc_1
  replace h := ifO_f hc_1 h
  refine WC.skip (En.next (WC.seq ?_))
  obtain ⟨x4_3, e4_3, h⟩ := bnd h
  refine WC.region ?_
  refine sp (OpV.fieldAddr rfl fo_37_1) ?_
  refine sp (OpV.loadBox rfl pt_23 mq0 rfl) ?_
  refine mv ?_
  refine sp (OpV.call (ec rfl (ec rfl e0)) ca_60 (fun w hs => w_laws_heldIntS e4_3 (r0_1.ext hs.below))) ?_
  refine ag ?_
  refine WL.nil (En.next (WC.seq (WC.sr ?_)))
  refine mv ?_
  refine sp (OpV.lss rfl rfl) ?_
  refine WL.nil (En.next ?_)
  refine WC.cond rfl ?_ ?_
  ·
   intro hc_2
   replace h := ifO_t hc_2 h
   refine WC.sr ?_
   refine ag ?_
   refine WL.nil (En.next (WC.ret (En.then_ret ?_)))
   refine En.ret1 rfl (Res.tmp rfl) ?_
   obtain rfl := Option.some.inj h
   intro w' hs
   exact ⟨rfl, hs.below⟩
  ·
   intro hc_2
   replace h := ifO_f hc_2 h
   refine WC.skip (En.next (WC.sr ?_))
   refine mv ?_
   refine ag ?_
   refine WL.nil (En.next (WC.ret ?_))
   refine En.ret1 rfl (Res.tmp rfl) ?_
   obtain rfl := Option.some.inj h
   intro w' hs
   exact ⟨rfl, hs.below⟩

theorem w_laws_heldCrtc {a_p0 : CrtcT} {k_p1 : Int} {r : Int} {q0_0 : Option Addr} {l0_0 k0_0 : Nat} {q0_1 : Option Addr} {l0_1 k0_1 : Nat} {q0_2 : Option Addr} {l0_2 k0_2 : Nat} (h : laws_heldCrtc a_p0 k_p1 = some r) {w : World} (r0_0 : Rd tPlane w q0_0 l0_0 k0_0 a_p0.Planes) (r0_1 : Rd tInt w q0_1 l0_1 k0_1 a_p0.Color.Matrix) (r0_2 : Rd tInt w q0_2 l0_2 k0_2 a_p0.Color.Curve)   :
    Calls Tryz.prog 18 #[.agg #[.int .i64 a_p0.W, .int .i64 a_p0.H, .slice q0_0 l0_0 k0_0, .slice q0_1 l0_1 k0_1, .slice q0_2 l0_2 k0_2], .int .i64 k_p1] w (fun en w' => en = .returned (.int .i64 r) ∧ Ext w w') := by
 obtain rfl := r0_0.1
 obtain rfl := r0_1.1
 obtain rfl := r0_2.1
 unfold laws_heldCrtc at h
 refine enter (vs := [_, _]) Tryz.func18 rfl rfl rfl rfl ?_
 refine WC.sr ?_
 refine WL.heavy rfl rfl rfl (OpH.box rfl rfl ?_)
 intro b0_0
 refine ag ?_
 refine WL.nil (En.next (WC.seq ?_))
 obtain ⟨x1_3, e1_3, h⟩ := bnd h
 refine WC.region ?_
 refine sp (OpV.fieldAddr rfl fo_39_2) ?_
 refine sp (OpV.loadBox rfl pt_36 mq0 rfl) ?_
 refine mv ?_
 refine sp (OpV.call (ec rfl (ec rfl e0)) ca_61 (fun w hs => w_laws_heldPlaneS e1_3 (r0_0.ext hs.below))) ?_
 refine ag ?_
 refine WL.nil (En.next (WC.seq (WC.sr ?_)))
 refine mv ?_
 refine sp (OpV.lss rfl rfl) ?_
 refine WL.nil (En.next ?_)
 refine WC.cond rfl ?_ ?_
 ·
  intro hc_1
  replace h := ifO_t hc_1 h
  refine WC.sr ?_
  refine ag ?_
  refine WL.nil (En.next (WC.ret (En.then_ret ?_)))
  refine En.ret1 rfl (Res.tmp rfl) ?_
  obtain rfl := Option.some.inj h
  intro w' hs
  exact ⟨rfl, hs.below⟩
 ·
  intro hc_1
  replace h := ifO_f hc_1 h
  refine WC.skip (En.next (WC.seq ?_))
  obtain ⟨x4_3, e4_3, h⟩ := bnd h
  refine WC.region ?_
  refine sp (OpV.fieldAddr rfl fo_39_3) ?_
  refine sp (OpV.loadPart rfl mq0 ag_37 rfl rfl) ?_
  refine mv ?_
  refine sp (OpV.call (ec rfl (ec rfl e0)) ca_62 (fun w hs => w_laws_heldColorMap e4_3 (r0_1.ext hs.below) (r0_2.ext hs.below))) ?_
  refine ag ?_
  refine WL.nil (En.next (WC.seq (WC.sr ?_)))
  refine mv ?_
  refine sp (OpV.lss rfl rfl) ?_
  refine WL.nil (En.next ?_)
  refine WC.cond rfl ?_ ?_
  ·
   intro hc_2
   replace h := ifO_t hc_2 h
   refine WC.sr ?_
   refine ag ?_
   refine WL.nil (En.next (WC.ret (En.then_ret ?_)))
   refine En.ret1 rfl (Res.tmp rfl) ?_
   obtain rfl := Option.some.inj h
   intro w' hs
   exact ⟨rfl, hs.below⟩
  ·
   intro hc_2
   replace h := ifO_f hc_2 h
   refine WC.skip (En.next (WC.sr ?_))
   refine mv ?_
   refine ag ?_
   refine WL.nil (En.next (WC.ret ?_))
   refine En.ret1 rfl (Res.tmp rfl) ?_
   obtain rfl := Option.some.inj h
   intro w' hs
   exact ⟨rfl, hs.below⟩

theorem w_laws_FnExactTakeFlip {a_p0 : FlipsT} {a_p1 : CrtcT} {r : Bool} {q0_0 : Option Addr} {l0_0 k0_0 : Nat} {q0_1 : Option Addr} {l0_1 k0_1 : Nat} {q0_2 : Option Addr} {l0_2 k0_2 : Nat} {q1_0 : Option Addr} {l1_0 k1_0 : Nat} {q1_1 : Option Addr} {l1_1 k1_1 : Nat} {q1_2 : Option Addr} {l1_2 k1_2 : Nat} (h : laws_FnExactTakeFlip a_p0 a_p1 = some r) {w : World} (r0_0 : Rd tFlip w q0_0 l0_0 k0_0 a_p0.Pending) (r0_1 : Rd tInt w q0_1 l0_1 k0_1 a_p0.Signalled) (r0_2 : Rd tInt w q0_2 l0_2 k0_2 a_p0.Events) (r1_0 : Rd tPlane w q1_0 l1_0 k1_0 a_p1.Planes) (r1_1 : Rd tInt w q1_1 l1_1 k1_1 a_p1.Color.Matrix) (r1_2 : Rd tInt w q1_2 l1_2 k1_2 a_p1.Color.Curve)   :
    Calls Tryz.prog 3 #[.agg #[.slice q0_0 l0_0 k0_0, .slice q0_1 l0_1 k0_1, .int .i64 a_p0.Next, .slice q0_2 l0_2 k0_2], .agg #[.int .i64 a_p1.W, .int .i64 a_p1.H, .slice q1_0 l1_0 k1_0, .slice q1_1 l1_1 k1_1, .slice q1_2 l1_2 k1_2]] w (fun en w' => en = .returned (.bool r) ∧ Ext w w') := by
 obtain rfl := r0_0.1
 obtain rfl := r0_1.1
 obtain rfl := r0_2.1
 obtain rfl := r1_0.1
 obtain rfl := r1_1.1
 obtain rfl := r1_2.1
 unfold laws_FnExactTakeFlip at h
 refine enter (vs := [_, _]) Tryz.func3 rfl rfl rfl rfl ?_
 refine WC.sr ?_
 refine WL.heavy rfl rfl rfl (OpH.box rfl rfl ?_)
 intro b0_0
 refine WL.heavy rfl rfl rfl (OpH.box rfl rfl ?_)
 intro b0_1
 refine ag ?_
 refine WL.nil (En.next (WC.sr ?_))
 refine ag ?_
 refine WL.nil (En.next (WC.seq ?_))
 obtain ⟨x2_2, e2_2, h⟩ := bnd h
 refine WC.region ?_
 refine sp (OpV.loadAll rfl mq1 ag_25) ?_
 refine mv ?_
 refine sp (OpV.call (ec rfl (ec rfl e0)) ca_7 (fun w hs => w_laws_szFlips e2_2 (r0_0.ext hs.below) (r0_1.ext hs.below) (r0_2.ext hs.below))) ?_
 refine ag ?_
 refine WL.nil (En.next (WC.seq (WC.sr ?_)))
 refine mv ?_
 refine sp (OpV.lss rfl rfl) ?_
 refine WL.nil (En.next ?_)
 refine WC.cond rfl ?_ ?_
 ·
  intro hc_1
  replace h := ifO_t hc_1 h
  refine WC.sr ?_
  refine ag ?_
  refine WL.nil (En.next (WC.ret (En.then_ret ?_)))
  refine En.ret1 rfl (Res.tmp rfl) ?_
  obtain rfl := Option.some.inj h
  intro w' hs
  exact ⟨rfl, hs.below⟩
 ·
  intro hc_1
  replace h := ifO_f hc_1 h
  refine WC.skip (En.next (WC.seq ?_))
  obtain ⟨x5_2, e5_2, h⟩ := bnd h
  refine WC.region ?_
  refine sp (OpV.loadAll rfl mq0 ag_30) ?_
  refine mv ?_
  refine sp (OpV.call (ec rfl (ec rfl e0)) ca_8 (fun w hs => w_laws_szCrtc e5_2 (r1_0.ext hs.below) (r1_1.ext hs.below) (r1_2.ext hs.below))) ?_
  refine ag ?_
  refine WL.nil (En.next (WC.seq (WC.sr ?_)))
  refine mv ?_
  refine sp (OpV.lss rfl rfl) ?_
  refine WL.nil (En.next ?_)
  refine WC.cond rfl ?_ ?_
  ·
   intro hc_2
   replace h := ifO_t hc_2 h
   refine WC.sr ?_
   refine ag ?_
   refine WL.nil (En.next (WC.ret (En.then_ret ?_)))
   refine En.ret1 rfl (Res.tmp rfl) ?_
   obtain rfl := Option.some.inj h
   intro w' hs
   exact ⟨rfl, hs.below⟩
  ·
   intro hc_2
   replace h := ifO_f hc_2 h
   refine WC.skip (En.next (WC.seq ?_))
   obtain ⟨x8_1, e8_1, h⟩ := bnd h
   obtain ⟨x8_3, e8_3, h⟩ := bnd h
   obtain ⟨⟨x8_4a, x8_4b, x8_4c⟩, e8_4, h⟩ := bnd h
   refine WC.cut (X := Nat × (Option Addr) × Nat × Nat × (Option Addr) × Nat × Nat × (Option Addr) × Nat × Nat × Nat × (Option Addr) × Nat × Nat × (Option Addr) × Nat × Nat × (Option Addr) × Nat × Nat × (List Nat) × (List Nat) × (List Nat) × (List Nat) × (List Nat) × (List Nat) × (List Nat) × (Option Addr) × Nat × Nat × (List Nat) × (Option Addr) × Nat × Nat × (List Nat) × (Option Addr) × Nat × Nat × (List Nat) × (Option Addr) × Nat × Nat × (List Nat) × (Option Addr) × Nat × Nat × (List Nat) × (Option Addr) × Nat × Nat) .normal (fun _ => True) (fun x => match x with | (b8_10, a8_410, n8_410, c8_410, a8_411, n8_411, c8_411, a8_412, n8_412, c8_412, b8_9, a8_400, n8_400, c8_400, a8_401, n8_401, c8_401, a8_402, n8_402, c8_402, f8_400, f8_401, f8_402, f8_410, f8_411, f8_412, f8_300, a8_300, n8_300, c8_300, f8_301, a8_301, n8_301, c8_301, f8_302, a8_302, n8_302, c8_302, f8_100, a8_100, n8_100, c8_100, f8_101, a8_101, n8_101, c8_101, f8_102, a8_102, n8_102, c8_102) => [(2, .pointer (some ⟨b0_0, 0, .none⟩)), (3, .pointer (some ⟨b0_1, 0, .none⟩)), (6, .pointer (some ⟨b8_9, 0, .none⟩)), (7, .pointer (some ⟨b8_10, 0, .none⟩)), (8, .bool x8_4c)]) (fun x => match x with | (b8_10, a8_410, n8_410, c8_410, a8_411, n8_411, c8_411, a8_412, n8_412, c8_412, b8_9, a8_400, n8_400, c8_400, a8_401, n8_401, c8_401, a8_402, n8_402, c8_402, f8_400, f8_401, f8_402, f8_410, f8_411, f8_412, f8_300, a8_300, n8_300, c8_300, f8_301, a8_301, n8_301, c8_301, f8_302, a8_302, n8_302, c8_302, f8_100, a8_100, n8_100, c8_100, f8_101, a8_101, n8_101, c8_101, f8_102, a8_102, n8_102, c8_102) => [Chunk.box b8_10 39 [.int .i64 x8_4b.W, .int .i64 x8_4b.H, .slice a8_410 n8_410 c8_410, .slice a8_411 n8_411 c8_411, .slice a8_412 n8_412 c8_412], Chunk.box b8_9 35 [.slice a8_400 n8_400 c8_400, .slice a8_401 n8_401 c8_401, .int .i64 x8_4a.Next, .slice a8_402 n8_402 c8_402], Chunk.own tFlip f8_400 a8_400 n8_400 c8_400 x8_4a.Pending, Chunk.own tInt f8_401 a8_401 n8_401 c8_401 x8_4a.Signalled, Chunk.own tInt f8_402 a8_402 n8_402 c8_402 x8_4a.Events, Chunk.own tPlane f8_410 a8_410 n8_410 c8_410 x8_4b.Planes, Chunk.own tInt f8_411 a8_411 n8_411 c8_411 x8_4b.Color.Matrix, Chunk.own tInt f8_412 a8_412 n8_412 c8_412 x8_4b.Color.Curve, Chunk.box b0_1 30 [.int .i64 a_p1.W, .int .i64 a_p1.H, .slice q1_0 a_p1.Planes.length k1_0, .slice q1_1 a_p1.Color.Matrix.length k1_1, .slice q1_2 a_p1.Color.Curve.length k1_2], Chunk.box b0_0 25 [.slice q0_0 a_p0.Pending.length k0_0, .slice q0_1 a_p0.Signalled.length k0_1, .int .i64 a_p0.Next, .slice q0_2 a_p0.Events.length k0_2]]) ?_ ?_
   ·
    rintro ⟨b8_10, a8_410, n8_410, c8_410, a8_411, n8_411, c8_411, a8_412, n8_412, c8_412, b8_9, a8_400, n8_400, c8_400, a8_401, n8_401, c8_401, a8_402, n8_402, c8_402, f8_400, f8_401, f8_402, f8_410, f8_411, f8_412, f8_300, a8_300, n8_300, c8_300, f8_301, a8_301, n8_301, c8_301, f8_302, a8_302, n8_302, c8_302, f8_100, a8_100, n8_100, c8_100, f8_101, a8_101, n8_101, c8_101, f8_102, a8_102, n8_102, c8_102⟩ _
    show En _ _ _ _ [(2, .pointer (some ⟨b0_0, 0, .none⟩)), (3, .pointer (some ⟨b0_1, 0, .none⟩)), (6, .pointer (some ⟨b8_9, 0, .none⟩)), (7, .pointer (some ⟨b8_10, 0, .none⟩)), (8, .bool x8_4c)] [Chunk.box b8_10 39 [.int .i64 x8_4b.W, .int .i64 x8_4b.H, .slice a8_410 n8_410 c8_410, .slice a8_411 n8_411 c8_411, .slice a8_412 n8_412 c8_412], Chunk.box b8_9 35 [.slice a8_400 n8_400 c8_400, .slice a8_401 n8_401 c8_401, .int .i64 x8_4a.Next, .slice a8_402 n8_402 c8_402], Chunk.own tFlip f8_400 a8_400 n8_400 c8_400 x8_4a.Pending, Chunk.own tInt f8_401 a8_401 n8_401 c8_401 x8_4a.Signalled, Chunk.own tInt f8_402 a8_402 n8_402 c8_402 x8_4a.Events, Chunk.own tPlane f8_410 a8_410 n8_410 c8_410 x8_4b.Planes, Chunk.own tInt f8_411 a8_411 n8_411 c8_411 x8_4b.Color.Matrix, Chunk.own tInt f8_412 a8_412 n8_412 c8_412 x8_4b.Color.Curve, Chunk.box b0_1 30 [.int .i64 a_p1.W, .int .i64 a_p1.H, .slice q1_0 a_p1.Planes.length k1_0, .slice q1_1 a_p1.Color.Matrix.length k1_1, .slice q1_2 a_p1.Color.Curve.length k1_2], Chunk.box b0_0 25 [.slice q0_0 a_p0.Pending.length k0_0, .slice q0_1 a_p0.Signalled.length k0_1, .int .i64 a_p0.Next, .slice q0_2 a_p0.Events.length k0_2]]
    refine En.next (WC.seq ?_)
    obtain ⟨x9_1, e9_1, h⟩ := bnd h
    refine WC.region ?_
    refine sp (OpV.loadAll rfl mq9 ag_25) ?_
    refine WL.heavy rfl rfl rfl (OpH.callR (ec rfl e0) ca_10 (fun w hs => w_laws_toFlips e9_1 (r0_0.ext hs.below) (r0_1.ext hs.below) (r0_2.ext hs.below)) ?_)
    rintro _ _ ⟨a9_100, n9_100, c9_100, f9_100, a9_101, n9_101, c9_101, f9_101, a9_102, n9_102, c9_102, f9_102, rfl, rfl⟩
    refine WL.heavy rfl rfl rfl (OpH.alloc zc_35 ?_)
    intro b9_2
    refine WL.heavy0 rfl rfl (OpH.storeTo (A := []) [_, _, _, _] rfl rfl rfl ts_35 rfl rfl rfl ?_)
    refine WL.nil (En.next (WC.seq ?_))
    obtain ⟨x10_1, e10_1, h⟩ := bnd h
    refine WC.region ?_
    refine sp (OpV.loadAll rfl (u10 mq2) ag_30) ?_
    refine WL.heavy rfl rfl rfl (OpH.callR (ec rfl e0) ca_11 (fun w hs => w_laws_toCrtc e10_1 (r1_0.ext hs.below) (r1_1.ext hs.below) (r1_2.ext hs.below)) ?_)
    rintro _ _ ⟨a10_100, n10_100, c10_100, f10_100, a10_101, n10_101, c10_101, f10_101, a10_102, n10_102, c10_102, f10_102, rfl, rfl⟩
    refine WL.heavy rfl rfl rfl (OpH.alloc zc_39 ?_)
    intro b10_2
    refine WL.heavy0 rfl rfl (OpH.storeTo (A := []) [_, _, _, _, _] rfl rfl rfl ts_39 rfl rfl rfl ?_)
    refine WL.nil (En.next (WC.seq ?_))
    obtain ⟨⟨x11_2a, x11_2b, x11_2c⟩, e11_2, h⟩ := bnd h
    refine WC.region ?_
    refine sp (OpV.loadAll rfl mq4 ag_35) ?_
    refine sp (OpV.loadAll rfl mq0 ag_39) ?_
    refine WL.heavy rfl rfl rfl (OpH.callR (ec rfl (ec rfl e0)) ca_12 (fun w hs => w_impl_TakeFlip e11_2 (Ow.rd (hs.mem mq5)) (Ow.rd (hs.mem mq6)) (Ow.rd (hs.mem mq7)) (Ow.rd (hs.mem mq1)) (Ow.rd (hs.mem mq2)) (Ow.rd (hs.mem mq3))) ?_)
    rintro _ _ ⟨a11_200, n11_200, c11_200, f11_200, a11_201, n11_201, c11_201, f11_201, a11_202, n11_202, c11_202, f11_202, a11_210, n11_210, c11_210, f11_210, a11_211, n11_211, c11_211, f11_211, a11_212, n11_212, c11_212, f11_212, rfl, rfl⟩
    refine mv ?_
    refine sp (OpV.extract rfl rfl) ?_
    refine sp (OpV.extract rfl rfl) ?_
    refine sp (OpV.extract rfl rfl) ?_
    refine WL.heavy rfl rfl rfl (OpH.alloc zc_35 ?_)
    intro b11_7
    refine WL.heavy rfl rfl rfl (OpH.alloc zc_39 ?_)
    intro b11_8
    refine WL.heavy0 rfl rfl (OpH.storeTo (A := [_]) [_, _, _, _] rfl rfl rfl ts_35 rfl rfl rfl ?_)
    refine WL.heavy0 rfl rfl (OpH.storeTo (A := []) [_, _, _, _, _] rfl rfl rfl ts_39 rfl rfl rfl ?_)
    refine ag ?_
    refine WL.nil (En.next (WC.seq (WC.seq ?_)))
    obtain ⟨x12_2, e12_2, h⟩ := bnd h
    obtain ⟨q12_9, e12_9, h⟩ := bnd h
    refine WC.region ?_
    refine sp (OpV.loadAll rfl mq1 ag_35) ?_
    refine sp (OpV.loadAll rfl (u10 mq7) ag_35) ?_
    refine sp (OpV.call (ec rfl (ec rfl e0)) ca_13 (fun w hs => w_laws_eqFlips e12_2 (Ow.rd (hs.mem mq2)) (Ow.rd (hs.mem mq3)) (Ow.rd (hs.mem mq4)) (Ow.rd (hs.mem (u10 mq8))) (Ow.rd (hs.mem (u10 mq9))) (Ow.rd (hs.mem (u10 (u10 mq0)))))) ?_
    refine sp (OpV.not rfl) ?_
    refine mv ?_
    refine Lt.ofWL.orQ 54 59 58 (p := ?pz1) (rest := ?qz1) (B := q12_9) rfl (fun hz => orO_t e12_9 hz) ?Tz1 ?Fz1 ?az1 ?bz1 ?cz1 ?dz1 ?ez1
    case Tz1 =>
     intro hcz1 hkz1
     refine sk ?_
     refine sk ?_
     refine sk ?_
     refine sk ?_
     refine hkz1 _ ?_
     repeat (first | exact Sub.refl _ | refine Sub.skip rfl ?_)
    case Fz1 =>
     intro hcz1 hkz1
     have hqz1 := orO_f e12_9 hcz1
     obtain ⟨x12_7, e12_7, hqz1⟩ := bnd hqz1
     obtain rfl := Option.some.inj hqz1
     refine sp (OpV.loadAll rfl mq0 ag_39) ?_
     refine sp (OpV.loadAll rfl (u10 mq6) ag_39) ?_
     refine sp (OpV.call (ec rfl (ec rfl e0)) ca_14 (fun w hs => w_laws_eqCrtc e12_7 (Ow.rd (hs.mem mq5)) (Ow.rd (hs.mem mq6)) (Ow.rd (hs.mem mq7)) (Ow.rd (hs.mem (u10 (u10 mq1)))) (Ow.rd (hs.mem (u10 (u10 mq2)))) (Ow.rd (hs.mem (u10 (u10 mq3)))))) ?_
     refine sp (OpV.not rfl) ?_
     refine hkz1 _ ?_ ?_
     exact rfl
     repeat (first | exact Sub.refl _ | refine Sub.skip rfl ?_)
    case az1 => exact rfl
    case bz1 => exact rfl
    case cz1 => exact rfl
    case dz1 => exact rfl
    refine mv ?_
    refine Lt.ofWL.or 60 64 63 (p := ?pz2) (rest := ?qz2) (B := ?Bz2) rfl ?Tz2 ?Fz2 ?az2 ?bz2 ?cz2 ?dz2 ?ez2
    case Tz2 =>
     intro hcz2 hkz2
     refine sk ?_
     refine sk ?_
     refine sk ?_
     refine hkz2 _ ?_
     repeat (first | exact Sub.refl _ | refine Sub.skip rfl ?_)
    case Fz2 =>
     intro hcz2 hkz2
     refine mv ?_
     refine mv ?_
     refine sp (OpV.bneq rfl rfl ub_4) ?_
     refine hkz2 _ ?_ ?_
     exact rfl
     repeat (first | exact Sub.refl _ | refine Sub.skip rfl ?_)
    case az2 => exact rfl
    case bz2 => exact rfl
    case cz2 => exact rfl
    case dz2 => exact rfl
    refine WL.nil (En.next ?_)
    refine WC.cond rfl ?_ ?_
    ·
     intro hc_3
     replace h := ifO_t hc_3 h
     refine WC.sr ?_
     refine ag ?_
     refine WL.nil (En.next (WC.ret (En.then_ret ?_)))
     refine En.ret1 rfl (Res.tmp rfl) ?_
     obtain rfl := Option.some.inj h
     intro w' hs
     exact ⟨rfl, hs.below⟩
    ·
     intro hc_3
     replace h := ifO_f hc_3 h
     refine WC.skip (En.next (WC.seq (WC.seq ?_)))
     obtain ⟨x14_2, e14_2, h⟩ := bnd h
     obtain ⟨x14_3, e14_3, h⟩ := bnd h
     refine WC.drawnH [] ([_, _, _, _, _, _, _, _, _, _, _, _, _, _, _, _, _, _, _, _, _, _, _, _, _, _]) (fun _ h => h) (by kernel_rfl) ?_
     refine tk 0 rfl (OpV.loadAll rfl (u10 mq2) ag_35) ?_
     refine tk 1 rfl (OpV.loadAll rfl (u10 (u10 mq5)) ag_25) ?_
     refine al1 2 rfl ?_
     refine OpH.callR (ec rfl e0) ca_10 (fun w hs => w_laws_toFlips e14_2 (r0_0.ext hs.below) (r0_1.ext hs.below) (r0_2.ext hs.below)) ?_
     rintro _ _ ⟨a14_200, n14_200, c14_200, f14_200, a14_201, n14_201, c14_201, f14_201, a14_202, n14_202, c14_202, f14_202, rfl, rfl⟩
     refine ⟨[_, _, _], rfl, ?_⟩
     refine WAE.rebase (H := []) ?_
     refine tk 3 rfl (OpV.call (ec rfl (ec rfl e0)) ca_13 (fun w hs => w_laws_eqFlips e14_3 (Ow.rd (hs.mem (u10 mq6))) (Ow.rd (hs.mem (u10 mq7))) (Ow.rd (hs.mem (u10 mq8))) (Ow.rd (hs.mem mq0)) (Ow.rd (hs.mem mq1)) (Ow.rd (hs.mem mq2)))) ?_
     refine tk 4 rfl (OpV.not rfl) ?_
     refine WAE.done (by kernel_rfl) ?_ _
     refine En.next ?_
     refine WC.cond rfl ?_ ?_
     ·
      intro hc_4
      replace h := ifO_t hc_4 h
      refine WC.sr ?_
      refine ag ?_
      refine WL.nil (En.next (WC.ret (En.then_ret ?_)))
      refine En.ret1 rfl (Res.tmp rfl) ?_
      obtain rfl := Option.some.inj h
      intro w' hs
      exact ⟨rfl, hs.below⟩
     ·
      intro hc_4
      replace h := ifO_f hc_4 h
      refine WC.skip (En.next (WC.seq (WC.seq ?_)))
      obtain ⟨x16_2, e16_2, h⟩ := bnd h
      obtain ⟨x16_3, e16_3, h⟩ := bnd h
      refine WC.drawnH [] ([_, _, _, _, _, _, _, _, _, _, _, _, _, _, _, _, _, _, _, _, _, _, _, _, _, _, _, _, _]) (fun _ h => h) (by kernel_rfl) ?_
      refine tk 0 rfl (OpV.loadAll rfl (u10 mq1) ag_39) ?_
      refine tk 1 rfl (OpV.loadAll rfl (u10 (u10 mq7)) ag_30) ?_
      refine al1 2 rfl ?_
      refine OpH.callR (ec rfl e0) ca_11 (fun w hs => w_laws_toCrtc e16_2 (r1_0.ext hs.below) (r1_1.ext hs.below) (r1_2.ext hs.below)) ?_
      rintro _ _ ⟨a16_200, n16_200, c16_200, f16_200, a16_201, n16_201, c16_201, f16_201, a16_202, n16_202, c16_202, f16_202, rfl, rfl⟩
      refine ⟨[_, _, _], rfl, ?_⟩
      refine WAE.rebase (H := []) ?_
      refine tk 3 rfl (OpV.call (ec rfl (ec rfl e0)) ca_14 (fun w hs => w_laws_eqCrtc e16_3 (Ow.rd (hs.mem (u10 mq5))) (Ow.rd (hs.mem (u10 mq6))) (Ow.rd (hs.mem (u10 mq7))) (Ow.rd (hs.mem mq0)) (Ow.rd (hs.mem mq1)) (Ow.rd (hs.mem mq2)))) ?_
      refine tk 4 rfl (OpV.not rfl) ?_
      refine WAE.done (by kernel_rfl) ?_ _
      refine En.next ?_
      refine WC.cond rfl ?_ ?_
      ·
       intro hc_5
       replace h := ifO_t hc_5 h
       refine WC.sr ?_
       refine ag ?_
       refine WL.nil (En.next (WC.ret (En.then_ret ?_)))
       refine En.ret1 rfl (Res.tmp rfl) ?_
       obtain rfl := Option.some.inj h
       intro w' hs
       exact ⟨rfl, hs.below⟩
      ·
       intro hc_5
       replace h := ifO_f hc_5 h
       refine WC.skip (En.next (WC.sr ?_))
       refine ag ?_
       refine WL.nil (En.next (WC.seq ?_))
       obtain ⟨⟨x19_2a, x19_2b, x19_2c, x19_2d⟩, e19_2, h⟩ := bnd h
       refine WC.region ?_
       refine sp (OpV.loadAll rfl (u10 mq8) ag_35) ?_
       refine mv ?_
       refine WL.wkF (fun _ h => h.pm 21) ?_
       refine WL.wkF (fun _ h => h.pm 21) ?_
       refine WL.wkF (fun _ h => h.pm 21) ?_
       refine WL.heavy rfl rfl rfl (OpH.callX (ec rfl (ec rfl e0)) ca_15 (fun w hs => w_laws_markFlips e19_2 hs) ?_)
       rintro _ _ ⟨g19_200, g19_201, g19_202, rfl, rfl⟩
       refine ag ?_
       refine WL.nil (En.next (WC.seq ?_))
       obtain ⟨⟨x20_2a, x20_2b, x20_2c, x20_2d⟩, e20_2, h⟩ := bnd h
       refine WC.region ?_
       refine sp (OpV.loadAll rfl (u10 mq7) ag_39) ?_
       refine mv ?_
       refine WL.wkF (fun _ h => h.pm 20) ?_
       refine WL.wkF (fun _ h => h.pm 20) ?_
       refine WL.wkF (fun _ h => h.pm 20) ?_
       refine WL.heavy rfl rfl rfl (OpH.callX (ec rfl (ec rfl e0)) ca_16 (fun w hs => w_laws_markCrtc e20_2 hs) ?_)
       rintro _ _ ⟨g20_200, g20_201, g20_202, rfl, rfl⟩
       refine ag ?_
       refine WL.nil (En.next (WC.seq (WC.seq ?_)))
       obtain ⟨q21_7, e21_7, h⟩ := bnd h
       obtain ⟨q21_13, e21_13, h⟩ := bnd h
       refine WC.region ?_
       refine mv ?_
       refine sp (OpV.lss rfl rfl) ?_
       refine mv ?_
       refine Lt.ofWL.orQ 83 88 87 (p := ?pz3) (rest := ?qz3) (B := q21_7) rfl (fun hz => orO_t e21_7 hz) ?Tz3 ?Fz3 ?az3 ?bz3 ?cz3 ?dz3 ?ez3
       case Tz3 =>
        intro hcz3 hkz3
        refine sk ?_
        refine sk ?_
        refine sk ?_
        refine sk ?_
        refine hkz3 _ ?_
        repeat (first | exact Sub.refl _ | refine Sub.skip rfl ?_)
       case Fz3 =>
        intro hcz3 hkz3
        have hqz3 := orO_f e21_7 hcz3
        obtain ⟨x21_5, e21_5, hqz3⟩ := bnd hqz3
        obtain rfl := Option.some.inj hqz3
        refine sp (OpV.loadAll rfl (u10 mq3) ag_35) ?_
        refine sp (OpV.loadAll rfl (u10 (u10 mq3)) ag_35) ?_
        refine sp (OpV.call (ec rfl (ec rfl e0)) ca_13 (fun w hs => w_laws_eqFlips e21_5 (Ow.rd (hs.mem (u10 mq4))) (Ow.rd (hs.mem (u10 mq5))) (Ow.rd (hs.mem (u10 mq6))) (Ow.rd (hs.mem (u10 (u10 mq4)))) (Ow.rd (hs.mem (u10 (u10 mq5)))) (Ow.rd (hs.mem (u10 (u10 mq6)))))) ?_
        refine sp (OpV.not rfl) ?_
        refine hkz3 _ ?_ ?_
        exact rfl
        repeat (first | exact Sub.refl _ | refine Sub.skip rfl ?_)
       case az3 => exact rfl
       case bz3 => exact rfl
       case cz3 => exact rfl
       case dz3 => exact rfl
       refine mv ?_
       refine Lt.ofWL.orQ 89 94 93 (p := ?pz4) (rest := ?qz4) (B := q21_13) rfl (fun hz => orO_t e21_13 hz) ?Tz4 ?Fz4 ?az4 ?bz4 ?cz4 ?dz4 ?ez4
       case Tz4 =>
        intro hcz4 hkz4
        refine sk ?_
        refine sk ?_
        refine sk ?_
        refine sk ?_
        refine hkz4 _ ?_
        repeat (first | exact Sub.refl _ | refine Sub.skip rfl ?_)
       case Fz4 =>
        intro hcz4 hkz4
        have hqz4 := orO_f e21_13 hcz4
        obtain ⟨x21_11, e21_11, hqz4⟩ := bnd hqz4
        obtain rfl := Option.some.inj hqz4
        refine sp (OpV.loadAll rfl (u10 mq2) ag_39) ?_
        refine sp (OpV.loadAll rfl (u10 (u10 mq2)) ag_39) ?_
        refine sp (OpV.call (ec rfl (ec rfl e0)) ca_14 (fun w hs => w_laws_eqCrtc e21_11 (Ow.rd (hs.mem (u10 mq7))) (Ow.rd (hs.mem (u10 mq8))) (Ow.rd (hs.mem (u10 mq9))) (Ow.rd (hs.mem (u10 (u10 mq7)))) (Ow.rd (hs.mem (u10 (u10 mq8)))) (Ow.rd (hs.mem (u10 (u10 mq9)))))) ?_
        refine sp (OpV.not rfl) ?_
        refine hkz4 _ ?_ ?_
        exact rfl
        repeat (first | exact Sub.refl _ | refine Sub.skip rfl ?_)
       case az4 => exact rfl
       case bz4 => exact rfl
       case cz4 => exact rfl
       case dz4 => exact rfl
       refine mv ?_
       refine Lt.ofWL.or 95 99 98 (p := ?pz5) (rest := ?qz5) (B := ?Bz5) rfl ?Tz5 ?Fz5 ?az5 ?bz5 ?cz5 ?dz5 ?ez5
       case Tz5 =>
        intro hcz5 hkz5
        refine sk ?_
        refine sk ?_
        refine sk ?_
        refine hkz5 _ ?_
        repeat (first | exact Sub.refl _ | refine Sub.skip rfl ?_)
       case Fz5 =>
        intro hcz5 hkz5
        refine mv ?_
        refine mv ?_
        refine sp (OpV.bneq rfl rfl ub_4) ?_
        refine hkz5 _ ?_ ?_
        exact rfl
        repeat (first | exact Sub.refl _ | refine Sub.skip rfl ?_)
       case az5 => exact rfl
       case bz5 => exact rfl
       case cz5 => exact rfl
       case dz5 => exact rfl
       refine WL.nil (En.next ?_)
       refine WC.cond rfl ?_ ?_
       ·
        intro hc_6
        replace h := ifO_t hc_6 h
        refine WC.sr ?_
        refine ag ?_
        refine WL.nil (En.next (WC.ret (En.then_ret ?_)))
        refine En.ret1 rfl (Res.tmp rfl) ?_
        obtain rfl := Option.some.inj h
        intro w' hs
        exact ⟨rfl, hs.below⟩
       ·
        intro hc_6
        replace h := ifO_f hc_6 h
        refine WC.skip (En.next (WC.sr ?_))
        refine ag ?_
        refine WL.nil (En.next (WC.seq ?_))
        obtain ⟨⟨x24_2a, x24_2b, x24_2c, x24_2d⟩, e24_2, h⟩ := bnd h
        refine WC.region ?_
        refine sp (OpV.loadAll rfl (u10 mq3) ag_35) ?_
        refine mv ?_
        refine WL.wkF (fun _ h => h.pm 16) ?_
        refine WL.wkF (fun _ h => h.pm 16) ?_
        refine WL.wkF (fun _ h => h.pm 16) ?_
        refine WL.heavy rfl rfl rfl (OpH.callX (ec rfl (ec rfl e0)) ca_15 (fun w hs => w_laws_markFlips e24_2 hs) ?_)
        rintro _ _ ⟨g24_200, g24_201, g24_202, rfl, rfl⟩
        refine ag ?_
        refine WL.nil (En.next (WC.seq ?_))
        obtain ⟨⟨x25_2a, x25_2b, x25_2c, x25_2d⟩, e25_2, h⟩ := bnd h
        refine WC.region ?_
        refine sp (OpV.loadAll rfl (u10 mq5) ag_39) ?_
        refine mv ?_
        refine WL.wkF (fun _ h => h.pm 19) ?_
        refine WL.wkF (fun _ h => h.pm 19) ?_
        refine WL.wkF (fun _ h => h.pm 19) ?_
        refine WL.heavy rfl rfl rfl (OpH.callX (ec rfl (ec rfl e0)) ca_16 (fun w hs => w_laws_markCrtc e25_2 hs) ?_)
        rintro _ _ ⟨g25_200, g25_201, g25_202, rfl, rfl⟩
        refine ag ?_
        refine WL.nil (En.next (WC.sr ?_))
        refine ag ?_
        refine WL.nil (En.next (WC.seq ?_))
        obtain ⟨x27_2, e27_2, h⟩ := bnd h
        refine WC.region ?_
        refine sp (OpV.loadAll rfl (u10 mq9) ag_35) ?_
        refine mv ?_
        refine sp (OpV.call (ec rfl (ec rfl e0)) ca_17 (fun w hs => w_laws_heldFlips e27_2 (Ow.rd (hs.mem mq3)) (Ow.rd (hs.mem mq4)) (Ow.rd (hs.mem mq5)))) ?_
        refine ag ?_
        refine WL.nil (En.next (WC.seq (WC.sr ?_)))
        refine mv ?_
        refine sp (OpV.lss rfl rfl) ?_
        refine WL.nil (En.next ?_)
        refine WC.cond rfl ?_ ?_
        ·
         intro hc_7
         replace h := ifO_t hc_7 h
         refine WC.sr ?_
         refine ag ?_
         refine WL.nil (En.next (WC.ret (En.then_ret ?_)))
         refine En.ret1 rfl (Res.tmp rfl) ?_
         obtain rfl := Option.some.inj h
         intro w' hs
         exact ⟨rfl, hs.below⟩
        ·
         intro hc_7
         replace h := ifO_f hc_7 h
         refine WC.skip (En.next (WC.seq ?_))
         obtain ⟨x30_2, e30_2, h⟩ := bnd h
         refine WC.region ?_
         refine sp (OpV.loadAll rfl (u10 mq8) ag_39) ?_
         refine mv ?_
         refine sp (OpV.call (ec rfl (ec rfl e0)) ca_18 (fun w hs => w_laws_heldCrtc e30_2 (Ow.rd (hs.mem mq0)) (Ow.rd (hs.mem mq1)) (Ow.rd (hs.mem mq2)))) ?_
         refine ag ?_
         refine WL.nil (En.next (WC.seq (WC.sr ?_)))
         refine mv ?_
         refine sp (OpV.lss rfl rfl) ?_
         refine WL.nil (En.next ?_)
         refine WC.cond rfl ?_ ?_
         ·
          intro hc_8
          replace h := ifO_t hc_8 h
          refine WC.sr ?_
          refine ag ?_
          refine WL.nil (En.next (WC.ret (En.then_ret ?_)))
          refine En.ret1 rfl (Res.tmp rfl) ?_
          obtain rfl := Option.some.inj h
          intro w' hs
          exact ⟨rfl, hs.below⟩
         ·
          intro hc_8
          replace h := ifO_f hc_8 h
          refine WC.skip (En.next (WC.seq (WC.sr ?_)))
          refine mv ?_
          refine mv ?_
          refine sp (OpV.neq rfl rfl) ?_
          refine WL.nil (En.next ?_)
          refine WC.cond rfl ?_ ?_
          ·
           intro hc_9
           replace h := ifO_t hc_9 h
           refine WC.sr ?_
           refine ag ?_
           refine WL.nil (En.next (WC.ret (En.then_ret ?_)))
           refine En.ret1 rfl (Res.tmp rfl) ?_
           obtain rfl := Option.some.inj h
           intro w' hs
           exact ⟨rfl, hs.below⟩
          ·
           intro hc_9
           replace h := ifO_f hc_9 h
           refine WC.skip (En.next (WC.seq ?_))
           obtain ⟨x35_1, e35_1, h⟩ := bnd h
           obtain ⟨x35_3, e35_3, h⟩ := bnd h
           obtain ⟨⟨x35_4a, x35_4b, x35_4c⟩, e35_4, h⟩ := bnd h
           refine WC.cut (X := Nat × (Option Addr) × Nat × Nat × (Option Addr) × Nat × Nat × (Option Addr) × Nat × Nat × Nat × (Option Addr) × Nat × Nat × (Option Addr) × Nat × Nat × (Option Addr) × Nat × Nat × (List Nat) × (List Nat) × (List Nat) × (List Nat) × (List Nat) × (List Nat) × (List Nat) × (Option Addr) × Nat × Nat × (List Nat) × (Option Addr) × Nat × Nat × (List Nat) × (Option Addr) × Nat × Nat × (List Nat) × (Option Addr) × Nat × Nat × (List Nat) × (Option Addr) × Nat × Nat × (List Nat) × (Option Addr) × Nat × Nat) .normal (fun _ => True) (fun x => match x with | (b35_10, a35_410, n35_410, c35_410, a35_411, n35_411, c35_411, a35_412, n35_412, c35_412, b35_9, a35_400, n35_400, c35_400, a35_401, n35_401, c35_401, a35_402, n35_402, c35_402, f35_400, f35_401, f35_402, f35_410, f35_411, f35_412, f35_300, a35_300, n35_300, c35_300, f35_301, a35_301, n35_301, c35_301, f35_302, a35_302, n35_302, c35_302, f35_100, a35_100, n35_100, c35_100, f35_101, a35_101, n35_101, c35_101, f35_102, a35_102, n35_102, c35_102) => [(6, .pointer (some ⟨b8_9, 0, .none⟩)), (7, .pointer (some ⟨b8_10, 0, .none⟩)), (8, .bool x8_4c), (11, .pointer (some ⟨b11_7, 0, .none⟩)), (12, .pointer (some ⟨b11_8, 0, .none⟩)), (15, .int .i64 x25_2a), (17, .pointer (some ⟨b35_9, 0, .none⟩)), (18, .pointer (some ⟨b35_10, 0, .none⟩)), (19, .bool x35_4c)]) (fun x => match x with | (b35_10, a35_410, n35_410, c35_410, a35_411, n35_411, c35_411, a35_412, n35_412, c35_412, b35_9, a35_400, n35_400, c35_400, a35_401, n35_401, c35_401, a35_402, n35_402, c35_402, f35_400, f35_401, f35_402, f35_410, f35_411, f35_412, f35_300, a35_300, n35_300, c35_300, f35_301, a35_301, n35_301, c35_301, f35_302, a35_302, n35_302, c35_302, f35_100, a35_100, n35_100, c35_100, f35_101, a35_101, n35_101, c35_101, f35_102, a35_102, n35_102, c35_102) => [Chunk.box b35_10 39 [.int .i64 x35_4b.W, .int .i64 x35_4b.H, .slice a35_410 n35_410 c35_410, .slice a35_411 n35_411 c35_411, .slice a35_412 n35_412 c35_412], Chunk.box b35_9 35 [.slice a35_400 n35_400 c35_400, .slice a35_401 n35_401 c35_401, .int .i64 x35_4a.Next, .slice a35_402 n35_402 c35_402], Chunk.own tFlip f35_400 a35_400 n35_400 c35_400 x35_4a.Pending, Chunk.own tInt f35_401 a35_401 n35_401 c35_401 x35_4a.Signalled, Chunk.own tInt f35_402 a35_402 n35_402 c35_402 x35_4a.Events, Chunk.own tPlane f35_410 a35_410 n35_410 c35_410 x35_4b.Planes, Chunk.own tInt f35_411 a35_411 n35_411 c35_411 x35_4b.Color.Matrix, Chunk.own tInt f35_412 a35_412 n35_412 c35_412 x35_4b.Color.Curve, Chunk.own tPlane g25_200 a11_210 n11_210 c11_210 x25_2b, Chunk.own tInt g25_201 a11_211 n11_211 c11_211 x25_2c, Chunk.own tInt g25_202 a11_212 n11_212 c11_212 x25_2d, Chunk.own tFlip g24_200 a11_200 n11_200 c11_200 x24_2b, Chunk.own tInt g24_201 a11_201 n11_201 c11_201 x24_2c, Chunk.own tInt g24_202 a11_202 n11_202 c11_202 x24_2d, Chunk.box b11_8 39 [.int .i64 x11_2b.W, .int .i64 x11_2b.H, .slice a11_210 n11_210 c11_210, .slice a11_211 n11_211 c11_211, .slice a11_212 n11_212 c11_212], Chunk.box b11_7 35 [.slice a11_200 n11_200 c11_200, .slice a11_201 n11_201 c11_201, .int .i64 x11_2a.Next, .slice a11_202 n11_202 c11_202], Chunk.box b8_10 39 [.int .i64 x8_4b.W, .int .i64 x8_4b.H, .slice a8_410 n8_410 c8_410, .slice a8_411 n8_411 c8_411, .slice a8_412 n8_412 c8_412], Chunk.box b8_9 35 [.slice a8_400 n8_400 c8_400, .slice a8_401 n8_401 c8_401, .int .i64 x8_4a.Next, .slice a8_402 n8_402 c8_402], Chunk.own tFlip f8_400 a8_400 n8_400 c8_400 x8_4a.Pending, Chunk.own tInt f8_401 a8_401 n8_401 c8_401 x8_4a.Signalled, Chunk.own tInt f8_402 a8_402 n8_402 c8_402 x8_4a.Events, Chunk.own tPlane f8_410 a8_410 n8_410 c8_410 x8_4b.Planes, Chunk.own tInt f8_411 a8_411 n8_411 c8_411 x8_4b.Color.Matrix, Chunk.own tInt f8_412 a8_412 n8_412 c8_412 x8_4b.Color.Curve]) ?_ ?_
           ·
            rintro ⟨b35_10, a35_410, n35_410, c35_410, a35_411, n35_411, c35_411, a35_412, n35_412, c35_412, b35_9, a35_400, n35_400, c35_400, a35_401, n35_401, c35_401, a35_402, n35_402, c35_402, f35_400, f35_401, f35_402, f35_410, f35_411, f35_412, f35_300, a35_300, n35_300, c35_300, f35_301, a35_301, n35_301, c35_301, f35_302, a35_302, n35_302, c35_302, f35_100, a35_100, n35_100, c35_100, f35_101, a35_101, n35_101, c35_101, f35_102, a35_102, n35_102, c35_102⟩ _
            show En _ _ _ _ [(6, .pointer (some ⟨b8_9, 0, .none⟩)), (7, .pointer (some ⟨b8_10, 0, .none⟩)), (8, .bool x8_4c), (11, .pointer (some ⟨b11_7, 0, .none⟩)), (12, .pointer (some ⟨b11_8, 0, .none⟩)), (15, .int .i64 x25_2a), (17, .pointer (some ⟨b35_9, 0, .none⟩)), (18, .pointer (some ⟨b35_10, 0, .none⟩)), (19, .bool x35_4c)] [Chunk.box b35_10 39 [.int .i64 x35_4b.W, .int .i64 x35_4b.H, .slice a35_410 n35_410 c35_410, .slice a35_411 n35_411 c35_411, .slice a35_412 n35_412 c35_412], Chunk.box b35_9 35 [.slice a35_400 n35_400 c35_400, .slice a35_401 n35_401 c35_401, .int .i64 x35_4a.Next, .slice a35_402 n35_402 c35_402], Chunk.own tFlip f35_400 a35_400 n35_400 c35_400 x35_4a.Pending, Chunk.own tInt f35_401 a35_401 n35_401 c35_401 x35_4a.Signalled, Chunk.own tInt f35_402 a35_402 n35_402 c35_402 x35_4a.Events, Chunk.own tPlane f35_410 a35_410 n35_410 c35_410 x35_4b.Planes, Chunk.own tInt f35_411 a35_411 n35_411 c35_411 x35_4b.Color.Matrix, Chunk.own tInt f35_412 a35_412 n35_412 c35_412 x35_4b.Color.Curve, Chunk.own tPlane g25_200 a11_210 n11_210 c11_210 x25_2b, Chunk.own tInt g25_201 a11_211 n11_211 c11_211 x25_2c, Chunk.own tInt g25_202 a11_212 n11_212 c11_212 x25_2d, Chunk.own tFlip g24_200 a11_200 n11_200 c11_200 x24_2b, Chunk.own tInt g24_201 a11_201 n11_201 c11_201 x24_2c, Chunk.own tInt g24_202 a11_202 n11_202 c11_202 x24_2d, Chunk.box b11_8 39 [.int .i64 x11_2b.W, .int .i64 x11_2b.H, .slice a11_210 n11_210 c11_210, .slice a11_211 n11_211 c11_211, .slice a11_212 n11_212 c11_212], Chunk.box b11_7 35 [.slice a11_200 n11_200 c11_200, .slice a11_201 n11_201 c11_201, .int .i64 x11_2a.Next, .slice a11_202 n11_202 c11_202], Chunk.box b8_10 39 [.int .i64 x8_4b.W, .int .i64 x8_4b.H, .slice a8_410 n8_410 c8_410, .slice a8_411 n8_411 c8_411, .slice a8_412 n8_412 c8_412], Chunk.box b8_9 35 [.slice a8_400 n8_400 c8_400, .slice a8_401 n8_401 c8_401, .int .i64 x8_4a.Next, .slice a8_402 n8_402 c8_402], Chunk.own tFlip f8_400 a8_400 n8_400 c8_400 x8_4a.Pending, Chunk.own tInt f8_401 a8_401 n8_401 c8_401 x8_4a.Signalled, Chunk.own tInt f8_402 a8_402 n8_402 c8_402 x8_4a.Events, Chunk.own tPlane f8_410 a8_410 n8_410 c8_410 x8_4b.Planes, Chunk.own tInt f8_411 a8_411 n8_411 c8_411 x8_4b.Color.Matrix, Chunk.own tInt f8_412 a8_412 n8_412 c8_412 x8_4b.Color.Curve]
            refine En.next (WC.seq (WC.seq ?_))
            obtain ⟨x36_2, e36_2, h⟩ := bnd h
            obtain ⟨q36_9, e36_9, h⟩ := bnd h
            refine WC.region ?_
            refine sp (OpV.loadAll rfl mq1 ag_35) ?_
            refine sp (OpV.loadAll rfl (u10 mq7) ag_35) ?_
            refine sp (OpV.call (ec rfl (ec rfl e0)) ca_13 (fun w hs => w_laws_eqFlips e36_2 (Ow.rd (hs.mem mq2)) (Ow.rd (hs.mem mq3)) (Ow.rd (hs.mem mq4)) (Ow.rd (hs.mem (u10 mq8))) (Ow.rd (hs.mem (u10 mq9))) (Ow.rd (hs.mem (u10 (u10 mq0)))))) ?_
            refine sp (OpV.not rfl) ?_
            refine mv ?_
            refine Lt.ofWL.orQ 132 137 136 (p := ?pz6) (rest := ?qz6) (B := q36_9) rfl (fun hz => orO_t e36_9 hz) ?Tz6 ?Fz6 ?az6 ?bz6 ?cz6 ?dz6 ?ez6
            case Tz6 =>
             intro hcz6 hkz6
             refine sk ?_
             refine sk ?_
             refine sk ?_
             refine sk ?_
             refine hkz6 _ ?_
             repeat (first | exact Sub.refl _ | refine Sub.skip rfl ?_)
            case Fz6 =>
             intro hcz6 hkz6
             have hqz6 := orO_f e36_9 hcz6
             obtain ⟨x36_7, e36_7, hqz6⟩ := bnd hqz6
             obtain rfl := Option.some.inj hqz6
             refine sp (OpV.loadAll rfl mq0 ag_39) ?_
             refine sp (OpV.loadAll rfl (u10 mq6) ag_39) ?_
             refine sp (OpV.call (ec rfl (ec rfl e0)) ca_14 (fun w hs => w_laws_eqCrtc e36_7 (Ow.rd (hs.mem mq5)) (Ow.rd (hs.mem mq6)) (Ow.rd (hs.mem mq7)) (Ow.rd (hs.mem (u10 (u10 mq1)))) (Ow.rd (hs.mem (u10 (u10 mq2)))) (Ow.rd (hs.mem (u10 (u10 mq3)))))) ?_
             refine sp (OpV.not rfl) ?_
             refine hkz6 _ ?_ ?_
             exact rfl
             repeat (first | exact Sub.refl _ | refine Sub.skip rfl ?_)
            case az6 => exact rfl
            case bz6 => exact rfl
            case cz6 => exact rfl
            case dz6 => exact rfl
            refine mv ?_
            refine Lt.ofWL.or 138 142 141 (p := ?pz7) (rest := ?qz7) (B := ?Bz7) rfl ?Tz7 ?Fz7 ?az7 ?bz7 ?cz7 ?dz7 ?ez7
            case Tz7 =>
             intro hcz7 hkz7
             refine sk ?_
             refine sk ?_
             refine sk ?_
             refine hkz7 _ ?_
             repeat (first | exact Sub.refl _ | refine Sub.skip rfl ?_)
            case Fz7 =>
             intro hcz7 hkz7
             refine mv ?_
             refine mv ?_
             refine sp (OpV.bneq rfl rfl ub_4) ?_
             refine hkz7 _ ?_ ?_
             exact rfl
             repeat (first | exact Sub.refl _ | refine Sub.skip rfl ?_)
            case az7 => exact rfl
            case bz7 => exact rfl
            case cz7 => exact rfl
            case dz7 => exact rfl
            refine WL.nil (En.next ?_)
            refine WC.cond rfl ?_ ?_
            ·
             intro hc_10
             replace h := ifO_t hc_10 h
             refine WC.sr ?_
             refine ag ?_
             refine WL.nil (En.next (WC.ret (En.then_ret ?_)))
             refine En.ret1 rfl (Res.tmp rfl) ?_
             obtain rfl := Option.some.inj h
             intro w' hs
             exact ⟨rfl, hs.below⟩
            ·
             intro hc_10
             replace h := ifO_f hc_10 h
             refine WC.skip (En.next (WC.sr ?_))
             refine ag ?_
             refine WL.nil (En.next (WC.seq ?_))
             obtain ⟨x39_2, e39_2, h⟩ := bnd h
             refine WC.region ?_
             refine sp (OpV.loadAll rfl (u10 mq5) ag_35) ?_
             refine mv ?_
             refine sp (OpV.call (ec rfl (ec rfl e0)) ca_17 (fun w hs => w_laws_heldFlips e39_2 (Ow.rd (hs.mem (u10 mq1))) (Ow.rd (hs.mem (u10 mq2))) (Ow.rd (hs.mem (u10 mq3))))) ?_
             refine ag ?_
             refine WL.nil (En.next (WC.seq (WC.sr ?_)))
             refine mv ?_
             refine sp (OpV.lss rfl rfl) ?_
             refine WL.nil (En.next ?_)
             refine WC.cond rfl ?_ ?_
             ·
              intro hc_11
              replace h := ifO_t hc_11 h
              refine WC.sr ?_
              refine ag ?_
              refine WL.nil (En.next (WC.ret (En.then_ret ?_)))
              refine En.ret1 rfl (Res.tmp rfl) ?_
              obtain rfl := Option.some.inj h
              intro w' hs
              exact ⟨rfl, hs.below⟩
             ·
              intro hc_11
              replace h := ifO_f hc_11 h
              refine WC.skip (En.next (WC.seq ?_))
              obtain ⟨x42_2, e42_2, h⟩ := bnd h
              refine WC.region ?_
              refine sp (OpV.loadAll rfl (u10 mq4) ag_39) ?_
              refine mv ?_
              refine sp (OpV.call (ec rfl (ec rfl e0)) ca_18 (fun w hs => w_laws_heldCrtc e42_2 (Ow.rd (hs.mem mq8)) (Ow.rd (hs.mem mq9)) (Ow.rd (hs.mem (u10 mq0))))) ?_
              refine ag ?_
              refine WL.nil (En.next (WC.seq (WC.sr ?_)))
              refine mv ?_
              refine sp (OpV.lss rfl rfl) ?_
              refine WL.nil (En.next ?_)
              refine WC.cond rfl ?_ ?_
              ·
               intro hc_12
               replace h := ifO_t hc_12 h
               refine WC.sr ?_
               refine ag ?_
               refine WL.nil (En.next (WC.ret (En.then_ret ?_)))
               refine En.ret1 rfl (Res.tmp rfl) ?_
               obtain rfl := Option.some.inj h
               intro w' hs
               exact ⟨rfl, hs.below⟩
              ·
               intro hc_12
               replace h := ifO_f hc_12 h
               refine WC.skip (En.next (WC.seq (WC.sr ?_)))
               refine mv ?_
               refine mv ?_
               refine sp (OpV.neq rfl rfl) ?_
               refine WL.nil (En.next ?_)
               refine WC.cond rfl ?_ ?_
               ·
                intro hc_13
                replace h := ifO_t hc_13 h
                refine WC.sr ?_
                refine ag ?_
                refine WL.nil (En.next (WC.ret (En.then_ret ?_)))
                refine En.ret1 rfl (Res.tmp rfl) ?_
                obtain rfl := Option.some.inj h
                intro w' hs
                exact ⟨rfl, hs.below⟩
               ·
                intro hc_13
                replace h := ifO_f hc_13 h
                refine WC.skip (En.next (WC.sr ?_))
                refine ag ?_
                refine WL.nil (En.next (WC.ret ?_))
                refine En.ret1 rfl (Res.tmp rfl) ?_
                obtain rfl := Option.some.inj h
                intro w' hs
                exact ⟨rfl, hs.below⟩
           ·
            intro KR35
            refine WC.drawnH [] ([_, _, _, _, _, _, _, _, _, _, _, _, _, _, _, _, _, _, _, _, _, _, _, _, _, _, _, _, _, _, _, _]) (fun _ h => h) (by kernel_rfl) ?_
            refine tk 0 rfl (OpV.loadAll rfl (u10 (u10 (u10 mq1))) ag_25) ?_
            refine tk 2 rfl (OpV.loadAll rfl (u10 (u10 (u10 mq0))) ag_30) ?_
            refine WAE.all (rs := [1, 9, 10]) (by kernel_rfl) rfl (AllR.cons rfl rfl rfl rfl ?_ (AllR.cons rfl rfl rfl rfl ?_ (AllR.cons rfl rfl rfl rfl ?_ AllR.nil)))
            ·
             refine OpH.callR (ec rfl e0) ca_10 (fun w hs => w_laws_toFlips e35_1 (r0_0.ext hs.below) (r0_1.ext hs.below) (r0_2.ext hs.below)) ?_
             rintro _ _ ⟨a35_100, n35_100, c35_100, f35_100, a35_101, n35_101, c35_101, f35_101, a35_102, n35_102, c35_102, f35_102, rfl, rfl⟩
             refine ⟨[_, _, _], rfl, ?_⟩
             refine WAE.rebase (H := []) ?_
             refine WAE.all (rs := [3, 9, 10]) (by kernel_rfl) rfl (AllR.cons rfl rfl rfl rfl ?_ (AllR.cons rfl rfl rfl rfl ?_ (AllR.cons rfl rfl rfl rfl ?_ AllR.nil)))
             ·
              refine OpH.callR (ec rfl e0) ca_11 (fun w hs => w_laws_toCrtc e35_3 (r1_0.ext hs.below) (r1_1.ext hs.below) (r1_2.ext hs.below)) ?_
              rintro _ _ ⟨a35_300, n35_300, c35_300, f35_300, a35_301, n35_301, c35_301, f35_301, a35_302, n35_302, c35_302, f35_302, rfl, rfl⟩
              refine ⟨[_, _, _], rfl, ?_⟩
              refine WAE.rebase (H := []) ?_
              refine WAE.all (rs := [4, 9, 10]) (by kernel_rfl) rfl (AllR.cons rfl rfl rfl rfl ?_ (AllR.cons rfl rfl rfl rfl ?_ (AllR.cons rfl rfl rfl rfl ?_ AllR.nil)))
              ·
               refine OpH.callR (ec rfl (ec rfl e0)) ca_12 (fun w hs => w_impl_TakeFlip e35_4 (Ow.rd (hs.mem mq3)) (Ow.rd (hs.mem mq4)) (Ow.rd (hs.mem mq5)) (Ow.rd (hs.mem mq0)) (Ow.rd (hs.mem mq1)) (Ow.rd (hs.mem mq2))) ?_
               rintro _ _ ⟨a35_400, n35_400, c35_400, f35_400, a35_401, n35_401, c35_401, f35_401, a35_402, n35_402, c35_402, f35_402, a35_410, n35_410, c35_410, f35_410, a35_411, n35_411, c35_411, f35_411, a35_412, n35_412, c35_412, f35_412, rfl, rfl⟩
               refine ⟨[_, _, _, _, _, _], rfl, ?_⟩
               refine WAE.rebase (H := []) ?_
               refine tk 5 rfl (OpV.move rfl) ?_
               refine tk 6 rfl (OpV.extract rfl rfl) ?_
               refine tk 7 rfl (OpV.extract rfl rfl) ?_
               refine tk 8 rfl (OpV.extract rfl rfl) ?_
               refine WAE.all (rs := [9, 10]) (by kernel_rfl) rfl (AllR.cons rfl rfl rfl rfl ?_ (AllR.cons rfl rfl rfl rfl ?_ AllR.nil))
               ·
                refine OpH.alloc zc_35 ?_
                intro b35_9
                refine ⟨[_], rfl, ?_⟩
                refine al1 10 rfl ?_
                refine OpH.alloc zc_39 ?_
                intro b35_10
                refine ⟨[_, _], rfl, ?_⟩
                refine al0 11 rfl ?_
                refine OpH.storeTo (A := [_]) [_, _, _, _] rfl rfl rfl ts_35 rfl rfl rfl ?_
                refine ⟨[_, _], rfl, ?_⟩
                refine al0 12 rfl ?_
                refine OpH.storeTo (A := []) [_, _, _, _, _] rfl rfl rfl ts_39 rfl rfl rfl ?_
                refine ⟨[_, _], rfl, ?_⟩
                refine WAE.rebase (H := []) ?_
                refine tk 13 rfl (OpV.assign rfl) ?_
                refine WAE.done (by kernel_rfl) ?_ _
                exact En.wk _ _ (sc (sc (sc (sc (sc (sc (sc (sc (sc sn))))))))) (fun _ h => (((((((((((((((((((((((((h).pm 43).pm 43).pm 43).pm 43).pm 43).pm 43).pm 43).pm 43).pm 41).pm 41).pm 29).pm 29).pm 29).pm 29).pm 29).pm 29).pm 23).pm 23).pm 23).pm 23).pm 23).pm 23).pm 23).pm 23).sub (.cons_cons _ (.cons_cons _ (.cons_cons _ (.cons_cons _ (.cons_cons _ (.cons_cons _ (.cons_cons _ (.cons_cons _ (.cons_cons _ (.cons_cons _ (.cons_cons _ (.cons_cons _ (.cons_cons _ (.cons_cons _ (.cons_cons _ (.cons_cons _ (.cons_cons _ (.cons_cons _ (.cons_cons _ (.cons_cons _ (.cons_cons _ (.cons_cons _ (.cons_cons _ (.cons_cons _ (.cons _ (.cons _ (.cons _ (.cons _ (.cons _ (.cons _ (.cons _ (.cons _ (.cons _ (.cons _ (.cons _ (.cons _ (.cons _ (.cons _ (.cons _ (.cons _ (.cons _ (.cons _ (.cons _ (.cons _ (.cons _ (.cons _ (.slnil)))))))))))))))))))))))))))))))))))))))))))))))) (KR35 (b35_10, a35_410, n35_410, c35_410, a35_411, n35_411, c35_411, a35_412, n35_412, c35_412, b35_9, a35_400, n35_400, c35_400, a35_401, n35_401, c35_401, a35_402, n35_402, c35_402, f35_400, f35_401, f35_402, f35_410, f35_411, f35_412, f35_300, a35_300, n35_300, c35_300, f35_301, a35_301, n35_301, c35_301, f35_302, a35_302, n35_302, c35_302, f35_100, a35_100, n35_100, c35_100, f35_101, a35_101, n35_101, c35_101, f35_102, a35_102, n35_102, c35_102) trivial)
               ·
                refine OpH.alloc zc_39 ?_
                intro b35_10
                refine ⟨[_], rfl, ?_⟩
                refine al1 9 rfl ?_
                refine OpH.alloc zc_35 ?_
                intro b35_9
                refine ⟨[_, _], rfl, ?_⟩
                refine al0 11 rfl ?_
                refine OpH.storeTo (A := []) [_, _, _, _] rfl rfl rfl ts_35 rfl rfl rfl ?_
                refine ⟨[_, _], rfl, ?_⟩
                refine al0 12 rfl ?_
                refine OpH.storeTo (A := [_]) [_, _, _, _, _] rfl rfl rfl ts_39 rfl rfl rfl ?_
                refine ⟨[_, _], rfl, ?_⟩
                refine WAE.rebase (H := []) ?_
                refine tk 13 rfl (OpV.assign rfl) ?_
                refine WAE.done (by kernel_rfl) ?_ _
                exact En.wk _ _ (sc (sc (sc (sc (sc (sc (sc (sc (sc sn))))))))) (fun _ h => (((((((((((((((((((((((((h).pm 43).pm 43).pm 43).pm 43).pm 43).pm 43).pm 43).pm 43).pm 41).pm 41).pm 29).pm 29).pm 29).pm 29).pm 29).pm 29).pm 23).pm 23).pm 23).pm 23).pm 23).pm 23).pm 22).pm 23).sub (.cons_cons _ (.cons_cons _ (.cons_cons _ (.cons_cons _ (.cons_cons _ (.cons_cons _ (.cons_cons _ (.cons_cons _ (.cons_cons _ (.cons_cons _ (.cons_cons _ (.cons_cons _ (.cons_cons _ (.cons_cons _ (.cons_cons _ (.cons_cons _ (.cons_cons _ (.cons_cons _ (.cons_cons _ (.cons_cons _ (.cons_cons _ (.cons_cons _ (.cons_cons _ (.cons_cons _ (.cons _ (.cons _ (.cons _ (.cons _ (.cons _ (.cons _ (.cons _ (.cons _ (.cons _ (.cons _ (.cons _ (.cons _ (.cons _ (.cons _ (.cons _ (.cons _ (.cons _ (.cons _ (.cons _ (.cons _ (.cons _ (.cons _ (.slnil)))))))))))))))))))))))))))))))))))))))))))))))) (KR35 (b35_10, a35_410, n35_410, c35_410, a35_411, n35_411, c35_411, a35_412, n35_412, c35_412, b35_9, a35_400, n35_400, c35_400, a35_401, n35_401, c35_401, a35_402, n35_402, c35_402, f35_400, f35_401, f35_402, f35_410, f35_411, f35_412, f35_300, a35_300, n35_300, c35_300, f35_301, a35_301, n35_301, c35_301, f35_302, a35_302, n35_302, c35_302, f35_100, a35_100, n35_100, c35_100, f35_101, a35_101, n35_101, c35_101, f35_102, a35_102, n35_102, c35_102) trivial)
              ·
               refine OpH.alloc zc_35 ?_
               intro b35_9
               refine ⟨[_], rfl, ?_⟩
               refine WAE.all (rs := [4, 10]) (by kernel_rfl) rfl (AllR.cons rfl rfl rfl rfl ?_ (AllR.cons rfl rfl rfl rfl ?_ AllR.nil))
               ·
                refine OpH.callR (ec rfl (ec rfl e0)) ca_12 (fun w hs => w_impl_TakeFlip e35_4 (Ow.rd (hs.mem mq4)) (Ow.rd (hs.mem mq5)) (Ow.rd (hs.mem mq6)) (Ow.rd (hs.mem mq1)) (Ow.rd (hs.mem mq2)) (Ow.rd (hs.mem mq3))) ?_
                rintro _ _ ⟨a35_400, n35_400, c35_400, f35_400, a35_401, n35_401, c35_401, f35_401, a35_402, n35_402, c35_402, f35_402, a35_410, n35_410, c35_410, f35_410, a35_411, n35_411, c35_411, f35_411, a35_412, n35_412, c35_412, f35_412, rfl, rfl⟩
                refine ⟨[_, _, _, _, _, _, _], rfl, ?_⟩
                refine tk 5 rfl (OpV.move rfl) ?_
                refine tk 6 rfl (OpV.extract rfl rfl) ?_
                refine tk 7 rfl (OpV.extract rfl rfl) ?_
                refine tk 8 rfl (OpV.extract rfl rfl) ?_
                refine al1 10 rfl ?_
                refine OpH.alloc zc_39 ?_
                intro b35_10
                refine ⟨[_, _, _, _, _, _, _, _], rfl, ?_⟩
                refine al0 11 rfl ?_
                refine OpH.storeTo (A := [_, _, _, _, _, _, _]) [_, _, _, _] rfl rfl rfl ts_35 rfl rfl rfl ?_
                refine ⟨[_, _, _, _, _, _, _, _], rfl, ?_⟩
                refine al0 12 rfl ?_
                refine OpH.storeTo (A := []) [_, _, _, _, _] rfl rfl rfl ts_39 rfl rfl rfl ?_
                refine ⟨[_, _, _, _, _, _, _, _], rfl, ?_⟩
                refine WAE.rebase (H := []) ?_
                refine tk 13 rfl (OpV.assign rfl) ?_
                refine WAE.done (by kernel_rfl) ?_ _
                exact En.wk _ _ (sc (sc (sc (sc (sc (sc (sc (sc (sc sn))))))))) (fun _ h => (((((((((((((((((((((((((h).pm 43).pm 43).pm 43).pm 43).pm 43).pm 43).pm 43).pm 43).pm 41).pm 41).pm 29).pm 29).pm 29).pm 29).pm 29).pm 29).pm 22).pm 22).pm 22).pm 22).pm 22).pm 22).pm 23).pm 23).sub (.cons_cons _ (.cons_cons _ (.cons_cons _ (.cons_cons _ (.cons_cons _ (.cons_cons _ (.cons_cons _ (.cons_cons _ (.cons_cons _ (.cons_cons _ (.cons_cons _ (.cons_cons _ (.cons_cons _ (.cons_cons _ (.cons_cons _ (.cons_cons _ (.cons_cons _ (.cons_cons _ (.cons_cons _ (.cons_cons _ (.cons_cons _ (.cons_cons _ (.cons_cons _ (.cons_cons _ (.cons _ (.cons _ (.cons _ (.cons _ (.cons _ (.cons _ (.cons _ (.cons _ (.cons _ (.cons _ (.cons _ (.cons _ (.cons _ (.cons _ (.cons _ (.cons _ (.cons _ (.cons _ (.cons _ (.cons _ (.cons _ (.cons _ (.slnil)))))))))))))))))))))))))))))))))))))))))))))))) (KR35 (b35_10, a35_410, n35_410, c35_410, a35_411, n35_411, c35_411, a35_412, n35_412, c35_412, b35_9, a35_400, n35_400, c35_400, a35_401, n35_401, c35_401, a35_402, n35_402, c35_402, f35_400, f35_401, f35_402, f35_410, f35_411, f35_412, f35_300, a35_300, n35_300, c35_300, f35_301, a35_301, n35_301, c35_301, f35_302, a35_302, n35_302, c35_302, f35_100, a35_100, n35_100, c35_100, f35_101, a35_101, n35_101, c35_101, f35_102, a35_102, n35_102, c35_102) trivial)
               ·
                refine OpH.alloc zc_39 ?_
                intro b35_10
                refine ⟨[_, _], rfl, ?_⟩
                refine al1 4 rfl ?_
                refine OpH.callR (ec rfl (ec rfl e0)) ca_12 (fun w hs => w_impl_TakeFlip e35_4 (Ow.rd (hs.mem mq5)) (Ow.rd (hs.mem mq6)) (Ow.rd (hs.mem mq7)) (Ow.rd (hs.mem mq2)) (Ow.rd (hs.mem mq3)) (Ow.rd (hs.mem mq4))) ?_
                rintro _ _ ⟨a35_400, n35_400, c35_400, f35_400, a35_401, n35_401, c35_401, f35_401, a35_402, n35_402, c35_402, f35_402, a35_410, n35_410, c35_410, f35_410, a35_411, n35_411, c35_411, f35_411, a35_412, n35_412, c35_412, f35_412, rfl, rfl⟩
                refine ⟨[_, _, _, _, _, _, _, _], rfl, ?_⟩
                refine tk 5 rfl (OpV.move rfl) ?_
                refine tk 6 rfl (OpV.extract rfl rfl) ?_
                refine tk 7 rfl (OpV.extract rfl rfl) ?_
                refine tk 8 rfl (OpV.extract rfl rfl) ?_
                refine al0 11 rfl ?_
                refine OpH.storeTo (A := [_, _, _, _, _, _, _]) [_, _, _, _] rfl rfl rfl ts_35 rfl rfl rfl ?_
                refine ⟨[_, _, _, _, _, _, _, _], rfl, ?_⟩
                refine al0 12 rfl ?_
                refine OpH.storeTo (A := [_, _, _, _, _, _]) [_, _, _, _, _] rfl rfl rfl ts_39 rfl rfl rfl ?_
                refine ⟨[_, _, _, _, _, _, _, _], rfl, ?_⟩
                refine WAE.rebase (H := []) ?_
                refine tk 13 rfl (OpV.assign rfl) ?_
                refine WAE.done (by kernel_rfl) ?_ _
                exact En.wk _ _ (sc (sc (sc (sc (sc (sc (sc (sc (sc sn))))))))) (fun _ h => (((((((((((((((((((((((((h).pm 43).pm 43).pm 43).pm 43).pm 43).pm 43).pm 43).pm 43).pm 41).pm 41).pm 29).pm 29).pm 29).pm 29).pm 29).pm 29).pm 21).pm 21).pm 21).pm 21).pm 21).pm 21).pm 23).pm 23).sub (.cons_cons _ (.cons_cons _ (.cons_cons _ (.cons_cons _ (.cons_cons _ (.cons_cons _ (.cons_cons _ (.cons_cons _ (.cons_cons _ (.cons_cons _ (.cons_cons _ (.cons_cons _ (.cons_cons _ (.cons_cons _ (.cons_cons _ (.cons_cons _ (.cons_cons _ (.cons_cons _ (.cons_cons _ (.cons_cons _ (.cons_cons _ (.cons_cons _ (.cons_cons _ (.cons_cons _ (.cons _ (.cons _ (.cons _ (.cons _ (.cons _ (.cons _ (.cons _ (.cons _ (.cons _ (.cons _ (.cons _ (.cons _ (.cons _ (.cons _ (.cons _ (.cons _ (.cons _ (.cons _ (.cons _ (.cons _ (.cons _ (.cons _ (.slnil)))))))))))))))))))))))))))))))))))))))))))))))) (KR35 (b35_10, a35_410, n35_410, c35_410, a35_411, n35_411, c35_411, a35_412, n35_412, c35_412, b35_9, a35_400, n35_400, c35_400, a35_401, n35_401, c35_401, a35_402, n35_402, c35_402, f35_400, f35_401, f35_402, f35_410, f35_411, f35_412, f35_300, a35_300, n35_300, c35_300, f35_301, a35_301, n35_301, c35_301, f35_302, a35_302, n35_302, c35_302, f35_100, a35_100, n35_100, c35_100, f35_101, a35_101, n35_101, c35_101, f35_102, a35_102, n35_102, c35_102) trivial)
              ·
               refine OpH.alloc zc_39 ?_
               intro b35_10
               refine ⟨[_], rfl, ?_⟩
               refine WAE.all (rs := [4, 9]) (by kernel_rfl) rfl (AllR.cons rfl rfl rfl rfl ?_ (AllR.cons rfl rfl rfl rfl ?_ AllR.nil))
               ·
                refine OpH.callR (ec rfl (ec rfl e0)) ca_12 (fun w hs => w_impl_TakeFlip e35_4 (Ow.rd (hs.mem mq4)) (Ow.rd (hs.mem mq5)) (Ow.rd (hs.mem mq6)) (Ow.rd (hs.mem mq1)) (Ow.rd (hs.mem mq2)) (Ow.rd (hs.mem mq3))) ?_
                rintro _ _ ⟨a35_400, n35_400, c35_400, f35_400, a35_401, n35_401, c35_401, f35_401, a35_402, n35_402, c35_402, f35_402, a35_410, n35_410, c35_410, f35_410, a35_411, n35_411, c35_411, f35_411, a35_412, n35_412, c35_412, f35_412, rfl, rfl⟩
                refine ⟨[_, _, _, _, _, _, _], rfl, ?_⟩
                refine tk 5 rfl (OpV.move rfl) ?_
                refine tk 6 rfl (OpV.extract rfl rfl) ?_
                refine tk 7 rfl (OpV.extract rfl rfl) ?_
                refine tk 8 rfl (OpV.extract rfl rfl) ?_
                refine al1 9 rfl ?_
                refine OpH.alloc zc_35 ?_
                intro b35_9
                refine ⟨[_, _, _, _, _, _, _, _], rfl, ?_⟩
                refine al0 11 rfl ?_
                refine OpH.storeTo (A := []) [_, _, _, _] rfl rfl rfl ts_35 rfl rfl rfl ?_
                refine ⟨[_, _, _, _, _, _, _, _], rfl, ?_⟩
                refine al0 12 rfl ?_
                refine OpH.storeTo (A := [_, _, _, _, _, _, _]) [_, _, _, _, _] rfl rfl rfl ts_39 rfl rfl rfl ?_
                refine ⟨[_, _, _, _, _, _, _, _], rfl, ?_⟩
                refine WAE.rebase (H := []) ?_
                refine tk 13 rfl (OpV.assign rfl) ?_
                refine WAE.done (by kernel_rfl) ?_ _
                exact En.wk _ _ (sc (sc (sc (sc (sc (sc (sc (sc (sc sn))))))))) (fun _ h => (((((((((((((((((((((((((h).pm 43).pm 43).pm 43).pm 43).pm 43).pm 43).pm 43).pm 43).pm 41).pm 41).pm 29).pm 29).pm 29).pm 29).pm 29).pm 29).pm 22).pm 22).pm 22).pm 22).pm 22).pm 22).pm 22).pm 23).sub (.cons_cons _ (.cons_cons _ (.cons_cons _ (.cons_cons _ (.cons_cons _ (.cons_cons _ (.cons_cons _ (.cons_cons _ (.cons_cons _ (.cons_cons _ (.cons_cons _ (.cons_cons _ (.cons_cons _ (.cons_cons _ (.cons_cons _ (.cons_cons _ (.cons_cons _ (.cons_cons _ (.cons_cons _ (.cons_cons _ (.cons_cons _ (.cons_cons _ (.cons_cons _ (.cons_cons _ (.cons _ (.cons _ (.cons _ (.cons _ (.cons _ (.cons _ (.cons _ (.cons _ (.cons _ (.cons _ (.cons _ (.cons _ (.cons _ (.cons _ (.cons _ (.cons _ (.cons _ (.cons _ (.cons _ (.cons _ (.cons _ (.cons _ (.slnil)))))))))))))))))))))))))))))))))))))))))))))))) (KR35 (b35_10, a35_410, n35_410, c35_410, a35_411, n35_411, c35_411, a35_412, n35_412, c35_412, b35_9, a35_400, n35_400, c35_400, a35_401, n35_401, c35_401, a35_402, n35_402, c35_402, f35_400, f35_401, f35_402, f35_410, f35_411, f35_412, f35_300, a35_300, n35_300, c35_300, f35_301, a35_301, n35_301, c35_301, f35_302, a35_302, n35_302, c35_302, f35_100, a35_100, n35_100, c35_100, f35_101, a35_101, n35_101, c35_101, f35_102, a35_102, n35_102, c35_102) trivial)
               ·
                refine OpH.alloc zc_35 ?_
                intro b35_9
                refine ⟨[_, _], rfl, ?_⟩
                refine al1 4 rfl ?_
                refine OpH.callR (ec rfl (ec rfl e0)) ca_12 (fun w hs => w_impl_TakeFlip e35_4 (Ow.rd (hs.mem mq5)) (Ow.rd (hs.mem mq6)) (Ow.rd (hs.mem mq7)) (Ow.rd (hs.mem mq2)) (Ow.rd (hs.mem mq3)) (Ow.rd (hs.mem mq4))) ?_
                rintro _ _ ⟨a35_400, n35_400, c35_400, f35_400, a35_401, n35_401, c35_401, f35_401, a35_402, n35_402, c35_402, f35_402, a35_410, n35_410, c35_410, f35_410, a35_411, n35_411, c35_411, f35_411, a35_412, n35_412, c35_412, f35_412, rfl, rfl⟩
                refine ⟨[_, _, _, _, _, _, _, _], rfl, ?_⟩
                refine tk 5 rfl (OpV.move rfl) ?_
                refine tk 6 rfl (OpV.extract rfl rfl) ?_
                refine tk 7 rfl (OpV.extract rfl rfl) ?_
                refine tk 8 rfl (OpV.extract rfl rfl) ?_
                refine al0 11 rfl ?_
                refine OpH.storeTo (A := [_, _, _, _, _, _]) [_, _, _, _] rfl rfl rfl ts_35 rfl rfl rfl ?_
                refine ⟨[_, _, _, _, _, _, _, _], rfl, ?_⟩
                refine al0 12 rfl ?_
                refine OpH.storeTo (A := [_, _, _, _, _, _, _]) [_, _, _, _, _] rfl rfl rfl ts_39 rfl rfl rfl ?_
                refine ⟨[_, _, _, _, _, _, _, _], rfl, ?_⟩
                refine WAE.rebase (H := []) ?_
                refine tk 13 rfl (OpV.assign rfl) ?_
                refine WAE.done (by kernel_rfl) ?_ _
                exact En.wk _ _ (sc (sc (sc (sc (sc (sc (sc (sc (sc sn))))))))) (fun _ h => (((((((((((((((((((((((((h).pm 43).pm 43).pm 43).pm 43).pm 43).pm 43).pm 43).pm 43).pm 41).pm 41).pm 29).pm 29).pm 29).pm 29).pm 29).pm 29).pm 21).pm 21).pm 21).pm 21).pm 21).pm 21).pm 22).pm 23).sub (.cons_cons _ (.cons_cons _ (.cons_cons _ (.cons_cons _ (.cons_cons _ (.cons_cons _ (.cons_cons _ (.cons_cons _ (.cons_cons _ (.cons_cons _ (.cons_cons _ (.cons_cons _ (.cons_cons _ (.cons_cons _ (.cons_cons _ (.cons_cons _ (.cons_cons _ (.cons_cons _ (.cons_cons _ (.cons_cons _ (.cons_cons _ (.cons_cons _ (.cons_cons _ (.cons_cons _ (.cons _ (.cons _ (.cons _ (.cons _ (.cons _ (.cons _ (.cons _ (.cons _ (.cons _ (.cons _ (.cons _ (.cons _ (.cons _ (.cons _ (.cons _ (.cons _ (.cons _ (.cons _ (.cons _ (.cons _ (.cons _ (.cons _ (.slnil)))))))))))))))))))))))))))))))))))))))))))))))) (KR35 (b35_10, a35_410, n35_410, c35_410, a35_411, n35_411, c35_411, a35_412, n35_412, c35_412, b35_9, a35_400, n35_400, c35_400, a35_401, n35_401, c35_401, a35_402, n35_402, c35_402, f35_400, f35_401, f35_402, f35_410, f35_411, f35_412, f35_300, a35_300, n35_300, c35_300, f35_301, a35_301, n35_301, c35_301, f35_302, a35_302, n35_302, c35_302, f35_100, a35_100, n35_100, c35_100, f35_101, a35_101, n35_101, c35_101, f35_102, a35_102, n35_102, c35_102) trivial)
             ·
              refine OpH.alloc zc_35 ?_
              intro b35_9
              refine ⟨[_], rfl, ?_⟩
              refine WAE.all (rs := [3, 10]) (by kernel_rfl) rfl (AllR.cons rfl rfl rfl rfl ?_ (AllR.cons rfl rfl rfl rfl ?_ AllR.nil))
              ·
               refine OpH.callR (ec rfl e0) ca_11 (fun w hs => w_laws_toCrtc e35_3 (r1_0.ext hs.below) (r1_1.ext hs.below) (r1_2.ext hs.below)) ?_
               rintro _ _ ⟨a35_300, n35_300, c35_300, f35_300, a35_301, n35_301, c35_301, f35_301, a35_302, n35_302, c35_302, f35_302, rfl, rfl⟩
               refine ⟨[_, _, _, _], rfl, ?_⟩
               refine WAE.all (rs := [4, 10]) (by kernel_rfl) rfl (AllR.cons rfl rfl rfl rfl ?_ (AllR.cons rfl rfl rfl rfl ?_ AllR.nil))
               ·
                refine OpH.callR (ec rfl (ec rfl e0)) ca_12 (fun w hs => w_impl_TakeFlip e35_4 (Ow.rd (hs.mem mq4)) (Ow.rd (hs.mem mq5)) (Ow.rd (hs.mem mq6)) (Ow.rd (hs.mem mq0)) (Ow.rd (hs.mem mq1)) (Ow.rd (hs.mem mq2))) ?_
                rintro _ _ ⟨a35_400, n35_400, c35_400, f35_400, a35_401, n35_401, c35_401, f35_401, a35_402, n35_402, c35_402, f35_402, a35_410, n35_410, c35_410, f35_410, a35_411, n35_411, c35_411, f35_411, a35_412, n35_412, c35_412, f35_412, rfl, rfl⟩
                refine ⟨[_, _, _, _, _, _, _, _, _, _], rfl, ?_⟩
                refine tk 5 rfl (OpV.move rfl) ?_
                refine tk 6 rfl (OpV.extract rfl rfl) ?_
                refine tk 7 rfl (OpV.extract rfl rfl) ?_
                refine tk 8 rfl (OpV.extract rfl rfl) ?_
                refine al1 10 rfl ?_
                refine OpH.alloc zc_39 ?_
                intro b35_10
                refine ⟨[_, _, _, _, _, _, _, _, _, _, _], rfl, ?_⟩
                refine al0 11 rfl ?_
                refine OpH.storeTo (A := [_, _, _, _, _, _, _, _, _, _]) [_, _, _, _] rfl rfl rfl ts_35 rfl rfl rfl ?_
                refine ⟨[_, _, _, _, _, _, _, _, _, _, _], rfl, ?_⟩
                refine al0 12 rfl ?_
                refine OpH.storeTo (A := []) [_, _, _, _, _] rfl rfl rfl ts_39 rfl rfl rfl ?_
                refine ⟨[_, _, _, _, _, _, _, _, _, _, _], rfl, ?_⟩
                refine WAE.rebase (H := []) ?_
                refine tk 13 rfl (OpV.assign rfl) ?_
                refine WAE.done (by kernel_rfl) ?_ _
                exact En.wk _ _ (sc (sc (sc (sc (sc (sc (sc (sc (sc sn))))))))) (fun _ h => (((((((((((((((((((((((((h).pm 43).pm 43).pm 43).pm 43).pm 43).pm 43).pm 43).pm 43).pm 41).pm 41).pm 29).pm 29).pm 29).pm 29).pm 29).pm 29).pm 22).pm 22).pm 22).pm 22).pm 22).pm 22).pm 26).pm 23).sub (.cons_cons _ (.cons_cons _ (.cons_cons _ (.cons_cons _ (.cons_cons _ (.cons_cons _ (.cons_cons _ (.cons_cons _ (.cons_cons _ (.cons_cons _ (.cons_cons _ (.cons_cons _ (.cons_cons _ (.cons_cons _ (.cons_cons _ (.cons_cons _ (.cons_cons _ (.cons_cons _ (.cons_cons _ (.cons_cons _ (.cons_cons _ (.cons_cons _ (.cons_cons _ (.cons_cons _ (.cons _ (.cons _ (.cons _ (.cons _ (.cons _ (.cons _ (.cons _ (.cons _ (.cons _ (.cons _ (.cons _ (.cons _ (.cons _ (.cons _ (.cons _ (.cons _ (.cons _ (.cons _ (.cons _ (.cons _ (.cons _ (.cons _ (.slnil)))))))))))))))))))))))))))))))))))))))))))))))) (KR35 (b35_10, a35_410, n35_410, c35_410, a35_411, n35_411, c35_411, a35_412, n35_412, c35_412, b35_9, a35_400, n35_400, c35_400, a35_401, n35_401, c35_401, a35_402, n35_402, c35_402, f35_400, f35_401, f35_402, f35_410, f35_411, f35_412, f35_300, a35_300, n35_300, c35_300, f35_301, a35_301, n35_301, c35_301, f35_302, a35_302, n35_302, c35_302, f35_100, a35_100, n35_100, c35_100, f35_101, a35_101, n35_101, c35_101, f35_102, a35_102, n35_102, c35_102) trivial)
               ·
                refine OpH.alloc zc_39 ?_
                intro b35_10
                refine ⟨[_, _, _, _, _], rfl, ?_⟩
                refine al1 4 rfl ?_
                refine OpH.callR (ec rfl (ec rfl e0)) ca_12 (fun w hs => w_impl_TakeFlip e35_4 (Ow.rd (hs.mem mq5)) (Ow.rd (hs.mem mq6)) (Ow.rd (hs.mem mq7)) (Ow.rd (hs.mem mq1)) (Ow.rd (hs.mem mq2)) (Ow.rd (hs.mem mq3))) ?_
                rintro _ _ ⟨a35_400, n35_400, c35_400, f35_400, a35_401, n35_401, c35_401, f35_401, a35_402, n35_402, c35_402, f35_402, a35_410, n35_410, c35_410, f35_410, a35_411, n35_411, c35_411, f35_411, a35_412, n35_412, c35_412, f35_412, rfl, rfl⟩
                refine ⟨[_, _, _, _, _, _, _, _, _, _, _], rfl, ?_⟩
                refine tk 5 rfl (OpV.move rfl) ?_
                refine tk 6 rfl (OpV.extract rfl rfl) ?_
                refine tk 7 rfl (OpV.extract rfl rfl) ?_
                refine tk 8 rfl (OpV.extract rfl rfl) ?_
                refine al0 11 rfl ?_
                refine OpH.storeTo (A := [_, _, _, _, _, _, _, _, _, _]) [_, _, _, _] rfl rfl rfl ts_35 rfl rfl rfl ?_
                refine ⟨[_, _, _, _, _, _, _, _, _, _, _], rfl, ?_⟩
                refine al0 12 rfl ?_
                refine OpH.storeTo (A := [_, _, _, _, _, _]) [_, _, _, _, _] rfl rfl rfl ts_39 rfl rfl rfl ?_
                refine ⟨[_, _, _, _, _, _, _, _, _, _, _], rfl, ?_⟩
                refine WAE.rebase (H := []) ?_
                refine tk 13 rfl (OpV.assign rfl) ?_
                refine WAE.done (by kernel_rfl) ?_ _
                exact En.wk _ _ (sc (sc (sc (sc (sc (sc (sc (sc (sc sn))))))))) (fun _ h => (((((((((((((((((((((((((h).pm 43).pm 43).pm 43).pm 43).pm 43).pm 43).pm 43).pm 43).pm 41).pm 41).pm 29).pm 29).pm 29).pm 29).pm 29).pm 29).pm 21).pm 21).pm 21).pm 21).pm 21).pm 21).pm 26).pm 23).sub (.cons_cons _ (.cons_cons _ (.cons_cons _ (.cons_cons _ (.cons_cons _ (.cons_cons _ (.cons_cons _ (.cons_cons _ (.cons_cons _ (.cons_cons _ (.cons_cons _ (.cons_cons _ (.cons_cons _ (.cons_cons _ (.cons_cons _ (.cons_cons _ (.cons_cons _ (.cons_cons _ (.cons_cons _ (.cons_cons _ (.cons_cons _ (.cons_cons _ (.cons_cons _ (.cons_cons _ (.cons _ (.cons _ (.cons _ (.cons _ (.cons _ (.cons _ (.cons _ (.cons _ (.cons _ (.cons _ (.cons _ (.cons _ (.cons _ (.cons _ (.cons _ (.cons _ (.cons _ (.cons _ (.cons _ (.cons _ (.cons _ (.cons _ (.slnil)))))))))))))))))))))))))))))))))))))))))))))))) (KR35 (b35_10, a35_410, n35_410, c35_410, a35_411, n35_411, c35_411, a35_412, n35_412, c35_412, b35_9, a35_400, n35_400, c35_400, a35_401, n35_401, c35_401, a35_402, n35_402, c35_402, f35_400, f35_401, f35_402, f35_410, f35_411, f35_412, f35_300, a35_300, n35_300, c35_300, f35_301, a35_301, n35_301, c35_301, f35_302, a35_302, n35_302, c35_302, f35_100, a35_100, n35_100, c35_100, f35_101, a35_101, n35_101, c35_101, f35_102, a35_102, n35_102, c35_102) trivial)
              ·
               refine OpH.alloc zc_39 ?_
               intro b35_10
               refine ⟨[_, _], rfl, ?_⟩
               refine al1 3 rfl ?_
               refine OpH.callR (ec rfl e0) ca_11 (fun w hs => w_laws_toCrtc e35_3 (r1_0.ext hs.below) (r1_1.ext hs.below) (r1_2.ext hs.below)) ?_
               rintro _ _ ⟨a35_300, n35_300, c35_300, f35_300, a35_301, n35_301, c35_301, f35_301, a35_302, n35_302, c35_302, f35_302, rfl, rfl⟩
               refine ⟨[_, _, _, _, _], rfl, ?_⟩
               refine al1 4 rfl ?_
               refine OpH.callR (ec rfl (ec rfl e0)) ca_12 (fun w hs => w_impl_TakeFlip e35_4 (Ow.rd (hs.mem mq5)) (Ow.rd (hs.mem mq6)) (Ow.rd (hs.mem mq7)) (Ow.rd (hs.mem mq0)) (Ow.rd (hs.mem mq1)) (Ow.rd (hs.mem mq2))) ?_
               rintro _ _ ⟨a35_400, n35_400, c35_400, f35_400, a35_401, n35_401, c35_401, f35_401, a35_402, n35_402, c35_402, f35_402, a35_410, n35_410, c35_410, f35_410, a35_411, n35_411, c35_411, f35_411, a35_412, n35_412, c35_412, f35_412, rfl, rfl⟩
               refine ⟨[_, _, _, _, _, _, _, _, _, _, _], rfl, ?_⟩
               refine tk 5 rfl (OpV.move rfl) ?_
               refine tk 6 rfl (OpV.extract rfl rfl) ?_
               refine tk 7 rfl (OpV.extract rfl rfl) ?_
               refine tk 8 rfl (OpV.extract rfl rfl) ?_
               refine al0 11 rfl ?_
               refine OpH.storeTo (A := [_, _, _, _, _, _, _, _, _, _]) [_, _, _, _] rfl rfl rfl ts_35 rfl rfl rfl ?_
               refine ⟨[_, _, _, _, _, _, _, _, _, _, _], rfl, ?_⟩
               refine al0 12 rfl ?_
               refine OpH.storeTo (A := [_, _, _, _, _, _, _, _, _]) [_, _, _, _, _] rfl rfl rfl ts_39 rfl rfl rfl ?_
               refine ⟨[_, _, _, _, _, _, _, _, _, _, _], rfl, ?_⟩
               refine WAE.rebase (H := []) ?_
               refine tk 13 rfl (OpV.assign rfl) ?_
               refine WAE.done (by kernel_rfl) ?_ _
               exact En.wk _ _ (sc (sc (sc (sc (sc (sc (sc (sc (sc sn))))))))) (fun _ h => (((((((((((((((((((((((((h).pm 43).pm 43).pm 43).pm 43).pm 43).pm 43).pm 43).pm 43).pm 41).pm 41).pm 29).pm 29).pm 29).pm 29).pm 29).pm 29).pm 21).pm 21).pm 21).pm 21).pm 21).pm 21).pm 26).pm 26).sub (.cons_cons _ (.cons_cons _ (.cons_cons _ (.cons_cons _ (.cons_cons _ (.cons_cons _ (.cons_cons _ (.cons_cons _ (.cons_cons _ (.cons_cons _ (.cons_cons _ (.cons_cons _ (.cons_cons _ (.cons_cons _ (.cons_cons _ (.cons_cons _ (.cons_cons _ (.cons_cons _ (.cons_cons _ (.cons_cons _ (.cons_cons _ (.cons_cons _ (.cons_cons _ (.cons_cons _ (.cons _ (.cons _ (.cons _ (.cons _ (.cons _ (.cons _ (.cons _ (.cons _ (.cons _ (.cons _ (.cons _ (.cons _ (.cons _ (.cons _ (.cons _ (.cons _ (.cons _ (.cons _ (.cons _ (.cons _ (.cons _ (.cons _ (.slnil)))))))))))))))))))))))))))))))))))))))))))))))) (KR35 (b35_10, a35_410, n35_410, c35_410, a35_411, n35_411, c35_411, a35_412, n35_412, c35_412, b35_9, a35_400, n35_400, c35_400, a35_401, n35_401, c35_401, a35_402, n35_402, c35_402, f35_400, f35_401, f35_402, f35_410, f35_411, f35_412, f35_300, a35_300, n35_300, c35_300, f35_301, a35_301, n35_301, c35_301, f35_302, a35_302, n35_302, c35_302, f35_100, a35_100, n35_100, c35_100, f35_101, a35_101, n35_101, c35_101, f35_102, a35_102, n35_102, c35_102) trivial)
             ·
              refine OpH.alloc zc_39 ?_
              intro b35_10
              refine ⟨[_], rfl, ?_⟩
              refine WAE.all (rs := [3, 9]) (by kernel_rfl) rfl (AllR.cons rfl rfl rfl rfl ?_ (AllR.cons rfl rfl rfl rfl ?_ AllR.nil))
              ·
               refine OpH.callR (ec rfl e0) ca_11 (fun w hs => w_laws_toCrtc e35_3 (r1_0.ext hs.below) (r1_1.ext hs.below) (r1_2.ext hs.below)) ?_
               rintro _ _ ⟨a35_300, n35_300, c35_300, f35_300, a35_301, n35_301, c35_301, f35_301, a35_302, n35_302, c35_302, f35_302, rfl, rfl⟩
               refine ⟨[_, _, _, _], rfl, ?_⟩
               refine WAE.all (rs := [4, 9]) (by kernel_rfl) rfl (AllR.cons rfl rfl rfl rfl ?_ (AllR.cons rfl rfl rfl rfl ?_ AllR.nil))
               ·
                refine OpH.callR (ec rfl (ec rfl e0)) ca_12 (fun w hs => w_impl_TakeFlip e35_4 (Ow.rd (hs.mem mq4)) (Ow.rd (hs.mem mq5)) (Ow.rd (hs.mem mq6)) (Ow.rd (hs.mem mq0)) (Ow.rd (hs.mem mq1)) (Ow.rd (hs.mem mq2))) ?_
                rintro _ _ ⟨a35_400, n35_400, c35_400, f35_400, a35_401, n35_401, c35_401, f35_401, a35_402, n35_402, c35_402, f35_402, a35_410, n35_410, c35_410, f35_410, a35_411, n35_411, c35_411, f35_411, a35_412, n35_412, c35_412, f35_412, rfl, rfl⟩
                refine ⟨[_, _, _, _, _, _, _, _, _, _], rfl, ?_⟩
                refine tk 5 rfl (OpV.move rfl) ?_
                refine tk 6 rfl (OpV.extract rfl rfl) ?_
                refine tk 7 rfl (OpV.extract rfl rfl) ?_
                refine tk 8 rfl (OpV.extract rfl rfl) ?_
                refine al1 9 rfl ?_
                refine OpH.alloc zc_35 ?_
                intro b35_9
                refine ⟨[_, _, _, _, _, _, _, _, _, _, _], rfl, ?_⟩
                refine al0 11 rfl ?_
                refine OpH.storeTo (A := []) [_, _, _, _] rfl rfl rfl ts_35 rfl rfl rfl ?_
                refine ⟨[_, _, _, _, _, _, _, _, _, _, _], rfl, ?_⟩
                refine al0 12 rfl ?_
                refine OpH.storeTo (A := [_, _, _, _, _, _, _, _, _, _]) [_, _, _, _, _] rfl rfl rfl ts_39 rfl rfl rfl ?_
                refine ⟨[_, _, _, _, _, _, _, _, _, _, _], rfl, ?_⟩
                refine WAE.rebase (H := []) ?_
                refine tk 13 rfl (OpV.assign rfl) ?_
                refine WAE.done (by kernel_rfl) ?_ _
                exact En.wk _ _ (sc (sc (sc (sc (sc (sc (sc (sc (sc sn))))))))) (fun _ h => (((((((((((((((((((((((((h).pm 43).pm 43).pm 43).pm 43).pm 43).pm 43).pm 43).pm 43).pm 41).pm 41).pm 29).pm 29).pm 29).pm 29).pm 29).pm 29).pm 22).pm 22).pm 22).pm 22).pm 22).pm 22).pm 22).pm 26).sub (.cons_cons _ (.cons_cons _ (.cons_cons _ (.cons_cons _ (.cons_cons _ (.cons_cons _ (.cons_cons _ (.cons_cons _ (.cons_cons _ (.cons_cons _ (.cons_cons _ (.cons_cons _ (.cons_cons _ (.cons_cons _ (.cons_cons _ (.cons_cons _ (.cons_cons _ (.cons_cons _ (.cons_cons _ (.cons_cons _ (.cons_cons _ (.cons_cons _ (.cons_cons _ (.cons_cons _ (.cons _ (.cons _ (.cons _ (.cons _ (.cons _ (.cons _ (.cons _ (.cons _ (.cons _ (.cons _ (.cons _ (.cons _ (.cons _ (.cons _ (.cons _ (.cons _ (.cons _ (.cons _ (.cons _ (.cons _ (.cons _ (.cons _ (.slnil)))))))))))))))))))))))))))))))))))))))))))))))) (KR35 (b35_10, a35_410, n35_410, c35_410, a35_411, n35_411, c35_411, a35_412, n35_412, c35_412, b35_9, a35_400, n35_400, c35_400, a35_401, n35_401, c35_401, a35_402, n35_402, c35_402, f35_400, f35_401, f35_402, f35_410, f35_411, f35_412, f35_300, a35_300, n35_300, c35_300, f35_301, a35_301, n35_301, c35_301, f35_302, a35_302, n35_302, c35_302, f35_100, a35_100, n35_100, c35_100, f35_101, a35_101, n35_101, c35_101, f35_102, a35_102, n35_102, c35_102) trivial)
               ·
                refine OpH.alloc zc_35 ?_
                intro b35_9
                refine ⟨[_, _, _, _, _], rfl, ?_⟩
                refine al1 4 rfl ?_
                refine OpH.callR (ec rfl (ec rfl e0)) ca_12 (fun w hs => w_impl_TakeFlip e35_4 (Ow.rd (hs.mem mq5)) (Ow.rd (hs.mem mq6)) (Ow.rd (hs.mem mq7)) (Ow.rd (hs.mem mq1)) (Ow.rd (hs.mem mq2)) (Ow.rd (hs.mem mq3))) ?_
                rintro _ _ ⟨a35_400, n35_400, c35_400, f35_400, a35_401, n35_401, c35_401, f35_401, a35_402, n35_402, c35_402, f35_402, a35_410, n35_410, c35_410, f35_410, a35_411, n35_411, c35_411, f35_411, a35_412, n35_412, c35_412, f35_412, rfl, rfl⟩
                refine ⟨[_, _, _, _, _, _, _, _, _, _, _], rfl, ?_⟩
                refine tk 5 rfl (OpV.move rfl) ?_
                refine tk 6 rfl (OpV.extract rfl rfl) ?_
                refine tk 7 rfl (OpV.extract rfl rfl) ?_
                refine tk 8 rfl (OpV.extract rfl rfl) ?_
                refine al0 11 rfl ?_
                refine OpH.storeTo (A := [_, _, _, _, _, _]) [_, _, _, _] rfl rfl rfl ts_35 rfl rfl rfl ?_
                refine ⟨[_, _, _, _, _, _, _, _, _, _, _], rfl, ?_⟩
                refine al0 12 rfl ?_
                refine OpH.storeTo (A := [_, _, _, _, _, _, _, _, _, _]) [_, _, _, _, _] rfl rfl rfl ts_39 rfl rfl rfl ?_
                refine ⟨[_, _, _, _, _, _, _, _, _, _, _], rfl, ?_⟩
                refine WAE.rebase (H := []) ?_
                refine tk 13 rfl (OpV.assign rfl) ?_
                refine WAE.done (by kernel_rfl) ?_ _
                exact En.wk _ _ (sc (sc (sc (sc (sc (sc (sc (sc (sc sn))))))))) (fun _ h => (((((((((((((((((((((((((h).pm 43).pm 43).pm 43).pm 43).pm 43).pm 43).pm 43).pm 43).pm 41).pm 41).pm 29).pm 29).pm 29).pm 29).pm 29).pm 29).pm 21).pm 21).pm 21).pm 21).pm 21).pm 21).pm 22).pm 26).sub (.cons_cons _ (.cons_cons _ (.cons_cons _ (.cons_cons _ (.cons_cons _ (.cons_cons _ (.cons_cons _ (.cons_cons _ (.cons_cons _ (.cons_cons _ (.cons_cons _ (.cons_cons _ (.cons_cons _ (.cons_cons _ (.cons_cons _ (.cons_cons _ (.cons_cons _ (.cons_cons _ (.cons_cons _ (.cons_cons _ (.cons_cons _ (.cons_cons _ (.cons_cons _ (.cons_cons _ (.cons _ (.cons _ (.cons _ (.cons _ (.cons _ (.cons _ (.cons _ (.cons _ (.cons _ (.cons _ (.cons _ (.cons _ (.cons _ (.cons _ (.cons _ (.cons _ (.cons _ (.cons _ (.cons _ (.cons _ (.cons _ (.cons _ (.slnil)))))))))))))))))))))))))))))))))))))))))))))))) (KR35 (b35_10, a35_410, n35_410, c35_410, a35_411, n35_411, c35_411, a35_412, n35_412, c35_412, b35_9, a35_400, n35_400, c35_400, a35_401, n35_401, c35_401, a35_402, n35_402, c35_402, f35_400, f35_401, f35_402, f35_410, f35_411, f35_412, f35_300, a35_300, n35_300, c35_300, f35_301, a35_301, n35_301, c35_301, f35_302, a35_302, n35_302, c35_302, f35_100, a35_100, n35_100, c35_100, f35_101, a35_101, n35_101, c35_101, f35_102, a35_102, n35_102, c35_102) trivial)
              ·
               refine OpH.alloc zc_35 ?_
               intro b35_9
               refine ⟨[_, _], rfl, ?_⟩
               refine al1 3 rfl ?_
               refine OpH.callR (ec rfl e0) ca_11 (fun w hs => w_laws_toCrtc e35_3 (r1_0.ext hs.below) (r1_1.ext hs.below) (r1_2.ext hs.below)) ?_
               rintro _ _ ⟨a35_300, n35_300, c35_300, f35_300, a35_301, n35_301, c35_301, f35_301, a35_302, n35_302, c35_302, f35_302, rfl, rfl⟩
               refine ⟨[_, _, _, _, _], rfl, ?_⟩
               refine al1 4 rfl ?_
               refine OpH.callR (ec rfl (ec rfl e0)) ca_12 (fun w hs => w_impl_TakeFlip e35_4 (Ow.rd (hs.mem mq5)) (Ow.rd (hs.mem mq6)) (Ow.rd (hs.mem mq7)) (Ow.rd (hs.mem mq0)) (Ow.rd (hs.mem mq1)) (Ow.rd (hs.mem mq2))) ?_
               rintro _ _ ⟨a35_400, n35_400, c35_400, f35_400, a35_401, n35_401, c35_401, f35_401, a35_402, n35_402, c35_402, f35_402, a35_410, n35_410, c35_410, f35_410, a35_411, n35_411, c35_411, f35_411, a35_412, n35_412, c35_412, f35_412, rfl, rfl⟩
               refine ⟨[_, _, _, _, _, _, _, _, _, _, _], rfl, ?_⟩
               refine tk 5 rfl (OpV.move rfl) ?_
               refine tk 6 rfl (OpV.extract rfl rfl) ?_
               refine tk 7 rfl (OpV.extract rfl rfl) ?_
               refine tk 8 rfl (OpV.extract rfl rfl) ?_
               refine al0 11 rfl ?_
               refine OpH.storeTo (A := [_, _, _, _, _, _, _, _, _]) [_, _, _, _] rfl rfl rfl ts_35 rfl rfl rfl ?_
               refine ⟨[_, _, _, _, _, _, _, _, _, _, _], rfl, ?_⟩
               refine al0 12 rfl ?_
               refine OpH.storeTo (A := [_, _, _, _, _, _, _, _, _, _]) [_, _, _, _, _] rfl rfl rfl ts_39 rfl rfl rfl ?_
               refine ⟨[_, _, _, _, _, _, _, _, _, _, _], rfl, ?_⟩
               refine WAE.rebase (H := []) ?_
               refine tk 13 rfl (OpV.assign rfl) ?_
               refine WAE.done (by kernel_rfl) ?_ _
               exact En.wk _ _ (sc (sc (sc (sc (sc (sc (sc (sc (sc sn))))))))) (fun _ h => (((((((((((((((((((((((((h).pm 43).pm 43).pm 43).pm 43).pm 43).pm 43).pm 43).pm 43).pm 41).pm 41).pm 29).pm 29).pm 29).pm 29).pm 29).pm 29).pm 21).pm 21).pm 21).pm 21).pm 21).pm 21).pm 25).pm 26).sub (.cons_cons _ (.cons_cons _ (.cons_cons _ (.cons_cons _ (.cons_cons _ (.cons_cons _ (.cons_cons _ (.cons_cons _ (.cons_cons _ (.cons_cons _ (.cons_cons _ (.cons_cons _ (.cons_cons _ (.cons_cons _ (.cons_cons _ (.cons_cons _ (.cons_cons _ (.cons_cons _ (.cons_cons _ (.cons_cons _ (.cons_cons _ (.cons_cons _ (.cons_cons _ (.cons_cons _ (.cons _ (.cons _ (.cons _ (.cons _ (.cons _ (.cons _ (.cons _ (.cons _ (.cons _ (.cons _ (.cons _ (.cons _ (.cons _ (.cons _ (.cons _ (.cons _ (.cons _ (.cons _ (.cons _ (.cons _ (.cons _ (.cons _ (.slnil)))))))))))))))))))))))))))))))))))))))))))))))) (KR35 (b35_10, a35_410, n35_410, c35_410, a35_411, n35_411, c35_411, a35_412, n35_412, c35_412, b35_9, a35_400, n35_400, c35_400, a35_401, n35_401, c35_401, a35_402, n35_402, c35_402, f35_400, f35_401, f35_402, f35_410, f35_411, f35_412, f35_300, a35_300, n35_300, c35_300, f35_301, a35_301, n35_301, c35_301, f35_302, a35_302, n35_302, c35_302, f35_100, a35_100, n35_100, c35_100, f35_101, a35_101, n35_101, c35_101, f35_102, a35_102, n35_102, c35_102) trivial)
            ·
             refine OpH.alloc zc_35 ?_
             intro b35_9
             refine ⟨[_], rfl, ?_⟩
             refine WAE.all (rs := [1, 10]) (by kernel_rfl) rfl (AllR.cons rfl rfl rfl rfl ?_ (AllR.cons rfl rfl rfl rfl ?_ AllR.nil))
             ·
              refine OpH.callR (ec rfl e0) ca_10 (fun w hs => w_laws_toFlips e35_1 (r0_0.ext hs.below) (r0_1.ext hs.below) (r0_2.ext hs.below)) ?_
              rintro _ _ ⟨a35_100, n35_100, c35_100, f35_100, a35_101, n35_101, c35_101, f35_101, a35_102, n35_102, c35_102, f35_102, rfl, rfl⟩
              refine ⟨[_, _, _, _], rfl, ?_⟩
              refine WAE.all (rs := [3, 10]) (by kernel_rfl) rfl (AllR.cons rfl rfl rfl rfl ?_ (AllR.cons rfl rfl rfl rfl ?_ AllR.nil))
              ·
               refine OpH.callR (ec rfl e0) ca_11 (fun w hs => w_laws_toCrtc e35_3 (r1_0.ext hs.below) (r1_1.ext hs.below) (r1_2.ext hs.below)) ?_
               rintro _ _ ⟨a35_300, n35_300, c35_300, f35_300, a35_301, n35_301, c35_301, f35_301, a35_302, n35_302, c35_302, f35_302, rfl, rfl⟩
               refine ⟨[_, _, _, _, _, _, _], rfl, ?_⟩
               refine WAE.all (rs := [4, 10]) (by kernel_rfl) rfl (AllR.cons rfl rfl rfl rfl ?_ (AllR.cons rfl rfl rfl rfl ?_ AllR.nil))
               ·
                refine OpH.callR (ec rfl (ec rfl e0)) ca_12 (fun w hs => w_impl_TakeFlip e35_4 (Ow.rd (hs.mem mq3)) (Ow.rd (hs.mem mq4)) (Ow.rd (hs.mem mq5)) (Ow.rd (hs.mem mq0)) (Ow.rd (hs.mem mq1)) (Ow.rd (hs.mem mq2))) ?_
                rintro _ _ ⟨a35_400, n35_400, c35_400, f35_400, a35_401, n35_401, c35_401, f35_401, a35_402, n35_402, c35_402, f35_402, a35_410, n35_410, c35_410, f35_410, a35_411, n35_411, c35_411, f35_411, a35_412, n35_412, c35_412, f35_412, rfl, rfl⟩
                refine ⟨[_, _, _, _, _, _, _, _, _, _, _, _, _], rfl, ?_⟩
                refine tk 5 rfl (OpV.move rfl) ?_
                refine tk 6 rfl (OpV.extract rfl rfl) ?_
                refine tk 7 rfl (OpV.extract rfl rfl) ?_
                refine tk 8 rfl (OpV.extract rfl rfl) ?_
                refine al1 10 rfl ?_
                refine OpH.alloc zc_39 ?_
                intro b35_10
                refine ⟨[_, _, _, _, _, _, _, _, _, _, _, _, _, _], rfl, ?_⟩
                refine al0 11 rfl ?_
                refine OpH.storeTo (A := [_, _, _, _, _, _, _, _, _, _, _, _, _]) [_, _, _, _] rfl rfl rfl ts_35 rfl rfl rfl ?_
                refine ⟨[_, _, _, _, _, _, _, _, _, _, _, _, _, _], rfl, ?_⟩
                refine al0 12 rfl ?_
                refine OpH.storeTo (A := []) [_, _, _, _, _] rfl rfl rfl ts_39 rfl rfl rfl ?_
                refine ⟨[_, _, _, _, _, _, _, _, _, _, _, _, _, _], rfl, ?_⟩
                refine WAE.rebase (H := []) ?_
                refine tk 13 rfl (OpV.assign rfl) ?_
                refine WAE.done (by kernel_rfl) ?_ _
                exact En.wk _ _ (sc (sc (sc (sc (sc (sc (sc (sc (sc sn))))))))) (fun _ h => (((((((((((((((((((((((((h).pm 43).pm 43).pm 43).pm 43).pm 43).pm 43).pm 43).pm 43).pm 41).pm 41).pm 29).pm 29).pm 29).pm 29).pm 29).pm 29).pm 22).pm 22).pm 22).pm 22).pm 22).pm 22).pm 29).pm 23).sub (.cons_cons _ (.cons_cons _ (.cons_cons _ (.cons_cons _ (.cons_cons _ (.cons_cons _ (.cons_cons _ (.cons_cons _ (.cons_cons _ (.cons_cons _ (.cons_cons _ (.cons_cons _ (.cons_cons _ (.cons_cons _ (.cons_cons _ (.cons_cons _ (.cons_cons _ (.cons_cons _ (.cons_cons _ (.cons_cons _ (.cons_cons _ (.cons_cons _ (.cons_cons _ (.cons_cons _ (.cons _ (.cons _ (.cons _ (.cons _ (.cons _ (.cons _ (.cons _ (.cons _ (.cons _ (.cons _ (.cons _ (.cons _ (.cons _ (.cons _ (.cons _ (.cons _ (.cons _ (.cons _ (.cons _ (.cons _ (.cons _ (.cons _ (.slnil)))))))))))))))))))))))))))))))))))))))))))))))) (KR35 (b35_10, a35_410, n35_410, c35_410, a35_411, n35_411, c35_411, a35_412, n35_412, c35_412, b35_9, a35_400, n35_400, c35_400, a35_401, n35_401, c35_401, a35_402, n35_402, c35_402, f35_400, f35_401, f35_402, f35_410, f35_411, f35_412, f35_300, a35_300, n35_300, c35_300, f35_301, a35_301, n35_301, c35_301, f35_302, a35_302, n35_302, c35_302, f35_100, a35_100, n35_100, c35_100, f35_101, a35_101, n35_101, c35_101, f35_102, a35_102, n35_102, c35_102) trivial)
               ·
                refine OpH.alloc zc_39 ?_
                intro b35_10
                refine ⟨[_, _, _, _, _, _, _, _], rfl, ?_⟩
                refine al1 4 rfl ?_
                refine OpH.callR (ec rfl (ec rfl e0)) ca_12 (fun w hs => w_impl_TakeFlip e35_4 (Ow.rd (hs.mem mq4)) (Ow.rd (hs.mem mq5)) (Ow.rd (hs.mem mq6)) (Ow.rd (hs.mem mq1)) (Ow.rd (hs.mem mq2)) (Ow.rd (hs.mem mq3))) ?_
                rintro _ _ ⟨a35_400, n35_400, c35_400, f35_400, a35_401, n35_401, c35_401, f35_401, a35_402, n35_402, c35_402, f35_402, a35_410, n35_410, c35_410, f35_410, a35_411, n35_411, c35_411, f35_411, a35_412, n35_412, c35_412, f35_412, rfl, rfl⟩
                refine ⟨[_, _, _, _, _, _, _, _, _, _, _, _, _, _], rfl, ?_⟩
                refine tk 5 rfl (OpV.move rfl) ?_
                refine tk 6 rfl (OpV.extract rfl rfl) ?_
                refine tk 7 rfl (OpV.extract rfl rfl) ?_
                refine tk 8 rfl (OpV.extract rfl rfl) ?_
                refine al0 11 rfl ?_
                refine OpH.storeTo (A := [_, _, _, _, _, _, _, _, _, _, _, _, _]) [_, _, _, _] rfl rfl rfl ts_35 rfl rfl rfl ?_
                refine ⟨[_, _, _, _, _, _, _, _, _, _, _, _, _, _], rfl, ?_⟩
                refine al0 12 rfl ?_
                refine OpH.storeTo (A := [_, _, _, _, _, _]) [_, _, _, _, _] rfl rfl rfl ts_39 rfl rfl rfl ?_
                refine ⟨[_, _, _, _, _, _, _, _, _, _, _, _, _, _], rfl, ?_⟩
                refine WAE.rebase (H := []) ?_
                refine tk 13 rfl (OpV.assign rfl) ?_
                refine WAE.done (by kernel_rfl) ?_ _
                exact En.wk _ _ (sc (sc (sc (sc (sc (sc (sc (sc (sc sn))))))))) (fun _ h => (((((((((((((((((((((((((h).pm 43).pm 43).pm 43).pm 43).pm 43).pm 43).pm 43).pm 43).pm 41).pm 41).pm 29).pm 29).pm 29).pm 29).pm 29).pm 29).pm 21).pm 21).pm 21).pm 21).pm 21).pm 21).pm 29).pm 23).sub (.cons_cons _ (.cons_cons _ (.cons_cons _ (.cons_cons _ (.cons_cons _ (.cons_cons _ (.cons_cons _ (.cons_cons _ (.cons_cons _ (.cons_cons _ (.cons_cons _ (.cons_cons _ (.cons_cons _ (.cons_cons _ (.cons_cons _ (.cons_cons _ (.cons_cons _ (.cons_cons _ (.cons_cons _ (.cons_cons _ (.cons_cons _ (.cons_cons _ (.cons_cons _ (.cons_cons _ (.cons _ (.cons _ (.cons _ (.cons _ (.cons _ (.cons _ (.cons _ (.cons _ (.cons _ (.cons _ (.cons _ (.cons _ (.cons _ (.cons _ (.cons _ (.cons _ (.cons _ (.cons _ (.cons _ (.cons _ (.cons _ (.cons _ (.slnil)))))))))))))))))))))))))))))))))))))))))))))))) (KR35 (b35_10, a35_410, n35_410, c35_410, a35_411, n35_411, c35_411, a35_412, n35_412, c35_412, b35_9, a35_400, n35_400, c35_400, a35_401, n35_401, c35_401, a35_402, n35_402, c35_402, f35_400, f35_401, f35_402, f35_410, f35_411, f35_412, f35_300, a35_300, n35_300, c35_300, f35_301, a35_301, n35_301, c35_301, f35_302, a35_302, n35_302, c35_302, f35_100, a35_100, n35_100, c35_100, f35_101, a35_101, n35_101, c35_101, f35_102, a35_102, n35_102, c35_102) trivial)
              ·
               refine OpH.alloc zc_39 ?_
               intro b35_10
               refine ⟨[_, _, _, _, _], rfl, ?_⟩
               refine al1 3 rfl ?_
               refine OpH.callR (ec rfl e0) ca_11 (fun w hs => w_laws_toCrtc e35_3 (r1_0.ext hs.below) (r1_1.ext hs.below) (r1_2.ext hs.below)) ?_
               rintro _ _ ⟨a35_300, n35_300, c35_300, f35_300, a35_301, n35_301, c35_301, f35_301, a35_302, n35_302, c35_302, f35_302, rfl, rfl⟩
               refine ⟨[_, _, _, _, _, _, _, _], rfl, ?_⟩
               refine al1 4 rfl ?_
               refine OpH.callR (ec rfl (ec rfl e0)) ca_12 (fun w hs => w_impl_TakeFlip e35_4 (Ow.rd (hs.mem mq4)) (Ow.rd (hs.mem mq5)) (Ow.rd (hs.mem mq6)) (Ow.rd (hs.mem mq0)) (Ow.rd (hs.mem mq1)) (Ow.rd (hs.mem mq2))) ?_
               rintro _ _ ⟨a35_400, n35_400, c35_400, f35_400, a35_401, n35_401, c35_401, f35_401, a35_402, n35_402, c35_402, f35_402, a35_410, n35_410, c35_410, f35_410, a35_411, n35_411, c35_411, f35_411, a35_412, n35_412, c35_412, f35_412, rfl, rfl⟩
               refine ⟨[_, _, _, _, _, _, _, _, _, _, _, _, _, _], rfl, ?_⟩
               refine tk 5 rfl (OpV.move rfl) ?_
               refine tk 6 rfl (OpV.extract rfl rfl) ?_
               refine tk 7 rfl (OpV.extract rfl rfl) ?_
               refine tk 8 rfl (OpV.extract rfl rfl) ?_
               refine al0 11 rfl ?_
               refine OpH.storeTo (A := [_, _, _, _, _, _, _, _, _, _, _, _, _]) [_, _, _, _] rfl rfl rfl ts_35 rfl rfl rfl ?_
               refine ⟨[_, _, _, _, _, _, _, _, _, _, _, _, _, _], rfl, ?_⟩
               refine al0 12 rfl ?_
               refine OpH.storeTo (A := [_, _, _, _, _, _, _, _, _]) [_, _, _, _, _] rfl rfl rfl ts_39 rfl rfl rfl ?_
               refine ⟨[_, _, _, _, _, _, _, _, _, _, _, _, _, _], rfl, ?_⟩
               refine WAE.rebase (H := []) ?_
               refine tk 13 rfl (OpV.assign rfl) ?_
               refine WAE.done (by kernel_rfl) ?_ _
               exact En.wk _ _ (sc (sc (sc (sc (sc (sc (sc (sc (sc sn))))))))) (fun _ h => (((((((((((((((((((((((((h).pm 43).pm 43).pm 43).pm 43).pm 43).pm 43).pm 43).pm 43).pm 41).pm 41).pm 29).pm 29).pm 29).pm 29).pm 29).pm 29).pm 21).pm 21).pm 21).pm 21).pm 21).pm 21).pm 29).pm 26).sub (.cons_cons _ (.cons_cons _ (.cons_cons _ (.cons_cons _ (.cons_cons _ (.cons_cons _ (.cons_cons _ (.cons_cons _ (.cons_cons _ (.cons_cons _ (.cons_cons _ (.cons_cons _ (.cons_cons _ (.cons_cons _ (.cons_cons _ (.cons_cons _ (.cons_cons _ (.cons_cons _ (.cons_cons _ (.cons_cons _ (.cons_cons _ (.cons_cons _ (.cons_cons _ (.cons_cons _ (.cons _ (.cons _ (.cons _ (.cons _ (.cons _ (.cons _ (.cons _ (.cons _ (.cons _ (.cons _ (.cons _ (.cons _ (.cons _ (.cons _ (.cons _ (.cons _ (.cons _ (.cons _ (.cons _ (.cons _ (.cons _ (.cons _ (.slnil)))))))))))))))))))))))))))))))))))))))))))))))) (KR35 (b35_10, a35_410, n35_410, c35_410, a35_411, n35_411, c35_411, a35_412, n35_412, c35_412, b35_9, a35_400, n35_400, c35_400, a35_401, n35_401, c35_401, a35_402, n35_402, c35_402, f35_400, f35_401, f35_402, f35_410, f35_411, f35_412, f35_300, a35_300, n35_300, c35_300, f35_301, a35_301, n35_301, c35_301, f35_302, a35_302, n35_302, c35_302, f35_100, a35_100, n35_100, c35_100, f35_101, a35_101, n35_101, c35_101, f35_102, a35_102, n35_102, c35_102) trivial)
             ·
              refine OpH.alloc zc_39 ?_
              intro b35_10
              refine ⟨[_, _], rfl, ?_⟩
              refine al1 1 rfl ?_
              refine OpH.callR (ec rfl e0) ca_10 (fun w hs => w_laws_toFlips e35_1 (r0_0.ext hs.below) (r0_1.ext hs.below) (r0_2.ext hs.below)) ?_
              rintro _ _ ⟨a35_100, n35_100, c35_100, f35_100, a35_101, n35_101, c35_101, f35_101, a35_102, n35_102, c35_102, f35_102, rfl, rfl⟩
              refine ⟨[_, _, _, _, _], rfl, ?_⟩
              refine al1 3 rfl ?_
              refine OpH.callR (ec rfl e0) ca_11 (fun w hs => w_laws_toCrtc e35_3 (r1_0.ext hs.below) (r1_1.ext hs.below) (r1_2.ext hs.below)) ?_
              rintro _ _ ⟨a35_300, n35_300, c35_300, f35_300, a35_301, n35_301, c35_301, f35_301, a35_302, n35_302, c35_302, f35_302, rfl, rfl⟩
              refine ⟨[_, _, _, _, _, _, _, _], rfl, ?_⟩
              refine al1 4 rfl ?_
              refine OpH.callR (ec rfl (ec rfl e0)) ca_12 (fun w hs => w_impl_TakeFlip e35_4 (Ow.rd (hs.mem mq3)) (Ow.rd (hs.mem mq4)) (Ow.rd (hs.mem mq5)) (Ow.rd (hs.mem mq0)) (Ow.rd (hs.mem mq1)) (Ow.rd (hs.mem mq2))) ?_
              rintro _ _ ⟨a35_400, n35_400, c35_400, f35_400, a35_401, n35_401, c35_401, f35_401, a35_402, n35_402, c35_402, f35_402, a35_410, n35_410, c35_410, f35_410, a35_411, n35_411, c35_411, f35_411, a35_412, n35_412, c35_412, f35_412, rfl, rfl⟩
              refine ⟨[_, _, _, _, _, _, _, _, _, _, _, _, _, _], rfl, ?_⟩
              refine tk 5 rfl (OpV.move rfl) ?_
              refine tk 6 rfl (OpV.extract rfl rfl) ?_
              refine tk 7 rfl (OpV.extract rfl rfl) ?_
              refine tk 8 rfl (OpV.extract rfl rfl) ?_
              refine al0 11 rfl ?_
              refine OpH.storeTo (A := [_, _, _, _, _, _, _, _, _, _, _, _, _]) [_, _, _, _] rfl rfl rfl ts_35 rfl rfl rfl ?_
              refine ⟨[_, _, _, _, _, _, _, _, _, _, _, _, _, _], rfl, ?_⟩
              refine al0 12 rfl ?_
              refine OpH.storeTo (A := [_, _, _, _, _, _, _, _, _, _, _, _]) [_, _, _, _, _] rfl rfl rfl ts_39 rfl rfl rfl ?_
              refine ⟨[_, _, _, _, _, _, _, _, _, _, _, _, _, _], rfl, ?_⟩
              refine WAE.rebase (H := []) ?_
              refine tk 13 rfl (OpV.assign rfl) ?_
              refine WAE.done (by kernel_rfl) ?_ _
              exact En.wk _ _ (sc (sc (sc (sc (sc (sc (sc (sc (sc sn))))))))) (fun _ h => (((((((((((((((((((((((((h).pm 43).pm 43).pm 43).pm 43).pm 43).pm 43).pm 43).pm 43).pm 41).pm 41).pm 29).pm 29).pm 29).pm 29).pm 29).pm 29).pm 21).pm 21).pm 21).pm 21).pm 21).pm 21).pm 29).pm 29).sub (.cons_cons _ (.cons_cons _ (.cons_cons _ (.cons_cons _ (.cons_cons _ (.cons_cons _ (.cons_cons _ (.cons_cons _ (.cons_cons _ (.cons_cons _ (.cons_cons _ (.cons_cons _ (.cons_cons _ (.cons_cons _ (.cons_cons _ (.cons_cons _ (.cons_cons _ (.cons_cons _ (.cons_cons _ (.cons_cons _ (.cons_cons _ (.cons_cons _ (.cons_cons _ (.cons_cons _ (.cons _ (.cons _ (.cons _ (.cons _ (.cons _ (.cons _ (.cons _ (.cons _ (.cons _ (.cons _ (.cons _ (.cons _ (.cons _ (.cons _ (.cons _ (.cons _ (.cons _ (.cons _ (.cons _ (.cons _ (.cons _ (.cons _ (.slnil)))))))))))))))))))))))))))))))))))))))))))))))) (KR35 (b35_10, a35_410, n35_410, c35_410, a35_411, n35_411, c35_411, a35_412, n35_412, c35_412, b35_9, a35_400, n35_400, c35_400, a35_401, n35_401, c35_401, a35_402, n35_402, c35_402, f35_400, f35_401, f35_402, f35_410, f35_411, f35_412, f35_300, a35_300, n35_300, c35_300, f35_301, a35_301, n35_301, c35_301, f35_302, a35_302, n35_302, c35_302, f35_100, a35_100, n35_100, c35_100, f35_101, a35_101, n35_101, c35_101, f35_102, a35_102, n35_102, c35_102) trivial)
            ·
             refine OpH.alloc zc_39 ?_
             intro b35_10
             refine ⟨[_], rfl, ?_⟩
             refine WAE.all (rs := [1, 9]) (by kernel_rfl) rfl (AllR.cons rfl rfl rfl rfl ?_ (AllR.cons rfl rfl rfl rfl ?_ AllR.nil))
             ·
              refine OpH.callR (ec rfl e0) ca_10 (fun w hs => w_laws_toFlips e35_1 (r0_0.ext hs.below) (r0_1.ext hs.below) (r0_2.ext hs.below)) ?_
              rintro _ _ ⟨a35_100, n35_100, c35_100, f35_100, a35_101, n35_101, c35_101, f35_101, a35_102, n35_102, c35_102, f35_102, rfl, rfl⟩
              refine ⟨[_, _, _, _], rfl, ?_⟩
              refine WAE.all (rs := [3, 9]) (by kernel_rfl) rfl (AllR.cons rfl rfl rfl rfl ?_ (AllR.cons rfl rfl rfl rfl ?_ AllR.nil))
              ·
               refine OpH.callR (ec rfl e0) ca_11 (fun w hs => w_laws_toCrtc e35_3 (r1_0.ext hs.below) (r1_1.ext hs.below) (r1_2.ext hs.below)) ?_
               rintro _ _ ⟨a35_300, n35_300, c35_300, f35_300, a35_301, n35_301, c35_301, f35_301, a35_302, n35_302, c35_302, f35_302, rfl, rfl⟩
               refine ⟨[_, _, _, _, _, _, _], rfl, ?_⟩
               refine WAE.all (rs := [4, 9]) (by kernel_rfl) rfl (AllR.cons rfl rfl rfl rfl ?_ (AllR.cons rfl rfl rfl rfl ?_ AllR.nil))
               ·
                refine OpH.callR (ec rfl (ec rfl e0)) ca_12 (fun w hs => w_impl_TakeFlip e35_4 (Ow.rd (hs.mem mq3)) (Ow.rd (hs.mem mq4)) (Ow.rd (hs.mem mq5)) (Ow.rd (hs.mem mq0)) (Ow.rd (hs.mem mq1)) (Ow.rd (hs.mem mq2))) ?_
                rintro _ _ ⟨a35_400, n35_400, c35_400, f35_400, a35_401, n35_401, c35_401, f35_401, a35_402, n35_402, c35_402, f35_402, a35_410, n35_410, c35_410, f35_410, a35_411, n35_411, c35_411, f35_411, a35_412, n35_412, c35_412, f35_412, rfl, rfl⟩
                refine ⟨[_, _, _, _, _, _, _, _, _, _, _, _, _], rfl, ?_⟩
                refine tk 5 rfl (OpV.move rfl) ?_
                refine tk 6 rfl (OpV.extract rfl rfl) ?_
                refine tk 7 rfl (OpV.extract rfl rfl) ?_
                refine tk 8 rfl (OpV.extract rfl rfl) ?_
                refine al1 9 rfl ?_
                refine OpH.alloc zc_35 ?_
                intro b35_9
                refine ⟨[_, _, _, _, _, _, _, _, _, _, _, _, _, _], rfl, ?_⟩
                refine al0 11 rfl ?_
                refine OpH.storeTo (A := []) [_, _, _, _] rfl rfl rfl ts_35 rfl rfl rfl ?_
                refine ⟨[_, _, _, _, _, _, _, _, _, _, _, _, _, _], rfl, ?_⟩
                refine al0 12 rfl ?_
                refine OpH.storeTo (A := [_, _, _, _, _, _, _, _, _, _, _, _, _]) [_, _, _, _, _] rfl rfl rfl ts_39 rfl rfl rfl ?_
                refine ⟨[_, _, _, _, _, _, _, _, _, _, _, _, _, _], rfl, ?_⟩
                refine WAE.rebase (H := []) ?_
                refine tk 13 rfl (OpV.assign rfl) ?_
                refine WAE.done (by kernel_rfl) ?_ _
                exact En.wk _ _ (sc (sc (sc (sc (sc (sc (sc (sc (sc sn))))))))) (fun _ h => (((((((((((((((((((((((((h).pm 43).pm 43).pm 43).pm 43).pm 43).pm 43).pm 43).pm 43).pm 41).pm 41).pm 29).pm 29).pm 29).pm 29).pm 29).pm 29).pm 22).pm 22).pm 22).pm 22).pm 22).pm 22).pm 22).pm 29).sub (.cons_cons _ (.cons_cons _ (.cons_cons _ (.cons_cons _ (.cons_cons _ (.cons_cons _ (.cons_cons _ (.cons_cons _ (.cons_cons _ (.cons_cons _ (.cons_cons _ (.cons_cons _ (.cons_cons _ (.cons_cons _ (.cons_cons _ (.cons_cons _ (.cons_cons _ (.cons_cons _ (.cons_cons _ (.cons_cons _ (.cons_cons _ (.cons_cons _ (.cons_cons _ (.cons_cons _ (.cons _ (.cons _ (.cons _ (.cons _ (.cons _ (.cons _ (.cons _ (.cons _ (.cons _ (.cons _ (.cons _ (.cons _ (.cons _ (.cons _ (.cons _ (.cons _ (.cons _ (.cons _ (.cons _ (.cons _ (.cons _ (.cons _ (.slnil)))))))))))))))))))))))))))))))))))))))))))))))) (KR35 (b35_10, a35_410, n35_410, c35_410, a35_411, n35_411, c35_411, a35_412, n35_412, c35_412, b35_9, a35_400, n35_400, c35_400, a35_401, n35_401, c35_401, a35_402, n35_402, c35_402, f35_400, f35_401, f35_402, f35_410, f35_411, f35_412, f35_300, a35_300, n35_300, c35_300, f35_301, a35_301, n35_301, c35_301, f35_302, a35_302, n35_302, c35_302, f35_100, a35_100, n35_100, c35_100, f35_101, a35_101, n35_101, c35_101, f35_102, a35_102, n35_102, c35_102) trivial)
               ·
                refine OpH.alloc zc_35 ?_
                intro b35_9
                refine ⟨[_, _, _, _, _, _, _, _], rfl, ?_⟩
                refine al1 4 rfl ?_
                refine OpH.callR (ec rfl (ec rfl e0)) ca_12 (fun w hs => w_impl_TakeFlip e35_4 (Ow.rd (hs.mem mq4)) (Ow.rd (hs.mem mq5)) (Ow.rd (hs.mem mq6)) (Ow.rd (hs.mem mq1)) (Ow.rd (hs.mem mq2)) (Ow.rd (hs.mem mq3))) ?_
                rintro _ _ ⟨a35_400, n35_400, c35_400, f35_400, a35_401, n35_401, c35_401, f35_401, a35_402, n35_402, c35_402, f35_402, a35_410, n35_410, c35_410, f35_410, a35_411, n35_411, c35_411, f35_411, a35_412, n35_412, c35_412, f35_412, rfl, rfl⟩
                refine ⟨[_, _, _, _, _, _, _, _, _, _, _, _, _, _], rfl, ?_⟩
                refine tk 5 rfl (OpV.move rfl) ?_
                refine tk 6 rfl (OpV.extract rfl rfl) ?_
                refine tk 7 rfl (OpV.extract rfl rfl) ?_
                refine tk 8 rfl (OpV.extract rfl rfl) ?_
                refine al0 11 rfl ?_
                refine OpH.storeTo (A := [_, _, _, _, _, _]) [_, _, _, _] rfl rfl rfl ts_35 rfl rfl rfl ?_
                refine ⟨[_, _, _, _, _, _, _, _, _, _, _, _, _, _], rfl, ?_⟩
                refine al0 12 rfl ?_
                refine OpH.storeTo (A := [_, _, _, _, _, _, _, _, _, _, _, _, _]) [_, _, _, _, _] rfl rfl rfl ts_39 rfl rfl rfl ?_
                refine ⟨[_, _, _, _, _, _, _, _, _, _, _, _, _, _], rfl, ?_⟩
                refine WAE.rebase (H := []) ?_
                refine tk 13 rfl (OpV.assign rfl) ?_
                refine WAE.done (by kernel_rfl) ?_ _
                exact En.wk _ _ (sc (sc (sc (sc (sc (sc (sc (sc (sc sn))))))))) (fun _ h => (((((((((((((((((((((((((h).pm 43).pm 43).pm 43).pm 43).pm 43).pm 43).pm 43).pm 43).pm 41).pm 41).pm 29).pm 29).pm 29).pm 29).pm 29).pm 29).pm 21).pm 21).pm 21).pm 21).pm 21).pm 21).pm 22).pm 29).sub (.cons_cons _ (.cons_cons _ (.cons_cons _ (.cons_cons _ (.cons_cons _ (.cons_cons _ (.cons_cons _ (.cons_cons _ (.cons_cons _ (.cons_cons _ (.cons_cons _ (.cons_cons _ (.cons_cons _ (.cons_cons _ (.cons_cons _ (.cons_cons _ (.cons_cons _ (.cons_cons _ (.cons_cons _ (.cons_cons _ (.cons_cons _ (.cons_cons _ (.cons_cons _ (.cons_cons _ (.cons _ (.cons _ (.cons _ (.cons _ (.cons _ (.cons _ (.cons _ (.cons _ (.cons _ (.cons _ (.cons _ (.cons _ (.cons _ (.cons _ (.cons _ (.cons _ (.cons _ (.cons _ (.cons _ (.cons _ (.cons _ (.cons _ (.slnil)))))))))))))))))))))))))))))))))))))))))))))))) (KR35 (b35_10, a35_410, n35_410, c35_410, a35_411, n35_411, c35_411, a35_412, n35_412, c35_412, b35_9, a35_400, n35_400, c35_400, a35_401, n35_401, c35_401, a35_402, n35_402, c35_402, f35_400, f35_401, f35_402, f35_410, f35_411, f35_412, f35_300, a35_300, n35_300, c35_300, f35_301, a35_301, n35_301, c35_301, f35_302, a35_302, n35_302, c35_302, f35_100, a35_100, n35_100, c35_100, f35_101, a35_101, n35_101, c35_101, f35_102, a35_102, n35_102, c35_102) trivial)
              ·
               refine OpH.alloc zc_35 ?_
               intro b35_9
               refine ⟨[_, _, _, _, _], rfl, ?_⟩
               refine al1 3 rfl ?_
               refine OpH.callR (ec rfl e0) ca_11 (fun w hs => w_laws_toCrtc e35_3 (r1_0.ext hs.below) (r1_1.ext hs.below) (r1_2.ext hs.below)) ?_
               rintro _ _ ⟨a35_300, n35_300, c35_300, f35_300, a35_301, n35_301, c35_301, f35_301, a35_302, n35_302, c35_302, f35_302, rfl, rfl⟩
               refine ⟨[_, _, _, _, _, _, _, _], rfl, ?_⟩
               refine al1 4 rfl ?_
               refine OpH.callR (ec rfl (ec rfl e0)) ca_12 (fun w hs => w_impl_TakeFlip e35_4 (Ow.rd (hs.mem mq4)) (Ow.rd (hs.mem mq5)) (Ow.rd (hs.mem mq6)) (Ow.rd (hs.mem mq0)) (Ow.rd (hs.mem mq1)) (Ow.rd (hs.mem mq2))) ?_
               rintro _ _ ⟨a35_400, n35_400, c35_400, f35_400, a35_401, n35_401, c35_401, f35_401, a35_402, n35_402, c35_402, f35_402, a35_410, n35_410, c35_410, f35_410, a35_411, n35_411, c35_411, f35_411, a35_412, n35_412, c35_412, f35_412, rfl, rfl⟩
               refine ⟨[_, _, _, _, _, _, _, _, _, _, _, _, _, _], rfl, ?_⟩
               refine tk 5 rfl (OpV.move rfl) ?_
               refine tk 6 rfl (OpV.extract rfl rfl) ?_
               refine tk 7 rfl (OpV.extract rfl rfl) ?_
               refine tk 8 rfl (OpV.extract rfl rfl) ?_
               refine al0 11 rfl ?_
               refine OpH.storeTo (A := [_, _, _, _, _, _, _, _, _]) [_, _, _, _] rfl rfl rfl ts_35 rfl rfl rfl ?_
               refine ⟨[_, _, _, _, _, _, _, _, _, _, _, _, _, _], rfl, ?_⟩
               refine al0 12 rfl ?_
               refine OpH.storeTo (A := [_, _, _, _, _, _, _, _, _, _, _, _, _]) [_, _, _, _, _] rfl rfl rfl ts_39 rfl rfl rfl ?_
               refine ⟨[_, _, _, _, _, _, _, _, _, _, _, _, _, _], rfl, ?_⟩
               refine WAE.rebase (H := []) ?_
               refine tk 13 rfl (OpV.assign rfl) ?_
               refine WAE.done (by kernel_rfl) ?_ _
               exact En.wk _ _ (sc (sc (sc (sc (sc (sc (sc (sc (sc sn))))))))) (fun _ h => (((((((((((((((((((((((((h).pm 43).pm 43).pm 43).pm 43).pm 43).pm 43).pm 43).pm 43).pm 41).pm 41).pm 29).pm 29).pm 29).pm 29).pm 29).pm 29).pm 21).pm 21).pm 21).pm 21).pm 21).pm 21).pm 25).pm 29).sub (.cons_cons _ (.cons_cons _ (.cons_cons _ (.cons_cons _ (.cons_cons _ (.cons_cons _ (.cons_cons _ (.cons_cons _ (.cons_cons _ (.cons_cons _ (.cons_cons _ (.cons_cons _ (.cons_cons _ (.cons_cons _ (.cons_cons _ (.cons_cons _ (.cons_cons _ (.cons_cons _ (.cons_cons _ (.cons_cons _ (.cons_cons _ (.cons_cons _ (.cons_cons _ (.cons_cons _ (.cons _ (.cons _ (.cons _ (.cons _ (.cons _ (.cons _ (.cons _ (.cons _ (.cons _ (.cons _ (.cons _ (.cons _ (.cons _ (.cons _ (.cons _ (.cons _ (.cons _ (.cons _ (.cons _ (.cons _ (.cons _ (.cons _ (.slnil)))))))))))))))))))))))))))))))))))))))))))))))) (KR35 (b35_10, a35_410, n35_410, c35_410, a35_411, n35_411, c35_411, a35_412, n35_412, c35_412, b35_9, a35_400, n35_400, c35_400, a35_401, n35_401, c35_401, a35_402, n35_402, c35_402, f35_400, f35_401, f35_402, f35_410, f35_411, f35_412, f35_300, a35_300, n35_300, c35_300, f35_301, a35_301, n35_301, c35_301, f35_302, a35_302, n35_302, c35_302, f35_100, a35_100, n35_100, c35_100, f35_101, a35_101, n35_101, c35_101, f35_102, a35_102, n35_102, c35_102) trivial)
             ·
              refine OpH.alloc zc_35 ?_
              intro b35_9
              refine ⟨[_, _], rfl, ?_⟩
              refine al1 1 rfl ?_
              refine OpH.callR (ec rfl e0) ca_10 (fun w hs => w_laws_toFlips e35_1 (r0_0.ext hs.below) (r0_1.ext hs.below) (r0_2.ext hs.below)) ?_
              rintro _ _ ⟨a35_100, n35_100, c35_100, f35_100, a35_101, n35_101, c35_101, f35_101, a35_102, n35_102, c35_102, f35_102, rfl, rfl⟩
              refine ⟨[_, _, _, _, _], rfl, ?_⟩
              refine al1 3 rfl ?_
              refine OpH.callR (ec rfl e0) ca_11 (fun w hs => w_laws_toCrtc e35_3 (r1_0.ext hs.below) (r1_1.ext hs.below) (r1_2.ext hs.below)) ?_
              rintro _ _ ⟨a35_300, n35_300, c35_300, f35_300, a35_301, n35_301, c35_301, f35_301, a35_302, n35_302, c35_302, f35_302, rfl, rfl⟩
              refine ⟨[_, _, _, _, _, _, _, _], rfl, ?_⟩
              refine al1 4 rfl ?_
              refine OpH.callR (ec rfl (ec rfl e0)) ca_12 (fun w hs => w_impl_TakeFlip e35_4 (Ow.rd (hs.mem mq3)) (Ow.rd (hs.mem mq4)) (Ow.rd (hs.mem mq5)) (Ow.rd (hs.mem mq0)) (Ow.rd (hs.mem mq1)) (Ow.rd (hs.mem mq2))) ?_
              rintro _ _ ⟨a35_400, n35_400, c35_400, f35_400, a35_401, n35_401, c35_401, f35_401, a35_402, n35_402, c35_402, f35_402, a35_410, n35_410, c35_410, f35_410, a35_411, n35_411, c35_411, f35_411, a35_412, n35_412, c35_412, f35_412, rfl, rfl⟩
              refine ⟨[_, _, _, _, _, _, _, _, _, _, _, _, _, _], rfl, ?_⟩
              refine tk 5 rfl (OpV.move rfl) ?_
              refine tk 6 rfl (OpV.extract rfl rfl) ?_
              refine tk 7 rfl (OpV.extract rfl rfl) ?_
              refine tk 8 rfl (OpV.extract rfl rfl) ?_
              refine al0 11 rfl ?_
              refine OpH.storeTo (A := [_, _, _, _, _, _, _, _, _, _, _, _]) [_, _, _, _] rfl rfl rfl ts_35 rfl rfl rfl ?_
              refine ⟨[_, _, _, _, _, _, _, _, _, _, _, _, _, _], rfl, ?_⟩
              refine al0 12 rfl ?_
              refine OpH.storeTo (A := [_, _, _, _, _, _, _, _, _, _, _, _, _]) [_, _, _, _, _] rfl rfl rfl ts_39 rfl rfl rfl ?_
              refine ⟨[_, _, _, _, _, _, _, _, _, _, _, _, _, _], rfl, ?_⟩
              refine WAE.rebase (H := []) ?_
              refine tk 13 rfl (OpV.assign rfl) ?_
              refine WAE.done (by kernel_rfl) ?_ _
              exact En.wk _ _ (sc (sc (sc (sc (sc (sc (sc (sc (sc sn))))))))) (fun _ h => (((((((((((((((((((((((((h).pm 43).pm 43).pm 43).pm 43).pm 43).pm 43).pm 43).pm 43).pm 41).pm 41).pm 29).pm 29).pm 29).pm 29).pm 29).pm 29).pm 21).pm 21).pm 21).pm 21).pm 21).pm 21).pm 28).pm 29).sub (.cons_cons _ (.cons_cons _ (.cons_cons _ (.cons_cons _ (.cons_cons _ (.cons_cons _ (.cons_cons _ (.cons_cons _ (.cons_cons _ (.cons_cons _ (.cons_cons _ (.cons_cons _ (.cons_cons _ (.cons_cons _ (.cons_cons _ (.cons_cons _ (.cons_cons _ (.cons_cons _ (.cons_cons _ (.cons_cons _ (.cons_cons _ (.cons_cons _ (.cons_cons _ (.cons_cons _ (.cons _ (.cons _ (.cons _ (.cons _ (.cons _ (.cons _ (.cons _ (.cons _ (.cons _ (.cons _ (.cons _ (.cons _ (.cons _ (.cons _ (.cons _ (.cons _ (.cons _ (.cons _ (.cons _ (.cons _ (.cons _ (.cons _ (.slnil)))))))))))))))))))))))))))))))))))))))))))))))) (KR35 (b35_10, a35_410, n35_410, c35_410, a35_411, n35_411, c35_411, a35_412, n35_412, c35_412, b35_9, a35_400, n35_400, c35_400, a35_401, n35_401, c35_401, a35_402, n35_402, c35_402, f35_400, f35_401, f35_402, f35_410, f35_411, f35_412, f35_300, a35_300, n35_300, c35_300, f35_301, a35_301, n35_301, c35_301, f35_302, a35_302, n35_302, c35_302, f35_100, a35_100, n35_100, c35_100, f35_101, a35_101, n35_101, c35_101, f35_102, a35_102, n35_102, c35_102) trivial)
   ·
    intro KR8
    refine WC.drawnH [] ([_, _]) (fun _ h => h) (by kernel_rfl) ?_
    refine tk 0 rfl (OpV.loadAll rfl mq1 ag_25) ?_
    refine tk 2 rfl (OpV.loadAll rfl mq0 ag_30) ?_
    refine WAE.all (rs := [1, 9, 10]) (by kernel_rfl) rfl (AllR.cons rfl rfl rfl rfl ?_ (AllR.cons rfl rfl rfl rfl ?_ (AllR.cons rfl rfl rfl rfl ?_ AllR.nil)))
    ·
     refine OpH.callR (ec rfl e0) ca_10 (fun w hs => w_laws_toFlips e8_1 (r0_0.ext hs.below) (r0_1.ext hs.below) (r0_2.ext hs.below)) ?_
     rintro _ _ ⟨a8_100, n8_100, c8_100, f8_100, a8_101, n8_101, c8_101, f8_101, a8_102, n8_102, c8_102, f8_102, rfl, rfl⟩
     refine ⟨[_, _, _], rfl, ?_⟩
     refine WAE.rebase (H := []) ?_
     refine WAE.all (rs := [3, 9, 10]) (by kernel_rfl) rfl (AllR.cons rfl rfl rfl rfl ?_ (AllR.cons rfl rfl rfl rfl ?_ (AllR.cons rfl rfl rfl rfl ?_ AllR.nil)))
     ·
      refine OpH.callR (ec rfl e0) ca_11 (fun w hs => w_laws_toCrtc e8_3 (r1_0.ext hs.below) (r1_1.ext hs.below) (r1_2.ext hs.below)) ?_
      rintro _ _ ⟨a8_300, n8_300, c8_300, f8_300, a8_301, n8_301, c8_301, f8_301, a8_302, n8_302, c8_302, f8_302, rfl, rfl⟩
      refine ⟨[_, _, _], rfl, ?_⟩
      refine WAE.rebase (H := []) ?_
      refine WAE.all (rs := [4, 9, 10]) (by kernel_rfl) rfl (AllR.cons rfl rfl rfl rfl ?_ (AllR.cons rfl rfl rfl rfl ?_ (AllR.cons rfl rfl rfl rfl ?_ AllR.nil)))
      ·
       refine OpH.callR (ec rfl (ec rfl e0)) ca_9 (fun w hs => w_spec_TakeFlip e8_4 (Ow.rd (hs.mem mq3)) (Ow.rd (hs.mem mq4)) (Ow.rd (hs.mem mq5)) (Ow.rd (hs.mem mq0)) (Ow.rd (hs.mem mq1)) (Ow.rd (hs.mem mq2))) ?_
       rintro _ _ ⟨a8_400, n8_400, c8_400, f8_400, a8_401, n8_401, c8_401, f8_401, a8_402, n8_402, c8_402, f8_402, a8_410, n8_410, c8_410, f8_410, a8_411, n8_411, c8_411, f8_411, a8_412, n8_412, c8_412, f8_412, rfl, rfl⟩
       refine ⟨[_, _, _, _, _, _], rfl, ?_⟩
       refine WAE.rebase (H := []) ?_
       refine tk 5 rfl (OpV.move rfl) ?_
       refine tk 6 rfl (OpV.extract rfl rfl) ?_
       refine tk 7 rfl (OpV.extract rfl rfl) ?_
       refine tk 8 rfl (OpV.extract rfl rfl) ?_
       refine WAE.all (rs := [9, 10]) (by kernel_rfl) rfl (AllR.cons rfl rfl rfl rfl ?_ (AllR.cons rfl rfl rfl rfl ?_ AllR.nil))
       ·
        refine OpH.alloc zc_35 ?_
        intro b8_9
        refine ⟨[_], rfl, ?_⟩
        refine al1 10 rfl ?_
        refine OpH.alloc zc_39 ?_
        intro b8_10
        refine ⟨[_, _], rfl, ?_⟩
        refine al0 11 rfl ?_
        refine OpH.storeTo (A := [_]) [_, _, _, _] rfl rfl rfl ts_35 rfl rfl rfl ?_
        refine ⟨[_, _], rfl, ?_⟩
        refine al0 12 rfl ?_
        refine OpH.storeTo (A := []) [_, _, _, _, _] rfl rfl rfl ts_39 rfl rfl rfl ?_
        refine ⟨[_, _], rfl, ?_⟩
        refine WAE.rebase (H := []) ?_
        refine tk 13 rfl (OpV.assign rfl) ?_
        refine WAE.done (by kernel_rfl) ?_ _
        exact En.wk _ _ (sc (sc (sc (sc (sc sn))))) (fun _ h => (((((((((((h).pm 15).pm 15).pm 9).pm 9).pm 9).pm 9).pm 9).pm 9).pm 9).pm 9).sub (.cons_cons _ (.cons_cons _ (.cons_cons _ (.cons_cons _ (.cons_cons _ (.cons_cons _ (.cons_cons _ (.cons_cons _ (.cons_cons _ (.cons_cons _ (.cons _ (.cons _ (.cons _ (.cons _ (.cons _ (.cons _ (.slnil)))))))))))))))))) (KR8 (b8_10, a8_410, n8_410, c8_410, a8_411, n8_411, c8_411, a8_412, n8_412, c8_412, b8_9, a8_400, n8_400, c8_400, a8_401, n8_401, c8_401, a8_402, n8_402, c8_402, f8_400, f8_401, f8_402, f8_410, f8_411, f8_412, f8_300, a8_300, n8_300, c8_300, f8_301, a8_301, n8_301, c8_301, f8_302, a8_302, n8_302, c8_302, f8_100, a8_100, n8_100, c8_100, f8_101, a8_101, n8_101, c8_101, f8_102, a8_102, n8_102, c8_102) trivial)
       ·
        refine OpH.alloc zc_39 ?_
        intro b8_10
        refine ⟨[_], rfl, ?_⟩
        refine al1 9 rfl ?_
        refine OpH.alloc zc_35 ?_
        intro b8_9
        refine ⟨[_, _], rfl, ?_⟩
        refine al0 11 rfl ?_
        refine OpH.storeTo (A := []) [_, _, _, _] rfl rfl rfl ts_35 rfl rfl rfl ?_
        refine ⟨[_, _], rfl, ?_⟩
        refine al0 12 rfl ?_
        refine OpH.storeTo (A := [_]) [_, _, _, _, _] rfl rfl rfl ts_39 rfl rfl rfl ?_
        refine ⟨[_, _], rfl, ?_⟩
        refine WAE.rebase (H := []) ?_
        refine tk 13 rfl (OpV.assign rfl) ?_
        refine WAE.done (by kernel_rfl) ?_ _
        exact En.wk _ _ (sc (sc (sc (sc (sc sn))))) (fun _ h => (((((((((((h).pm 15).pm 15).pm 9).pm 9).pm 9).pm 9).pm 9).pm 9).pm 8).pm 9).sub (.cons_cons _ (.cons_cons _ (.cons_cons _ (.cons_cons _ (.cons_cons _ (.cons_cons _ (.cons_cons _ (.cons_cons _ (.cons_cons _ (.cons_cons _ (.cons _ (.cons _ (.cons _ (.cons _ (.cons _ (.cons _ (.slnil)))))))))))))))))) (KR8 (b8_10, a8_410, n8_410, c8_410, a8_411, n8_411, c8_411, a8_412, n8_412, c8_412, b8_9, a8_400, n8_400, c8_400, a8_401, n8_401, c8_401, a8_402, n8_402, c8_402, f8_400, f8_401, f8_402, f8_410, f8_411, f8_412, f8_300, a8_300, n8_300, c8_300, f8_301, a8_301, n8_301, c8_301, f8_302, a8_302, n8_302, c8_302, f8_100, a8_100, n8_100, c8_100, f8_101, a8_101, n8_101, c8_101, f8_102, a8_102, n8_102, c8_102) trivial)
      ·
       refine OpH.alloc zc_35 ?_
       intro b8_9
       refine ⟨[_], rfl, ?_⟩
       refine WAE.all (rs := [4, 10]) (by kernel_rfl) rfl (AllR.cons rfl rfl rfl rfl ?_ (AllR.cons rfl rfl rfl rfl ?_ AllR.nil))
       ·
        refine OpH.callR (ec rfl (ec rfl e0)) ca_9 (fun w hs => w_spec_TakeFlip e8_4 (Ow.rd (hs.mem mq4)) (Ow.rd (hs.mem mq5)) (Ow.rd (hs.mem mq6)) (Ow.rd (hs.mem mq1)) (Ow.rd (hs.mem mq2)) (Ow.rd (hs.mem mq3))) ?_
        rintro _ _ ⟨a8_400, n8_400, c8_400, f8_400, a8_401, n8_401, c8_401, f8_401, a8_402, n8_402, c8_402, f8_402, a8_410, n8_410, c8_410, f8_410, a8_411, n8_411, c8_411, f8_411, a8_412, n8_412, c8_412, f8_412, rfl, rfl⟩
        refine ⟨[_, _, _, _, _, _, _], rfl, ?_⟩
        refine tk 5 rfl (OpV.move rfl) ?_
        refine tk 6 rfl (OpV.extract rfl rfl) ?_
        refine tk 7 rfl (OpV.extract rfl rfl) ?_
        refine tk 8 rfl (OpV.extract rfl rfl) ?_
        refine al1 10 rfl ?_
        refine OpH.alloc zc_39 ?_
        intro b8_10
        refine ⟨[_, _, _, _, _, _, _, _], rfl, ?_⟩
        refine al0 11 rfl ?_
        refine OpH.storeTo (A := [_, _, _, _, _, _, _]) [_, _, _, _] rfl rfl rfl ts_35 rfl rfl rfl ?_
        refine ⟨[_, _, _, _, _, _, _, _], rfl, ?_⟩
        refine al0 12 rfl ?_
        refine OpH.storeTo (A := []) [_, _, _, _, _] rfl rfl rfl ts_39 rfl rfl rfl ?_
        refine ⟨[_, _, _, _, _, _, _, _], rfl, ?_⟩
        refine WAE.rebase (H := []) ?_
        refine tk 13 rfl (OpV.assign rfl) ?_
        refine WAE.done (by kernel_rfl) ?_ _
        exact En.wk _ _ (sc (sc (sc (sc (sc sn))))) (fun _ h => (((((((((((h).pm 15).pm 15).pm 8).pm 8).pm 8).pm 8).pm 8).pm 8).pm 9).pm 9).sub (.cons_cons _ (.cons_cons _ (.cons_cons _ (.cons_cons _ (.cons_cons _ (.cons_cons _ (.cons_cons _ (.cons_cons _ (.cons_cons _ (.cons_cons _ (.cons _ (.cons _ (.cons _ (.cons _ (.cons _ (.cons _ (.slnil)))))))))))))))))) (KR8 (b8_10, a8_410, n8_410, c8_410, a8_411, n8_411, c8_411, a8_412, n8_412, c8_412, b8_9, a8_400, n8_400, c8_400, a8_401, n8_401, c8_401, a8_402, n8_402, c8_402, f8_400, f8_401, f8_402, f8_410, f8_411, f8_412, f8_300, a8_300, n8_300, c8_300, f8_301, a8_301, n8_301, c8_301, f8_302, a8_302, n8_302, c8_302, f8_100, a8_100, n8_100, c8_100, f8_101, a8_101, n8_101, c8_101, f8_102, a8_102, n8_102, c8_102) trivial)
       ·
        refine OpH.alloc zc_39 ?_
        intro b8_10
        refine ⟨[_, _], rfl, ?_⟩
        refine al1 4 rfl ?_
        refine OpH.callR (ec rfl (ec rfl e0)) ca_9 (fun w hs => w_spec_TakeFlip e8_4 (Ow.rd (hs.mem mq5)) (Ow.rd (hs.mem mq6)) (Ow.rd (hs.mem mq7)) (Ow.rd (hs.mem mq2)) (Ow.rd (hs.mem mq3)) (Ow.rd (hs.mem mq4))) ?_
        rintro _ _ ⟨a8_400, n8_400, c8_400, f8_400, a8_401, n8_401, c8_401, f8_401, a8_402, n8_402, c8_402, f8_402, a8_410, n8_410, c8_410, f8_410, a8_411, n8_411, c8_411, f8_411, a8_412, n8_412, c8_412, f8_412, rfl, rfl⟩
        refine ⟨[_, _, _, _, _, _, _, _], rfl, ?_⟩
        refine tk 5 rfl (OpV.move rfl) ?_
        refine tk 6 rfl (OpV.extract rfl rfl) ?_
        refine tk 7 rfl (OpV.extract rfl rfl) ?_
        refine tk 8 rfl (OpV.extract rfl rfl) ?_
        refine al0 11 rfl ?_
        refine OpH.storeTo (A := [_, _, _, _, _, _, _]) [_, _, _, _] rfl rfl rfl ts_35 rfl rfl rfl ?_
        refine ⟨[_, _, _, _, _, _, _, _], rfl, ?_⟩
        refine al0 12 rfl ?_
        refine OpH.storeTo (A := [_, _, _, _, _, _]) [_, _, _, _, _] rfl rfl rfl ts_39 rfl rfl rfl ?_
        refine ⟨[_, _, _, _, _, _, _, _], rfl, ?_⟩
        refine WAE.rebase (H := []) ?_
        refine tk 13 rfl (OpV.assign rfl) ?_
        refine WAE.done (by kernel_rfl) ?_ _
        exact En.wk _ _ (sc (sc (sc (sc (sc sn))))) (fun _ h => (((((((((((h).pm 15).pm 15).pm 7).pm 7).pm 7).pm 7).pm 7).pm 7).pm 9).pm 9).sub (.cons_cons _ (.cons_cons _ (.cons_cons _ (.cons_cons _ (.cons_cons _ (.cons_cons _ (.cons_cons _ (.cons_cons _ (.cons_cons _ (.cons_cons _ (.cons _ (.cons _ (.cons _ (.cons _ (.cons _ (.cons _ (.slnil)))))))))))))))))) (KR8 (b8_10, a8_410, n8_410, c8_410, a8_411, n8_411, c8_411, a8_412, n8_412, c8_412, b8_9, a8_400, n8_400, c8_400, a8_401, n8_401, c8_401, a8_402, n8_402, c8_402, f8_400, f8_401, f8_402, f8_410, f8_411, f8_412, f8_300, a8_300, n8_300, c8_300, f8_301, a8_301, n8_301, c8_301, f8_302, a8_302, n8_302, c8_302, f8_100, a8_100, n8_100, c8_100, f8_101, a8_101, n8_101, c8_101, f8_102, a8_102, n8_102, c8_102) trivial)
      ·
       refine OpH.alloc zc_39 ?_
       intro b8_10
       refine ⟨[_], rfl, ?_⟩
       refine WAE.all (rs := [4, 9]) (by kernel_rfl) rfl (AllR.cons rfl rfl rfl rfl ?_ (AllR.cons rfl rfl rfl rfl ?_ AllR.nil))
       ·
        refine OpH.callR (ec rfl (ec rfl e0)) ca_9 (fun w hs => w_spec_TakeFlip e8_4 (Ow.rd (hs.mem mq4)) (Ow.rd (hs.mem mq5)) (Ow.rd (hs.mem mq6)) (Ow.rd (hs.mem mq1)) (Ow.rd (hs.mem mq2)) (Ow.rd (hs.mem mq3))) ?_
        rintro _ _ ⟨a8_400, n8_400, c8_400, f8_400, a8_401, n8_401, c8_401, f8_401, a8_402, n8_402, c8_402, f8_402, a8_410, n8_410, c8_410, f8_410, a8_411, n8_411, c8_411, f8_411, a8_412, n8_412, c8_412, f8_412, rfl, rfl⟩
        refine ⟨[_, _, _, _, _, _, _], rfl, ?_⟩
        refine tk 5 rfl (OpV.move rfl) ?_
        refine tk 6 rfl (OpV.extract rfl rfl) ?_
        refine tk 7 rfl (OpV.extract rfl rfl) ?_
        refine tk 8 rfl (OpV.extract rfl rfl) ?_
        refine al1 9 rfl ?_
        refine OpH.alloc zc_35 ?_
        intro b8_9
        refine ⟨[_, _, _, _, _, _, _, _], rfl, ?_⟩
        refine al0 11 rfl ?_
        refine OpH.storeTo (A := []) [_, _, _, _] rfl rfl rfl ts_35 rfl rfl rfl ?_
        refine ⟨[_, _, _, _, _, _, _, _], rfl, ?_⟩
        refine al0 12 rfl ?_
        refine OpH.storeTo (A := [_, _, _, _, _, _, _]) [_, _, _, _, _] rfl rfl rfl ts_39 rfl rfl rfl ?_
        refine ⟨[_, _, _, _, _, _, _, _], rfl, ?_⟩
        refine WAE.rebase (H := []) ?_
        refine tk 13 rfl (OpV.assign rfl) ?_
        refine WAE.done (by kernel_rfl) ?_ _
        exact En.wk _ _ (sc (sc (sc (sc (sc sn))))) (fun _ h => (((((((((((h).pm 15).pm 15).pm 8).pm 8).pm 8).pm 8).pm 8).pm 8).pm 8).pm 9).sub (.cons_cons _ (.cons_cons _ (.cons_cons _ (.cons_cons _ (.cons_cons _ (.cons_cons _ (.cons_cons _ (.cons_cons _ (.cons_cons _ (.cons_cons _ (.cons _ (.cons _ (.cons _ (.cons _ (.cons _ (.cons _ (.slnil)))))))))))))))))) (KR8 (b8_10, a8_410, n8_410, c8_410, a8_411, n8_411, c8_411, a8_412, n8_412, c8_412, b8_9, a8_400, n8_400, c8_400, a8_401, n8_401, c8_401, a8_402, n8_402, c8_402, f8_400, f8_401, f8_402, f8_410, f8_411, f8_412, f8_300, a8_300, n8_300, c8_300, f8_301, a8_301, n8_301, c8_301, f8_302, a8_302, n8_302, c8_302, f8_100, a8_100, n8_100, c8_100, f8_101, a8_101, n8_101, c8_101, f8_102, a8_102, n8_102, c8_102) trivial)
       ·
        refine OpH.alloc zc_35 ?_
        intro b8_9
        refine ⟨[_, _], rfl, ?_⟩
        refine al1 4 rfl ?_
        refine OpH.callR (ec rfl (ec rfl e0)) ca_9 (fun w hs => w_spec_TakeFlip e8_4 (Ow.rd (hs.mem mq5)) (Ow.rd (hs.mem mq6)) (Ow.rd (hs.mem mq7)) (Ow.rd (hs.mem mq2)) (Ow.rd (hs.mem mq3)) (Ow.rd (hs.mem mq4))) ?_
        rintro _ _ ⟨a8_400, n8_400, c8_400, f8_400, a8_401, n8_401, c8_401, f8_401, a8_402, n8_402, c8_402, f8_402, a8_410, n8_410, c8_410, f8_410, a8_411, n8_411, c8_411, f8_411, a8_412, n8_412, c8_412, f8_412, rfl, rfl⟩
        refine ⟨[_, _, _, _, _, _, _, _], rfl, ?_⟩
        refine tk 5 rfl (OpV.move rfl) ?_
        refine tk 6 rfl (OpV.extract rfl rfl) ?_
        refine tk 7 rfl (OpV.extract rfl rfl) ?_
        refine tk 8 rfl (OpV.extract rfl rfl) ?_
        refine al0 11 rfl ?_
        refine OpH.storeTo (A := [_, _, _, _, _, _]) [_, _, _, _] rfl rfl rfl ts_35 rfl rfl rfl ?_
        refine ⟨[_, _, _, _, _, _, _, _], rfl, ?_⟩
        refine al0 12 rfl ?_
        refine OpH.storeTo (A := [_, _, _, _, _, _, _]) [_, _, _, _, _] rfl rfl rfl ts_39 rfl rfl rfl ?_
        refine ⟨[_, _, _, _, _, _, _, _], rfl, ?_⟩
        refine WAE.rebase (H := []) ?_
        refine tk 13 rfl (OpV.assign rfl) ?_
        refine WAE.done (by kernel_rfl) ?_ _
        exact En.wk _ _ (sc (sc (sc (sc (sc sn))))) (fun _ h => (((((((((((h).pm 15).pm 15).pm 7).pm 7).pm 7).pm 7).pm 7).pm 7).pm 8).pm 9).sub (.cons_cons _ (.cons_cons _ (.cons_cons _ (.cons_cons _ (.cons_cons _ (.cons_cons _ (.cons_cons _ (.cons_cons _ (.cons_cons _ (.cons_cons _ (.cons _ (.cons _ (.cons _ (.cons _ (.cons _ (.cons _ (.slnil)))))))))))))))))) (KR8 (b8_10, a8_410, n8_410, c8_410, a8_411, n8_411, c8_411, a8_412, n8_412, c8_412, b8_9, a8_400, n8_400, c8_400, a8_401, n8_401, c8_401, a8_402, n8_402, c8_402, f8_400, f8_401, f8_402, f8_410, f8_411, f8_412, f8_300, a8_300, n8_300, c8_300, f8_301, a8_301, n8_301, c8_301, f8_302, a8_302, n8_302, c8_302, f8_100, a8_100, n8_100, c8_100, f8_101, a8_101, n8_101, c8_101, f8_102, a8_102, n8_102, c8_102) trivial)
     ·
      refine OpH.alloc zc_35 ?_
      intro b8_9
      refine ⟨[_], rfl, ?_⟩
      refine WAE.all (rs := [3, 10]) (by kernel_rfl) rfl (AllR.cons rfl rfl rfl rfl ?_ (AllR.cons rfl rfl rfl rfl ?_ AllR.nil))
      ·
       refine OpH.callR (ec rfl e0) ca_11 (fun w hs => w_laws_toCrtc e8_3 (r1_0.ext hs.below) (r1_1.ext hs.below) (r1_2.ext hs.below)) ?_
       rintro _ _ ⟨a8_300, n8_300, c8_300, f8_300, a8_301, n8_301, c8_301, f8_301, a8_302, n8_302, c8_302, f8_302, rfl, rfl⟩
       refine ⟨[_, _, _, _], rfl, ?_⟩
       refine WAE.all (rs := [4, 10]) (by kernel_rfl) rfl (AllR.cons rfl rfl rfl rfl ?_ (AllR.cons rfl rfl rfl rfl ?_ AllR.nil))
       ·
        refine OpH.callR (ec rfl (ec rfl e0)) ca_9 (fun w hs => w_spec_TakeFlip e8_4 (Ow.rd (hs.mem mq4)) (Ow.rd (hs.mem mq5)) (Ow.rd (hs.mem mq6)) (Ow.rd (hs.mem mq0)) (Ow.rd (hs.mem mq1)) (Ow.rd (hs.mem mq2))) ?_
        rintro _ _ ⟨a8_400, n8_400, c8_400, f8_400, a8_401, n8_401, c8_401, f8_401, a8_402, n8_402, c8_402, f8_402, a8_410, n8_410, c8_410, f8_410, a8_411, n8_411, c8_411, f8_411, a8_412, n8_412, c8_412, f8_412, rfl, rfl⟩
        refine ⟨[_, _, _, _, _, _, _, _, _, _], rfl, ?_⟩
        refine tk 5 rfl (OpV.move rfl) ?_
        refine tk 6 rfl (OpV.extract rfl rfl) ?_
        refine tk 7 rfl (OpV.extract rfl rfl) ?_
        refine tk 8 rfl (OpV.extract rfl rfl) ?_
        refine al1 10 rfl ?_
        refine OpH.alloc zc_39 ?_
        intro b8_10
        refine ⟨[_, _, _, _, _, _, _, _, _, _, _], rfl, ?_⟩
        refine al0 11 rfl ?_
        refine OpH.storeTo (A := [_, _, _, _, _, _, _, _, _, _]) [_, _, _, _] rfl rfl rfl ts_35 rfl rfl rfl ?_
        refine ⟨[_, _, _, _, _, _, _, _, _, _, _], rfl, ?_⟩
        refine al0 12 rfl ?_
        refine OpH.storeTo (A := []) [_, _, _, _, _] rfl rfl rfl ts_39 rfl rfl rfl ?_
        refine ⟨[_, _, _, _, _, _, _, _, _, _, _], rfl, ?_⟩
        refine WAE.rebase (H := []) ?_
        refine tk 13 rfl (OpV.assign rfl) ?_
        refine WAE.done (by kernel_rfl) ?_ _
        exact En.wk _ _ (sc (sc (sc (sc (sc sn))))) (fun _ h => (((((((((((h).pm 15).pm 15).pm 8).pm 8).pm 8).pm 8).pm 8).pm 8).pm 12).pm 9).sub (.cons_cons _ (.cons_cons _ (.cons_cons _ (.cons_cons _ (.cons_cons _ (.cons_cons _ (.cons_cons _ (.cons_cons _ (.cons_cons _ (.cons_cons _ (.cons _ (.cons _ (.cons _ (.cons _ (.cons _ (.cons _ (.slnil)))))))))))))))))) (KR8 (b8_10, a8_410, n8_410, c8_410, a8_411, n8_411, c8_411, a8_412, n8_412, c8_412, b8_9, a8_400, n8_400, c8_400, a8_401, n8_401, c8_401, a8_402, n8_402, c8_402, f8_400, f8_401, f8_402, f8_410, f8_411, f8_412, f8_300, a8_300, n8_300, c8_300, f8_301, a8_301, n8_301, c8_301, f8_302, a8_302, n8_302, c8_302, f8_100, a8_100, n8_100, c8_100, f8_101, a8_101, n8_101, c8_101, f8_102, a8_102, n8_102, c8_102) trivial)
       ·
        refine OpH.alloc zc_39 ?_
        intro b8_10
        refine ⟨[_, _, _, _, _], rfl, ?_⟩
        refine al1 4 rfl ?_
        refine OpH.callR (ec rfl (ec rfl e0)) ca_9 (fun w hs => w_spec_TakeFlip e8_4 (Ow.rd (hs.mem mq5)) (Ow.rd (hs.mem mq6)) (Ow.rd (hs.mem mq7)) (Ow.rd (hs.mem mq1)) (Ow.rd (hs.mem mq2)) (Ow.rd (hs.mem mq3))) ?_
        rintro _ _ ⟨a8_400, n8_400, c8_400, f8_400, a8_401, n8_401, c8_401, f8_401, a8_402, n8_402, c8_402, f8_402, a8_410, n8_410, c8_410, f8_410, a8_411, n8_411, c8_411, f8_411, a8_412, n8_412, c8_412, f8_412, rfl, rfl⟩
        refine ⟨[_, _, _, _, _, _, _, _, _, _, _], rfl, ?_⟩
        refine tk 5 rfl (OpV.move rfl) ?_
        refine tk 6 rfl (OpV.extract rfl rfl) ?_
        refine tk 7 rfl (OpV.extract rfl rfl) ?_
        refine tk 8 rfl (OpV.extract rfl rfl) ?_
        refine al0 11 rfl ?_
        refine OpH.storeTo (A := [_, _, _, _, _, _, _, _, _, _]) [_, _, _, _] rfl rfl rfl ts_35 rfl rfl rfl ?_
        refine ⟨[_, _, _, _, _, _, _, _, _, _, _], rfl, ?_⟩
        refine al0 12 rfl ?_
        refine OpH.storeTo (A := [_, _, _, _, _, _]) [_, _, _, _, _] rfl rfl rfl ts_39 rfl rfl rfl ?_
        refine ⟨[_, _, _, _, _, _, _, _, _, _, _], rfl, ?_⟩
        refine WAE.rebase (H := []) ?_
        refine tk 13 rfl (OpV.assign rfl) ?_
        refine WAE.done (by kernel_rfl) ?_ _
        exact En.wk _ _ (sc (sc (sc (sc (sc sn))))) (fun _ h => (((((((((((h).pm 15).pm 15).pm 7).pm 7).pm 7).pm 7).pm 7).pm 7).pm 12).pm 9).sub (.cons_cons _ (.cons_cons _ (.cons_cons _ (.cons_cons _ (.cons_cons _ (.cons_cons _ (.cons_cons _ (.cons_cons _ (.cons_cons _ (.cons_cons _ (.cons _ (.cons _ (.cons _ (.cons _ (.cons _ (.cons _ (.slnil)))))))))))))))))) (KR8 (b8_10, a8_410, n8_410, c8_410, a8_411, n8_411, c8_411, a8_412, n8_412, c8_412, b8_9, a8_400, n8_400, c8_400, a8_401, n8_401, c8_401, a8_402, n8_402, c8_402, f8_400, f8_401, f8_402, f8_410, f8_411, f8_412, f8_300, a8_300, n8_300, c8_300, f8_301, a8_301, n8_301, c8_301, f8_302, a8_302, n8_302, c8_302, f8_100, a8_100, n8_100, c8_100, f8_101, a8_101, n8_101, c8_101, f8_102, a8_102, n8_102, c8_102) trivial)
      ·
       refine OpH.alloc zc_39 ?_
       intro b8_10
       refine ⟨[_, _], rfl, ?_⟩
       refine al1 3 rfl ?_
       refine OpH.callR (ec rfl e0) ca_11 (fun w hs => w_laws_toCrtc e8_3 (r1_0.ext hs.below) (r1_1.ext hs.below) (r1_2.ext hs.below)) ?_
       rintro _ _ ⟨a8_300, n8_300, c8_300, f8_300, a8_301, n8_301, c8_301, f8_301, a8_302, n8_302, c8_302, f8_302, rfl, rfl⟩
       refine ⟨[_, _, _, _, _], rfl, ?_⟩
       refine al1 4 rfl ?_
       refine OpH.callR (ec rfl (ec rfl e0)) ca_9 (fun w hs => w_spec_TakeFlip e8_4 (Ow.rd (hs.mem mq5)) (Ow.rd (hs.mem mq6)) (Ow.rd (hs.mem mq7)) (Ow.rd (hs.mem mq0)) (Ow.rd (hs.mem mq1)) (Ow.rd (hs.mem mq2))) ?_
       rintro _ _ ⟨a8_400, n8_400, c8_400, f8_400, a8_401, n8_401, c8_401, f8_401, a8_402, n8_402, c8_402, f8_402, a8_410, n8_410, c8_410, f8_410, a8_411, n8_411, c8_411, f8_411, a8_412, n8_412, c8_412, f8_412, rfl, rfl⟩
       refine ⟨[_, _, _, _, _, _, _, _, _, _, _], rfl, ?_⟩
       refine tk 5 rfl (OpV.move rfl) ?_
       refine tk 6 rfl (OpV.extract rfl rfl) ?_
       refine tk 7 rfl (OpV.extract rfl rfl) ?_
       refine tk 8 rfl (OpV.extract rfl rfl) ?_
       refine al0 11 rfl ?_
       refine OpH.storeTo (A := [_, _, _, _, _, _, _, _, _, _]) [_, _, _, _] rfl rfl rfl ts_35 rfl rfl rfl ?_
       refine ⟨[_, _, _, _, _, _, _, _, _, _, _], rfl, ?_⟩
       refine al0 12 rfl ?_
       refine OpH.storeTo (A := [_, _, _, _, _, _, _, _, _]) [_, _, _, _, _] rfl rfl rfl ts_39 rfl rfl rfl ?_
       refine ⟨[_, _, _, _, _, _, _, _, _, _, _], rfl, ?_⟩
       refine WAE.rebase (H := []) ?_
       refine tk 13 rfl (OpV.assign rfl) ?_
       refine WAE.done (by kernel_rfl) ?_ _
       exact En.wk _ _ (sc (sc (sc (sc (sc sn))))) (fun _ h => (((((((((((h).pm 15).pm 15).pm 7).pm 7).pm 7).pm 7).pm 7).pm 7).pm 12).pm 12).sub (.cons_cons _ (.cons_cons _ (.cons_cons _ (.cons_cons _ (.cons_cons _ (.cons_cons _ (.cons_cons _ (.cons_cons _ (.cons_cons _ (.cons_cons _ (.cons _ (.cons _ (.cons _ (.cons _ (.cons _ (.cons _ (.slnil)))))))))))))))))) (KR8 (b8_10, a8_410, n8_410, c8_410, a8_411, n8_411, c8_411, a8_412, n8_412, c8_412, b8_9, a8_400, n8_400, c8_400, a8_401, n8_401, c8_401, a8_402, n8_402, c8_402, f8_400, f8_401, f8_402, f8_410, f8_411, f8_412, f8_300, a8_300, n8_300, c8_300, f8_301, a8_301, n8_301, c8_301, f8_302, a8_302, n8_302, c8_302, f8_100, a8_100, n8_100, c8_100, f8_101, a8_101, n8_101, c8_101, f8_102, a8_102, n8_102, c8_102) trivial)
     ·
      refine OpH.alloc zc_39 ?_
      intro b8_10
      refine ⟨[_], rfl, ?_⟩
      refine WAE.all (rs := [3, 9]) (by kernel_rfl) rfl (AllR.cons rfl rfl rfl rfl ?_ (AllR.cons rfl rfl rfl rfl ?_ AllR.nil))
      ·
       refine OpH.callR (ec rfl e0) ca_11 (fun w hs => w_laws_toCrtc e8_3 (r1_0.ext hs.below) (r1_1.ext hs.below) (r1_2.ext hs.below)) ?_
       rintro _ _ ⟨a8_300, n8_300, c8_300, f8_300, a8_301, n8_301, c8_301, f8_301, a8_302, n8_302, c8_302, f8_302, rfl, rfl⟩
       refine ⟨[_, _, _, _], rfl, ?_⟩
       refine WAE.all (rs := [4, 9]) (by kernel_rfl) rfl (AllR.cons rfl rfl rfl rfl ?_ (AllR.cons rfl rfl rfl rfl ?_ AllR.nil))
       ·
        refine OpH.callR (ec rfl (ec rfl e0)) ca_9 (fun w hs => w_spec_TakeFlip e8_4 (Ow.rd (hs.mem mq4)) (Ow.rd (hs.mem mq5)) (Ow.rd (hs.mem mq6)) (Ow.rd (hs.mem mq0)) (Ow.rd (hs.mem mq1)) (Ow.rd (hs.mem mq2))) ?_
        rintro _ _ ⟨a8_400, n8_400, c8_400, f8_400, a8_401, n8_401, c8_401, f8_401, a8_402, n8_402, c8_402, f8_402, a8_410, n8_410, c8_410, f8_410, a8_411, n8_411, c8_411, f8_411, a8_412, n8_412, c8_412, f8_412, rfl, rfl⟩
        refine ⟨[_, _, _, _, _, _, _, _, _, _], rfl, ?_⟩
        refine tk 5 rfl (OpV.move rfl) ?_
        refine tk 6 rfl (OpV.extract rfl rfl) ?_
        refine tk 7 rfl (OpV.extract rfl rfl) ?_
        refine tk 8 rfl (OpV.extract rfl rfl) ?_
        refine al1 9 rfl ?_
        refine OpH.alloc zc_35 ?_
        intro b8_9
        refine ⟨[_, _, _, _, _, _, _, _, _, _, _], rfl, ?_⟩
        refine al0 11 rfl ?_
        refine OpH.storeTo (A := []) [_, _, _, _] rfl rfl rfl ts_35 rfl rfl rfl ?_
        refine ⟨[_, _, _, _, _, _, _, _, _, _, _], rfl, ?_⟩
        refine al0 12 rfl ?_
        refine OpH.storeTo (A := [_, _, _, _, _, _, _, _, _, _]) [_, _, _, _, _] rfl rfl rfl ts_39 rfl rfl rfl ?_
        refine ⟨[_, _, _, _, _, _, _, _, _, _, _], rfl, ?_⟩
        refine WAE.rebase (H := []) ?_
        refine tk 13 rfl (OpV.assign rfl) ?_
        refine WAE.done (by kernel_rfl) ?_ _
        exact En.wk _ _ (sc (sc (sc (sc (sc sn))))) (fun _ h => (((((((((((h).pm 15).pm 15).pm 8).pm 8).pm 8).pm 8).pm 8).pm 8).pm 8).pm 12).sub (.cons_cons _ (.cons_cons _ (.cons_cons _ (.cons_cons _ (.cons_cons _ (.cons_cons _ (.cons_cons _ (.cons_cons _ (.cons_cons _ (.cons_cons _ (.cons _ (.cons _ (.cons _ (.cons _ (.cons _ (.cons _ (.slnil)))))))))))))))))) (KR8 (b8_10, a8_410, n8_410, c8_410, a8_411, n8_411, c8_411, a8_412, n8_412, c8_412, b8_9, a8_400, n8_400, c8_400, a8_401, n8_401, c8_401, a8_402, n8_402, c8_402, f8_400, f8_401, f8_402, f8_410, f8_411, f8_412, f8_300, a8_300, n8_300, c8_300, f8_301, a8_301, n8_301, c8_301, f8_302, a8_302, n8_302, c8_302, f8_100, a8_100, n8_100, c8_100, f8_101, a8_101, n8_101, c8_101, f8_102, a8_102, n8_102, c8_102) trivial)
       ·
        refine OpH.alloc zc_35 ?_
        intro b8_9
        refine ⟨[_, _, _, _, _], rfl, ?_⟩
        refine al1 4 rfl ?_
        refine OpH.callR (ec rfl (ec rfl e0)) ca_9 (fun w hs => w_spec_TakeFlip e8_4 (Ow.rd (hs.mem mq5)) (Ow.rd (hs.mem mq6)) (Ow.rd (hs.mem mq7)) (Ow.rd (hs.mem mq1)) (Ow.rd (hs.mem mq2)) (Ow.rd (hs.mem mq3))) ?_
        rintro _ _ ⟨a8_400, n8_400, c8_400, f8_400, a8_401, n8_401, c8_401, f8_401, a8_402, n8_402, c8_402, f8_402, a8_410, n8_410, c8_410, f8_410, a8_411, n8_411, c8_411, f8_411, a8_412, n8_412, c8_412, f8_412, rfl, rfl⟩
        refine ⟨[_, _, _, _, _, _, _, _, _, _, _], rfl, ?_⟩
        refine tk 5 rfl (OpV.move rfl) ?_
        refine tk 6 rfl (OpV.extract rfl rfl) ?_
        refine tk 7 rfl (OpV.extract rfl rfl) ?_
        refine tk 8 rfl (OpV.extract rfl rfl) ?_
        refine al0 11 rfl ?_
        refine OpH.storeTo (A := [_, _, _, _, _, _]) [_, _, _, _] rfl rfl rfl ts_35 rfl rfl rfl ?_
        refine ⟨[_, _, _, _, _, _, _, _, _, _, _], rfl, ?_⟩
        refine al0 12 rfl ?_
        refine OpH.storeTo (A := [_, _, _, _, _, _, _, _, _, _]) [_, _, _, _, _] rfl rfl rfl ts_39 rfl rfl rfl ?_
        refine ⟨[_, _, _, _, _, _, _, _, _, _, _], rfl, ?_⟩
        refine WAE.rebase (H := []) ?_
        refine tk 13 rfl (OpV.assign rfl) ?_
        refine WAE.done (by kernel_rfl) ?_ _
        exact En.wk _ _ (sc (sc (sc (sc (sc sn))))) (fun _ h => (((((((((((h).pm 15).pm 15).pm 7).pm 7).pm 7).pm 7).pm 7).pm 7).pm 8).pm 12).sub (.cons_cons _ (.cons_cons _ (.cons_cons _ (.cons_cons _ (.cons_cons _ (.cons_cons _ (.cons_cons _ (.cons_cons _ (.cons_cons _ (.cons_cons _ (.cons _ (.cons _ (.cons _ (.cons _ (.cons _ (.cons _ (.slnil)))))))))))))))))) (KR8 (b8_10, a8_410, n8_410, c8_410, a8_411, n8_411, c8_411, a8_412, n8_412, c8_412, b8_9, a8_400, n8_400, c8_400, a8_401, n8_401, c8_401, a8_402, n8_402, c8_402, f8_400, f8_401, f8_402, f8_410, f8_411, f8_412, f8_300, a8_300, n8_300, c8_300, f8_301, a8_301, n8_301, c8_301, f8_302, a8_302, n8_302, c8_302, f8_100, a8_100, n8_100, c8_100, f8_101, a8_101, n8_101, c8_101, f8_102, a8_102, n8_102, c8_102) trivial)
      ·
       refine OpH.alloc zc_35 ?_
       intro b8_9
       refine ⟨[_, _], rfl, ?_⟩
       refine al1 3 rfl ?_
       refine OpH.callR (ec rfl e0) ca_11 (fun w hs => w_laws_toCrtc e8_3 (r1_0.ext hs.below) (r1_1.ext hs.below) (r1_2.ext hs.below)) ?_
       rintro _ _ ⟨a8_300, n8_300, c8_300, f8_300, a8_301, n8_301, c8_301, f8_301, a8_302, n8_302, c8_302, f8_302, rfl, rfl⟩
       refine ⟨[_, _, _, _, _], rfl, ?_⟩
       refine al1 4 rfl ?_
       refine OpH.callR (ec rfl (ec rfl e0)) ca_9 (fun w hs => w_spec_TakeFlip e8_4 (Ow.rd (hs.mem mq5)) (Ow.rd (hs.mem mq6)) (Ow.rd (hs.mem mq7)) (Ow.rd (hs.mem mq0)) (Ow.rd (hs.mem mq1)) (Ow.rd (hs.mem mq2))) ?_
       rintro _ _ ⟨a8_400, n8_400, c8_400, f8_400, a8_401, n8_401, c8_401, f8_401, a8_402, n8_402, c8_402, f8_402, a8_410, n8_410, c8_410, f8_410, a8_411, n8_411, c8_411, f8_411, a8_412, n8_412, c8_412, f8_412, rfl, rfl⟩
       refine ⟨[_, _, _, _, _, _, _, _, _, _, _], rfl, ?_⟩
       refine tk 5 rfl (OpV.move rfl) ?_
       refine tk 6 rfl (OpV.extract rfl rfl) ?_
       refine tk 7 rfl (OpV.extract rfl rfl) ?_
       refine tk 8 rfl (OpV.extract rfl rfl) ?_
       refine al0 11 rfl ?_
       refine OpH.storeTo (A := [_, _, _, _, _, _, _, _, _]) [_, _, _, _] rfl rfl rfl ts_35 rfl rfl rfl ?_
       refine ⟨[_, _, _, _, _, _, _, _, _, _, _], rfl, ?_⟩
       refine al0 12 rfl ?_
       refine OpH.storeTo (A := [_, _, _, _, _, _, _, _, _, _]) [_, _, _, _, _] rfl rfl rfl ts_39 rfl rfl rfl ?_
       refine ⟨[_, _, _, _, _, _, _, _, _, _, _], rfl, ?_⟩
       refine WAE.rebase (H := []) ?_
       refine tk 13 rfl (OpV.assign rfl) ?_
       refine WAE.done (by kernel_rfl) ?_ _
       exact En.wk _ _ (sc (sc (sc (sc (sc sn))))) (fun _ h => (((((((((((h).pm 15).pm 15).pm 7).pm 7).pm 7).pm 7).pm 7).pm 7).pm 11).pm 12).sub (.cons_cons _ (.cons_cons _ (.cons_cons _ (.cons_cons _ (.cons_cons _ (.cons_cons _ (.cons_cons _ (.cons_cons _ (.cons_cons _ (.cons_cons _ (.cons _ (.cons _ (.cons _ (.cons _ (.cons _ (.cons _ (.slnil)))))))))))))))))) (KR8 (b8_10, a8_410, n8_410, c8_410, a8_411, n8_411, c8_411, a8_412, n8_412, c8_412, b8_9, a8_400, n8_400, c8_400, a8_401, n8_401, c8_401, a8_402, n8_402, c8_402, f8_400, f8_401, f8_402, f8_410, f8_411, f8_412, f8_300, a8_300, n8_300, c8_300, f8_301, a8_301, n8_301, c8_301, f8_302, a8_302, n8_302, c8_302, f8_100, a8_100, n8_100, c8_100, f8_101, a8_101, n8_101, c8_101, f8_102, a8_102, n8_102, c8_102) trivial)
    ·
     refine OpH.alloc zc_35 ?_
     intro b8_9
     refine ⟨[_], rfl, ?_⟩
     refine WAE.all (rs := [1, 10]) (by kernel_rfl) rfl (AllR.cons rfl rfl rfl rfl ?_ (AllR.cons rfl rfl rfl rfl ?_ AllR.nil))
     ·
      refine OpH.callR (ec rfl e0) ca_10 (fun w hs => w_laws_toFlips e8_1 (r0_0.ext hs.below) (r0_1.ext hs.below) (r0_2.ext hs.below)) ?_
      rintro _ _ ⟨a8_100, n8_100, c8_100, f8_100, a8_101, n8_101, c8_101, f8_101, a8_102, n8_102, c8_102, f8_102, rfl, rfl⟩
      refine ⟨[_, _, _, _], rfl, ?_⟩
      refine WAE.all (rs := [3, 10]) (by kernel_rfl) rfl (AllR.cons rfl rfl rfl rfl ?_ (AllR.cons rfl rfl rfl rfl ?_ AllR.nil))
      ·
       refine OpH.callR (ec rfl e0) ca_11 (fun w hs => w_laws_toCrtc e8_3 (r1_0.ext hs.below) (r1_1.ext hs.below) (r1_2.ext hs.below)) ?_
       rintro _ _ ⟨a8_300, n8_300, c8_300, f8_300, a8_301, n8_301, c8_301, f8_301, a8_302, n8_302, c8_302, f8_302, rfl, rfl⟩
       refine ⟨[_, _, _, _, _, _, _], rfl, ?_⟩
       refine WAE.all (rs := [4, 10]) (by kernel_rfl) rfl (AllR.cons rfl rfl rfl rfl ?_ (AllR.cons rfl rfl rfl rfl ?_ AllR.nil))
       ·
        refine OpH.callR (ec rfl (ec rfl e0)) ca_9 (fun w hs => w_spec_TakeFlip e8_4 (Ow.rd (hs.mem mq3)) (Ow.rd (hs.mem mq4)) (Ow.rd (hs.mem mq5)) (Ow.rd (hs.mem mq0)) (Ow.rd (hs.mem mq1)) (Ow.rd (hs.mem mq2))) ?_
        rintro _ _ ⟨a8_400, n8_400, c8_400, f8_400, a8_401, n8_401, c8_401, f8_401, a8_402, n8_402, c8_402, f8_402, a8_410, n8_410, c8_410, f8_410, a8_411, n8_411, c8_411, f8_411, a8_412, n8_412, c8_412, f8_412, rfl, rfl⟩
        refine ⟨[_, _, _, _, _, _, _, _, _, _, _, _, _], rfl, ?_⟩
        refine tk 5 rfl (OpV.move rfl) ?_
        refine tk 6 rfl (OpV.extract rfl rfl) ?_
        refine tk 7 rfl (OpV.extract rfl rfl) ?_
        refine tk 8 rfl (OpV.extract rfl rfl) ?_
        refine al1 10 rfl ?_
        refine OpH.alloc zc_39 ?_
        intro b8_10
        refine ⟨[_, _, _, _, _, _, _, _, _, _, _, _, _, _], rfl, ?_⟩
        refine al0 11 rfl ?_
        refine OpH.storeTo (A := [_, _, _, _, _, _, _, _, _, _, _, _, _]) [_, _, _, _] rfl rfl rfl ts_35 rfl rfl rfl ?_
        refine ⟨[_, _, _, _, _, _, _, _, _, _, _, _, _, _], rfl, ?_⟩
        refine al0 12 rfl ?_
        refine OpH.storeTo (A := []) [_, _, _, _, _] rfl rfl rfl ts_39 rfl rfl rfl ?_
        refine ⟨[_, _, _, _, _, _, _, _, _, _, _, _, _, _], rfl, ?_⟩
        refine WAE.rebase (H := []) ?_
        refine tk 13 rfl (OpV.assign rfl) ?_
        refine WAE.done (by kernel_rfl) ?_ _
        exact En.wk _ _ (sc (sc (sc (sc (sc sn))))) (fun _ h => (((((((((((h).pm 15).pm 15).pm 8).pm 8).pm 8).pm 8).pm 8).pm 8).pm 15).pm 9).sub (.cons_cons _ (.cons_cons _ (.cons_cons _ (.cons_cons _ (.cons_cons _ (.cons_cons _ (.cons_cons _ (.cons_cons _ (.cons_cons _ (.cons_cons _ (.cons _ (.cons _ (.cons _ (.cons _ (.cons _ (.cons _ (.slnil)))))))))))))))))) (KR8 (b8_10, a8_410, n8_410, c8_410, a8_411, n8_411, c8_411, a8_412, n8_412, c8_412, b8_9, a8_400, n8_400, c8_400, a8_401, n8_401, c8_401, a8_402, n8_402, c8_402, f8_400, f8_401, f8_402, f8_410, f8_411, f8_412, f8_300, a8_300, n8_300, c8_300, f8_301, a8_301, n8_301, c8_301, f8_302, a8_302, n8_302, c8_302, f8_100, a8_100, n8_100, c8_100, f8_101, a8_101, n8_101, c8_101, f8_102, a8_102, n8_102, c8_102) trivial)
       ·
        refine OpH.alloc zc_39 ?_
        intro b8_10
        refine ⟨[_, _, _, _, _, _, _, _], rfl, ?_⟩
        refine al1 4 rfl ?_
        refine OpH.callR (ec rfl (ec rfl e0)) ca_9 (fun w hs => w_spec_TakeFlip e8_4 (Ow.rd (hs.mem mq4)) (Ow.rd (hs.mem mq5)) (Ow.rd (hs.mem mq6)) (Ow.rd (hs.mem mq1)) (Ow.rd (hs.mem mq2)) (Ow.rd (hs.mem mq3))) ?_
        rintro _ _ ⟨a8_400, n8_400, c8_400, f8_400, a8_401, n8_401, c8_401, f8_401, a8_402, n8_402, c8_402, f8_402, a8_410, n8_410, c8_410, f8_410, a8_411, n8_411, c8_411, f8_411, a8_412, n8_412, c8_412, f8_412, rfl, rfl⟩
        refine ⟨[_, _, _, _, _, _, _, _, _, _, _, _, _, _], rfl, ?_⟩
        refine tk 5 rfl (OpV.move rfl) ?_
        refine tk 6 rfl (OpV.extract rfl rfl) ?_
        refine tk 7 rfl (OpV.extract rfl rfl) ?_
        refine tk 8 rfl (OpV.extract rfl rfl) ?_
        refine al0 11 rfl ?_
        refine OpH.storeTo (A := [_, _, _, _, _, _, _, _, _, _, _, _, _]) [_, _, _, _] rfl rfl rfl ts_35 rfl rfl rfl ?_
        refine ⟨[_, _, _, _, _, _, _, _, _, _, _, _, _, _], rfl, ?_⟩
        refine al0 12 rfl ?_
        refine OpH.storeTo (A := [_, _, _, _, _, _]) [_, _, _, _, _] rfl rfl rfl ts_39 rfl rfl rfl ?_
        refine ⟨[_, _, _, _, _, _, _, _, _, _, _, _, _, _], rfl, ?_⟩
        refine WAE.rebase (H := []) ?_
        refine tk 13 rfl (OpV.assign rfl) ?_
        refine WAE.done (by kernel_rfl) ?_ _
        exact En.wk _ _ (sc (sc (sc (sc (sc sn))))) (fun _ h => (((((((((((h).pm 15).pm 15).pm 7).pm 7).pm 7).pm 7).pm 7).pm 7).pm 15).pm 9).sub (.cons_cons _ (.cons_cons _ (.cons_cons _ (.cons_cons _ (.cons_cons _ (.cons_cons _ (.cons_cons _ (.cons_cons _ (.cons_cons _ (.cons_cons _ (.cons _ (.cons _ (.cons _ (.cons _ (.cons _ (.cons _ (.slnil)))))))))))))))))) (KR8 (b8_10, a8_410, n8_410, c8_410, a8_411, n8_411, c8_411, a8_412, n8_412, c8_412, b8_9, a8_400, n8_400, c8_400, a8_401, n8_401, c8_401, a8_402, n8_402, c8_402, f8_400, f8_401, f8_402, f8_410, f8_411, f8_412, f8_300, a8_300, n8_300, c8_300, f8_301, a8_301, n8_301, c8_301, f8_302, a8_302, n8_302, c8_302, f8_100, a8_100, n8_100, c8_100, f8_101, a8_101, n8_101, c8_101, f8_102, a8_102, n8_102, c8_102) trivial)
      ·
       refine OpH.alloc zc_39 ?_
       intro b8_10
       refine ⟨[_, _, _, _, _], rfl, ?_⟩
       refine al1 3 rfl ?_
       refine OpH.callR (ec rfl e0) ca_11 (fun w hs => w_laws_toCrtc e8_3 (r1_0.ext hs.below) (r1_1.ext hs.below) (r1_2.ext hs.below)) ?_
       rintro _ _ ⟨a8_300, n8_300, c8_300, f8_300, a8_301, n8_301, c8_301, f8_301, a8_302, n8_302, c8_302, f8_302, rfl, rfl⟩
       refine ⟨[_, _, _, _, _, _, _, _], rfl, ?_⟩
       refine al1 4 rfl ?_
       refine OpH.callR (ec rfl (ec rfl e0)) ca_9 (fun w hs => w_spec_TakeFlip e8_4 (Ow.rd (hs.mem mq4)) (Ow.rd (hs.mem mq5)) (Ow.rd (hs.mem mq6)) (Ow.rd (hs.mem mq0)) (Ow.rd (hs.mem mq1)) (Ow.rd (hs.mem mq2))) ?_
       rintro _ _ ⟨a8_400, n8_400, c8_400, f8_400, a8_401, n8_401, c8_401, f8_401, a8_402, n8_402, c8_402, f8_402, a8_410, n8_410, c8_410, f8_410, a8_411, n8_411, c8_411, f8_411, a8_412, n8_412, c8_412, f8_412, rfl, rfl⟩
       refine ⟨[_, _, _, _, _, _, _, _, _, _, _, _, _, _], rfl, ?_⟩
       refine tk 5 rfl (OpV.move rfl) ?_
       refine tk 6 rfl (OpV.extract rfl rfl) ?_
       refine tk 7 rfl (OpV.extract rfl rfl) ?_
       refine tk 8 rfl (OpV.extract rfl rfl) ?_
       refine al0 11 rfl ?_
       refine OpH.storeTo (A := [_, _, _, _, _, _, _, _, _, _, _, _, _]) [_, _, _, _] rfl rfl rfl ts_35 rfl rfl rfl ?_
       refine ⟨[_, _, _, _, _, _, _, _, _, _, _, _, _, _], rfl, ?_⟩
       refine al0 12 rfl ?_
       refine OpH.storeTo (A := [_, _, _, _, _, _, _, _, _]) [_, _, _, _, _] rfl rfl rfl ts_39 rfl rfl rfl ?_
       refine ⟨[_, _, _, _, _, _, _, _, _, _, _, _, _, _], rfl, ?_⟩
       refine WAE.rebase (H := []) ?_
       refine tk 13 rfl (OpV.assign rfl) ?_
       refine WAE.done (by kernel_rfl) ?_ _
       exact En.wk _ _ (sc (sc (sc (sc (sc sn))))) (fun _ h => (((((((((((h).pm 15).pm 15).pm 7).pm 7).pm 7).pm 7).pm 7).pm 7).pm 15).pm 12).sub (.cons_cons _ (.cons_cons _ (.cons_cons _ (.cons_cons _ (.cons_cons _ (.cons_cons _ (.cons_cons _ (.cons_cons _ (.cons_cons _ (.cons_cons _ (.cons _ (.cons _ (.cons _ (.cons _ (.cons _ (.cons _ (.slnil)))))))))))))))))) (KR8 (b8_10, a8_410, n8_410, c8_410, a8_411, n8_411, c8_411, a8_412, n8_412, c8_412, b8_9, a8_400, n8_400, c8_400, a8_401, n8_401, c8_401, a8_402, n8_402, c8_402, f8_400, f8_401, f8_402, f8_410, f8_411, f8_412, f8_300, a8_300, n8_300, c8_300, f8_301, a8_301, n8_301, c8_301, f8_302, a8_302, n8_302, c8_302, f8_100, a8_100, n8_100, c8_100, f8_101, a8_101, n8_101, c8_101, f8_102, a8_102, n8_102, c8_102) trivial)
     ·
      refine OpH.alloc zc_39 ?_
      intro b8_10
      refine ⟨[_, _], rfl, ?_⟩
      refine al1 1 rfl ?_
      refine OpH.callR (ec rfl e0) ca_10 (fun w hs => w_laws_toFlips e8_1 (r0_0.ext hs.below) (r0_1.ext hs.below) (r0_2.ext hs.below)) ?_
      rintro _ _ ⟨a8_100, n8_100, c8_100, f8_100, a8_101, n8_101, c8_101, f8_101, a8_102, n8_102, c8_102, f8_102, rfl, rfl⟩
      refine ⟨[_, _, _, _, _], rfl, ?_⟩
      refine al1 3 rfl ?_
      refine OpH.callR (ec rfl e0) ca_11 (fun w hs => w_laws_toCrtc e8_3 (r1_0.ext hs.below) (r1_1.ext hs.below) (r1_2.ext hs.below)) ?_
      rintro _ _ ⟨a8_300, n8_300, c8_300, f8_300, a8_301, n8_301, c8_301, f8_301, a8_302, n8_302, c8_302, f8_302, rfl, rfl⟩
      refine ⟨[_, _, _, _, _, _, _, _], rfl, ?_⟩
      refine al1 4 rfl ?_
      refine OpH.callR (ec rfl (ec rfl e0)) ca_9 (fun w hs => w_spec_TakeFlip e8_4 (Ow.rd (hs.mem mq3)) (Ow.rd (hs.mem mq4)) (Ow.rd (hs.mem mq5)) (Ow.rd (hs.mem mq0)) (Ow.rd (hs.mem mq1)) (Ow.rd (hs.mem mq2))) ?_
      rintro _ _ ⟨a8_400, n8_400, c8_400, f8_400, a8_401, n8_401, c8_401, f8_401, a8_402, n8_402, c8_402, f8_402, a8_410, n8_410, c8_410, f8_410, a8_411, n8_411, c8_411, f8_411, a8_412, n8_412, c8_412, f8_412, rfl, rfl⟩
      refine ⟨[_, _, _, _, _, _, _, _, _, _, _, _, _, _], rfl, ?_⟩
      refine tk 5 rfl (OpV.move rfl) ?_
      refine tk 6 rfl (OpV.extract rfl rfl) ?_
      refine tk 7 rfl (OpV.extract rfl rfl) ?_
      refine tk 8 rfl (OpV.extract rfl rfl) ?_
      refine al0 11 rfl ?_
      refine OpH.storeTo (A := [_, _, _, _, _, _, _, _, _, _, _, _, _]) [_, _, _, _] rfl rfl rfl ts_35 rfl rfl rfl ?_
      refine ⟨[_, _, _, _, _, _, _, _, _, _, _, _, _, _], rfl, ?_⟩
      refine al0 12 rfl ?_
      refine OpH.storeTo (A := [_, _, _, _, _, _, _, _, _, _, _, _]) [_, _, _, _, _] rfl rfl rfl ts_39 rfl rfl rfl ?_
      refine ⟨[_, _, _, _, _, _, _, _, _, _, _, _, _, _], rfl, ?_⟩
      refine WAE.rebase (H := []) ?_
      refine tk 13 rfl (OpV.assign rfl) ?_
      refine WAE.done (by kernel_rfl) ?_ _
      exact En.wk _ _ (sc (sc (sc (sc (sc sn))))) (fun _ h => (((((((((((h).pm 15).pm 15).pm 7).pm 7).pm 7).pm 7).pm 7).pm 7).pm 15).pm 15).sub (.cons_cons _ (.cons_cons _ (.cons_cons _ (.cons_cons _ (.cons_cons _ (.cons_cons _ (.cons_cons _ (.cons_cons _ (.cons_cons _ (.cons_cons _ (.cons _ (.cons _ (.cons _ (.cons _ (.cons _ (.cons _ (.slnil)))))))))))))))))) (KR8 (b8_10, a8_410, n8_410, c8_410, a8_411, n8_411, c8_411, a8_412, n8_412, c8_412, b8_9, a8_400, n8_400, c8_400, a8_401, n8_401, c8_401, a8_402, n8_402, c8_402, f8_400, f8_401, f8_402, f8_410, f8_411, f8_412, f8_300, a8_300, n8_300, c8_300, f8_301, a8_301, n8_301, c8_301, f8_302, a8_302, n8_302, c8_302, f8_100, a8_100, n8_100, c8_100, f8_101, a8_101, n8_101, c8_101, f8_102, a8_102, n8_102, c8_102) trivial)
    ·
     refine OpH.alloc zc_39 ?_
     intro b8_10
     refine ⟨[_], rfl, ?_⟩
     refine WAE.all (rs := [1, 9]) (by kernel_rfl) rfl (AllR.cons rfl rfl rfl rfl ?_ (AllR.cons rfl rfl rfl rfl ?_ AllR.nil))
     ·
      refine OpH.callR (ec rfl e0) ca_10 (fun w hs => w_laws_toFlips e8_1 (r0_0.ext hs.below) (r0_1.ext hs.below) (r0_2.ext hs.below)) ?_
      rintro _ _ ⟨a8_100, n8_100, c8_100, f8_100, a8_101, n8_101, c8_101, f8_101, a8_102, n8_102, c8_102, f8_102, rfl, rfl⟩
      refine ⟨[_, _, _, _], rfl, ?_⟩
      refine WAE.all (rs := [3, 9]) (by kernel_rfl) rfl (AllR.cons rfl rfl rfl rfl ?_ (AllR.cons rfl rfl rfl rfl ?_ AllR.nil))
      ·
       refine OpH.callR (ec rfl e0) ca_11 (fun w hs => w_laws_toCrtc e8_3 (r1_0.ext hs.below) (r1_1.ext hs.below) (r1_2.ext hs.below)) ?_
       rintro _ _ ⟨a8_300, n8_300, c8_300, f8_300, a8_301, n8_301, c8_301, f8_301, a8_302, n8_302, c8_302, f8_302, rfl, rfl⟩
       refine ⟨[_, _, _, _, _, _, _], rfl, ?_⟩
       refine WAE.all (rs := [4, 9]) (by kernel_rfl) rfl (AllR.cons rfl rfl rfl rfl ?_ (AllR.cons rfl rfl rfl rfl ?_ AllR.nil))
       ·
        refine OpH.callR (ec rfl (ec rfl e0)) ca_9 (fun w hs => w_spec_TakeFlip e8_4 (Ow.rd (hs.mem mq3)) (Ow.rd (hs.mem mq4)) (Ow.rd (hs.mem mq5)) (Ow.rd (hs.mem mq0)) (Ow.rd (hs.mem mq1)) (Ow.rd (hs.mem mq2))) ?_
        rintro _ _ ⟨a8_400, n8_400, c8_400, f8_400, a8_401, n8_401, c8_401, f8_401, a8_402, n8_402, c8_402, f8_402, a8_410, n8_410, c8_410, f8_410, a8_411, n8_411, c8_411, f8_411, a8_412, n8_412, c8_412, f8_412, rfl, rfl⟩
        refine ⟨[_, _, _, _, _, _, _, _, _, _, _, _, _], rfl, ?_⟩
        refine tk 5 rfl (OpV.move rfl) ?_
        refine tk 6 rfl (OpV.extract rfl rfl) ?_
        refine tk 7 rfl (OpV.extract rfl rfl) ?_
        refine tk 8 rfl (OpV.extract rfl rfl) ?_
        refine al1 9 rfl ?_
        refine OpH.alloc zc_35 ?_
        intro b8_9
        refine ⟨[_, _, _, _, _, _, _, _, _, _, _, _, _, _], rfl, ?_⟩
        refine al0 11 rfl ?_
        refine OpH.storeTo (A := []) [_, _, _, _] rfl rfl rfl ts_35 rfl rfl rfl ?_
        refine ⟨[_, _, _, _, _, _, _, _, _, _, _, _, _, _], rfl, ?_⟩
        refine al0 12 rfl ?_
        refine OpH.storeTo (A := [_, _, _, _, _, _, _, _, _, _, _, _, _]) [_, _, _, _, _] rfl rfl rfl ts_39 rfl rfl rfl ?_
        refine ⟨[_, _, _, _, _, _, _, _, _, _, _, _, _, _], rfl, ?_⟩
        refine WAE.rebase (H := []) ?_
        refine tk 13 rfl (OpV.assign rfl) ?_
        refine WAE.done (by kernel_rfl) ?_ _
        exact En.wk _ _ (sc (sc (sc (sc (sc sn))))) (fun _ h => (((((((((((h).pm 15).pm 15).pm 8).pm 8).pm 8).pm 8).pm 8).pm 8).pm 8).pm 15).sub (.cons_cons _ (.cons_cons _ (.cons_cons _ (.cons_cons _ (.cons_cons _ (.cons_cons _ (.cons_cons _ (.cons_cons _ (.cons_cons _ (.cons_cons _ (.cons _ (.cons _ (.cons _ (.cons _ (.cons _ (.cons _ (.slnil)))))))))))))))))) (KR8 (b8_10, a8_410, n8_410, c8_410, a8_411, n8_411, c8_411, a8_412, n8_412, c8_412, b8_9, a8_400, n8_400, c8_400, a8_401, n8_401, c8_401, a8_402, n8_402, c8_402, f8_400, f8_401, f8_402, f8_410, f8_411, f8_412, f8_300, a8_300, n8_300, c8_300, f8_301, a8_301, n8_301, c8_301, f8_302, a8_302, n8_302, c8_302, f8_100, a8_100, n8_100, c8_100, f8_101, a8_101, n8_101, c8_101, f8_102, a8_102, n8_102, c8_102) trivial)
       ·
        refine OpH.alloc zc_35 ?_
        intro b8_9
        refine ⟨[_, _, _, _, _, _, _, _], rfl, ?_⟩
        refine al1 4 rfl ?_
        refine OpH.callR (ec rfl (ec rfl e0)) ca_9 (fun w hs => w_spec_TakeFlip e8_4 (Ow.rd (hs.mem mq4)) (Ow.rd (hs.mem mq5)) (Ow.rd (hs.mem mq6)) (Ow.rd (hs.mem mq1)) (Ow.rd (hs.mem mq2)) (Ow.rd (hs.mem mq3))) ?_
        rintro _ _ ⟨a8_400, n8_400, c8_400, f8_400, a8_401, n8_401, c8_401, f8_401, a8_402, n8_402, c8_402, f8_402, a8_410, n8_410, c8_410, f8_410, a8_411, n8_411, c8_411, f8_411, a8_412, n8_412, c8_412, f8_412, rfl, rfl⟩
        refine ⟨[_, _, _, _, _, _, _, _, _, _, _, _, _, _], rfl, ?_⟩
        refine tk 5 rfl (OpV.move rfl) ?_
        refine tk 6 rfl (OpV.extract rfl rfl) ?_
        refine tk 7 rfl (OpV.extract rfl rfl) ?_
        refine tk 8 rfl (OpV.extract rfl rfl) ?_
        refine al0 11 rfl ?_
        refine OpH.storeTo (A := [_, _, _, _, _, _]) [_, _, _, _] rfl rfl rfl ts_35 rfl rfl rfl ?_
        refine ⟨[_, _, _, _, _, _, _, _, _, _, _, _, _, _], rfl, ?_⟩
        refine al0 12 rfl ?_
        refine OpH.storeTo (A := [_, _, _, _, _, _, _, _, _, _, _, _, _]) [_, _, _, _, _] rfl rfl rfl ts_39 rfl rfl rfl ?_
        refine ⟨[_, _, _, _, _, _, _, _, _, _, _, _, _, _], rfl, ?_⟩
        refine WAE.rebase (H := []) ?_
        refine tk 13 rfl (OpV.assign rfl) ?_
        refine WAE.done (by kernel_rfl) ?_ _
        exact En.wk _ _ (sc (sc (sc (sc (sc sn))))) (fun _ h => (((((((((((h).pm 15).pm 15).pm 7).pm 7).pm 7).pm 7).pm 7).pm 7).pm 8).pm 15).sub (.cons_cons _ (.cons_cons _ (.cons_cons _ (.cons_cons _ (.cons_cons _ (.cons_cons _ (.cons_cons _ (.cons_cons _ (.cons_cons _ (.cons_cons _ (.cons _ (.cons _ (.cons _ (.cons _ (.cons _ (.cons _ (.slnil)))))))))))))))))) (KR8 (b8_10, a8_410, n8_410, c8_410, a8_411, n8_411, c8_411, a8_412, n8_412, c8_412, b8_9, a8_400, n8_400, c8_400, a8_401, n8_401, c8_401, a8_402, n8_402, c8_402, f8_400, f8_401, f8_402, f8_410, f8_411, f8_412, f8_300, a8_300, n8_300, c8_300, f8_301, a8_301, n8_301, c8_301, f8_302, a8_302, n8_302, c8_302, f8_100, a8_100, n8_100, c8_100, f8_101, a8_101, n8_101, c8_101, f8_102, a8_102, n8_102, c8_102) trivial)
      ·
       refine OpH.alloc zc_35 ?_
       intro b8_9
       refine ⟨[_, _, _, _, _], rfl, ?_⟩
       refine al1 3 rfl ?_
       refine OpH.callR (ec rfl e0) ca_11 (fun w hs => w_laws_toCrtc e8_3 (r1_0.ext hs.below) (r1_1.ext hs.below) (r1_2.ext hs.below)) ?_
       rintro _ _ ⟨a8_300, n8_300, c8_300, f8_300, a8_301, n8_301, c8_301, f8_301, a8_302, n8_302, c8_302, f8_302, rfl, rfl⟩
       refine ⟨[_, _, _, _, _, _, _, _], rfl, ?_⟩
       refine al1 4 rfl ?_
       refine OpH.callR (ec rfl (ec rfl e0)) ca_9 (fun w hs => w_spec_TakeFlip e8_4 (Ow.rd (hs.mem mq4)) (Ow.rd (hs.mem mq5)) (Ow.rd (hs.mem mq6)) (Ow.rd (hs.mem mq0)) (Ow.rd (hs.mem mq1)) (Ow.rd (hs.mem mq2))) ?_
       rintro _ _ ⟨a8_400, n8_400, c8_400, f8_400, a8_401, n8_401, c8_401, f8_401, a8_402, n8_402, c8_402, f8_402, a8_410, n8_410, c8_410, f8_410, a8_411, n8_411, c8_411, f8_411, a8_412, n8_412, c8_412, f8_412, rfl, rfl⟩
       refine ⟨[_, _, _, _, _, _, _, _, _, _, _, _, _, _], rfl, ?_⟩
       refine tk 5 rfl (OpV.move rfl) ?_
       refine tk 6 rfl (OpV.extract rfl rfl) ?_
       refine tk 7 rfl (OpV.extract rfl rfl) ?_
       refine tk 8 rfl (OpV.extract rfl rfl) ?_
       refine al0 11 rfl ?_
       refine OpH.storeTo (A := [_, _, _, _, _, _, _, _, _]) [_, _, _, _] rfl rfl rfl ts_35 rfl rfl rfl ?_
       refine ⟨[_, _, _, _, _, _, _, _, _, _, _, _, _, _], rfl, ?_⟩
       refine al0 12 rfl ?_
       refine OpH.storeTo (A := [_, _, _, _, _, _, _, _, _, _, _, _, _]) [_, _, _, _, _] rfl rfl rfl ts_39 rfl rfl rfl ?_
       refine ⟨[_, _, _, _, _, _, _, _, _, _, _, _, _, _], rfl, ?_⟩
       refine WAE.rebase (H := []) ?_
       refine tk 13 rfl (OpV.assign rfl) ?_
       refine WAE.done (by kernel_rfl) ?_ _
       exact En.wk _ _ (sc (sc (sc (sc (sc sn))))) (fun _ h => (((((((((((h).pm 15).pm 15).pm 7).pm 7).pm 7).pm 7).pm 7).pm 7).pm 11).pm 15).sub (.cons_cons _ (.cons_cons _ (.cons_cons _ (.cons_cons _ (.cons_cons _ (.cons_cons _ (.cons_cons _ (.cons_cons _ (.cons_cons _ (.cons_cons _ (.cons _ (.cons _ (.cons _ (.cons _ (.cons _ (.cons _ (.slnil)))))))))))))))))) (KR8 (b8_10, a8_410, n8_410, c8_410, a8_411, n8_411, c8_411, a8_412, n8_412, c8_412, b8_9, a8_400, n8_400, c8_400, a8_401, n8_401, c8_401, a8_402, n8_402, c8_402, f8_400, f8_401, f8_402, f8_410, f8_411, f8_412, f8_300, a8_300, n8_300, c8_300, f8_301, a8_301, n8_301, c8_301, f8_302, a8_302, n8_302, c8_302, f8_100, a8_100, n8_100, c8_100, f8_101, a8_101, n8_101, c8_101, f8_102, a8_102, n8_102, c8_102) trivial)
     ·
      refine OpH.alloc zc_35 ?_
      intro b8_9
      refine ⟨[_, _], rfl, ?_⟩
      refine al1 1 rfl ?_
      refine OpH.callR (ec rfl e0) ca_10 (fun w hs => w_laws_toFlips e8_1 (r0_0.ext hs.below) (r0_1.ext hs.below) (r0_2.ext hs.below)) ?_
      rintro _ _ ⟨a8_100, n8_100, c8_100, f8_100, a8_101, n8_101, c8_101, f8_101, a8_102, n8_102, c8_102, f8_102, rfl, rfl⟩
      refine ⟨[_, _, _, _, _], rfl, ?_⟩
      refine al1 3 rfl ?_
      refine OpH.callR (ec rfl e0) ca_11 (fun w hs => w_laws_toCrtc e8_3 (r1_0.ext hs.below) (r1_1.ext hs.below) (r1_2.ext hs.below)) ?_
      rintro _ _ ⟨a8_300, n8_300, c8_300, f8_300, a8_301, n8_301, c8_301, f8_301, a8_302, n8_302, c8_302, f8_302, rfl, rfl⟩
      refine ⟨[_, _, _, _, _, _, _, _], rfl, ?_⟩
      refine al1 4 rfl ?_
      refine OpH.callR (ec rfl (ec rfl e0)) ca_9 (fun w hs => w_spec_TakeFlip e8_4 (Ow.rd (hs.mem mq3)) (Ow.rd (hs.mem mq4)) (Ow.rd (hs.mem mq5)) (Ow.rd (hs.mem mq0)) (Ow.rd (hs.mem mq1)) (Ow.rd (hs.mem mq2))) ?_
      rintro _ _ ⟨a8_400, n8_400, c8_400, f8_400, a8_401, n8_401, c8_401, f8_401, a8_402, n8_402, c8_402, f8_402, a8_410, n8_410, c8_410, f8_410, a8_411, n8_411, c8_411, f8_411, a8_412, n8_412, c8_412, f8_412, rfl, rfl⟩
      refine ⟨[_, _, _, _, _, _, _, _, _, _, _, _, _, _], rfl, ?_⟩
      refine tk 5 rfl (OpV.move rfl) ?_
      refine tk 6 rfl (OpV.extract rfl rfl) ?_
      refine tk 7 rfl (OpV.extract rfl rfl) ?_
      refine tk 8 rfl (OpV.extract rfl rfl) ?_
      refine al0 11 rfl ?_
      refine OpH.storeTo (A := [_, _, _, _, _, _, _, _, _, _, _, _]) [_, _, _, _] rfl rfl rfl ts_35 rfl rfl rfl ?_
      refine ⟨[_, _, _, _, _, _, _, _, _, _, _, _, _, _], rfl, ?_⟩
      refine al0 12 rfl ?_
      refine OpH.storeTo (A := [_, _, _, _, _, _, _, _, _, _, _, _, _]) [_, _, _, _, _] rfl rfl rfl ts_39 rfl rfl rfl ?_
      refine ⟨[_, _, _, _, _, _, _, _, _, _, _, _, _, _], rfl, ?_⟩
      refine WAE.rebase (H := []) ?_
      refine tk 13 rfl (OpV.assign rfl) ?_
      refine WAE.done (by kernel_rfl) ?_ _
      exact En.wk _ _ (sc (sc (sc (sc (sc sn))))) (fun _ h => (((((((((((h).pm 15).pm 15).pm 7).pm 7).pm 7).pm 7).pm 7).pm 7).pm 14).pm 15).sub (.cons_cons _ (.cons_cons _ (.cons_cons _ (.cons_cons _ (.cons_cons _ (.cons_cons _ (.cons_cons _ (.cons_cons _ (.cons_cons _ (.cons_cons _ (.cons _ (.cons _ (.cons _ (.cons _ (.cons _ (.cons _ (.slnil)))))))))))))))))) (KR8 (b8_10, a8_410, n8_410, c8_410, a8_411, n8_411, c8_411, a8_412, n8_412, c8_412, b8_9, a8_400, n8_400, c8_400, a8_401, n8_401, c8_401, a8_402, n8_402, c8_402, f8_400, f8_401, f8_402, f8_410, f8_411, f8_412, f8_300, a8_300, n8_300, c8_300, f8_301, a8_301, n8_301, c8_301, f8_302, a8_302, n8_302, c8_302, f8_100, a8_100, n8_100, c8_100, f8_101, a8_101, n8_101, c8_101, f8_102, a8_102, n8_102, c8_102) trivial)

end Go.Proofs.YtgkflkecnmnipaaGreat
