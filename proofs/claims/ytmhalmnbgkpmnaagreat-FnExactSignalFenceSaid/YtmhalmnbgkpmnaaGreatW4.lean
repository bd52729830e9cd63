/- Walks: the program computes the pure functions. -/
import Derived.Test.YtmhalmnbgkpmnaaGreatW3
namespace Go.Proofs.YtmhalmnbgkpmnaaGreat
open Go.RowKit K
set_option maxRecDepth 100000
set_option maxHeartbeats 4000000

theorem w_laws_markFlips {a_p0 : FlipsT} {k_p1 : Int} {r : Int × (List FlipT) × (List Int) × (List Int)} {q0_0 : Option Addr} {l0_0 k0_0 : Nat} {f0_0 : List Nat} {q0_1 : Option Addr} {l0_1 k0_1 : Nat} {f0_1 : List Nat} {q0_2 : Option Addr} {l0_2 k0_2 : Nat} {f0_2 : List Nat} (h : laws_markFlips a_p0 k_p1 = some r) {w0 w : World} {C : List Chunk} (hs0 : St w0 (Chunk.own tFlip f0_0 q0_0 l0_0 k0_0 a_p0.Pending :: Chunk.own tInt f0_1 q0_1 l0_1 k0_1 a_p0.Signalled :: Chunk.own tInt f0_2 q0_2 l0_2 k0_2 a_p0.Events :: C) w)  :
    Calls Tryz.prog 15 #[.agg #[.slice q0_0 l0_0 k0_0, .slice q0_1 l0_1 k0_1, .int .i64 a_p0.Next, .slice q0_2 l0_2 k0_2], .int .i64 k_p1] w (fun en w' => ∃ rv G, en = .returned rv ∧ (∃ (g0_0 : List Nat) (g0_1 : List Nat) (g0_2 : List Nat), rv = .int .i64 r.1 ∧ G = Chunk.own tFlip g0_0 q0_0 l0_0 k0_0 r.2.1 :: Chunk.own tInt g0_1 q0_1 l0_1 k0_1 r.2.2.1 :: Chunk.own tInt g0_2 q0_2 l0_2 k0_2 r.2.2.2 :: C) ∧ St w0 G w') := by
 unfold laws_markFlips at h
 refine enterF hs0 (vs := [_, _]) Tryz.func15 rfl rfl rfl rfl ?_
 refine WC.sr ?_
 refine WL.heavy rfl rfl rfl (OpH.box rfl rfl ?_)
 intro b0_0
 refine ag ?_
 refine WL.nil (En.next (WC.seq ?_))
 obtain ⟨⟨x1_3a, x1_3b⟩, e1_3, h⟩ := bnd h
 refine WC.region ?_
 refine sp (OpV.fieldAddr rfl fo_35_0) ?_
 refine sp (OpV.loadBox rfl pt_33 mq0 rfl) ?_
 refine mv ?_
 refine WL.wkF (fun _ h => h.pm 1) ?_
 refine WL.heavy rfl rfl rfl (OpH.callX (ec rfl (ec rfl e0)) ca_55 (fun w hs => w_laws_markFlipS e1_3 hs) ?_)
 rintro _ _ ⟨g1_300, rfl, rfl⟩
 refine ag ?_
 refine WL.nil (En.next (WC.seq ?_))
 obtain ⟨⟨x2_3a, x2_3b⟩, e2_3, h⟩ := bnd h
 refine WC.region ?_
 refine sp (OpV.fieldAddr rfl fo_35_1) ?_
 refine sp (OpV.loadBox rfl pt_23 mq1 rfl) ?_
 refine mv ?_
 refine WL.wkF (fun _ h => h.pm 2) ?_
 refine WL.heavy rfl rfl rfl (OpH.callX (ec rfl (ec rfl e0)) ca_56 (fun w hs => w_laws_markIntS e2_3 hs) ?_)
 rintro _ _ ⟨g2_300, rfl, rfl⟩
 refine ag ?_
 refine WL.nil (En.next (WC.seq ?_))
 obtain ⟨⟨x3_3a, x3_3b⟩, e3_3, h⟩ := bnd h
 refine WC.region ?_
 refine sp (OpV.fieldAddr rfl fo_35_3) ?_
 refine sp (OpV.loadBox rfl pt_23 mq2 rfl) ?_
 refine mv ?_
 refine WL.wkF (fun _ h => h.pm 3) ?_
 refine WL.heavy rfl rfl rfl (OpH.callX (ec rfl (ec rfl e0)) ca_56 (fun w hs => w_laws_markIntS e3_3 hs) ?_)
 rintro _ _ ⟨g3_300, rfl, rfl⟩
 refine ag ?_
 refine WL.nil (En.next (WC.sr ?_))
 refine mv ?_
 refine ag ?_
 refine WL.nil (En.next (WC.ret ?_))
 refine En.ret1 rfl (Res.tmp rfl) ?_
 obtain rfl := Option.some.inj h
 intro w' hs
 have hs := (((hs).pm 1).pm 2).sub (.cons_cons _ (.cons_cons _ (.cons_cons _ (.cons _ (List.Sublist.refl _)))))
 exact ⟨_, _, rfl, ⟨g1_300, g2_300, g3_300, rfl, rfl⟩, hs⟩

theorem w_laws_heldIntS {a_p0 : List Int} {k_p1 : Int} {r : Int} {q0_0 : Option Addr} {l0_0 k0_0 : Nat} (h : laws_heldIntS a_p0 k_p1 = some r) {w : World} (r0_0 : Rd tInt w q0_0 l0_0 k0_0 a_p0)   :
    Calls Tryz.prog 60 #[.slice q0_0 l0_0 k0_0, .int .i64 k_p1] w (fun en w' => en = .returned (.int .i64 r) ∧ Ext w w') := by
 obtain rfl := r0_0.1
 unfold laws_heldIntS at h
 refine enter (vs := [_, _]) Tryz.func60 rfl rfl rfl rfl ?_
 refine WC.sr ?_
 refine ag ?_
 refine WL.nil (En.next (WC.seq (WC.sr ?_)))
 refine ag ?_
 refine WL.nil (En.next (WC.block ?_))
 obtain ⟨zy0, ezy0, h⟩ := bnd h
 refine WC.cut (X := (Int) × (Unit)) (.exit 0) (fun x => zy0 = .inl x.1) (fun x => match x with | (k_0e, ()) => [(1, .int .i64 k_0e)]) (fun x => match x with | (k_0e, ()) => []) ?_ ?_
 ·
  rintro ⟨k_0e, ⟨⟩⟩ hx
  replace hx : .inl k_0e = zy0 := hx.symm
  subst hx
  replace h := fork_l h
  show En _ _ _ _ [(1, .int .i64 k_0e)] []
  refine En.block_exit (En.next (WC.sr ?_))
  refine mv ?_
  refine ag ?_
  refine WL.nil (En.next (WC.ret ?_))
  refine En.ret1 rfl (Res.tmp rfl) ?_
  obtain rfl := Option.some.inj h
  intro w' hs
  exact ⟨rfl, hs.below⟩
 ·
  intro zK0_0
  refine WC.loopP (G := Unit) (fun s g => match s, g with | (k_0, i_0), () => [(0, .slice q0_0 a_p0.length k0_0), (1, .int .i64 k_0), (5, .int .i64 i_0)]) (fun s g => match s, g with | (k_0, i_0), () => []) (k_p1, 0) () ezy0 (by exact sc (sc (sc sn))) (by exact (fun _ h => h)) ?_
  rintro zm0 ⟨k_0, i_0⟩ ⟨⟩ zo0 zf0 zb0 ze0
  have zh0 : laws_heldIntS_L0 a_p0 k_0 i_0 = some zo0 := zf0
  unfold laws_heldIntS_L0 at zh0
  show WC _ _ _ _ _ [(0, .slice q0_0 a_p0.length k0_0), (1, .int .i64 k_0), (5, .int .i64 i_0)] []
  refine WC.seq (WC.sr ?_)
  refine mv ?_
  refine mv ?_
  refine sp (OpV.len rfl si_23 rfl) ?_
  refine sp (OpV.lss rfl rfl) ?_
  refine WL.nil (En.next ?_)
  refine WC.cond rfl ?_ ?_
  ·
   intro hc_1
   replace zh0 := ifO_t hc_1 zh0
   refine WC.skip (En.next (WC.seq (WC.block (WC.seq (WC.seq ?_)))))
   obtain ⟨x4_2, e4_2, zh0⟩ := bnd zh0
   obtain ⟨g4_2, o4_2, _, ha4_2, rfl, hd4_2⟩ := Rd.atIdx r0_0 e4_2
   replace hd4_2 : ∀ (j : Nat) v, ([.int .i64 x4_2] : List Value)[j]? = some v → w.cell? ⟨g4_2, o4_2 + i_0.toNat * 1 + j, .none⟩ = some v := hd4_2
   refine WC.region ?_
   refine mv ?_
   refine mv ?_
   refine sp (OpV.idxA rfl rfl se_23 ha4_2 ⟨(idx_some e4_2).1, (idx_some e4_2).2.1⟩) ?_
   refine sp (OpV.load1 rfl pt_3 (fun w hs => hs.cell (hd4_2 0 _ rfl))) ?_
   refine mv ?_
   refine sp (OpV.neq rfl rfl) ?_
   refine WL.nil (En.next ?_)
   refine WC.cond rfl ?_ ?_
   ·
    intro hc_2
    replace zh0 := ifO_t hc_2 zh0
    refine WC.sr ?_
    refine ag ?_
    refine WL.nil (En.next (WC.ret (En.then_ret (En.block_ret (En.then_ret (En.then_ret (En.block_ret (En.then_ret ?_))))))))
    refine En.ret1 rfl (Res.tmp rfl) ?_
    have hx := exitP ze0 zh0
    subst hx
    replace h := fork_r h
    obtain rfl := Option.some.inj h
    intro w' hs
    exact ⟨rfl, hs.below⟩
   ·
    intro hc_2
    replace zh0 := ifO_f hc_2 zh0
    refine WC.skip (En.next (WC.region ?_))
    refine mv ?_
    refine sp (OpV.addR rfl rfl) ?_
    refine ag ?_
    refine WL.nil (En.block_norm (En.next (WC.region ?_)))
    refine mv ?_
    refine sp (OpV.addR rfl rfl) ?_
    refine ag ?_
    refine WL.nil ?_
    exact En.backP zb0 zh0 () (sc (sc (sc sn))) (fun _ h => h)
  ·
   intro hc_1
   replace zh0 := ifO_f hc_1 zh0
   refine WC.exit (En.then_exit (En.then_exit ?_))
   have hx := exitP ze0 zh0
   exact En.wk _ _ (sc sn) (fun _ h => h) (zK0_0 (k_0, ()) hx.symm)

theorem w_laws_heldPlaneS {a_p0 : List PlaneT} {a_p1 : Int} {r : Int} {q0_0 : Option Addr} {l0_0 k0_0 : Nat} (h : laws_heldPlaneS a_p0 a_p1 = some r) {w : World} (r0_0 : Rd tPlane w q0_0 l0_0 k0_0 a_p0)   :
    Calls Tryz.prog 61 #[.slice q0_0 l0_0 k0_0, .int .i64 a_p1] w (fun en w' => en = .returned (.int .i64 r) ∧ Ext w w') := by
 obtain rfl := r0_0.1
 unfold laws_heldPlaneS at h
 refine enter (vs := [_, _]) Tryz.func61 rfl rfl rfl rfl ?_
 refine WC.sr ?_
 refine ag ?_
 refine WL.nil (En.next (WC.seq (WC.sr ?_)))
 refine ag ?_
 refine WL.nil (En.next (WC.block ?_))
 obtain ⟨zy0, ezy0, h⟩ := bnd h
 refine WC.cut (X := (Int) × (Unit)) (.exit 0) (fun x => zy0 = .inl x.1) (fun x => match x with | (v_0e, ()) => [(1, .int .i64 v_0e)]) (fun x => match x with | (v_0e, ()) => []) ?_ ?_
 ·
  rintro ⟨v_0e, ⟨⟩⟩ hx
  replace hx : .inl v_0e = zy0 := hx.symm
  subst hx
  replace h := fork_l h
  show En _ _ _ _ [(1, .int .i64 v_0e)] []
  refine En.block_exit (En.next (WC.sr ?_))
  refine mv ?_
  refine ag ?_
  refine WL.nil (En.next (WC.ret ?_))
  refine En.ret1 rfl (Res.tmp rfl) ?_
  obtain rfl := Option.some.inj h
  intro w' hs
  exact ⟨rfl, hs.below⟩
 ·
  intro zK0_0
  refine WC.loopP (G := Unit) (fun s g => match s, g with | (v_0, v1_0), () => [(0, .slice q0_0 a_p0.length k0_0), (1, .int .i64 v_0), (5, .int .i64 v1_0)]) (fun s g => match s, g with | (v_0, v1_0), () => []) (a_p1, 0) () ezy0 (by exact sc (sc (sc sn))) (by exact (fun _ h => h)) ?_
  rintro zm0 ⟨v_0, v1_0⟩ ⟨⟩ zo0 zf0 zb0 ze0
  have zh0 : laws_heldPlaneS_L0 a_p0 v_0 v1_0 = some zo0 := zf0
  unfold laws_heldPlaneS_L0 at zh0
  show WC _ _ _ _ _ [(0, .slice q0_0 a_p0.length k0_0), (1, .int .i64 v_0), (5, .int .i64 v1_0)] []
  refine WC.seq (WC.sr ?_)
  refine mv ?_
  refine mv ?_
  refine sp (OpV.len rfl si_36 rfl) ?_
  refine sp (OpV.lss rfl rfl) ?_
  refine WL.nil (En.next ?_)
  refine WC.cond rfl ?_ ?_
  ·
   intro hc_1
   replace zh0 := ifO_t hc_1 zh0
   refine WC.skip (En.next (WC.seq (WC.block (WC.seq (WC.seq ?_)))))
   obtain ⟨x4_2, e4_2, zh0⟩ := bnd zh0
   obtain ⟨g4_2, o4_2, _, ha4_2, ⟨a4_2_1, c4_2_1, rfl, r4_2_1⟩, hd4_2⟩ := Rd.atIdx r0_0 e4_2
   replace hd4_2 : ∀ (j : Nat) v, ([.bool x4_2.On, .int .i64 x4_2.X, .int .i64 x4_2.Y, .int .i64 x4_2.W, .int .i64 x4_2.H, .int .i64 x4_2.Layout, .slice a4_2_1 x4_2.Words.length c4_2_1, .int .i64 x4_2.Alpha, .int .i64 x4_2.Orient, .int .i64 x4_2.ToW, .int .i64 x4_2.ToH] : List Value)[j]? = some v → w.cell? ⟨g4_2, o4_2 + v1_0.toNat * 11 + j, .none⟩ = some v := hd4_2
   refine WC.region ?_
   refine mv ?_
   refine mv ?_
   refine sp (OpV.idxA rfl rfl se_36 ha4_2 ⟨(idx_some e4_2).1, (idx_some e4_2).2.1⟩) ?_
   refine sp (OpV.fieldAddr rfl fo_61_0) ?_
   refine sp (OpV.load1 rfl pt_4 (fun w hs => hs.cell (hd4_2 0 _ rfl))) ?_
   refine mv ?_
   refine sp (OpV.remR rfl rfl rfl) ?_
   refine sp (OpV.eql rfl rfl) ?_
   refine sp (OpV.bneq rfl rfl ub_4) ?_
   refine WL.nil (En.next ?_)
   refine WC.cond rfl ?_ ?_
   ·
    intro hc_2
    replace zh0 := ifO_t hc_2 zh0
    refine WC.sr ?_
    refine ag ?_
    refine WL.nil (En.next (WC.ret (En.then_ret (En.block_ret (En.then_ret (En.then_ret (En.block_ret (En.then_ret ?_))))))))
    refine En.ret1 rfl (Res.tmp rfl) ?_
    have hx := exitP ze0 zh0
    subst hx
    replace h := fork_r h
    obtain rfl := Option.some.inj h
    intro w' hs
    exact ⟨rfl, hs.below⟩
   ·
    intro hc_2
    replace zh0 := ifO_f hc_2 zh0
    refine WC.skip (En.next (WC.sr ?_))
    refine mv ?_
    refine sp (OpV.addR rfl rfl) ?_
    refine ag ?_
    refine WL.nil (En.next (WC.seq (WC.seq ?_)))
    obtain ⟨x7_2, e7_2, zh0⟩ := bnd zh0
    obtain ⟨g7_2, o7_2, _, ha7_2, ⟨a7_2_1, c7_2_1, rfl, r7_2_1⟩, hd7_2⟩ := Rd.atIdx r0_0 e7_2
    replace hd7_2 : ∀ (j : Nat) v, ([.bool x7_2.On, .int .i64 x7_2.X, .int .i64 x7_2.Y, .int .i64 x7_2.W, .int .i64 x7_2.H, .int .i64 x7_2.Layout, .slice a7_2_1 x7_2.Words.length c7_2_1, .int .i64 x7_2.Alpha, .int .i64 x7_2.Orient, .int .i64 x7_2.ToW, .int .i64 x7_2.ToH] : List Value)[j]? = some v → w.cell? ⟨g7_2, o7_2 + v1_0.toNat * 11 + j, .none⟩ = some v := hd7_2
    refine WC.region ?_
    refine mv ?_
    refine mv ?_
    refine sp (OpV.idxA rfl rfl se_36 ha7_2 ⟨(idx_some e7_2).1, (idx_some e7_2).2.1⟩) ?_
    refine sp (OpV.fieldAddr rfl fo_61_1) ?_
    refine sp (OpV.load1 rfl pt_3 (fun w hs => hs.cell (hd7_2 1 _ rfl))) ?_
    refine mv ?_
    refine sp (OpV.neq rfl rfl) ?_
    refine WL.nil (En.next ?_)
    refine WC.cond rfl ?_ ?_
    ·
     intro hc_3
     replace zh0 := ifO_t hc_3 zh0
     refine WC.sr ?_
     refine ag ?_
     refine WL.nil (En.next (WC.ret (En.then_ret (En.block_ret (En.then_ret (En.then_ret (En.block_ret (En.then_ret ?_))))))))
     refine En.ret1 rfl (Res.tmp rfl) ?_
     have hx := exitP ze0 zh0
     subst hx
     replace h := fork_r h
     obtain rfl := Option.some.inj h
     intro w' hs
     exact ⟨rfl, hs.below⟩
    ·
     intro hc_3
     replace zh0 := ifO_f hc_3 zh0
     refine WC.skip (En.next (WC.sr ?_))
     refine mv ?_
     refine sp (OpV.addR rfl rfl) ?_
     refine ag ?_
     refine WL.nil (En.next (WC.seq (WC.seq ?_)))
     obtain ⟨x10_2, e10_2, zh0⟩ := bnd zh0
     obtain ⟨g10_2, o10_2, _, ha10_2, ⟨a10_2_1, c10_2_1, rfl, r10_2_1⟩, hd10_2⟩ := Rd.atIdx r0_0 e10_2
     replace hd10_2 : ∀ (j : Nat) v, ([.bool x10_2.On, .int .i64 x10_2.X, .int .i64 x10_2.Y, .int .i64 x10_2.W, .int .i64 x10_2.H, .int .i64 x10_2.Layout, .slice a10_2_1 x10_2.Words.length c10_2_1, .int .i64 x10_2.Alpha, .int .i64 x10_2.Orient, .int .i64 x10_2.ToW, .int .i64 x10_2.ToH] : List Value)[j]? = some v → w.cell? ⟨g10_2, o10_2 + v1_0.toNat * 11 + j, .none⟩ = some v := hd10_2
     refine WC.region ?_
     refine mv ?_
     refine mv ?_
     refine sp (OpV.idxA rfl rfl se_36 ha10_2 ⟨(idx_some e10_2).1, (idx_some e10_2).2.1⟩) ?_
     refine sp (OpV.fieldAddr rfl fo_61_2) ?_
     refine sp (OpV.load1 rfl pt_3 (fun w hs => hs.cell (hd10_2 2 _ rfl))) ?_
     refine mv ?_
     refine sp (OpV.neq rfl rfl) ?_
     refine WL.nil (En.next ?_)
     refine WC.cond rfl ?_ ?_
     ·
      intro hc_4
      replace zh0 := ifO_t hc_4 zh0
      refine WC.sr ?_
      refine ag ?_
      refine WL.nil (En.next (WC.ret (En.then_ret (En.block_ret (En.then_ret (En.then_ret (En.block_ret (En.then_ret ?_))))))))
      refine En.ret1 rfl (Res.tmp rfl) ?_
      have hx := exitP ze0 zh0
      subst hx
      replace h := fork_r h
      obtain rfl := Option.some.inj h
      intro w' hs
      exact ⟨rfl, hs.below⟩
     ·
      intro hc_4
      replace zh0 := ifO_f hc_4 zh0
      refine WC.skip (En.next (WC.sr ?_))
      refine mv ?_
      refine sp (OpV.addR rfl rfl) ?_
      refine ag ?_
      refine WL.nil (En.next (WC.seq (WC.seq ?_)))
      obtain ⟨x13_2, e13_2, zh0⟩ := bnd zh0
      obtain ⟨g13_2, o13_2, _, ha13_2, ⟨a13_2_1, c13_2_1, rfl, r13_2_1⟩, hd13_2⟩ := Rd.atIdx r0_0 e13_2
      replace hd13_2 : ∀ (j : Nat) v, ([.bool x13_2.On, .int .i64 x13_2.X, .int .i64 x13_2.Y, .int .i64 x13_2.W, .int .i64 x13_2.H, .int .i64 x13_2.Layout, .slice a13_2_1 x13_2.Words.length c13_2_1, .int .i64 x13_2.Alpha, .int .i64 x13_2.Orient, .int .i64 x13_2.ToW, .int .i64 x13_2.ToH] : List Value)[j]? = some v → w.cell? ⟨g13_2, o13_2 + v1_0.toNat * 11 + j, .none⟩ = some v := hd13_2
      refine WC.region ?_
      refine mv ?_
      refine mv ?_
      refine sp (OpV.idxA rfl rfl se_36 ha13_2 ⟨(idx_some e13_2).1, (idx_some e13_2).2.1⟩) ?_
      refine sp (OpV.fieldAddr rfl fo_61_3) ?_
      refine sp (OpV.load1 rfl pt_3 (fun w hs => hs.cell (hd13_2 3 _ rfl))) ?_
      refine mv ?_
      refine sp (OpV.neq rfl rfl) ?_
      refine WL.nil (En.next ?_)
      refine WC.cond rfl ?_ ?_
      ·
       intro hc_5
       replace zh0 := ifO_t hc_5 zh0
       refine WC.sr ?_
       refine ag ?_
       refine WL.nil (En.next (WC.ret (En.then_ret (En.block_ret (En.then_ret (En.then_ret (En.block_ret (En.then_ret ?_))))))))
       refine En.ret1 rfl (Res.tmp rfl) ?_
       have hx := exitP ze0 zh0
       subst hx
       replace h := fork_r h
       obtain rfl := Option.some.inj h
       intro w' hs
       exact ⟨rfl, hs.below⟩
      ·
       intro hc_5
       replace zh0 := ifO_f hc_5 zh0
       refine WC.skip (En.next (WC.sr ?_))
       refine mv ?_
       refine sp (OpV.addR rfl rfl) ?_
       refine ag ?_
       refine WL.nil (En.next (WC.seq (WC.seq ?_)))
       obtain ⟨x16_2, e16_2, zh0⟩ := bnd zh0
       obtain ⟨g16_2, o16_2, _, ha16_2, ⟨a16_2_1, c16_2_1, rfl, r16_2_1⟩, hd16_2⟩ := Rd.atIdx r0_0 e16_2
       replace hd16_2 : ∀ (j : Nat) v, ([.bool x16_2.On, .int .i64 x16_2.X, .int .i64 x16_2.Y, .int .i64 x16_2.W, .int .i64 x16_2.H, .int .i64 x16_2.Layout, .slice a16_2_1 x16_2.Words.length c16_2_1, .int .i64 x16_2.Alpha, .int .i64 x16_2.Orient, .int .i64 x16_2.ToW, .int .i64 x16_2.ToH] : List Value)[j]? = some v → w.cell? ⟨g16_2, o16_2 + v1_0.toNat * 11 + j, .none⟩ = some v := hd16_2
       refine WC.region ?_
       refine mv ?_
       refine mv ?_
       refine sp (OpV.idxA rfl rfl se_36 ha16_2 ⟨(idx_some e16_2).1, (idx_some e16_2).2.1⟩) ?_
       refine sp (OpV.fieldAddr rfl fo_61_4) ?_
       refine sp (OpV.load1 rfl pt_3 (fun w hs => hs.cell (hd16_2 4 _ rfl))) ?_
       refine mv ?_
       refine sp (OpV.neq rfl rfl) ?_
       refine WL.nil (En.next ?_)
       refine WC.cond rfl ?_ ?_
       ·
        intro hc_6
        replace zh0 := ifO_t hc_6 zh0
        refine WC.sr ?_
        refine ag ?_
        refine WL.nil (En.next (WC.ret (En.then_ret (En.block_ret (En.then_ret (En.then_ret (En.block_ret (En.then_ret ?_))))))))
        refine En.ret1 rfl (Res.tmp rfl) ?_
        have hx := exitP ze0 zh0
        subst hx
        replace h := fork_r h
        obtain rfl := Option.some.inj h
        intro w' hs
        exact ⟨rfl, hs.below⟩
       ·
        intro hc_6
        replace zh0 := ifO_f hc_6 zh0
        refine WC.skip (En.next (WC.sr ?_))
        refine mv ?_
        refine sp (OpV.addR rfl rfl) ?_
        refine ag ?_
        refine WL.nil (En.next (WC.seq (WC.seq ?_)))
        obtain ⟨x19_2, e19_2, zh0⟩ := bnd zh0
        obtain ⟨g19_2, o19_2, _, ha19_2, ⟨a19_2_1, c19_2_1, rfl, r19_2_1⟩, hd19_2⟩ := Rd.atIdx r0_0 e19_2
        replace hd19_2 : ∀ (j : Nat) v, ([.bool x19_2.On, .int .i64 x19_2.X, .int .i64 x19_2.Y, .int .i64 x19_2.W, .int .i64 x19_2.H, .int .i64 x19_2.Layout, .slice a19_2_1 x19_2.Words.length c19_2_1, .int .i64 x19_2.Alpha, .int .i64 x19_2.Orient, .int .i64 x19_2.ToW, .int .i64 x19_2.ToH] : List Value)[j]? = some v → w.cell? ⟨g19_2, o19_2 + v1_0.toNat * 11 + j, .none⟩ = some v := hd19_2
        refine WC.region ?_
        refine mv ?_
        refine mv ?_
        refine sp (OpV.idxA rfl rfl se_36 ha19_2 ⟨(idx_some e19_2).1, (idx_some e19_2).2.1⟩) ?_
        refine sp (OpV.fieldAddr rfl fo_61_5) ?_
        refine sp (OpV.load1 rfl pt_3 (fun w hs => hs.cell (hd19_2 5 _ rfl))) ?_
        refine mv ?_
        refine sp (OpV.neq rfl rfl) ?_
        refine WL.nil (En.next ?_)
        refine WC.cond rfl ?_ ?_
        ·
         intro hc_7
         replace zh0 := ifO_t hc_7 zh0
         refine WC.sr ?_
         refine ag ?_
         refine WL.nil (En.next (WC.ret (En.then_ret (En.block_ret (En.then_ret (En.then_ret (En.block_ret (En.then_ret ?_))))))))
         refine En.ret1 rfl (Res.tmp rfl) ?_
         have hx := exitP ze0 zh0
         subst hx
         replace h := fork_r h
         obtain rfl := Option.some.inj h
         intro w' hs
         exact ⟨rfl, hs.below⟩
        ·
         intro hc_7
         replace zh0 := ifO_f hc_7 zh0
         refine WC.skip (En.next (WC.sr ?_))
         refine mv ?_
         refine sp (OpV.addR rfl rfl) ?_
         refine ag ?_
         refine WL.nil (En.next (WC.seq ?_))
         obtain ⟨x22_2, e22_2, zh0⟩ := bnd zh0
         obtain ⟨g22_2, o22_2, _, ha22_2, ⟨a22_2_1, c22_2_1, rfl, r22_2_1⟩, hd22_2⟩ := Rd.atIdx r0_0 e22_2
         replace hd22_2 : ∀ (j : Nat) v, ([.bool x22_2.On, .int .i64 x22_2.X, .int .i64 x22_2.Y, .int .i64 x22_2.W, .int .i64 x22_2.H, .int .i64 x22_2.Layout, .slice a22_2_1 x22_2.Words.length c22_2_1, .int .i64 x22_2.Alpha, .int .i64 x22_2.Orient, .int .i64 x22_2.ToW, .int .i64 x22_2.ToH] : List Value)[j]? = some v → w.cell? ⟨g22_2, o22_2 + v1_0.toNat * 11 + j, .none⟩ = some v := hd22_2
         obtain ⟨x22_6, e22_6, zh0⟩ := bnd zh0
         refine WC.region ?_
         refine mv ?_
         refine mv ?_
         refine sp (OpV.idxA rfl rfl se_36 ha22_2 ⟨(idx_some e22_2).1, (idx_some e22_2).2.1⟩) ?_
         refine sp (OpV.fieldAddr rfl fo_61_6) ?_
         refine sp (OpV.load1 rfl pt_23 (fun w hs => hs.cell (hd22_2 6 _ rfl))) ?_
         refine mv ?_
         refine sp (OpV.call (ec rfl (ec rfl e0)) ca_60 (fun w hs => w_laws_heldIntS e22_6 (r22_2_1.ext hs.below))) ?_
         refine ag ?_
         refine WL.nil (En.next (WC.seq (WC.sr ?_)))
         refine mv ?_
         refine sp (OpV.lss rfl rfl) ?_
         refine WL.nil (En.next ?_)
         refine WC.cond rfl ?_ ?_
         ·
          intro hc_8
          replace zh0 := ifO_t hc_8 zh0
          refine WC.sr ?_
          refine ag ?_
          refine WL.nil (En.next (WC.ret (En.then_ret (En.block_ret (En.then_ret (En.then_ret (En.block_ret (En.then_ret ?_))))))))
          refine En.ret1 rfl (Res.tmp rfl) ?_
          have hx := exitP ze0 zh0
          subst hx
          replace h := fork_r h
          obtain rfl := Option.some.inj h
          intro w' hs
          exact ⟨rfl, hs.below⟩
         ·
          intro hc_8
          replace zh0 := ifO_f hc_8 zh0
          refine WC.skip (En.next (WC.seq (WC.seq ?_)))
          obtain ⟨x25_2, e25_2, zh0⟩ := bnd zh0
          obtain ⟨g25_2, o25_2, _, ha25_2, ⟨a25_2_1, c25_2_1, rfl, r25_2_1⟩, hd25_2⟩ := Rd.atIdx r0_0 e25_2
          replace hd25_2 : ∀ (j : Nat) v, ([.bool x25_2.On, .int .i64 x25_2.X, .int .i64 x25_2.Y, .int .i64 x25_2.W, .int .i64 x25_2.H, .int .i64 x25_2.Layout, .slice a25_2_1 x25_2.Words.length c25_2_1, .int .i64 x25_2.Alpha, .int .i64 x25_2.Orient, .int .i64 x25_2.ToW, .int .i64 x25_2.ToH] : List Value)[j]? = some v → w.cell? ⟨g25_2, o25_2 + v1_0.toNat * 11 + j, .none⟩ = some v := hd25_2
          refine WC.region ?_
          refine mv ?_
          refine mv ?_
          refine sp (OpV.idxA rfl rfl se_36 ha25_2 ⟨(idx_some e25_2).1, (idx_some e25_2).2.1⟩) ?_
          refine sp (OpV.fieldAddr rfl fo_61_7) ?_
          refine sp (OpV.load1 rfl pt_3 (fun w hs => hs.cell (hd25_2 7 _ rfl))) ?_
          refine mv ?_
          refine sp (OpV.neq rfl rfl) ?_
          refine WL.nil (En.next ?_)
          refine WC.cond rfl ?_ ?_
          ·
           intro hc_9
           replace zh0 := ifO_t hc_9 zh0
           refine WC.sr ?_
           refine ag ?_
           refine WL.nil (En.next (WC.ret (En.then_ret (En.block_ret (En.then_ret (En.then_ret (En.block_ret (En.then_ret ?_))))))))
           refine En.ret1 rfl (Res.tmp rfl) ?_
           have hx := exitP ze0 zh0
           subst hx
           replace h := fork_r h
           obtain rfl := Option.some.inj h
           intro w' hs
           exact ⟨rfl, hs.below⟩
          ·
           intro hc_9
           replace zh0 := ifO_f hc_9 zh0
           refine WC.skip (En.next (WC.sr ?_))
           refine mv ?_
           refine sp (OpV.addR rfl rfl) ?_
           refine ag ?_
           refine WL.nil (En.next (WC.seq (WC.seq ?_)))
           obtain ⟨x28_2, e28_2, zh0⟩ := bnd zh0
           obtain ⟨g28_2, o28_2, _, ha28_2, ⟨a28_2_1, c28_2_1, rfl, r28_2_1⟩, hd28_2⟩ := Rd.atIdx r0_0 e28_2
           replace hd28_2 : ∀ (j : Nat) v, ([.bool x28_2.On, .int .i64 x28_2.X, .int .i64 x28_2.Y, .int .i64 x28_2.W, .int .i64 x28_2.H, .int .i64 x28_2.Layout, .slice a28_2_1 x28_2.Words.length c28_2_1, .int .i64 x28_2.Alpha, .int .i64 x28_2.Orient, .int .i64 x28_2.ToW, .int .i64 x28_2.ToH] : List Value)[j]? = some v → w.cell? ⟨g28_2, o28_2 + v1_0.toNat * 11 + j, .none⟩ = some v := hd28_2
           refine WC.region ?_
           refine mv ?_
           refine mv ?_
           refine sp (OpV.idxA rfl rfl se_36 ha28_2 ⟨(idx_some e28_2).1, (idx_some e28_2).2.1⟩) ?_
           refine sp (OpV.fieldAddr rfl fo_61_8) ?_
           refine sp (OpV.load1 rfl pt_3 (fun w hs => hs.cell (hd28_2 8 _ rfl))) ?_
           refine mv ?_
           refine sp (OpV.neq rfl rfl) ?_
           refine WL.nil (En.next ?_)
           refine WC.cond rfl ?_ ?_
           ·
            intro hc_10
            replace zh0 := ifO_t hc_10 zh0
            refine WC.sr ?_
            refine ag ?_
            refine WL.nil (En.next (WC.ret (En.then_ret (En.block_ret (En.then_ret (En.then_ret (En.block_ret (En.then_ret ?_))))))))
            refine En.ret1 rfl (Res.tmp rfl) ?_
            have hx := exitP ze0 zh0
            subst hx
            replace h := fork_r h
            obtain rfl := Option.some.inj h
            intro w' hs
            exact ⟨rfl, hs.below⟩
           ·
            intro hc_10
            replace zh0 := ifO_f hc_10 zh0
            refine WC.skip (En.next (WC.sr ?_))
            refine mv ?_
            refine sp (OpV.addR rfl rfl) ?_
            refine ag ?_
            refine WL.nil (En.next (WC.seq (WC.seq ?_)))
            obtain ⟨x31_2, e31_2, zh0⟩ := bnd zh0
            obtain ⟨g31_2, o31_2, _, ha31_2, ⟨a31_2_1, c31_2_1, rfl, r31_2_1⟩, hd31_2⟩ := Rd.atIdx r0_0 e31_2
            replace hd31_2 : ∀ (j : Nat) v, ([.bool x31_2.On, .int .i64 x31_2.X, .int .i64 x31_2.Y, .int .i64 x31_2.W, .int .i64 x31_2.H, .int .i64 x31_2.Layout, .slice a31_2_1 x31_2.Words.length c31_2_1, .int .i64 x31_2.Alpha, .int .i64 x31_2.Orient, .int .i64 x31_2.ToW, .int .i64 x31_2.ToH] : List Value)[j]? = some v → w.cell? ⟨g31_2, o31_2 + v1_0.toNat * 11 + j, .none⟩ = some v := hd31_2
            refine WC.region ?_
            refine mv ?_
            refine mv ?_
            refine sp (OpV.idxA rfl rfl se_36 ha31_2 ⟨(idx_some e31_2).1, (idx_some e31_2).2.1⟩) ?_
            refine sp (OpV.fieldAddr rfl fo_61_9) ?_
            refine sp (OpV.load1 rfl pt_3 (fun w hs => hs.cell (hd31_2 9 _ rfl))) ?_
            refine mv ?_
            refine sp (OpV.neq rfl rfl) ?_
            refine WL.nil (En.next ?_)
            refine WC.cond rfl ?_ ?_
            ·
             intro hc_11
             replace zh0 := ifO_t hc_11 zh0
             refine WC.sr ?_
             refine ag ?_
             refine WL.nil (En.next (WC.ret (En.then_ret (En.block_ret (En.then_ret (En.then_ret (En.block_ret (En.then_ret ?_))))))))
             refine En.ret1 rfl (Res.tmp rfl) ?_
             have hx := exitP ze0 zh0
             subst hx
             replace h := fork_r h
             obtain rfl := Option.some.inj h
             intro w' hs
             exact ⟨rfl, hs.below⟩
            ·
             intro hc_11
             replace zh0 := ifO_f hc_11 zh0
             refine WC.skip (En.next (WC.sr ?_))
             refine mv ?_
             refine sp (OpV.addR rfl rfl) ?_
             refine ag ?_
             refine WL.nil (En.next (WC.seq (WC.seq ?_)))
             obtain ⟨x34_2, e34_2, zh0⟩ := bnd zh0
             obtain ⟨g34_2, o34_2, _, ha34_2, ⟨a34_2_1, c34_2_1, rfl, r34_2_1⟩, hd34_2⟩ := Rd.atIdx r0_0 e34_2
             replace hd34_2 : ∀ (j : Nat) v, ([.bool x34_2.On, .int .i64 x34_2.X, .int .i64 x34_2.Y, .int .i64 x34_2.W, .int .i64 x34_2.H, .int .i64 x34_2.Layout, .slice a34_2_1 x34_2.Words.length c34_2_1, .int .i64 x34_2.Alpha, .int .i64 x34_2.Orient, .int .i64 x34_2.ToW, .int .i64 x34_2.ToH] : List Value)[j]? = some v → w.cell? ⟨g34_2, o34_2 + v1_0.toNat * 11 + j, .none⟩ = some v := hd34_2
             refine WC.region ?_
             refine mv ?_
             refine mv ?_
             refine sp (OpV.idxA rfl rfl se_36 ha34_2 ⟨(idx_some e34_2).1, (idx_some e34_2).2.1⟩) ?_
             refine sp (OpV.fieldAddr rfl fo_61_10) ?_
             refine sp (OpV.load1 rfl pt_3 (fun w hs => hs.cell (hd34_2 10 _ rfl))) ?_
             refine mv ?_
             refine sp (OpV.neq rfl rfl) ?_
             refine WL.nil (En.next ?_)
             refine WC.cond rfl ?_ ?_
             ·
              intro hc_12
              replace zh0 := ifO_t hc_12 zh0
              refine WC.sr ?_
              refine ag ?_
              refine WL.nil (En.next (WC.ret (En.then_ret (En.block_ret (En.then_ret (En.then_ret (En.block_ret (En.then_ret ?_))))))))
              refine En.ret1 rfl (Res.tmp rfl) ?_
              have hx := exitP ze0 zh0
              subst hx
              replace h := fork_r h
              obtain rfl := Option.some.inj h
              intro w' hs
              exact ⟨rfl, hs.below⟩
             ·
              intro hc_12
              replace zh0 := ifO_f hc_12 zh0
              refine WC.skip (En.next (WC.region ?_))
              refine mv ?_
              refine sp (OpV.addR rfl rfl) ?_
              refine ag ?_
              refine WL.nil (En.block_norm (En.next (WC.region ?_)))
              refine mv ?_
              refine sp (OpV.addR rfl rfl) ?_
              refine ag ?_
              refine WL.nil ?_
              exact En.backP zb0 zh0 () (sc (sc (sc sn))) (fun _ h => h)
  ·
   intro hc_1
   replace zh0 := ifO_f hc_1 zh0
   refine WC.exit (En.then_exit (En.then_exit ?_))
   have hx := exitP ze0 zh0
   exact En.wk _ _ (sc sn) (fun _ h => h) (zK0_0 (v_0, ()) hx.symm)

theorem w_laws_heldFlipS {a_p0 : List FlipT} {a_p1 : Int} {r : Int} {q0_0 : Option Addr} {l0_0 k0_0 : Nat} (h : laws_heldFlipS a_p0 a_p1 = some r) {w : World} (r0_0 : Rd tFlip w q0_0 l0_0 k0_0 a_p0)   :
    Calls Tryz.prog 59 #[.slice q0_0 l0_0 k0_0, .int .i64 a_p1] w (fun en w' => en = .returned (.int .i64 r) ∧ Ext w w') := by
 obtain rfl := r0_0.1
 unfold laws_heldFlipS at h
 refine enter (vs := [_, _]) Tryz.func59 rfl rfl rfl rfl ?_
 refine WC.sr ?_
 refine ag ?_
 refine WL.nil (En.next (WC.seq (WC.sr ?_)))
 refine ag ?_
 refine WL.nil (En.next (WC.block ?_))
 obtain ⟨zy0, ezy0, h⟩ := bnd h
 refine WC.cut (X := (Int) × (Unit)) (.exit 0) (fun x => zy0 = .inl x.1) (fun x => match x with | (v_0e, ()) => [(1, .int .i64 v_0e)]) (fun x => match x with | (v_0e, ()) => []) ?_ ?_
 ·
  rintro ⟨v_0e, ⟨⟩⟩ hx
  replace hx : .inl v_0e = zy0 := hx.symm
  subst hx
  replace h := fork_l h
  show En _ _ _ _ [(1, .int .i64 v_0e)] []
  refine En.block_exit (En.next (WC.sr ?_))
  refine mv ?_
  refine ag ?_
  refine WL.nil (En.next (WC.ret ?_))
  refine En.ret1 rfl (Res.tmp rfl) ?_
  obtain rfl := Option.some.inj h
  intro w' hs
  exact ⟨rfl, hs.below⟩
 ·
  intro zK0_0
  refine WC.loopP (G := Unit) (fun s g => match s, g with | (v_0, v1_0), () => [(0, .slice q0_0 a_p0.length k0_0), (1, .int .i64 v_0), (5, .int .i64 v1_0)]) (fun s g => match s, g with | (v_0, v1_0), () => []) (a_p1, 0) () ezy0 (by exact sc (sc (sc sn))) (by exact (fun _ h => h)) ?_
  rintro zm0 ⟨v_0, v1_0⟩ ⟨⟩ zo0 zf0 zb0 ze0
  have zh0 : laws_heldFlipS_L0 a_p0 v_0 v1_0 = some zo0 := zf0
  unfold laws_heldFlipS_L0 at zh0
  show WC _ _ _ _ _ [(0, .slice q0_0 a_p0.length k0_0), (1, .int .i64 v_0), (5, .int .i64 v1_0)] []
  refine WC.seq (WC.sr ?_)
  refine mv ?_
  refine mv ?_
  refine sp (OpV.len rfl si_33 rfl) ?_
  refine sp (OpV.lss rfl rfl) ?_
  refine WL.nil (En.next ?_)
  refine WC.cond rfl ?_ ?_
  ·
   intro hc_1
   replace zh0 := ifO_t hc_1 zh0
   refine WC.skip (En.next (WC.seq (WC.block (WC.seq (WC.seq ?_)))))
   obtain ⟨x4_2, e4_2, zh0⟩ := bnd zh0
   obtain ⟨g4_2, o4_2, _, ha4_2, ⟨a4_2_1, c4_2_1, a4_2_2, c4_2_2, a4_2_3, c4_2_3, rfl, r4_2_1, r4_2_2, r4_2_3⟩, hd4_2⟩ := Rd.atIdx r0_0 e4_2
   replace hd4_2 : ∀ (j : Nat) v, ([.int .i64 x4_2.Seq, .int .i64 x4_2.Fence, .int .i64 x4_2.State.W, .int .i64 x4_2.State.H, .slice a4_2_1 x4_2.State.Planes.length c4_2_1, .slice a4_2_2 x4_2.State.Color.Matrix.length c4_2_2, .slice a4_2_3 x4_2.State.Color.Curve.length c4_2_3] : List Value)[j]? = some v → w.cell? ⟨g4_2, o4_2 + v1_0.toNat * 7 + j, .none⟩ = some v := hd4_2
   refine WC.region ?_
   refine mv ?_
   refine mv ?_
   refine sp (OpV.idxA rfl rfl se_33 ha4_2 ⟨(idx_some e4_2).1, (idx_some e4_2).2.1⟩) ?_
   refine sp (OpV.fieldAddr rfl fo_79_0) ?_
   refine sp (OpV.load1 rfl pt_3 (fun w hs => hs.cell (hd4_2 0 _ rfl))) ?_
   refine mv ?_
   refine sp (OpV.neq rfl rfl) ?_
   refine WL.nil (En.next ?_)
   refine WC.cond rfl ?_ ?_
   ·
    intro hc_2
    replace zh0 := ifO_t hc_2 zh0
    refine WC.sr ?_
    refine ag ?_
    refine WL.nil (En.next (WC.ret (En.then_ret (En.block_ret (En.then_ret (En.then_ret (En.block_ret (En.then_ret ?_))))))))
    refine En.ret1 rfl (Res.tmp rfl) ?_
    have hx := exitP ze0 zh0
    subst hx
    replace h := fork_r h
    obtain rfl := Option.some.inj h
    intro w' hs
    exact ⟨rfl, hs.below⟩
   ·
    intro hc_2
    replace zh0 := ifO_f hc_2 zh0
    refine WC.skip (En.next (WC.sr ?_))
    refine mv ?_
    refine sp (OpV.addR rfl rfl) ?_
    refine ag ?_
    refine WL.nil (En.next (WC.seq (WC.seq ?_)))
    obtain ⟨x7_2, e7_2, zh0⟩ := bnd zh0
    obtain ⟨g7_2, o7_2, _, ha7_2, ⟨a7_2_1, c7_2_1, a7_2_2, c7_2_2, a7_2_3, c7_2_3, rfl, r7_2_1, r7_2_2, r7_2_3⟩, hd7_2⟩ := Rd.atIdx r0_0 e7_2
    replace hd7_2 : ∀ (j : Nat) v, ([.int .i64 x7_2.Seq, .int .i64 x7_2.Fence, .int .i64 x7_2.State.W, .int .i64 x7_2.State.H, .slice a7_2_1 x7_2.State.Planes.length c7_2_1, .slice a7_2_2 x7_2.State.Color.Matrix.length c7_2_2, .slice a7_2_3 x7_2.State.Color.Curve.length c7_2_3] : List Value)[j]? = some v → w.cell? ⟨g7_2, o7_2 + v1_0.toNat * 7 + j, .none⟩ = some v := hd7_2
    refine WC.region ?_
    refine mv ?_
    refine mv ?_
    refine sp (OpV.idxA rfl rfl se_33 ha7_2 ⟨(idx_some e7_2).1, (idx_some e7_2).2.1⟩) ?_
    refine sp (OpV.fieldAddr rfl fo_79_1) ?_
    refine sp (OpV.load1 rfl pt_3 (fun w hs => hs.cell (hd7_2 1 _ rfl))) ?_
    refine mv ?_
    refine sp (OpV.neq rfl rfl) ?_
    refine WL.nil (En.next ?_)
    refine WC.cond rfl ?_ ?_
    ·
     intro hc_3
     replace zh0 := ifO_t hc_3 zh0
     refine WC.sr ?_
     refine ag ?_
     refine WL.nil (En.next (WC.ret (En.then_ret (En.block_ret (En.then_ret (En.then_ret (En.block_ret (En.then_ret ?_))))))))
     refine En.ret1 rfl (Res.tmp rfl) ?_
     have hx := exitP ze0 zh0
     subst hx
     replace h := fork_r h
     obtain rfl := Option.some.inj h
     intro w' hs
     exact ⟨rfl, hs.below⟩
    ·
     intro hc_3
     replace zh0 := ifO_f hc_3 zh0
     refine WC.skip (En.next (WC.sr ?_))
     refine mv ?_
     refine sp (OpV.addR rfl rfl) ?_
     refine ag ?_
     refine WL.nil (En.next (WC.seq (WC.seq ?_)))
     obtain ⟨x10_2, e10_2, zh0⟩ := bnd zh0
     obtain ⟨g10_2, o10_2, _, ha10_2, ⟨a10_2_1, c10_2_1, a10_2_2, c10_2_2, a10_2_3, c10_2_3, rfl, r10_2_1, r10_2_2, r10_2_3⟩, hd10_2⟩ := Rd.atIdx r0_0 e10_2
     replace hd10_2 : ∀ (j : Nat) v, ([.int .i64 x10_2.Seq, .int .i64 x10_2.Fence, .int .i64 x10_2.State.W, .int .i64 x10_2.State.H, .slice a10_2_1 x10_2.State.Planes.length c10_2_1, .slice a10_2_2 x10_2.State.Color.Matrix.length c10_2_2, .slice a10_2_3 x10_2.State.Color.Curve.length c10_2_3] : List Value)[j]? = some v → w.cell? ⟨g10_2, o10_2 + v1_0.toNat * 7 + j, .none⟩ = some v := hd10_2
     refine WC.region ?_
     refine mv ?_
     refine mv ?_
     refine sp (OpV.idxA rfl rfl se_33 ha10_2 ⟨(idx_some e10_2).1, (idx_some e10_2).2.1⟩) ?_
     refine sp (OpV.fieldAddr rfl fo_79_2) ?_
     refine sp (OpV.fieldAddr rfl fo_39_0) ?_
     refine sp (OpV.load1 rfl pt_3 (fun w hs => hs.cell (hd10_2 2 _ rfl))) ?_
     refine mv ?_
     refine sp (OpV.neq rfl rfl) ?_
     refine WL.nil (En.next ?_)
     refine WC.cond rfl ?_ ?_
     ·
      intro hc_4
      replace zh0 := ifO_t hc_4 zh0
      refine WC.sr ?_
      refine ag ?_
      refine WL.nil (En.next (WC.ret (En.then_ret (En.block_ret (En.then_ret (En.then_ret (En.block_ret (En.then_ret ?_))))))))
      refine En.ret1 rfl (Res.tmp rfl) ?_
      have hx := exitP ze0 zh0
      subst hx
      replace h := fork_r h
      obtain rfl := Option.some.inj h
      intro w' hs
      exact ⟨rfl, hs.below⟩
     ·
      intro hc_4
      replace zh0 := ifO_f hc_4 zh0
      refine WC.skip (En.next (WC.sr ?_))
      refine mv ?_
      refine sp (OpV.addR rfl rfl) ?_
      refine ag ?_
      refine WL.nil (En.next (WC.seq (WC.seq ?_)))
      obtain ⟨x13_2, e13_2, zh0⟩ := bnd zh0
      obtain ⟨g13_2, o13_2, _, ha13_2, ⟨a13_2_1, c13_2_1, a13_2_2, c13_2_2, a13_2_3, c13_2_3, rfl, r13_2_1, r13_2_2, r13_2_3⟩, hd13_2⟩ := Rd.atIdx r0_0 e13_2
      replace hd13_2 : ∀ (j : Nat) v, ([.int .i64 x13_2.Seq, .int .i64 x13_2.Fence, .int .i64 x13_2.State.W, .int .i64 x13_2.State.H, .slice a13_2_1 x13_2.State.Planes.length c13_2_1, .slice a13_2_2 x13_2.State.Color.Matrix.length c13_2_2, .slice a13_2_3 x13_2.State.Color.Curve.length c13_2_3] : List Value)[j]? = some v → w.cell? ⟨g13_2, o13_2 + v1_0.toNat * 7 + j, .none⟩ = some v := hd13_2
      refine WC.region ?_
      refine mv ?_
      refine mv ?_
      refine sp (OpV.idxA rfl rfl se_33 ha13_2 ⟨(idx_some e13_2).1, (idx_some e13_2).2.1⟩) ?_
      refine sp (OpV.fieldAddr rfl fo_79_2) ?_
      refine sp (OpV.fieldAddr rfl fo_39_1) ?_
      refine sp (OpV.load1 rfl pt_3 (fun w hs => hs.cell (hd13_2 3 _ rfl))) ?_
      refine mv ?_
      refine sp (OpV.neq rfl rfl) ?_
      refine WL.nil (En.next ?_)
      refine WC.cond rfl ?_ ?_
      ·
       intro hc_5
       replace zh0 := ifO_t hc_5 zh0
       refine WC.sr ?_
       refine ag ?_
       refine WL.nil (En.next (WC.ret (En.then_ret (En.block_ret (En.then_ret (En.then_ret (En.block_ret (En.then_ret ?_))))))))
       refine En.ret1 rfl (Res.tmp rfl) ?_
       have hx := exitP ze0 zh0
       subst hx
       replace h := fork_r h
       obtain rfl := Option.some.inj h
       intro w' hs
       exact ⟨rfl, hs.below⟩
      ·
       intro hc_5
       replace zh0 := ifO_f hc_5 zh0
       refine WC.skip (En.next (WC.sr ?_))
       refine mv ?_
       refine sp (OpV.addR rfl rfl) ?_
       refine ag ?_
       refine WL.nil (En.next (WC.seq ?_))
       obtain ⟨x16_2, e16_2, zh0⟩ := bnd zh0
       obtain ⟨g16_2, o16_2, _, ha16_2, ⟨a16_2_1, c16_2_1, a16_2_2, c16_2_2, a16_2_3, c16_2_3, rfl, r16_2_1, r16_2_2, r16_2_3⟩, hd16_2⟩ := Rd.atIdx r0_0 e16_2
       replace hd16_2 : ∀ (j : Nat) v, ([.int .i64 x16_2.Seq, .int .i64 x16_2.Fence, .int .i64 x16_2.State.W, .int .i64 x16_2.State.H, .slice a16_2_1 x16_2.State.Planes.length c16_2_1, .slice a16_2_2 x16_2.State.Color.Matrix.length c16_2_2, .slice a16_2_3 x16_2.State.Color.Curve.length c16_2_3] : List Value)[j]? = some v → w.cell? ⟨g16_2, o16_2 + v1_0.toNat * 7 + j, .none⟩ = some v := hd16_2
       obtain ⟨x16_7, e16_7, zh0⟩ := bnd zh0
       refine WC.region ?_
       refine mv ?_
       refine mv ?_
       refine sp (OpV.idxA rfl rfl se_33 ha16_2 ⟨(idx_some e16_2).1, (idx_some e16_2).2.1⟩) ?_
       refine sp (OpV.fieldAddr rfl fo_79_2) ?_
       refine sp (OpV.fieldAddr rfl fo_39_2) ?_
       refine sp (OpV.load1 rfl pt_36 (fun w hs => hs.cell (hd16_2 4 _ rfl))) ?_
       refine mv ?_
       refine sp (OpV.call (ec rfl (ec rfl e0)) ca_61 (fun w hs => w_laws_heldPlaneS e16_7 (r16_2_1.ext hs.below))) ?_
       refine ag ?_
       refine WL.nil (En.next (WC.seq (WC.sr ?_)))
       refine mv ?_
       refine sp (OpV.lss rfl rfl) ?_
       refine WL.nil (En.next ?_)
       refine WC.cond rfl ?_ ?_
       ·
        intro hc_6
        replace zh0 := ifO_t hc_6 zh0
        refine WC.sr ?_
        refine ag ?_
        refine WL.nil (En.next (WC.ret (En.then_ret (En.block_ret (En.then_ret (En.then_ret (En.block_ret (En.then_ret ?_))))))))
        refine En.ret1 rfl (Res.tmp rfl) ?_
        have hx := exitP ze0 zh0
        subst hx
        replace h := fork_r h
        obtain rfl := Option.some.inj h
        intro w' hs
        exact ⟨rfl, hs.below⟩
       ·
        intro hc_6
        replace zh0 := ifO_f hc_6 zh0
        refine WC.skip (En.next (WC.seq ?_))
        obtain ⟨x19_2, e19_2, zh0⟩ := bnd zh0
        obtain ⟨g19_2, o19_2, _, ha19_2, ⟨a19_2_1, c19_2_1, a19_2_2, c19_2_2, a19_2_3, c19_2_3, rfl, r19_2_1, r19_2_2, r19_2_3⟩, hd19_2⟩ := Rd.atIdx r0_0 e19_2
        replace hd19_2 : ∀ (j : Nat) v, ([.int .i64 x19_2.Seq, .int .i64 x19_2.Fence, .int .i64 x19_2.State.W, .int .i64 x19_2.State.H, .slice a19_2_1 x19_2.State.Planes.length c19_2_1, .slice a19_2_2 x19_2.State.Color.Matrix.length c19_2_2, .slice a19_2_3 x19_2.State.Color.Curve.length c19_2_3] : List Value)[j]? = some v → w.cell? ⟨g19_2, o19_2 + v1_0.toNat * 7 + j, .none⟩ = some v := hd19_2
        obtain ⟨x19_8, e19_8, zh0⟩ := bnd zh0
        refine WC.region ?_
        refine mv ?_
        refine mv ?_
        refine sp (OpV.idxA rfl rfl se_33 ha19_2 ⟨(idx_some e19_2).1, (idx_some e19_2).2.1⟩) ?_
        refine sp (OpV.fieldAddr rfl fo_79_2) ?_
        refine sp (OpV.fieldAddr rfl fo_39_3) ?_
        refine sp (OpV.fieldAddr rfl fo_37_0) ?_
        refine sp (OpV.load1 rfl pt_23 (fun w hs => hs.cell (hd19_2 5 _ rfl))) ?_
        refine mv ?_
        refine sp (OpV.call (ec rfl (ec rfl e0)) ca_60 (fun w hs => w_laws_heldIntS e19_8 (r19_2_2.ext hs.below))) ?_
        refine ag ?_
        refine WL.nil (En.next (WC.seq (WC.sr ?_)))
        refine mv ?_
        refine sp (OpV.lss rfl rfl) ?_
        refine WL.nil (En.next ?_)
        refine WC.cond rfl ?_ ?_
        ·
         intro hc_7
         replace zh0 := ifO_t hc_7 zh0
         refine WC.sr ?_
         refine ag ?_
         refine WL.nil (En.next (WC.ret (En.then_ret (En.block_ret (En.then_ret (En.then_ret (En.block_ret (En.then_ret ?_))))))))
         refine En.ret1 rfl (Res.tmp rfl) ?_
         have hx := exitP ze0 zh0
         subst hx
         replace h := fork_r h
         obtain rfl := Option.some.inj h
         intro w' hs
         exact ⟨rfl, hs.below⟩
        ·
         intro hc_7
         replace zh0 := ifO_f hc_7 zh0
         refine WC.skip (En.next (WC.seq ?_))
         obtain ⟨x22_2, e22_2, zh0⟩ := bnd zh0
         obtain ⟨g22_2, o22_2, _, ha22_2, ⟨a22_2_1, c22_2_1, a22_2_2, c22_2_2, a22_2_3, c22_2_3, rfl, r22_2_1, r22_2_2, r22_2_3⟩, hd22_2⟩ := Rd.atIdx r0_0 e22_2
         replace hd22_2 : ∀ (j : Nat) v, ([.int .i64 x22_2.Seq, .int .i64 x22_2.Fence, .int .i64 x22_2.State.W, .int .i64 x22_2.State.H, .slice a22_2_1 x22_2.State.Planes.length c22_2_1, .slice a22_2_2 x22_2.State.Color.Matrix.length c22_2_2, .slice a22_2_3 x22_2.State.Color.Curve.length c22_2_3] : List Value)[j]? = some v → w.cell? ⟨g22_2, o22_2 + v1_0.toNat * 7 + j, .none⟩ = some v := hd22_2
         obtain ⟨x22_8, e22_8, zh0⟩ := bnd zh0
         refine WC.region ?_
         refine mv ?_
         refine mv ?_
         refine sp (OpV.idxA rfl rfl se_33 ha22_2 ⟨(idx_some e22_2).1, (idx_some e22_2).2.1⟩) ?_
         refine sp (OpV.fieldAddr rfl fo_79_2) ?_
         refine sp (OpV.fieldAddr rfl fo_39_3) ?_
         refine sp (OpV.fieldAddr rfl fo_37_1) ?_
         refine sp (OpV.load1 rfl pt_23 (fun w hs => hs.cell (hd22_2 6 _ rfl))) ?_
         refine mv ?_
         refine sp (OpV.call (ec rfl (ec rfl e0)) ca_60 (fun w hs => w_laws_heldIntS e22_8 (r22_2_3.ext hs.below))) ?_
         refine ag ?_
         refine WL.nil (En.next (WC.sr ?_))
         refine mv ?_
         refine sp (OpV.lss rfl rfl) ?_
         refine WL.nil (En.next ?_)
         refine WC.cond rfl ?_ ?_
         ·
          intro hc_8
          replace zh0 := ifO_t hc_8 zh0
          refine WC.sr ?_
          refine ag ?_
          refine WL.nil (En.next (WC.ret (En.block_ret (En.then_ret (En.then_ret (En.block_ret (En.then_ret ?_)))))))
          refine En.ret1 rfl (Res.tmp rfl) ?_
          have hx := exitP ze0 zh0
          subst hx
          replace h := fork_r h
          obtain rfl := Option.some.inj h
          intro w' hs
          exact ⟨rfl, hs.below⟩
         ·
          intro hc_8
          replace zh0 := ifO_f hc_8 zh0
          refine WC.skip (En.block_norm (En.next (WC.region ?_)))
          refine mv ?_
          refine sp (OpV.addR rfl rfl) ?_
          refine ag ?_
          refine WL.nil ?_
          exact En.backP zb0 zh0 () (sc (sc (sc sn))) (fun _ h => h)
  ·
   intro hc_1
   replace zh0 := ifO_f hc_1 zh0
   refine WC.exit (En.then_exit (En.then_exit ?_))
   have hx := exitP ze0 zh0
   exact En.wk _ _ (sc sn) (fun _ h => h) (zK0_0 (v_0, ()) hx.symm)

theorem w_laws_heldFlips {a_p0 : FlipsT} {k_p1 : Int} {r : Int} {q0_0 : Option Addr} {l0_0 k0_0 : Nat} {q0_1 : Option Addr} {l0_1 k0_1 : Nat} {q0_2 : Option Addr} {l0_2 k0_2 : Nat} (h : laws_heldFlips a_p0 k_p1 = some r) {w : World} (r0_0 : Rd tFlip w q0_0 l0_0 k0_0 a_p0.Pending) (r0_1 : Rd tInt w q0_1 l0_1 k0_1 a_p0.Signalled) (r0_2 : Rd tInt w q0_2 l0_2 k0_2 a_p0.Events)   :
    Calls Tryz.prog 17 #[.agg #[.slice q0_0 l0_0 k0_0, .slice q0_1 l0_1 k0_1, .int .i64 a_p0.Next, .slice q0_2 l0_2 k0_2], .int .i64 k_p1] w (fun en w' => en = .returned (.int .i64 r) ∧ Ext w w') := by
 obtain rfl := r0_0.1
 obtain rfl := r0_1.1
 obtain rfl := r0_2.1
 unfold laws_heldFlips at h
 refine enter (vs := [_, _]) Tryz.func17 rfl rfl rfl rfl ?_
 refine WC.sr ?_
 refine WL.heavy rfl rfl rfl (OpH.box rfl rfl ?_)
 intro b0_0
 refine ag ?_
 refine WL.nil (En.next (WC.seq ?_))
 obtain ⟨x1_3, e1_3, h⟩ := bnd h
 refine WC.region ?_
 refine sp (OpV.fieldAddr rfl fo_35_0) ?_
 refine sp (OpV.loadBox rfl pt_33 mq0 rfl) ?_
 refine mv ?_
 refine sp (OpV.call (ec rfl (ec rfl e0)) ca_59 (fun w hs => w_laws_heldFlipS e1_3 (r0_0.ext hs.below))) ?_
 refine ag ?_
 refine WL.nil (En.next (WC.seq (WC.sr ?_)))
 refine mv ?_
 refine sp (OpV.lss rfl rfl) ?_
 refine WL.nil (En.next ?_)
 refine WC.cond rfl ?_ ?_
 ·
  intro hc_1
  replace h := ifO_t hc_1 h
  refine WC.sr ?_
  refine ag ?_
  refine WL.nil (En.next (WC.ret (En.then_ret ?_)))
  refine En.ret1 rfl (Res.tmp rfl) ?_
  obtain rfl := Option.some.inj h
  intro w' hs
  exact ⟨rfl, hs.below⟩
 ·
  intro hc_1
  replace h := ifO_f hc_1 h
  refine WC.skip (En.next (WC.seq ?_))
  obtain ⟨x4_3, e4_3, h⟩ := bnd h
  refine WC.region ?_
  refine sp (OpV.fieldAddr rfl fo_35_1) ?_
  refine sp (OpV.loadBox rfl pt_23 mq0 rfl) ?_
  refine mv ?_
  refine sp (OpV.call (ec rfl (ec rfl e0)) ca_60 (fun w hs => w_laws_heldIntS e4_3 (r0_1.ext hs.below))) ?_
  refine ag ?_
  refine WL.nil (En.next (WC.seq (WC.sr ?_)))
  refine mv ?_
  refine sp (OpV.lss rfl rfl) ?_
  refine WL.nil (En.next ?_)
  refine WC.cond rfl ?_ ?_
  ·
   intro hc_2
   replace h := ifO_t hc_2 h
   refine WC.sr ?_
   refine ag ?_
   refine WL.nil (En.next (WC.ret (En.then_ret ?_)))
   refine En.ret1 rfl (Res.tmp rfl) ?_
   obtain rfl := Option.some.inj h
   intro w' hs
   exact ⟨rfl, hs.below⟩
  ·
   intro hc_2
   replace h := ifO_f hc_2 h
   refine WC.skip (En.next (WC.seq ?_))
   obtain ⟨x7_3, e7_3, h⟩ := bnd h
   refine WC.region ?_
   refine sp (OpV.fieldAddr rfl fo_35_3) ?_
   refine sp (OpV.loadBox rfl pt_23 mq0 rfl) ?_
   refine mv ?_
   refine sp (OpV.call (ec rfl (ec rfl e0)) ca_60 (fun w hs => w_laws_heldIntS e7_3 (r0_2.ext hs.below))) ?_
   refine ag ?_
   refine WL.nil (En.next (WC.seq (WC.sr ?_)))
   refine mv ?_
   refine sp (OpV.lss rfl rfl) ?_
   refine WL.nil (En.next ?_)
   refine WC.cond rfl ?_ ?_
   ·
    intro hc_3
    replace h := ifO_t hc_3 h
    refine WC.sr ?_
    refine ag ?_
    refine WL.nil (En.next (WC.ret (En.then_ret ?_)))
    refine En.ret1 rfl (Res.tmp rfl) ?_
    obtain rfl := Option.some.inj h
    intro w' hs
    exact ⟨rfl, hs.below⟩
   ·
    intro hc_3
    replace h := ifO_f hc_3 h
    refine WC.skip (En.next (WC.sr ?_))
    refine mv ?_
    refine ag ?_
    refine WL.nil (En.next (WC.ret ?_))
    refine En.ret1 rfl (Res.tmp rfl) ?_
    obtain rfl := Option.some.inj h
    intro w' hs
    exact ⟨rfl, hs.below⟩

theorem w_laws_FnExactSignalFence {a_p0 : FlipsT} {a_p1 : Int} {r : Bool} {q0_0 : Option Addr} {l0_0 k0_0 : Nat} {q0_1 : Option Addr} {l0_1 k0_1 : Nat} {q0_2 : Option Addr} {l0_2 k0_2 : Nat} (h : laws_FnExactSignalFence a_p0 a_p1 = some r) {w : World} (r0_0 : Rd tFlip w q0_0 l0_0 k0_0 a_p0.Pending) (r0_1 : Rd tInt w q0_1 l0_1 k0_1 a_p0.Signalled) (r0_2 : Rd tInt w q0_2 l0_2 k0_2 a_p0.Events)   :
    Calls Tryz.prog 4 #[.agg #[.slice q0_0 l0_0 k0_0, .slice q0_1 l0_1 k0_1, .int .i64 a_p0.Next, .slice q0_2 l0_2 k0_2], .int .i64 a_p1] w (fun en w' => en = .returned (.bool r) ∧ Ext w w') := by
 obtain rfl := r0_0.1
 obtain rfl := r0_1.1
 obtain rfl := r0_2.1
 unfold laws_FnExactSignalFence at h
 refine enter (vs := [_, _]) Tryz.func4 rfl rfl rfl rfl ?_
 refine WC.sr ?_
 refine WL.heavy rfl rfl rfl (OpH.box rfl rfl ?_)
 intro b0_0
 refine ag ?_
 refine WL.nil (En.next (WC.sr ?_))
 refine ag ?_
 refine WL.nil (En.next (WC.seq ?_))
 obtain ⟨x2_2, e2_2, h⟩ := bnd h
 refine WC.region ?_
 refine sp (OpV.loadAll rfl mq0 ag_25) ?_
 refine mv ?_
 refine sp (OpV.call (ec rfl (ec rfl e0)) ca_7 (fun w hs => w_laws_szFlips e2_2 (r0_0.ext hs.below) (r0_1.ext hs.below) (r0_2.ext hs.below))) ?_
 refine ag ?_
 refine WL.nil (En.next (WC.seq (WC.sr ?_)))
 refine mv ?_
 refine sp (OpV.lss rfl rfl) ?_
 refine WL.nil (En.next ?_)
 refine WC.cond rfl ?_ ?_
 ·
  intro hc_1
  replace h := ifO_t hc_1 h
  refine WC.sr ?_
  refine ag ?_
  refine WL.nil (En.next (WC.ret (En.then_ret ?_)))
  refine En.ret1 rfl (Res.tmp rfl) ?_
  obtain rfl := Option.some.inj h
  intro w' hs
  exact ⟨rfl, hs.below⟩
 ·
  intro hc_1
  replace h := ifO_f hc_1 h
  refine WC.skip (En.next (WC.seq ?_))
  obtain ⟨x5_1, e5_1, h⟩ := bnd h
  obtain ⟨x5_3, e5_3, h⟩ := bnd h
  refine WC.region ?_
  refine sp (OpV.loadAll rfl mq0 ag_25) ?_
  refine WL.heavy rfl rfl rfl (OpH.callR (ec rfl e0) ca_10 (fun w hs => w_laws_toFlips e5_1 (r0_0.ext hs.below) (r0_1.ext hs.below) (r0_2.ext hs.below)) ?_)
  rintro _ _ ⟨a5_100, n5_100, c5_100, f5_100, a5_101, n5_101, c5_101, f5_101, a5_102, n5_102, c5_102, f5_102, rfl, rfl⟩
  refine mv ?_
  refine WL.heavy rfl rfl rfl (OpH.callR (ec rfl (ec rfl e0)) ca_19 (fun w hs => w_spec_SignalFence e5_3 (Ow.rd (hs.mem mq0)) (Ow.rd (hs.mem mq1)) (Ow.rd (hs.mem mq2))) ?_)
  rintro _ _ ⟨a5_300, n5_300, c5_300, f5_300, a5_301, n5_301, c5_301, f5_301, a5_302, n5_302, c5_302, f5_302, rfl, rfl⟩
  refine WL.heavy rfl rfl rfl (OpH.alloc zc_35 ?_)
  intro b5_4
  refine WL.heavy0 rfl rfl (OpH.storeTo (A := []) [_, _, _, _] rfl rfl rfl ts_35 rfl rfl rfl ?_)
  refine WL.nil (En.next (WC.seq ?_))
  obtain ⟨x6_1, e6_1, h⟩ := bnd h
  refine WC.region ?_
  refine sp (OpV.loadAll rfl mq7 ag_25) ?_
  refine WL.heavy rfl rfl rfl (OpH.callR (ec rfl e0) ca_10 (fun w hs => w_laws_toFlips e6_1 (r0_0.ext hs.below) (r0_1.ext hs.below) (r0_2.ext hs.below)) ?_)
  rintro _ _ ⟨a6_100, n6_100, c6_100, f6_100, a6_101, n6_101, c6_101, f6_101, a6_102, n6_102, c6_102, f6_102, rfl, rfl⟩
  refine WL.heavy rfl rfl rfl (OpH.alloc zc_35 ?_)
  intro b6_2
  refine WL.heavy0 rfl rfl (OpH.storeTo (A := []) [_, _, _, _] rfl rfl rfl ts_35 rfl rfl rfl ?_)
  refine WL.nil (En.next (WC.seq ?_))
  obtain ⟨x7_2, e7_2, h⟩ := bnd h
  refine WC.region ?_
  refine sp (OpV.loadAll rfl mq0 ag_35) ?_
  refine mv ?_
  refine WL.heavy rfl rfl rfl (OpH.callR (ec rfl (ec rfl e0)) ca_20 (fun w hs => w_impl_SignalFence e7_2 (Ow.rd (hs.mem mq1)) (Ow.rd (hs.mem mq2)) (Ow.rd (hs.mem mq3))) ?_)
  rintro _ _ ⟨a7_200, n7_200, c7_200, f7_200, a7_201, n7_201, c7_201, f7_201, a7_202, n7_202, c7_202, f7_202, rfl, rfl⟩
  refine WL.heavy rfl rfl rfl (OpH.alloc zc_35 ?_)
  intro b7_3
  refine WL.heavy0 rfl rfl (OpH.storeTo (A := []) [_, _, _, _] rfl rfl rfl ts_35 rfl rfl rfl ?_)
  refine WL.nil (En.next (WC.seq (WC.seq ?_)))
  obtain ⟨x8_2, e8_2, h⟩ := bnd h
  refine WC.region ?_
  refine sp (OpV.loadAll rfl mq0 ag_35) ?_
  refine sp (OpV.loadAll rfl mq8 ag_35) ?_
  refine sp (OpV.call (ec rfl (ec rfl e0)) ca_13 (fun w hs => w_laws_eqFlips e8_2 (Ow.rd (hs.mem mq1)) (Ow.rd (hs.mem mq2)) (Ow.rd (hs.mem mq3)) (Ow.rd (hs.mem mq9)) (Ow.rd (hs.mem (u10 mq0))) (Ow.rd (hs.mem (u10 mq1))))) ?_
  refine sp (OpV.not rfl) ?_
  refine WL.nil (En.next ?_)
  refine WC.cond rfl ?_ ?_
  ·
   intro hc_2
   replace h := ifO_t hc_2 h
   refine WC.sr ?_
   refine ag ?_
   refine WL.nil (En.next (WC.ret (En.then_ret ?_)))
   refine En.ret1 rfl (Res.tmp rfl) ?_
   obtain rfl := Option.some.inj h
   intro w' hs
   exact ⟨rfl, hs.below⟩
  ·
   intro hc_2
   replace h := ifO_f hc_2 h
   refine WC.skip (En.next (WC.seq (WC.seq ?_)))
   obtain ⟨x10_2, e10_2, h⟩ := bnd h
   obtain ⟨x10_3, e10_3, h⟩ := bnd h
   refine WC.drawnH [] ([_, _, _, _, _, _, _, _, _, _, _, _, _, _, _, _]) (fun _ h => h) (by kernel_rfl) ?_
   refine tk 0 rfl (OpV.loadAll rfl mq4 ag_35) ?_
   refine tk 1 rfl (OpV.loadAll rfl (u10 mq5) ag_25) ?_
   refine al1 2 rfl ?_
   refine OpH.callR (ec rfl e0) ca_10 (fun w hs => w_laws_toFlips e10_2 (r0_0.ext hs.below) (r0_1.ext hs.below) (r0_2.ext hs.below)) ?_
   rintro _ _ ⟨a10_200, n10_200, c10_200, f10_200, a10_201, n10_201, c10_201, f10_201, a10_202, n10_202, c10_202, f10_202, rfl, rfl⟩
   refine ⟨[_, _, _], rfl, ?_⟩
   refine WAE.rebase (H := []) ?_
   refine tk 3 rfl (OpV.call (ec rfl (ec rfl e0)) ca_13 (fun w hs => w_laws_eqFlips e10_3 (Ow.rd (hs.mem mq8)) (Ow.rd (hs.mem mq9)) (Ow.rd (hs.mem (u10 mq0))) (Ow.rd (hs.mem mq0)) (Ow.rd (hs.mem mq1)) (Ow.rd (hs.mem mq2)))) ?_
   refine tk 4 rfl (OpV.not rfl) ?_
   refine WAE.done (by kernel_rfl) ?_ _
   refine En.next ?_
   refine WC.cond rfl ?_ ?_
   ·
    intro hc_3
    replace h := ifO_t hc_3 h
    refine WC.sr ?_
    refine ag ?_
    refine WL.nil (En.next (WC.ret (En.then_ret ?_)))
    refine En.ret1 rfl (Res.tmp rfl) ?_
    obtain rfl := Option.some.inj h
    intro w' hs
    exact ⟨rfl, hs.below⟩
   ·
    intro hc_3
    replace h := ifO_f hc_3 h
    refine WC.skip (En.next (WC.sr ?_))
    refine ag ?_
    refine WL.nil (En.next (WC.seq ?_))
    obtain ⟨⟨x13_2a, x13_2b, x13_2c, x13_2d⟩, e13_2, h⟩ := bnd h
    refine WC.region ?_
    refine sp (OpV.loadAll rfl mq7 ag_35) ?_
    refine mv ?_
    refine WL.wkF (fun _ h => h.pm 10) ?_
    refine WL.wkF (fun _ h => h.pm 10) ?_
    refine WL.wkF (fun _ h => h.pm 10) ?_
    refine WL.heavy rfl rfl rfl (OpH.callX (ec rfl (ec rfl e0)) ca_15 (fun w hs => w_laws_markFlips e13_2 hs) ?_)
    rintro _ _ ⟨g13_200, g13_201, g13_202, rfl, rfl⟩
    refine ag ?_
    refine WL.nil (En.next (WC.seq (WC.seq ?_)))
    obtain ⟨q14_7, e14_7, h⟩ := bnd h
    refine WC.region ?_
    refine mv ?_
    refine sp (OpV.lss rfl rfl) ?_
    refine mv ?_
    refine Lt.ofWL.orQ 41 46 45 (p := ?pz1) (rest := ?qz1) (B := q14_7) rfl (fun hz => orO_t e14_7 hz) ?Tz1 ?Fz1 ?az1 ?bz1 ?cz1 ?dz1 ?ez1
    case Tz1 =>
     intro hcz1 hkz1
     refine sk ?_
     refine sk ?_
     refine sk ?_
     refine sk ?_
     refine hkz1 _ ?_
     repeat (first | exact Sub.refl _ | refine Sub.skip rfl ?_)
    case Fz1 =>
     intro hcz1 hkz1
     have hqz1 := orO_f e14_7 hcz1
     obtain ⟨x14_5, e14_5, hqz1⟩ := bnd hqz1
     obtain rfl := Option.some.inj hqz1
     refine sp (OpV.loadAll rfl mq6 ag_35) ?_
     refine sp (OpV.loadAll rfl (u10 mq1) ag_35) ?_
     refine sp (OpV.call (ec rfl (ec rfl e0)) ca_13 (fun w hs => w_laws_eqFlips e14_5 (Ow.rd (hs.mem mq7)) (Ow.rd (hs.mem mq8)) (Ow.rd (hs.mem mq9)) (Ow.rd (hs.mem (u10 mq2))) (Ow.rd (hs.mem (u10 mq3))) (Ow.rd (hs.mem (u10 mq4))))) ?_
     refine sp (OpV.not rfl) ?_
     refine hkz1 _ ?_ ?_
     exact rfl
     repeat (first | exact Sub.refl _ | refine Sub.skip rfl ?_)
    case az1 => exact rfl
    case bz1 => exact rfl
    case cz1 => exact rfl
    case dz1 => exact rfl
    refine WL.nil (En.next ?_)
    refine WC.cond rfl ?_ ?_
    ·
     intro hc_4
     replace h := ifO_t hc_4 h
     refine WC.sr ?_
     refine ag ?_
     refine WL.nil (En.next (WC.ret (En.then_ret ?_)))
     refine En.ret1 rfl (Res.tmp rfl) ?_
     obtain rfl := Option.some.inj h
     intro w' hs
     exact ⟨rfl, hs.below⟩
    ·
     intro hc_4
     replace h := ifO_f hc_4 h
     refine WC.skip (En.next (WC.sr ?_))
     refine ag ?_
     refine WL.nil (En.next (WC.seq ?_))
     obtain ⟨⟨x17_2a, x17_2b, x17_2c, x17_2d⟩, e17_2, h⟩ := bnd h
     refine WC.region ?_
     refine sp (OpV.loadAll rfl mq6 ag_35) ?_
     refine mv ?_
     refine WL.wkF (fun _ h => h.pm 9) ?_
     refine WL.wkF (fun _ h => h.pm 9) ?_
     refine WL.wkF (fun _ h => h.pm 9) ?_
     refine WL.heavy rfl rfl rfl (OpH.callX (ec rfl (ec rfl e0)) ca_15 (fun w hs => w_laws_markFlips e17_2 hs) ?_)
     rintro _ _ ⟨g17_200, g17_201, g17_202, rfl, rfl⟩
     refine ag ?_
     refine WL.nil (En.next (WC.sr ?_))
     refine ag ?_
     refine WL.nil (En.next (WC.seq ?_))
     obtain ⟨x19_2, e19_2, h⟩ := bnd h
     refine WC.region ?_
     refine sp (OpV.loadAll rfl mq9 ag_35) ?_
     refine mv ?_
     refine sp (OpV.call (ec rfl (ec rfl e0)) ca_17 (fun w hs => w_laws_heldFlips e19_2 (Ow.rd (hs.mem mq0)) (Ow.rd (hs.mem mq1)) (Ow.rd (hs.mem mq2)))) ?_
     refine ag ?_
     refine WL.nil (En.next (WC.seq (WC.sr ?_)))
     refine mv ?_
     refine sp (OpV.lss rfl rfl) ?_
     refine WL.nil (En.next ?_)
     refine WC.cond rfl ?_ ?_
     ·
      intro hc_5
      replace h := ifO_t hc_5 h
      refine WC.sr ?_
      refine ag ?_
      refine WL.nil (En.next (WC.ret (En.then_ret ?_)))
      refine En.ret1 rfl (Res.tmp rfl) ?_
      obtain rfl := Option.some.inj h
      intro w' hs
      exact ⟨rfl, hs.below⟩
     ·
      intro hc_5
      replace h := ifO_f hc_5 h
      refine WC.skip (En.next (WC.seq (WC.sr ?_)))
      refine mv ?_
      refine mv ?_
      refine sp (OpV.neq rfl rfl) ?_
      refine WL.nil (En.next ?_)
      refine WC.cond rfl ?_ ?_
      ·
       intro hc_6
       replace h := ifO_t hc_6 h
       refine WC.sr ?_
       refine ag ?_
       refine WL.nil (En.next (WC.ret (En.then_ret ?_)))
       refine En.ret1 rfl (Res.tmp rfl) ?_
       obtain rfl := Option.some.inj h
       intro w' hs
       exact ⟨rfl, hs.below⟩
      ·
       intro hc_6
       replace h := ifO_f hc_6 h
       refine WC.skip (En.next (WC.seq ?_))
       obtain ⟨x24_1, e24_1, h⟩ := bnd h
       obtain ⟨x24_3, e24_3, h⟩ := bnd h
       refine WC.region ?_
       refine sp (OpV.loadAll rfl (u10 mq8) ag_25) ?_
       refine WL.heavy rfl rfl rfl (OpH.callR (ec rfl e0) ca_10 (fun w hs => w_laws_toFlips e24_1 (r0_0.ext hs.below) (r0_1.ext hs.below) (r0_2.ext hs.below)) ?_)
       rintro _ _ ⟨a24_100, n24_100, c24_100, f24_100, a24_101, n24_101, c24_101, f24_101, a24_102, n24_102, c24_102, f24_102, rfl, rfl⟩
       refine mv ?_
       refine WL.heavy rfl rfl rfl (OpH.callR (ec rfl (ec rfl e0)) ca_20 (fun w hs => w_impl_SignalFence e24_3 (Ow.rd (hs.mem mq0)) (Ow.rd (hs.mem mq1)) (Ow.rd (hs.mem mq2))) ?_)
       rintro _ _ ⟨a24_300, n24_300, c24_300, f24_300, a24_301, n24_301, c24_301, f24_301, a24_302, n24_302, c24_302, f24_302, rfl, rfl⟩
       refine WL.heavy rfl rfl rfl (OpH.alloc zc_35 ?_)
       intro b24_4
       refine WL.heavy0 rfl rfl (OpH.storeTo (A := []) [_, _, _, _] rfl rfl rfl ts_35 rfl rfl rfl ?_)
       refine WL.nil (En.next (WC.seq (WC.seq ?_)))
       obtain ⟨x25_2, e25_2, h⟩ := bnd h
       refine WC.region ?_
       refine sp (OpV.loadAll rfl mq0 ag_35) ?_
       refine sp (OpV.loadAll rfl (u10 mq8) ag_35) ?_
       refine sp (OpV.call (ec rfl (ec rfl e0)) ca_13 (fun w hs => w_laws_eqFlips e25_2 (Ow.rd (hs.mem mq1)) (Ow.rd (hs.mem mq2)) (Ow.rd (hs.mem mq3)) (Ow.rd (hs.mem (u10 mq9))) (Ow.rd (hs.mem (u10 (u10 mq0)))) (Ow.rd (hs.mem (u10 (u10 mq1)))))) ?_
       refine sp (OpV.not rfl) ?_
       refine WL.nil (En.next ?_)
       refine WC.cond rfl ?_ ?_
       ·
        intro hc_7
        replace h := ifO_t hc_7 h
        refine WC.sr ?_
        refine ag ?_
        refine WL.nil (En.next (WC.ret (En.then_ret ?_)))
        refine En.ret1 rfl (Res.tmp rfl) ?_
        obtain rfl := Option.some.inj h
        intro w' hs
        exact ⟨rfl, hs.below⟩
       ·
        intro hc_7
        replace h := ifO_f hc_7 h
        refine WC.skip (En.next (WC.sr ?_))
        refine ag ?_
        refine WL.nil (En.next (WC.seq ?_))
        obtain ⟨x28_2, e28_2, h⟩ := bnd h
        refine WC.region ?_
        refine sp (OpV.loadAll rfl (u10 mq6) ag_35) ?_
        refine mv ?_
        refine sp (OpV.call (ec rfl (ec rfl e0)) ca_17 (fun w hs => w_laws_heldFlips e28_2 (Ow.rd (hs.mem mq7)) (Ow.rd (hs.mem mq8)) (Ow.rd (hs.mem mq9)))) ?_
        refine ag ?_
        refine WL.nil (En.next (WC.seq (WC.sr ?_)))
        refine mv ?_
        refine sp (OpV.lss rfl rfl) ?_
        refine WL.nil (En.next ?_)
        refine WC.cond rfl ?_ ?_
        ·
         intro hc_8
         replace h := ifO_t hc_8 h
         refine WC.sr ?_
         refine ag ?_
         refine WL.nil (En.next (WC.ret (En.then_ret ?_)))
         refine En.ret1 rfl (Res.tmp rfl) ?_
         obtain rfl := Option.some.inj h
         intro w' hs
         exact ⟨rfl, hs.below⟩
        ·
         intro hc_8
         replace h := ifO_f hc_8 h
         refine WC.skip (En.next (WC.seq (WC.sr ?_)))
         refine mv ?_
         refine mv ?_
         refine sp (OpV.neq rfl rfl) ?_
         refine WL.nil (En.next ?_)
         refine WC.cond rfl ?_ ?_
         ·
          intro hc_9
          replace h := ifO_t hc_9 h
          refine WC.sr ?_
          refine ag ?_
          refine WL.nil (En.next (WC.ret (En.then_ret ?_)))
          refine En.ret1 rfl (Res.tmp rfl) ?_
          obtain rfl := Option.some.inj h
          intro w' hs
          exact ⟨rfl, hs.below⟩
         ·
          intro hc_9
          replace h := ifO_f hc_9 h
          refine WC.skip (En.next (WC.sr ?_))
          refine ag ?_
          refine WL.nil (En.next (WC.ret ?_))
          refine En.ret1 rfl (Res.tmp rfl) ?_
          obtain rfl := Option.some.inj h
          intro w' hs
          exact ⟨rfl, hs.below⟩

end Go.Proofs.YtmhalmnbgkpmnaaGreat
