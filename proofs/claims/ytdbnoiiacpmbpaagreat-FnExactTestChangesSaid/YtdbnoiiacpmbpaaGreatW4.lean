/- Walks: the program computes the pure functions. -/
import Derived.Test.YtdbnoiiacpmbpaaGreatW3
namespace Go.Proofs.YtdbnoiiacpmbpaaGreat
open Go.RowKit K
set_option maxRecDepth 100000
set_option maxHeartbeats 4000000

theorem w_laws_heldIntS {a_p0 : List Int} {k_p1 : Int} {r : Int} {q0_0 : Option Addr} {n0_0 k0_0 : Nat} (h : laws_heldIntS a_p0 k_p1 = some r) {w : World} (r0_0 : Rd tInt w q0_0 n0_0 k0_0 a_p0)   :
    Calls Tryz.prog 21 #[.slice q0_0 n0_0 k0_0, .int .i64 k_p1] w (fun en w' => en = .returned (.int .i64 r) ∧ Ext w w') := by
 obtain rfl := r0_0.1
 unfold laws_heldIntS at h
 refine enter (vs := [_, _]) Tryz.func21 rfl rfl rfl rfl ?_
 refine WC.seq (WC.region ?_)
 refine sp (OpV.assign rfl) ?_
 refine WL.nil (En.next (WC.seq (WC.seq (WC.region ?_))))
 refine sp (OpV.assign rfl) ?_
 refine WL.nil (En.next (WC.block ?_))
 obtain ⟨zy0, ezy0, h⟩ := bnd h
 refine WC.cut (X := (Int) × (Unit)) (.exit 0) (fun x => zy0 = .inl x.1) (fun x => match x with | (k_0e, ()) => [(1, .int .i64 k_0e)]) (fun x => match x with | (k_0e, ()) => []) ?_ ?_
 ·
  rintro ⟨k_0e, ⟨⟩⟩ hx
  replace hx : .inl k_0e = zy0 := hx.symm
  subst hx
  replace h := fork_l h
  show En _ _ _ _ [(1, .int .i64 k_0e)] []
  refine En.block_exit (En.next (WC.seq (WC.region ?_)))
  refine sp (OpV.move rfl) ?_
  refine sp (OpV.assign rfl) ?_
  refine WL.nil (En.next (WC.ret ?_))
  refine En.ret1 rfl (Res.tmp rfl) ?_
  obtain rfl := Option.some.inj h
  intro w' hs
  exact ⟨rfl, hs.below⟩
 ·
  intro zK0_0
  refine WC.loopP (G := Unit) (fun s g => match s, g with | (k_0, i_0), () => [(0, .slice q0_0 a_p0.length k0_0), (1, .int .i64 k_0), (5, .int .i64 i_0)]) (fun s g => match s, g with | (k_0, i_0), () => []) (k_p1, 0) () ezy0 (by exact Sub.cons rfl (Sub.cons rfl (Sub.cons rfl (Sub.nil _)))) (by exact (fun _ h => h)) ?_
  rintro zm0 ⟨k_0, i_0⟩ ⟨⟩ zo0 zf0 zb0 ze0
  have zh0 : laws_heldIntS_L0 a_p0 k_0 i_0 = some zo0 := zf0
  unfold laws_heldIntS_L0 at zh0
  show WC _ _ _ _ _ [(0, .slice q0_0 a_p0.length k0_0), (1, .int .i64 k_0), (5, .int .i64 i_0)] []
  refine WC.seq (WC.seq (WC.region ?_))
  refine sp (OpV.move rfl) ?_
  refine sp (OpV.move rfl) ?_
  refine sp (OpV.len rfl si_23 rfl) ?_
  refine sp (OpV.lss rfl rfl) ?_
  refine WL.nil (En.next ?_)
  refine WC.cond rfl ?_ ?_
  ·
   intro hc_1
   replace zh0 := ifO_t hc_1 zh0
   refine WC.skip (En.next (WC.seq (WC.block (WC.seq (WC.seq ?_)))))
   obtain ⟨x4_2, e4_2, zh0⟩ := bnd zh0
   obtain ⟨g4_2, o4_2, _, ha4_2, rfl, hd4_2⟩ := Rd.atIdx r0_0 e4_2
   replace hd4_2 : ∀ (j : Nat) v, ([.int .i64 x4_2] : List Value)[j]? = some v → w.cell? ⟨g4_2, o4_2 + i_0.toNat * 1 + j, .none⟩ = some v := hd4_2
   refine WC.region ?_
   refine sp (OpV.move rfl) ?_
   refine sp (OpV.move rfl) ?_
   refine sp (OpV.idxA rfl rfl se_23 ha4_2 ⟨(idx_some e4_2).1, (idx_some e4_2).2.1⟩) ?_
   refine sp (OpV.load1 rfl pt_3 (fun w hs => hs.cell (hd4_2 0 _ rfl))) ?_
   refine sp (OpV.move rfl) ?_
   refine sp (OpV.neq rfl rfl) ?_
   refine WL.nil (En.next ?_)
   refine WC.cond rfl ?_ ?_
   ·
    intro hc_2
    replace zh0 := ifO_t hc_2 zh0
    refine WC.seq (WC.region ?_)
    refine sp (OpV.assign rfl) ?_
    refine WL.nil (En.next (WC.ret (En.then_ret (En.block_ret (En.then_ret (En.then_ret (En.block_ret (En.then_ret ?_))))))))
    refine En.ret1 rfl (Res.tmp rfl) ?_
    have hx := exitP ze0 zh0
    subst hx
    replace h := fork_r h
    obtain rfl := Option.some.inj h
    intro w' hs
    exact ⟨rfl, hs.below⟩
   ·
    intro hc_2
    replace zh0 := ifO_f hc_2 zh0
    refine WC.skip (En.next (WC.region ?_))
    refine sp (OpV.move rfl) ?_
    refine sp (OpV.addR rfl rfl) ?_
    refine sp (OpV.assign rfl) ?_
    refine WL.nil (En.block_norm (En.next (WC.region ?_)))
    refine sp (OpV.move rfl) ?_
    refine sp (OpV.addR rfl rfl) ?_
    refine sp (OpV.assign rfl) ?_
    refine WL.nil ?_
    exact En.backP zb0 zh0 () (Sub.cons rfl (Sub.cons rfl (Sub.cons rfl (Sub.nil _)))) (fun _ h => h)
  ·
   intro hc_1
   replace zh0 := ifO_f hc_1 zh0
   refine WC.exit (En.then_exit (En.then_exit ?_))
   have hx := exitP ze0 zh0
   exact En.wk _ _ (Sub.cons rfl (Sub.nil _)) (fun _ h => h) (zK0_0 (k_0, ()) hx.symm)

theorem w_laws_heldPlaneS {a_p0 : List PlaneT} {a_p1 : Int} {r : Int} {q0_0 : Option Addr} {n0_0 k0_0 : Nat} (h : laws_heldPlaneS a_p0 a_p1 = some r) {w : World} (r0_0 : Rd tPlane w q0_0 n0_0 k0_0 a_p0)   :
    Calls Tryz.prog 75 #[.slice q0_0 n0_0 k0_0, .int .i64 a_p1] w (fun en w' => en = .returned (.int .i64 r) ∧ Ext w w') := by
 obtain rfl := r0_0.1
 unfold laws_heldPlaneS at h
 refine enter (vs := [_, _]) Tryz.func75 rfl rfl rfl rfl ?_
 refine WC.seq (WC.region ?_)
 refine sp (OpV.assign rfl) ?_
 refine WL.nil (En.next (WC.seq (WC.seq (WC.region ?_))))
 refine sp (OpV.assign rfl) ?_
 refine WL.nil (En.next (WC.block ?_))
 obtain ⟨zy0, ezy0, h⟩ := bnd h
 refine WC.cut (X := (Int) × (Unit)) (.exit 0) (fun x => zy0 = .inl x.1) (fun x => match x with | (v_0e, ()) => [(1, .int .i64 v_0e)]) (fun x => match x with | (v_0e, ()) => []) ?_ ?_
 ·
  rintro ⟨v_0e, ⟨⟩⟩ hx
  replace hx : .inl v_0e = zy0 := hx.symm
  subst hx
  replace h := fork_l h
  show En _ _ _ _ [(1, .int .i64 v_0e)] []
  refine En.block_exit (En.next (WC.seq (WC.region ?_)))
  refine sp (OpV.move rfl) ?_
  refine sp (OpV.assign rfl) ?_
  refine WL.nil (En.next (WC.ret ?_))
  refine En.ret1 rfl (Res.tmp rfl) ?_
  obtain rfl := Option.some.inj h
  intro w' hs
  exact ⟨rfl, hs.below⟩
 ·
  intro zK0_0
  refine WC.loopP (G := Unit) (fun s g => match s, g with | (v_0, v1_0), () => [(0, .slice q0_0 a_p0.length k0_0), (1, .int .i64 v_0), (5, .int .i64 v1_0)]) (fun s g => match s, g with | (v_0, v1_0), () => []) (a_p1, 0) () ezy0 (by exact Sub.cons rfl (Sub.cons rfl (Sub.cons rfl (Sub.nil _)))) (by exact (fun _ h => h)) ?_
  rintro zm0 ⟨v_0, v1_0⟩ ⟨⟩ zo0 zf0 zb0 ze0
  have zh0 : laws_heldPlaneS_L0 a_p0 v_0 v1_0 = some zo0 := zf0
  unfold laws_heldPlaneS_L0 at zh0
  show WC _ _ _ _ _ [(0, .slice q0_0 a_p0.length k0_0), (1, .int .i64 v_0), (5, .int .i64 v1_0)] []
  refine WC.seq (WC.seq (WC.region ?_))
  refine sp (OpV.move rfl) ?_
  refine sp (OpV.move rfl) ?_
  refine sp (OpV.len rfl si_29 rfl) ?_
  refine sp (OpV.lss rfl rfl) ?_
  refine WL.nil (En.next ?_)
  refine WC.cond rfl ?_ ?_
  ·
   intro hc_1
   replace zh0 := ifO_t hc_1 zh0
   refine WC.skip (En.next (WC.seq (WC.block (WC.seq (WC.seq ?_)))))
   obtain ⟨x4_2, e4_2, zh0⟩ := bnd zh0
   obtain ⟨g4_2, o4_2, _, ha4_2, ⟨a4_2_1, c4_2_1, rfl, r4_2_1⟩, hd4_2⟩ := Rd.atIdx r0_0 e4_2
   replace hd4_2 : ∀ (j : Nat) v, ([.bool x4_2.On, .int .i64 x4_2.X, .int .i64 x4_2.Y, .int .i64 x4_2.W, .int .i64 x4_2.H, .int .i64 x4_2.Layout, .slice a4_2_1 x4_2.Words.length c4_2_1, .int .i64 x4_2.Alpha, .int .i64 x4_2.Orient, .int .i64 x4_2.ToW, .int .i64 x4_2.ToH] : List Value)[j]? = some v → w.cell? ⟨g4_2, o4_2 + v1_0.toNat * 11 + j, .none⟩ = some v := hd4_2
   refine WC.region ?_
   refine sp (OpV.move rfl) ?_
   refine sp (OpV.move rfl) ?_
   refine sp (OpV.idxA rfl rfl se_29 ha4_2 ⟨(idx_some e4_2).1, (idx_some e4_2).2.1⟩) ?_
   refine sp (OpV.fieldAddr rfl fo_82_0) ?_
   refine sp (OpV.load1 rfl pt_4 (fun w hs => hs.cell (hd4_2 0 _ rfl))) ?_
   refine sp (OpV.move rfl) ?_
   refine sp (OpV.remR rfl rfl rfl) ?_
   refine sp (OpV.eql rfl rfl) ?_
   refine sp (OpV.bneq rfl rfl ub_4) ?_
   refine WL.nil (En.next ?_)
   refine WC.cond rfl ?_ ?_
   ·
    intro hc_2
    replace zh0 := ifO_t hc_2 zh0
    refine WC.seq (WC.region ?_)
    refine sp (OpV.assign rfl) ?_
    refine WL.nil (En.next (WC.ret (En.then_ret (En.block_ret (En.then_ret (En.then_ret (En.block_ret (En.then_ret ?_))))))))
    refine En.ret1 rfl (Res.tmp rfl) ?_
    have hx := exitP ze0 zh0
    subst hx
    replace h := fork_r h
    obtain rfl := Option.some.inj h
    intro w' hs
    exact ⟨rfl, hs.below⟩
   ·
    intro hc_2
    replace zh0 := ifO_f hc_2 zh0
    refine WC.skip (En.next (WC.seq (WC.region ?_)))
    refine sp (OpV.move rfl) ?_
    refine sp (OpV.addR rfl rfl) ?_
    refine sp (OpV.assign rfl) ?_
    refine WL.nil (En.next (WC.seq (WC.seq ?_)))
    obtain ⟨x7_2, e7_2, zh0⟩ := bnd zh0
    obtain ⟨g7_2, o7_2, _, ha7_2, ⟨a7_2_1, c7_2_1, rfl, r7_2_1⟩, hd7_2⟩ := Rd.atIdx r0_0 e7_2
    replace hd7_2 : ∀ (j : Nat) v, ([.bool x7_2.On, .int .i64 x7_2.X, .int .i64 x7_2.Y, .int .i64 x7_2.W, .int .i64 x7_2.H, .int .i64 x7_2.Layout, .slice a7_2_1 x7_2.Words.length c7_2_1, .int .i64 x7_2.Alpha, .int .i64 x7_2.Orient, .int .i64 x7_2.ToW, .int .i64 x7_2.ToH] : List Value)[j]? = some v → w.cell? ⟨g7_2, o7_2 + v1_0.toNat * 11 + j, .none⟩ = some v := hd7_2
    refine WC.region ?_
    refine sp (OpV.move rfl) ?_
    refine sp (OpV.move rfl) ?_
    refine sp (OpV.idxA rfl rfl se_29 ha7_2 ⟨(idx_some e7_2).1, (idx_some e7_2).2.1⟩) ?_
    refine sp (OpV.fieldAddr rfl fo_82_1) ?_
    refine sp (OpV.load1 rfl pt_3 (fun w hs => hs.cell (hd7_2 1 _ rfl))) ?_
    refine sp (OpV.move rfl) ?_
    refine sp (OpV.neq rfl rfl) ?_
    refine WL.nil (En.next ?_)
    refine WC.cond rfl ?_ ?_
    ·
     intro hc_3
     replace zh0 := ifO_t hc_3 zh0
     refine WC.seq (WC.region ?_)
     refine sp (OpV.assign rfl) ?_
     refine WL.nil (En.next (WC.ret (En.then_ret (En.block_ret (En.then_ret (En.then_ret (En.block_ret (En.then_ret ?_))))))))
     refine En.ret1 rfl (Res.tmp rfl) ?_
     have hx := exitP ze0 zh0
     subst hx
     replace h := fork_r h
     obtain rfl := Option.some.inj h
     intro w' hs
     exact ⟨rfl, hs.below⟩
    ·
     intro hc_3
     replace zh0 := ifO_f hc_3 zh0
     refine WC.skip (En.next (WC.seq (WC.region ?_)))
     refine sp (OpV.move rfl) ?_
     refine sp (OpV.addR rfl rfl) ?_
     refine sp (OpV.assign rfl) ?_
     refine WL.nil (En.next (WC.seq (WC.seq ?_)))
     obtain ⟨x10_2, e10_2, zh0⟩ := bnd zh0
     obtain ⟨g10_2, o10_2, _, ha10_2, ⟨a10_2_1, c10_2_1, rfl, r10_2_1⟩, hd10_2⟩ := Rd.atIdx r0_0 e10_2
     replace hd10_2 : ∀ (j : Nat) v, ([.bool x10_2.On, .int .i64 x10_2.X, .int .i64 x10_2.Y, .int .i64 x10_2.W, .int .i64 x10_2.H, .int .i64 x10_2.Layout, .slice a10_2_1 x10_2.Words.length c10_2_1, .int .i64 x10_2.Alpha, .int .i64 x10_2.Orient, .int .i64 x10_2.ToW, .int .i64 x10_2.ToH] : List Value)[j]? = some v → w.cell? ⟨g10_2, o10_2 + v1_0.toNat * 11 + j, .none⟩ = some v := hd10_2
     refine WC.region ?_
     refine sp (OpV.move rfl) ?_
     refine sp (OpV.move rfl) ?_
     refine sp (OpV.idxA rfl rfl se_29 ha10_2 ⟨(idx_some e10_2).1, (idx_some e10_2).2.1⟩) ?_
     refine sp (OpV.fieldAddr rfl fo_82_2) ?_
     refine sp (OpV.load1 rfl pt_3 (fun w hs => hs.cell (hd10_2 2 _ rfl))) ?_
     refine sp (OpV.move rfl) ?_
     refine sp (OpV.neq rfl rfl) ?_
     refine WL.nil (En.next ?_)
     refine WC.cond rfl ?_ ?_
     ·
      intro hc_4
      replace zh0 := ifO_t hc_4 zh0
      refine WC.seq (WC.region ?_)
      refine sp (OpV.assign rfl) ?_
      refine WL.nil (En.next (WC.ret (En.then_ret (En.block_ret (En.then_ret (En.then_ret (En.block_ret (En.then_ret ?_))))))))
      refine En.ret1 rfl (Res.tmp rfl) ?_
      have hx := exitP ze0 zh0
      subst hx
      replace h := fork_r h
      obtain rfl := Option.some.inj h
      intro w' hs
      exact ⟨rfl, hs.below⟩
     ·
      intro hc_4
      replace zh0 := ifO_f hc_4 zh0
      refine WC.skip (En.next (WC.seq (WC.region ?_)))
      refine sp (OpV.move rfl) ?_
      refine sp (OpV.addR rfl rfl) ?_
      refine sp (OpV.assign rfl) ?_
      refine WL.nil (En.next (WC.seq (WC.seq ?_)))
      obtain ⟨x13_2, e13_2, zh0⟩ := bnd zh0
      obtain ⟨g13_2, o13_2, _, ha13_2, ⟨a13_2_1, c13_2_1, rfl, r13_2_1⟩, hd13_2⟩ := Rd.atIdx r0_0 e13_2
      replace hd13_2 : ∀ (j : Nat) v, ([.bool x13_2.On, .int .i64 x13_2.X, .int .i64 x13_2.Y, .int .i64 x13_2.W, .int .i64 x13_2.H, .int .i64 x13_2.Layout, .slice a13_2_1 x13_2.Words.length c13_2_1, .int .i64 x13_2.Alpha, .int .i64 x13_2.Orient, .int .i64 x13_2.ToW, .int .i64 x13_2.ToH] : List Value)[j]? = some v → w.cell? ⟨g13_2, o13_2 + v1_0.toNat * 11 + j, .none⟩ = some v := hd13_2
      refine WC.region ?_
      refine sp (OpV.move rfl) ?_
      refine sp (OpV.move rfl) ?_
      refine sp (OpV.idxA rfl rfl se_29 ha13_2 ⟨(idx_some e13_2).1, (idx_some e13_2).2.1⟩) ?_
      refine sp (OpV.fieldAddr rfl fo_82_3) ?_
      refine sp (OpV.load1 rfl pt_3 (fun w hs => hs.cell (hd13_2 3 _ rfl))) ?_
      refine sp (OpV.move rfl) ?_
      refine sp (OpV.neq rfl rfl) ?_
      refine WL.nil (En.next ?_)
      refine WC.cond rfl ?_ ?_
      ·
       intro hc_5
       replace zh0 := ifO_t hc_5 zh0
       refine WC.seq (WC.region ?_)
       refine sp (OpV.assign rfl) ?_
       refine WL.nil (En.next (WC.ret (En.then_ret (En.block_ret (En.then_ret (En.then_ret (En.block_ret (En.then_ret ?_))))))))
       refine En.ret1 rfl (Res.tmp rfl) ?_
       have hx := exitP ze0 zh0
       subst hx
       replace h := fork_r h
       obtain rfl := Option.some.inj h
       intro w' hs
       exact ⟨rfl, hs.below⟩
      ·
       intro hc_5
       replace zh0 := ifO_f hc_5 zh0
       refine WC.skip (En.next (WC.seq (WC.region ?_)))
       refine sp (OpV.move rfl) ?_
       refine sp (OpV.addR rfl rfl) ?_
       refine sp (OpV.assign rfl) ?_
       refine WL.nil (En.next (WC.seq (WC.seq ?_)))
       obtain ⟨x16_2, e16_2, zh0⟩ := bnd zh0
       obtain ⟨g16_2, o16_2, _, ha16_2, ⟨a16_2_1, c16_2_1, rfl, r16_2_1⟩, hd16_2⟩ := Rd.atIdx r0_0 e16_2
       replace hd16_2 : ∀ (j : Nat) v, ([.bool x16_2.On, .int .i64 x16_2.X, .int .i64 x16_2.Y, .int .i64 x16_2.W, .int .i64 x16_2.H, .int .i64 x16_2.Layout, .slice a16_2_1 x16_2.Words.length c16_2_1, .int .i64 x16_2.Alpha, .int .i64 x16_2.Orient, .int .i64 x16_2.ToW, .int .i64 x16_2.ToH] : List Value)[j]? = some v → w.cell? ⟨g16_2, o16_2 + v1_0.toNat * 11 + j, .none⟩ = some v := hd16_2
       refine WC.region ?_
       refine sp (OpV.move rfl) ?_
       refine sp (OpV.move rfl) ?_
       refine sp (OpV.idxA rfl rfl se_29 ha16_2 ⟨(idx_some e16_2).1, (idx_some e16_2).2.1⟩) ?_
       refine sp (OpV.fieldAddr rfl fo_82_4) ?_
       refine sp (OpV.load1 rfl pt_3 (fun w hs => hs.cell (hd16_2 4 _ rfl))) ?_
       refine sp (OpV.move rfl) ?_
       refine sp (OpV.neq rfl rfl) ?_
       refine WL.nil (En.next ?_)
       refine WC.cond rfl ?_ ?_
       ·
        intro hc_6
        replace zh0 := ifO_t hc_6 zh0
        refine WC.seq (WC.region ?_)
        refine sp (OpV.assign rfl) ?_
        refine WL.nil (En.next (WC.ret (En.then_ret (En.block_ret (En.then_ret (En.then_ret (En.block_ret (En.then_ret ?_))))))))
        refine En.ret1 rfl (Res.tmp rfl) ?_
        have hx := exitP ze0 zh0
        subst hx
        replace h := fork_r h
        obtain rfl := Option.some.inj h
        intro w' hs
        exact ⟨rfl, hs.below⟩
       ·
        intro hc_6
        replace zh0 := ifO_f hc_6 zh0
        refine WC.skip (En.next (WC.seq (WC.region ?_)))
        refine sp (OpV.move rfl) ?_
        refine sp (OpV.addR rfl rfl) ?_
        refine sp (OpV.assign rfl) ?_
        refine WL.nil (En.next (WC.seq (WC.seq ?_)))
        obtain ⟨x19_2, e19_2, zh0⟩ := bnd zh0
        obtain ⟨g19_2, o19_2, _, ha19_2, ⟨a19_2_1, c19_2_1, rfl, r19_2_1⟩, hd19_2⟩ := Rd.atIdx r0_0 e19_2
        replace hd19_2 : ∀ (j : Nat) v, ([.bool x19_2.On, .int .i64 x19_2.X, .int .i64 x19_2.Y, .int .i64 x19_2.W, .int .i64 x19_2.H, .int .i64 x19_2.Layout, .slice a19_2_1 x19_2.Words.length c19_2_1, .int .i64 x19_2.Alpha, .int .i64 x19_2.Orient, .int .i64 x19_2.ToW, .int .i64 x19_2.ToH] : List Value)[j]? = some v → w.cell? ⟨g19_2, o19_2 + v1_0.toNat * 11 + j, .none⟩ = some v := hd19_2
        refine WC.region ?_
        refine sp (OpV.move rfl) ?_
        refine sp (OpV.move rfl) ?_
        refine sp (OpV.idxA rfl rfl se_29 ha19_2 ⟨(idx_some e19_2).1, (idx_some e19_2).2.1⟩) ?_
        refine sp (OpV.fieldAddr rfl fo_82_5) ?_
        refine sp (OpV.load1 rfl pt_3 (fun w hs => hs.cell (hd19_2 5 _ rfl))) ?_
        refine sp (OpV.move rfl) ?_
        refine sp (OpV.neq rfl rfl) ?_
        refine WL.nil (En.next ?_)
        refine WC.cond rfl ?_ ?_
        ·
         intro hc_7
         replace zh0 := ifO_t hc_7 zh0
         refine WC.seq (WC.region ?_)
         refine sp (OpV.assign rfl) ?_
         refine WL.nil (En.next (WC.ret (En.then_ret (En.block_ret (En.then_ret (En.then_ret (En.block_ret (En.then_ret ?_))))))))
         refine En.ret1 rfl (Res.tmp rfl) ?_
         have hx := exitP ze0 zh0
         subst hx
         replace h := fork_r h
         obtain rfl := Option.some.inj h
         intro w' hs
         exact ⟨rfl, hs.below⟩
        ·
         intro hc_7
         replace zh0 := ifO_f hc_7 zh0
         refine WC.skip (En.next (WC.seq (WC.region ?_)))
         refine sp (OpV.move rfl) ?_
         refine sp (OpV.addR rfl rfl) ?_
         refine sp (OpV.assign rfl) ?_
         refine WL.nil (En.next (WC.seq ?_))
         obtain ⟨x22_2, e22_2, zh0⟩ := bnd zh0
         obtain ⟨g22_2, o22_2, _, ha22_2, ⟨a22_2_1, c22_2_1, rfl, r22_2_1⟩, hd22_2⟩ := Rd.atIdx r0_0 e22_2
         replace hd22_2 : ∀ (j : Nat) v, ([.bool x22_2.On, .int .i64 x22_2.X, .int .i64 x22_2.Y, .int .i64 x22_2.W, .int .i64 x22_2.H, .int .i64 x22_2.Layout, .slice a22_2_1 x22_2.Words.length c22_2_1, .int .i64 x22_2.Alpha, .int .i64 x22_2.Orient, .int .i64 x22_2.ToW, .int .i64 x22_2.ToH] : List Value)[j]? = some v → w.cell? ⟨g22_2, o22_2 + v1_0.toNat * 11 + j, .none⟩ = some v := hd22_2
         obtain ⟨x22_6, e22_6, zh0⟩ := bnd zh0
         refine WC.region ?_
         refine sp (OpV.move rfl) ?_
         refine sp (OpV.move rfl) ?_
         refine sp (OpV.idxA rfl rfl se_29 ha22_2 ⟨(idx_some e22_2).1, (idx_some e22_2).2.1⟩) ?_
         refine sp (OpV.fieldAddr rfl fo_82_6) ?_
         refine sp (OpV.load1 rfl pt_23 (fun w hs => hs.cell (hd22_2 6 _ rfl))) ?_
         refine sp (OpV.move rfl) ?_
         refine sp (OpV.call (evs.cons rfl (evs.cons rfl (evs.nil))) ca_21 (fun w hs => w_laws_heldIntS e22_6 (r22_2_1.ext hs.below))) ?_
         refine sp (OpV.assign rfl) ?_
         refine WL.nil (En.next (WC.seq (WC.seq (WC.region ?_))))
         refine sp (OpV.move rfl) ?_
         refine sp (OpV.lss rfl rfl) ?_
         refine WL.nil (En.next ?_)
         refine WC.cond rfl ?_ ?_
         ·
          intro hc_8
          replace zh0 := ifO_t hc_8 zh0
          refine WC.seq (WC.region ?_)
          refine sp (OpV.assign rfl) ?_
          refine WL.nil (En.next (WC.ret (En.then_ret (En.block_ret (En.then_ret (En.then_ret (En.block_ret (En.then_ret ?_))))))))
          refine En.ret1 rfl (Res.tmp rfl) ?_
          have hx := exitP ze0 zh0
          subst hx
          replace h := fork_r h
          obtain rfl := Option.some.inj h
          intro w' hs
          exact ⟨rfl, hs.below⟩
         ·
          intro hc_8
          replace zh0 := ifO_f hc_8 zh0
          refine WC.skip (En.next (WC.seq (WC.seq ?_)))
          obtain ⟨x25_2, e25_2, zh0⟩ := bnd zh0
          obtain ⟨g25_2, o25_2, _, ha25_2, ⟨a25_2_1, c25_2_1, rfl, r25_2_1⟩, hd25_2⟩ := Rd.atIdx r0_0 e25_2
          replace hd25_2 : ∀ (j : Nat) v, ([.bool x25_2.On, .int .i64 x25_2.X, .int .i64 x25_2.Y, .int .i64 x25_2.W, .int .i64 x25_2.H, .int .i64 x25_2.Layout, .slice a25_2_1 x25_2.Words.length c25_2_1, .int .i64 x25_2.Alpha, .int .i64 x25_2.Orient, .int .i64 x25_2.ToW, .int .i64 x25_2.ToH] : List Value)[j]? = some v → w.cell? ⟨g25_2, o25_2 + v1_0.toNat * 11 + j, .none⟩ = some v := hd25_2
          refine WC.region ?_
          refine sp (OpV.move rfl) ?_
          refine sp (OpV.move rfl) ?_
          refine sp (OpV.idxA rfl rfl se_29 ha25_2 ⟨(idx_some e25_2).1, (idx_some e25_2).2.1⟩) ?_
          refine sp (OpV.fieldAddr rfl fo_82_7) ?_
          refine sp (OpV.load1 rfl pt_3 (fun w hs => hs.cell (hd25_2 7 _ rfl))) ?_
          refine sp (OpV.move rfl) ?_
          refine sp (OpV.neq rfl rfl) ?_
          refine WL.nil (En.next ?_)
          refine WC.cond rfl ?_ ?_
          ·
           intro hc_9
           replace zh0 := ifO_t hc_9 zh0
           refine WC.seq (WC.region ?_)
           refine sp (OpV.assign rfl) ?_
           refine WL.nil (En.next (WC.ret (En.then_ret (En.block_ret (En.then_ret (En.then_ret (En.block_ret (En.then_ret ?_))))))))
           refine En.ret1 rfl (Res.tmp rfl) ?_
           have hx := exitP ze0 zh0
           subst hx
           replace h := fork_r h
           obtain rfl := Option.some.inj h
           intro w' hs
           exact ⟨rfl, hs.below⟩
          ·
           intro hc_9
           replace zh0 := ifO_f hc_9 zh0
           refine WC.skip (En.next (WC.seq (WC.region ?_)))
           refine sp (OpV.move rfl) ?_
           refine sp (OpV.addR rfl rfl) ?_
           refine sp (OpV.assign rfl) ?_
           refine WL.nil (En.next (WC.seq (WC.seq ?_)))
           obtain ⟨x28_2, e28_2, zh0⟩ := bnd zh0
           obtain ⟨g28_2, o28_2, _, ha28_2, ⟨a28_2_1, c28_2_1, rfl, r28_2_1⟩, hd28_2⟩ := Rd.atIdx r0_0 e28_2
           replace hd28_2 : ∀ (j : Nat) v, ([.bool x28_2.On, .int .i64 x28_2.X, .int .i64 x28_2.Y, .int .i64 x28_2.W, .int .i64 x28_2.H, .int .i64 x28_2.Layout, .slice a28_2_1 x28_2.Words.length c28_2_1, .int .i64 x28_2.Alpha, .int .i64 x28_2.Orient, .int .i64 x28_2.ToW, .int .i64 x28_2.ToH] : List Value)[j]? = some v → w.cell? ⟨g28_2, o28_2 + v1_0.toNat * 11 + j, .none⟩ = some v := hd28_2
           refine WC.region ?_
           refine sp (OpV.move rfl) ?_
           refine sp (OpV.move rfl) ?_
           refine sp (OpV.idxA rfl rfl se_29 ha28_2 ⟨(idx_some e28_2).1, (idx_some e28_2).2.1⟩) ?_
           refine sp (OpV.fieldAddr rfl fo_82_8) ?_
           refine sp (OpV.load1 rfl pt_3 (fun w hs => hs.cell (hd28_2 8 _ rfl))) ?_
           refine sp (OpV.move rfl) ?_
           refine sp (OpV.neq rfl rfl) ?_
           refine WL.nil (En.next ?_)
           refine WC.cond rfl ?_ ?_
           ·
            intro hc_10
            replace zh0 := ifO_t hc_10 zh0
            refine WC.seq (WC.region ?_)
            refine sp (OpV.assign rfl) ?_
            refine WL.nil (En.next (WC.ret (En.then_ret (En.block_ret (En.then_ret (En.then_ret (En.block_ret (En.then_ret ?_))))))))
            refine En.ret1 rfl (Res.tmp rfl) ?_
            have hx := exitP ze0 zh0
            subst hx
            replace h := fork_r h
            obtain rfl := Option.some.inj h
            intro w' hs
            exact ⟨rfl, hs.below⟩
           ·
            intro hc_10
            replace zh0 := ifO_f hc_10 zh0
            refine WC.skip (En.next (WC.seq (WC.region ?_)))
            refine sp (OpV.move rfl) ?_
            refine sp (OpV.addR rfl rfl) ?_
            refine sp (OpV.assign rfl) ?_
            refine WL.nil (En.next (WC.seq (WC.seq ?_)))
            obtain ⟨x31_2, e31_2, zh0⟩ := bnd zh0
            obtain ⟨g31_2, o31_2, _, ha31_2, ⟨a31_2_1, c31_2_1, rfl, r31_2_1⟩, hd31_2⟩ := Rd.atIdx r0_0 e31_2
            replace hd31_2 : ∀ (j : Nat) v, ([.bool x31_2.On, .int .i64 x31_2.X, .int .i64 x31_2.Y, .int .i64 x31_2.W, .int .i64 x31_2.H, .int .i64 x31_2.Layout, .slice a31_2_1 x31_2.Words.length c31_2_1, .int .i64 x31_2.Alpha, .int .i64 x31_2.Orient, .int .i64 x31_2.ToW, .int .i64 x31_2.ToH] : List Value)[j]? = some v → w.cell? ⟨g31_2, o31_2 + v1_0.toNat * 11 + j, .none⟩ = some v := hd31_2
            refine WC.region ?_
            refine sp (OpV.move rfl) ?_
            refine sp (OpV.move rfl) ?_
            refine sp (OpV.idxA rfl rfl se_29 ha31_2 ⟨(idx_some e31_2).1, (idx_some e31_2).2.1⟩) ?_
            refine sp (OpV.fieldAddr rfl fo_82_9) ?_
            refine sp (OpV.load1 rfl pt_3 (fun w hs => hs.cell (hd31_2 9 _ rfl))) ?_
            refine sp (OpV.move rfl) ?_
            refine sp (OpV.neq rfl rfl) ?_
            refine WL.nil (En.next ?_)
            refine WC.cond rfl ?_ ?_
            ·
             intro hc_11
             replace zh0 := ifO_t hc_11 zh0
             refine WC.seq (WC.region ?_)
             refine sp (OpV.assign rfl) ?_
             refine WL.nil (En.next (WC.ret (En.then_ret (En.block_ret (En.then_ret (En.then_ret (En.block_ret (En.then_ret ?_))))))))
             refine En.ret1 rfl (Res.tmp rfl) ?_
             have hx := exitP ze0 zh0
             subst hx
             replace h := fork_r h
             obtain rfl := Option.some.inj h
             intro w' hs
             exact ⟨rfl, hs.below⟩
            ·
             intro hc_11
             replace zh0 := ifO_f hc_11 zh0
             refine WC.skip (En.next (WC.seq (WC.region ?_)))
             refine sp (OpV.move rfl) ?_
             refine sp (OpV.addR rfl rfl) ?_
             refine sp (OpV.assign rfl) ?_
             refine WL.nil (En.next (WC.seq (WC.seq ?_)))
             obtain ⟨x34_2, e34_2, zh0⟩ := bnd zh0
             obtain ⟨g34_2, o34_2, _, ha34_2, ⟨a34_2_1, c34_2_1, rfl, r34_2_1⟩, hd34_2⟩ := Rd.atIdx r0_0 e34_2
             replace hd34_2 : ∀ (j : Nat) v, ([.bool x34_2.On, .int .i64 x34_2.X, .int .i64 x34_2.Y, .int .i64 x34_2.W, .int .i64 x34_2.H, .int .i64 x34_2.Layout, .slice a34_2_1 x34_2.Words.length c34_2_1, .int .i64 x34_2.Alpha, .int .i64 x34_2.Orient, .int .i64 x34_2.ToW, .int .i64 x34_2.ToH] : List Value)[j]? = some v → w.cell? ⟨g34_2, o34_2 + v1_0.toNat * 11 + j, .none⟩ = some v := hd34_2
             refine WC.region ?_
             refine sp (OpV.move rfl) ?_
             refine sp (OpV.move rfl) ?_
             refine sp (OpV.idxA rfl rfl se_29 ha34_2 ⟨(idx_some e34_2).1, (idx_some e34_2).2.1⟩) ?_
             refine sp (OpV.fieldAddr rfl fo_82_10) ?_
             refine sp (OpV.load1 rfl pt_3 (fun w hs => hs.cell (hd34_2 10 _ rfl))) ?_
             refine sp (OpV.move rfl) ?_
             refine sp (OpV.neq rfl rfl) ?_
             refine WL.nil (En.next ?_)
             refine WC.cond rfl ?_ ?_
             ·
              intro hc_12
              replace zh0 := ifO_t hc_12 zh0
              refine WC.seq (WC.region ?_)
              refine sp (OpV.assign rfl) ?_
              refine WL.nil (En.next (WC.ret (En.then_ret (En.block_ret (En.then_ret (En.then_ret (En.block_ret (En.then_ret ?_))))))))
              refine En.ret1 rfl (Res.tmp rfl) ?_
              have hx := exitP ze0 zh0
              subst hx
              replace h := fork_r h
              obtain rfl := Option.some.inj h
              intro w' hs
              exact ⟨rfl, hs.below⟩
             ·
              intro hc_12
              replace zh0 := ifO_f hc_12 zh0
              refine WC.skip (En.next (WC.region ?_))
              refine sp (OpV.move rfl) ?_
              refine sp (OpV.addR rfl rfl) ?_
              refine sp (OpV.assign rfl) ?_
              refine WL.nil (En.block_norm (En.next (WC.region ?_)))
              refine sp (OpV.move rfl) ?_
              refine sp (OpV.addR rfl rfl) ?_
              refine sp (OpV.assign rfl) ?_
              refine WL.nil ?_
              exact En.backP zb0 zh0 () (Sub.cons rfl (Sub.cons rfl (Sub.cons rfl (Sub.nil _)))) (fun _ h => h)
  ·
   intro hc_1
   replace zh0 := ifO_f hc_1 zh0
   refine WC.exit (En.then_exit (En.then_exit ?_))
   have hx := exitP ze0 zh0
   exact En.wk _ _ (Sub.cons rfl (Sub.nil _)) (fun _ h => h) (zK0_0 (v_0, ()) hx.symm)

theorem w_laws_heldColorMap {a_p0 : ColorMapT} {k_p1 : Int} {r : Int} {q0_0 : Option Addr} {n0_0 k0_0 : Nat} {q0_1 : Option Addr} {n0_1 k0_1 : Nat} (h : laws_heldColorMap a_p0 k_p1 = some r) {w : World} (r0_0 : Rd tInt w q0_0 n0_0 k0_0 a_p0.Matrix) (r0_1 : Rd tInt w q0_1 n0_1 k0_1 a_p0.Curve)   :
    Calls Tryz.prog 76 #[.agg #[.slice q0_0 n0_0 k0_0, .slice q0_1 n0_1 k0_1], .int .i64 k_p1] w (fun en w' => en = .returned (.int .i64 r) ∧ Ext w w') := by
 obtain rfl := r0_0.1
 obtain rfl := r0_1.1
 unfold laws_heldColorMap at h
 refine enter (vs := [_, _]) Tryz.func76 rfl rfl rfl rfl ?_
 refine WC.seq (WC.region ?_)
 refine WL.heavy rfl rfl rfl (OpH.box rfl rfl ?_)
 intro b0_0
 refine sp (OpV.assign rfl) ?_
 refine WL.nil (En.next (WC.seq ?_))
 obtain ⟨x1_3, e1_3, h⟩ := bnd h
 refine WC.region ?_
 refine sp (OpV.fieldAddr rfl fo_31_0) ?_
 refine sp (OpV.loadBox rfl pt_23 (.head _) rfl) ?_
 refine sp (OpV.move rfl) ?_
 refine sp (OpV.call (evs.cons rfl (evs.cons rfl (evs.nil))) ca_21 (fun w hs => w_laws_heldIntS e1_3 (r0_0.ext hs.below))) ?_
 refine sp (OpV.assign rfl) ?_
 refine WL.nil (En.next (WC.seq (WC.seq (WC.region ?_))))
 refine sp (OpV.move rfl) ?_
 refine sp (OpV.lss rfl rfl) ?_
 refine WL.nil (En.next ?_)
 refine WC.cond rfl ?_ ?_
 ·
  intro hc_1
  replace h := ifO_t hc_1 h
  refine WC.seq (WC.region ?_)
  refine sp (OpV.assign rfl) ?_
  refine WL.nil (En.next (WC.ret (En.then_ret ?_)))
  refine En.ret1 rfl (Res.tmp rfl) ?_
  obtain rfl := Option.some.inj h
  intro w' hs
  exact ⟨rfl, hs.below⟩
 ·
  intro hc_1
  replace h := ifO_f hc_1 h
  refine WC.skip (En.next (WC.seq ?_))
  obtain ⟨x4_3, e4_3, h⟩ := bnd h
  refine WC.region ?_
  refine sp (OpV.fieldAddr rfl fo_31_1) ?_
  refine sp (OpV.loadBox rfl pt_23 (.head _) rfl) ?_
  refine sp (OpV.move rfl) ?_
  refine sp (OpV.call (evs.cons rfl (evs.cons rfl (evs.nil))) ca_21 (fun w hs => w_laws_heldIntS e4_3 (r0_1.ext hs.below))) ?_
  refine sp (OpV.assign rfl) ?_
  refine WL.nil (En.next (WC.seq (WC.seq (WC.region ?_))))
  refine sp (OpV.move rfl) ?_
  refine sp (OpV.lss rfl rfl) ?_
  refine WL.nil (En.next ?_)
  refine WC.cond rfl ?_ ?_
  ·
   intro hc_2
   replace h := ifO_t hc_2 h
   refine WC.seq (WC.region ?_)
   refine sp (OpV.assign rfl) ?_
   refine WL.nil (En.next (WC.ret (En.then_ret ?_)))
   refine En.ret1 rfl (Res.tmp rfl) ?_
   obtain rfl := Option.some.inj h
   intro w' hs
   exact ⟨rfl, hs.below⟩
  ·
   intro hc_2
   replace h := ifO_f hc_2 h
   refine WC.skip (En.next (WC.seq (WC.region ?_)))
   refine sp (OpV.move rfl) ?_
   refine sp (OpV.assign rfl) ?_
   refine WL.nil (En.next (WC.ret ?_))
   refine En.ret1 rfl (Res.tmp rfl) ?_
   obtain rfl := Option.some.inj h
   intro w' hs
   exact ⟨rfl, hs.below⟩

theorem w_laws_heldCrtc {a_p0 : CrtcT} {k_p1 : Int} {r : Int} {q0_0 : Option Addr} {n0_0 k0_0 : Nat} {q0_1 : Option Addr} {n0_1 k0_1 : Nat} {q0_2 : Option Addr} {n0_2 k0_2 : Nat} (h : laws_heldCrtc a_p0 k_p1 = some r) {w : World} (r0_0 : Rd tPlane w q0_0 n0_0 k0_0 a_p0.Planes) (r0_1 : Rd tInt w q0_1 n0_1 k0_1 a_p0.Color.Matrix) (r0_2 : Rd tInt w q0_2 n0_2 k0_2 a_p0.Color.Curve)   :
    Calls Tryz.prog 32 #[.agg #[.int .i64 a_p0.W, .int .i64 a_p0.H, .slice q0_0 n0_0 k0_0, .slice q0_1 n0_1 k0_1, .slice q0_2 n0_2 k0_2], .int .i64 k_p1] w (fun en w' => en = .returned (.int .i64 r) ∧ Ext w w') := by
 obtain rfl := r0_0.1
 obtain rfl := r0_1.1
 obtain rfl := r0_2.1
 unfold laws_heldCrtc at h
 refine enter (vs := [_, _]) Tryz.func32 rfl rfl rfl rfl ?_
 refine WC.seq (WC.region ?_)
 refine WL.heavy rfl rfl rfl (OpH.box rfl rfl ?_)
 intro b0_0
 refine sp (OpV.assign rfl) ?_
 refine WL.nil (En.next (WC.seq ?_))
 obtain ⟨x1_3, e1_3, h⟩ := bnd h
 refine WC.region ?_
 refine sp (OpV.fieldAddr rfl fo_46_2) ?_
 refine sp (OpV.loadBox rfl pt_29 (.head _) rfl) ?_
 refine sp (OpV.move rfl) ?_
 refine sp (OpV.call (evs.cons rfl (evs.cons rfl (evs.nil))) ca_75 (fun w hs => w_laws_heldPlaneS e1_3 (r0_0.ext hs.below))) ?_
 refine sp (OpV.assign rfl) ?_
 refine WL.nil (En.next (WC.seq (WC.seq (WC.region ?_))))
 refine sp (OpV.move rfl) ?_
 refine sp (OpV.lss rfl rfl) ?_
 refine WL.nil (En.next ?_)
 refine WC.cond rfl ?_ ?_
 ·
  intro hc_1
  replace h := ifO_t hc_1 h
  refine WC.seq (WC.region ?_)
  refine sp (OpV.assign rfl) ?_
  refine WL.nil (En.next (WC.ret (En.then_ret ?_)))
  refine En.ret1 rfl (Res.tmp rfl) ?_
  obtain rfl := Option.some.inj h
  intro w' hs
  exact ⟨rfl, hs.below⟩
 ·
  intro hc_1
  replace h := ifO_f hc_1 h
  refine WC.skip (En.next (WC.seq ?_))
  obtain ⟨x4_3, e4_3, h⟩ := bnd h
  refine WC.region ?_
  refine sp (OpV.fieldAddr rfl fo_46_3) ?_
  refine sp (OpV.loadPart rfl (.head _) ag_31 rfl rfl) ?_
  refine sp (OpV.move rfl) ?_
  refine sp (OpV.call (evs.cons rfl (evs.cons rfl (evs.nil))) ca_76 (fun w hs => w_laws_heldColorMap e4_3 (r0_1.ext hs.below) (r0_2.ext hs.below))) ?_
  refine sp (OpV.assign rfl) ?_
  refine WL.nil (En.next (WC.seq (WC.seq (WC.region ?_))))
  refine sp (OpV.move rfl) ?_
  refine sp (OpV.lss rfl rfl) ?_
  refine WL.nil (En.next ?_)
  refine WC.cond rfl ?_ ?_
  ·
   intro hc_2
   replace h := ifO_t hc_2 h
   refine WC.seq (WC.region ?_)
   refine sp (OpV.assign rfl) ?_
   refine WL.nil (En.next (WC.ret (En.then_ret ?_)))
   refine En.ret1 rfl (Res.tmp rfl) ?_
   obtain rfl := Option.some.inj h
   intro w' hs
   exact ⟨rfl, hs.below⟩
  ·
   intro hc_2
   replace h := ifO_f hc_2 h
   refine WC.skip (En.next (WC.seq (WC.region ?_)))
   refine sp (OpV.move rfl) ?_
   refine sp (OpV.assign rfl) ?_
   refine WL.nil (En.next (WC.ret ?_))
   refine En.ret1 rfl (Res.tmp rfl) ?_
   obtain rfl := Option.some.inj h
   intro w' hs
   exact ⟨rfl, hs.below⟩

theorem w_laws_FnExactTestChanges {a_p0 : CrtcT} {a_p1 : List ChangeT} {r : Bool} {q0_0 : Option Addr} {n0_0 k0_0 : Nat} {q0_1 : Option Addr} {n0_1 k0_1 : Nat} {q0_2 : Option Addr} {n0_2 k0_2 : Nat} {q1_0 : Option Addr} {n1_0 k1_0 : Nat} (h : laws_FnExactTestChanges a_p0 a_p1 = some r) {w : World} (r0_0 : Rd tPlane w q0_0 n0_0 k0_0 a_p0.Planes) (r0_1 : Rd tInt w q0_1 n0_1 k0_1 a_p0.Color.Matrix) (r0_2 : Rd tInt w q0_2 n0_2 k0_2 a_p0.Color.Curve) (r1_0 : Rd tChange w q1_0 n1_0 k1_0 a_p1)   :
    Calls Tryz.prog 4 #[.agg #[.int .i64 a_p0.W, .int .i64 a_p0.H, .slice q0_0 n0_0 k0_0, .slice q0_1 n0_1 k0_1, .slice q0_2 n0_2 k0_2], .slice q1_0 n1_0 k1_0] w (fun en w' => en = .returned (.bool r) ∧ Ext w w') := by
 obtain rfl := r0_0.1
 obtain rfl := r0_1.1
 obtain rfl := r0_2.1
 obtain rfl := r1_0.1
 unfold laws_FnExactTestChanges at h
 refine enter (vs := [_, _]) Tryz.func4 rfl rfl rfl rfl ?_
 refine WC.seq (WC.region ?_)
 refine WL.heavy rfl rfl rfl (OpH.box rfl rfl ?_)
 intro b0_0
 refine sp (OpV.assign rfl) ?_
 refine WL.nil (En.next (WC.seq (WC.region ?_)))
 refine sp (OpV.assign rfl) ?_
 refine WL.nil (En.next (WC.seq ?_))
 obtain ⟨x2_2, e2_2, h⟩ := bnd h
 refine WC.region ?_
 refine sp (OpV.loadAll rfl (.head _) ag_41) ?_
 refine sp (OpV.move rfl) ?_
 refine sp (OpV.call (evs.cons rfl (evs.cons rfl (evs.nil))) ca_22 (fun w hs => w_laws_szCrtc e2_2 (r0_0.ext hs.below) (r0_1.ext hs.below) (r0_2.ext hs.below))) ?_
 refine sp (OpV.assign rfl) ?_
 refine WL.nil (En.next (WC.seq (WC.seq (WC.region ?_))))
 refine sp (OpV.move rfl) ?_
 refine sp (OpV.lss rfl rfl) ?_
 refine WL.nil (En.next ?_)
 refine WC.cond rfl ?_ ?_
 ·
  intro hc_1
  replace h := ifO_t hc_1 h
  refine WC.seq (WC.region ?_)
  refine sp (OpV.assign rfl) ?_
  refine WL.nil (En.next (WC.ret (En.then_ret ?_)))
  refine En.ret1 rfl (Res.tmp rfl) ?_
  obtain rfl := Option.some.inj h
  intro w' hs
  exact ⟨rfl, hs.below⟩
 ·
  intro hc_1
  replace h := ifO_f hc_1 h
  refine WC.skip (En.next (WC.seq ?_))
  obtain ⟨x5_2, e5_2, h⟩ := bnd h
  refine WC.region ?_
  refine sp (OpV.move rfl) ?_
  refine sp (OpV.move rfl) ?_
  refine sp (OpV.call (evs.cons rfl (evs.cons rfl (evs.nil))) ca_23 (fun w hs => w_laws_szChangeS e5_2 (r1_0.ext hs.below))) ?_
  refine sp (OpV.assign rfl) ?_
  refine WL.nil (En.next (WC.seq (WC.seq (WC.region ?_))))
  refine sp (OpV.move rfl) ?_
  refine sp (OpV.lss rfl rfl) ?_
  refine WL.nil (En.next ?_)
  refine WC.cond rfl ?_ ?_
  ·
   intro hc_2
   replace h := ifO_t hc_2 h
   refine WC.seq (WC.region ?_)
   refine sp (OpV.assign rfl) ?_
   refine WL.nil (En.next (WC.ret (En.then_ret ?_)))
   refine En.ret1 rfl (Res.tmp rfl) ?_
   obtain rfl := Option.some.inj h
   intro w' hs
   exact ⟨rfl, hs.below⟩
  ·
   intro hc_2
   replace h := ifO_f hc_2 h
   refine WC.skip (En.next (WC.seq ?_))
   obtain ⟨x8_1, e8_1, h⟩ := bnd h
   obtain ⟨x8_3, e8_3, h⟩ := bnd h
   obtain ⟨⟨x8_4a, x8_4b⟩, e8_4, h⟩ := bnd h
   refine WC.region ?_
   refine sp (OpV.loadAll rfl (.head _) ag_41) ?_
   refine WL.heavy rfl rfl rfl (OpH.callR (evs.cons rfl (evs.nil)) ca_25 (fun w hs => w_laws_toCrtc e8_1 (r0_0.ext hs.below) (r0_1.ext hs.below) (r0_2.ext hs.below)) ?_)
   rintro _ _ ⟨a8_100, n8_100, c8_100, f8_100, a8_101, n8_101, c8_101, f8_101, a8_102, n8_102, c8_102, f8_102, rfl, rfl⟩
   refine sp (OpV.move rfl) ?_
   refine WL.heavy rfl rfl rfl (OpH.callR (evs.cons rfl (evs.nil)) ca_26 (fun w hs => w_laws_toChangeS e8_3 (r1_0.ext hs.below)) ?_)
   rintro _ _ ⟨a8_300, n8_300, c8_300, f8_300, rfl, rfl⟩
   refine WL.heavy rfl rfl rfl (OpH.callR (evs.cons rfl (evs.cons rfl (evs.nil))) ca_24 (fun w hs => w_spec_TestChanges e8_4 (Ow.rd (hs.mem (.tail _ (.head _)))) (Ow.rd (hs.mem (.tail _ (.tail _ (.head _))))) (Ow.rd (hs.mem (.tail _ (.tail _ (.tail _ (.head _)))))) (Ow.rd (hs.mem (.head _)))) ?_)
   rintro _ _ ⟨a8_400, n8_400, c8_400, f8_400, a8_401, n8_401, c8_401, f8_401, a8_402, n8_402, c8_402, f8_402, rfl, rfl⟩
   refine sp (OpV.move rfl) ?_
   refine sp (OpV.extract rfl rfl) ?_
   refine sp (OpV.extract rfl rfl) ?_
   refine WL.heavy rfl rfl rfl (OpH.alloc zc_46 ?_)
   intro b8_8
   refine WL.heavy0 rfl rfl (OpH.storeTo (A := []) [_, _, _, _, _] rfl rfl rfl ts_46 rfl rfl rfl ?_)
   refine sp (OpV.assign rfl) ?_
   refine WL.nil (En.next (WC.seq ?_))
   obtain ⟨x9_1, e9_1, h⟩ := bnd h
   refine WC.region ?_
   refine sp (OpV.loadAll rfl (.tail _ (.tail _ (.tail _ (.tail _ (.tail _ (.tail _ (.tail _ (.tail _ (.head _))))))))) ag_41) ?_
   refine WL.heavy rfl rfl rfl (OpH.callR (evs.cons rfl (evs.nil)) ca_25 (fun w hs => w_laws_toCrtc e9_1 (r0_0.ext hs.below) (r0_1.ext hs.below) (r0_2.ext hs.below)) ?_)
   rintro _ _ ⟨a9_100, n9_100, c9_100, f9_100, a9_101, n9_101, c9_101, f9_101, a9_102, n9_102, c9_102, f9_102, rfl, rfl⟩
   refine WL.heavy rfl rfl rfl (OpH.alloc zc_46 ?_)
   intro b9_2
   refine WL.heavy0 rfl rfl (OpH.storeTo (A := []) [_, _, _, _, _] rfl rfl rfl ts_46 rfl rfl rfl ?_)
   refine WL.nil (En.next (WC.seq ?_))
   obtain ⟨x10_1, e10_1, h⟩ := bnd h
   refine WC.region ?_
   refine sp (OpV.move rfl) ?_
   refine WL.heavy rfl rfl rfl (OpH.callR (evs.cons rfl (evs.nil)) ca_26 (fun w hs => w_laws_toChangeS e10_1 (r1_0.ext hs.below)) ?_)
   rintro _ _ ⟨a10_100, n10_100, c10_100, f10_100, rfl, rfl⟩
   refine sp (OpV.assign rfl) ?_
   refine WL.nil (En.next (WC.seq ?_))
   obtain ⟨⟨x11_2a, x11_2b⟩, e11_2, h⟩ := bnd h
   refine WC.region ?_
   refine sp (OpV.loadAll rfl (.tail _ (.head _)) ag_46) ?_
   refine sp (OpV.move rfl) ?_
   refine WL.heavy rfl rfl rfl (OpH.callR (evs.cons rfl (evs.cons rfl (evs.nil))) ca_27 (fun w hs => w_impl_TestChanges e11_2 (Ow.rd (hs.mem (.tail _ (.tail _ (.head _))))) (Ow.rd (hs.mem (.tail _ (.tail _ (.tail _ (.head _)))))) (Ow.rd (hs.mem (.tail _ (.tail _ (.tail _ (.tail _ (.head _))))))) (Ow.rd (hs.mem (.head _)))) ?_)
   rintro _ _ ⟨a11_200, n11_200, c11_200, f11_200, a11_201, n11_201, c11_201, f11_201, a11_202, n11_202, c11_202, f11_202, rfl, rfl⟩
   refine sp (OpV.move rfl) ?_
   refine sp (OpV.extract rfl rfl) ?_
   refine sp (OpV.extract rfl rfl) ?_
   refine WL.heavy rfl rfl rfl (OpH.alloc zc_46 ?_)
   intro b11_6
   refine WL.heavy0 rfl rfl (OpH.storeTo (A := []) [_, _, _, _, _] rfl rfl rfl ts_46 rfl rfl rfl ?_)
   refine sp (OpV.assign rfl) ?_
   refine WL.nil (En.next (WC.seq (WC.seq ?_)))
   obtain ⟨x12_2, e12_2, h⟩ := bnd h
   refine WC.region ?_
   refine sp (OpV.loadAll rfl (.head _) ag_46) ?_
   refine sp (OpV.loadAll rfl (.tail _ (.tail _ (.tail _ (.tail _ (.tail _ (.tail _ (.tail _ (.tail _ (.tail _ (.head _)))))))))) ag_46) ?_
   refine sp (OpV.call (evs.cons rfl (evs.cons rfl (evs.nil))) ca_28 (fun w hs => w_laws_eqCrtc e12_2 (Ow.rd (hs.mem (.tail _ (.head _)))) (Ow.rd (hs.mem (.tail _ (.tail _ (.head _))))) (Ow.rd (hs.mem (.tail _ (.tail _ (.tail _ (.head _)))))) (Ow.rd (hs.mem (.tail _ (.tail _ (.tail _ (.tail _ (.tail _ (.tail _ (.tail _ (.tail _ (.tail _ (.tail _ (.head _))))))))))))) (Ow.rd (hs.mem (.tail _ (.tail _ (.tail _ (.tail _ (.tail _ (.tail _ (.tail _ (.tail _ (.tail _ (.tail _ (.tail _ (.head _)))))))))))))) (Ow.rd (hs.mem (.tail _ (.tail _ (.tail _ (.tail _ (.tail _ (.tail _ (.tail _ (.tail _ (.tail _ (.tail _ (.tail _ (.tail _ (.head _))))))))))))))))) ?_
   refine sp (OpV.not rfl) ?_
   refine sp (OpV.move rfl) ?_
   refine Lt.ofWL.or 49 53 52 (p := ?pz1) (rest := ?qz1) (B := ?Bz1) rfl ?Tz1 ?Fz1 ?az1 ?bz1 ?cz1 ?dz1 ?ez1
   case Tz1 =>
    intro hcz1 hkz1
    refine sk ?_
    refine sk ?_
    refine sk ?_
    refine hkz1 _ ?_
    repeat (first | exact Sub.refl _ | refine Sub.skip rfl ?_)
   case Fz1 =>
    intro hcz1 hkz1
    refine sp (OpV.move rfl) ?_
    refine sp (OpV.move rfl) ?_
    refine sp (OpV.bneq rfl rfl ub_4) ?_
    refine hkz1 _ ?_ ?_
    exact rfl
    repeat (first | exact Sub.refl _ | refine Sub.skip rfl ?_)
   case az1 => exact rfl
   case bz1 => exact rfl
   case cz1 => exact rfl
   case dz1 => exact rfl
   refine WL.nil (En.next ?_)
   refine WC.cond rfl ?_ ?_
   ·
    intro hc_3
    replace h := ifO_t hc_3 h
    refine WC.seq (WC.region ?_)
    refine sp (OpV.assign rfl) ?_
    refine WL.nil (En.next (WC.ret (En.then_ret ?_)))
    refine En.ret1 rfl (Res.tmp rfl) ?_
    obtain rfl := Option.some.inj h
    intro w' hs
    exact ⟨rfl, hs.below⟩
   ·
    intro hc_3
    replace h := ifO_f hc_3 h
    refine WC.skip (En.next (WC.seq (WC.seq ?_)))
    obtain ⟨x14_2, e14_2, h⟩ := bnd h
    obtain ⟨x14_3, e14_3, h⟩ := bnd h
    refine WC.drawnH [] ([_, _, _, _, _, _, _, _, _, _, _, _, _, _, _, _, _, _]) (fun _ h => h) (by kernel_rfl) ?_
    refine WAE.take (i := 0) rfl (by kernel_rfl) (by kernel_rfl) (by kernel_rfl) rfl rfl rfl (OpV.loadAll rfl (.tail _ (.tail _ (.tail _ (.tail _ (.tail _ (.head _)))))) ag_46) ?_
    refine WAE.take (i := 1) rfl (by kernel_rfl) (by kernel_rfl) (by kernel_rfl) rfl rfl rfl (OpV.loadAll rfl (.tail _ (.tail _ (.tail _ (.tail _ (.tail _ (.tail _ (.tail _ (.tail _ (.tail _ (.tail _ (.tail _ (.tail _ (.tail _ (.tail _ (.tail _ (.tail _ (.tail _ (.head _)))))))))))))))))) ag_41) ?_
    refine WAE.all (rs := [2]) (by kernel_rfl) rfl (AllR.cons rfl rfl rfl rfl ?_ AllR.nil)
    refine OpH.callR (evs.cons rfl (evs.nil)) ca_25 (fun w hs => w_laws_toCrtc e14_2 (r0_0.ext hs.below) (r0_1.ext hs.below) (r0_2.ext hs.below)) ?_
    rintro _ _ ⟨a14_200, n14_200, c14_200, f14_200, a14_201, n14_201, c14_201, f14_201, a14_202, n14_202, c14_202, f14_202, rfl, rfl⟩
    refine ⟨[_, _, _], rfl, ?_⟩
    refine WAE.rebase (H := []) ?_
    refine WAE.take (i := 3) rfl (by kernel_rfl) (by kernel_rfl) (by kernel_rfl) rfl rfl rfl (OpV.call (evs.cons rfl (evs.cons rfl (evs.nil))) ca_28 (fun w hs => w_laws_eqCrtc e14_3 (Ow.rd (hs.mem (.tail _ (.tail _ (.tail _ (.tail _ (.tail _ (.tail _ (.tail _ (.tail _ (.tail _ (.head _)))))))))))) (Ow.rd (hs.mem (.tail _ (.tail _ (.tail _ (.tail _ (.tail _ (.tail _ (.tail _ (.tail _ (.tail _ (.tail _ (.head _))))))))))))) (Ow.rd (hs.mem (.tail _ (.tail _ (.tail _ (.tail _ (.tail _ (.tail _ (.tail _ (.tail _ (.tail _ (.tail _ (.tail _ (.head _)))))))))))))) (Ow.rd (hs.mem (.head _))) (Ow.rd (hs.mem (.tail _ (.head _)))) (Ow.rd (hs.mem (.tail _ (.tail _ (.head _))))))) ?_
    refine WAE.take (i := 4) rfl (by kernel_rfl) (by kernel_rfl) (by kernel_rfl) rfl rfl rfl (OpV.not rfl) ?_
    refine WAE.done (by kernel_rfl) ?_ _
    refine En.next ?_
    refine WC.cond rfl ?_ ?_
    ·
     intro hc_4
     replace h := ifO_t hc_4 h
     refine WC.seq (WC.region ?_)
     refine sp (OpV.assign rfl) ?_
     refine WL.nil (En.next (WC.ret (En.then_ret ?_)))
     refine En.ret1 rfl (Res.tmp rfl) ?_
     obtain rfl := Option.some.inj h
     intro w' hs
     exact ⟨rfl, hs.below⟩
    ·
     intro hc_4
     replace h := ifO_f hc_4 h
     refine WC.skip (En.next (WC.seq (WC.seq ?_)))
     obtain ⟨x16_2, e16_2, h⟩ := bnd h
     obtain ⟨x16_3, e16_3, h⟩ := bnd h
     refine WC.region ?_
     refine sp (OpV.move rfl) ?_
     refine sp (OpV.move rfl) ?_
     refine WL.heavy rfl rfl rfl (OpH.callR (evs.cons rfl (evs.nil)) ca_26 (fun w hs => w_laws_toChangeS e16_2 (r1_0.ext hs.below)) ?_)
     rintro _ _ ⟨a16_200, n16_200, c16_200, f16_200, rfl, rfl⟩
     refine sp (OpV.call (evs.cons rfl (evs.cons rfl (evs.nil))) ca_29 (fun w hs => w_laws_eqChangeS e16_3 (Ow.rd (hs.mem (.tail _ (.tail _ (.tail _ (.tail _ (.tail _ (.tail _ (.tail _ (.tail _ (.head _))))))))))) (Ow.rd (hs.mem (.head _))))) ?_
     refine sp (OpV.not rfl) ?_
     refine WL.nil (En.next ?_)
     refine WC.cond rfl ?_ ?_
     ·
      intro hc_5
      replace h := ifO_t hc_5 h
      refine WC.seq (WC.region ?_)
      refine sp (OpV.assign rfl) ?_
      refine WL.nil (En.next (WC.ret (En.then_ret ?_)))
      refine En.ret1 rfl (Res.tmp rfl) ?_
      obtain rfl := Option.some.inj h
      intro w' hs
      exact ⟨rfl, hs.below⟩
     ·
      intro hc_5
      replace h := ifO_f hc_5 h
      refine WC.skip (En.next (WC.seq (WC.region ?_)))
      refine sp (OpV.assign rfl) ?_
      refine WL.nil (En.next (WC.seq ?_))
      obtain ⟨⟨x19_2a, x19_2b, x19_2c, x19_2d⟩, e19_2, h⟩ := bnd h
      refine WC.region ?_
      refine sp (OpV.loadAll rfl (.tail _ (.tail _ (.tail _ (.tail _ (.tail _ (.tail _ (.tail _ (.tail _ (.tail _ (.head _)))))))))) ag_46) ?_
      refine sp (OpV.move rfl) ?_
      refine WL.wkF (fun _ h => h.perm (List.perm_middle (l₁ := [_, _, _, _, _, _, _, _, _, _, _, _]))) ?_
      refine WL.wkF (fun _ h => h.perm (List.perm_middle (l₁ := [_, _, _, _, _, _, _, _, _, _, _, _]))) ?_
      refine WL.wkF (fun _ h => h.perm (List.perm_middle (l₁ := [_, _, _, _, _, _, _, _, _, _, _, _]))) ?_
      refine WL.heavy rfl rfl rfl (OpH.callX (evs.cons rfl (evs.cons rfl (evs.nil))) ca_30 (fun w hs => w_laws_markCrtc e19_2 hs) ?_)
      rintro _ _ ⟨g19_200, g19_201, g19_202, rfl, rfl⟩
      refine sp (OpV.assign rfl) ?_
      refine WL.nil (En.next (WC.seq ?_))
      obtain ⟨⟨x20_2a, x20_2b⟩, e20_2, h⟩ := bnd h
      refine WC.region ?_
      refine sp (OpV.move rfl) ?_
      refine sp (OpV.move rfl) ?_
      refine WL.wkF (fun _ h => h.perm (List.perm_middle (l₁ := [_, _, _, _, _, _, _, _, _, _, _]))) ?_
      refine WL.heavy rfl rfl rfl (OpH.callX (evs.cons rfl (evs.cons rfl (evs.nil))) ca_31 (fun w hs => w_laws_markChangeS e20_2 hs) ?_)
      rintro _ _ ⟨g20_200, rfl, rfl⟩
      refine sp (OpV.assign rfl) ?_
      refine WL.nil (En.next (WC.seq (WC.seq ?_)))
      obtain ⟨q21_7, e21_7, h⟩ := bnd h
      refine WC.region ?_
      refine sp (OpV.move rfl) ?_
      refine sp (OpV.lss rfl rfl) ?_
      refine sp (OpV.move rfl) ?_
      refine Lt.ofWL.orQ 72 77 76 (p := ?pz2) (rest := ?qz2) (B := q21_7) rfl (fun hz => orO_t e21_7 hz) ?Tz2 ?Fz2 ?az2 ?bz2 ?cz2 ?dz2 ?ez2
      case Tz2 =>
       intro hcz2 hkz2
       refine sk ?_
       refine sk ?_
       refine sk ?_
       refine sk ?_
       refine hkz2 _ ?_
       repeat (first | exact Sub.refl _ | refine Sub.skip rfl ?_)
      case Fz2 =>
       intro hcz2 hkz2
       have hqz2 := orO_f e21_7 hcz2
       obtain ⟨x21_5, e21_5, hqz2⟩ := bnd hqz2
       obtain rfl := Option.some.inj hqz2
       refine sp (OpV.loadAll rfl (.tail _ (.tail _ (.tail _ (.tail _ (.tail _ (.tail _ (.tail _ (.tail _ (.head _))))))))) ag_46) ?_
       refine sp (OpV.loadAll rfl (.tail _ (.tail _ (.tail _ (.tail _ (.tail _ (.tail _ (.tail _ (.tail _ (.tail _ (.tail _ (.tail _ (.tail _ (.tail _ (.head _)))))))))))))) ag_46) ?_
       refine sp (OpV.call (evs.cons rfl (evs.cons rfl (evs.nil))) ca_28 (fun w hs => w_laws_eqCrtc e21_5 (Ow.rd (hs.mem (.tail _ (.tail _ (.tail _ (.tail _ (.tail _ (.tail _ (.tail _ (.tail _ (.tail _ (.head _)))))))))))) (Ow.rd (hs.mem (.tail _ (.tail _ (.tail _ (.tail _ (.tail _ (.tail _ (.tail _ (.tail _ (.tail _ (.tail _ (.head _))))))))))))) (Ow.rd (hs.mem (.tail _ (.tail _ (.tail _ (.tail _ (.tail _ (.tail _ (.tail _ (.tail _ (.tail _ (.tail _ (.tail _ (.head _)))))))))))))) (Ow.rd (hs.mem (.tail _ (.tail _ (.tail _ (.tail _ (.tail _ (.tail _ (.tail _ (.tail _ (.tail _ (.tail _ (.tail _ (.tail _ (.tail _ (.tail _ (.head _))))))))))))))))) (Ow.rd (hs.mem (.tail _ (.tail _ (.tail _ (.tail _ (.tail _ (.tail _ (.tail _ (.tail _ (.tail _ (.tail _ (.tail _ (.tail _ (.tail _ (.tail _ (.tail _ (.head _)))))))))))))))))) (Ow.rd (hs.mem (.tail _ (.tail _ (.tail _ (.tail _ (.tail _ (.tail _ (.tail _ (.tail _ (.tail _ (.tail _ (.tail _ (.tail _ (.tail _ (.tail _ (.tail _ (.tail _ (.head _))))))))))))))))))))) ?_
       refine sp (OpV.not rfl) ?_
       refine hkz2 _ ?_ ?_
       exact rfl
       repeat (first | exact Sub.refl _ | refine Sub.skip rfl ?_)
      case az2 => exact rfl
      case bz2 => exact rfl
      case cz2 => exact rfl
      case dz2 => exact rfl
      refine sp (OpV.move rfl) ?_
      refine Lt.ofWL.or 78 82 81 (p := ?pz3) (rest := ?qz3) (B := ?Bz3) rfl ?Tz3 ?Fz3 ?az3 ?bz3 ?cz3 ?dz3 ?ez3
      case Tz3 =>
       intro hcz3 hkz3
       refine sk ?_
       refine sk ?_
       refine sk ?_
       refine hkz3 _ ?_
       repeat (first | exact Sub.refl _ | refine Sub.skip rfl ?_)
      case Fz3 =>
       intro hcz3 hkz3
       refine sp (OpV.move rfl) ?_
       refine sp (OpV.move rfl) ?_
       refine sp (OpV.bneq rfl rfl ub_4) ?_
       refine hkz3 _ ?_ ?_
       exact rfl
       repeat (first | exact Sub.refl _ | refine Sub.skip rfl ?_)
      case az3 => exact rfl
      case bz3 => exact rfl
      case cz3 => exact rfl
      case dz3 => exact rfl
      refine WL.nil (En.next ?_)
      refine WC.cond rfl ?_ ?_
      ·
       intro hc_6
       replace h := ifO_t hc_6 h
       refine WC.seq (WC.region ?_)
       refine sp (OpV.assign rfl) ?_
       refine WL.nil (En.next (WC.ret (En.then_ret ?_)))
       refine En.ret1 rfl (Res.tmp rfl) ?_
       obtain rfl := Option.some.inj h
       intro w' hs
       exact ⟨rfl, hs.below⟩
      ·
       intro hc_6
       replace h := ifO_f hc_6 h
       refine WC.skip (En.next (WC.seq (WC.region ?_)))
       refine sp (OpV.assign rfl) ?_
       refine WL.nil (En.next (WC.seq ?_))
       obtain ⟨⟨x24_2a, x24_2b, x24_2c, x24_2d⟩, e24_2, h⟩ := bnd h
       refine WC.region ?_
       refine sp (OpV.loadAll rfl (.tail _ (.tail _ (.tail _ (.tail _ (.tail _ (.tail _ (.tail _ (.tail _ (.head _))))))))) ag_46) ?_
       refine sp (OpV.move rfl) ?_
       refine WL.wkF (fun _ h => h.perm (List.perm_middle (l₁ := [_, _, _, _, _, _, _, _, _, _, _]))) ?_
       refine WL.wkF (fun _ h => h.perm (List.perm_middle (l₁ := [_, _, _, _, _, _, _, _, _, _, _]))) ?_
       refine WL.wkF (fun _ h => h.perm (List.perm_middle (l₁ := [_, _, _, _, _, _, _, _, _, _, _]))) ?_
       refine WL.heavy rfl rfl rfl (OpH.callX (evs.cons rfl (evs.cons rfl (evs.nil))) ca_30 (fun w hs => w_laws_markCrtc e24_2 hs) ?_)
       rintro _ _ ⟨g24_200, g24_201, g24_202, rfl, rfl⟩
       refine sp (OpV.assign rfl) ?_
       refine WL.nil (En.next (WC.seq (WC.region ?_)))
       refine sp (OpV.assign rfl) ?_
       refine WL.nil (En.next (WC.seq ?_))
       obtain ⟨x26_2, e26_2, h⟩ := bnd h
       refine WC.region ?_
       refine sp (OpV.loadAll rfl (.tail _ (.tail _ (.tail _ (.tail _ (.tail _ (.tail _ (.tail _ (.tail _ (.tail _ (.tail _ (.tail _ (.head _)))))))))))) ag_46) ?_
       refine sp (OpV.move rfl) ?_
       refine sp (OpV.call (evs.cons rfl (evs.cons rfl (evs.nil))) ca_32 (fun w hs => w_laws_heldCrtc e26_2 (Ow.rd (hs.mem (.head _))) (Ow.rd (hs.mem (.tail _ (.head _)))) (Ow.rd (hs.mem (.tail _ (.tail _ (.head _))))))) ?_
       refine sp (OpV.assign rfl) ?_
       refine WL.nil (En.next (WC.seq (WC.seq (WC.region ?_))))
       refine sp (OpV.move rfl) ?_
       refine sp (OpV.lss rfl rfl) ?_
       refine WL.nil (En.next ?_)
       refine WC.cond rfl ?_ ?_
       ·
        intro hc_7
        replace h := ifO_t hc_7 h
        refine WC.seq (WC.region ?_)
        refine sp (OpV.assign rfl) ?_
        refine WL.nil (En.next (WC.ret (En.then_ret ?_)))
        refine En.ret1 rfl (Res.tmp rfl) ?_
        obtain rfl := Option.some.inj h
        intro w' hs
        exact ⟨rfl, hs.below⟩
       ·
        intro hc_7
        replace h := ifO_f hc_7 h
        refine WC.skip (En.next (WC.seq (WC.seq (WC.region ?_))))
        refine sp (OpV.move rfl) ?_
        refine sp (OpV.move rfl) ?_
        refine sp (OpV.neq rfl rfl) ?_
        refine WL.nil (En.next ?_)
        refine WC.cond rfl ?_ ?_
        ·
         intro hc_8
         replace h := ifO_t hc_8 h
         refine WC.seq (WC.region ?_)
         refine sp (OpV.assign rfl) ?_
         refine WL.nil (En.next (WC.ret (En.then_ret ?_)))
         refine En.ret1 rfl (Res.tmp rfl) ?_
         obtain rfl := Option.some.inj h
         intro w' hs
         exact ⟨rfl, hs.below⟩
        ·
         intro hc_8
         replace h := ifO_f hc_8 h
         refine WC.skip (En.next (WC.seq ?_))
         obtain ⟨x31_1, e31_1, h⟩ := bnd h
         obtain ⟨x31_3, e31_3, h⟩ := bnd h
         obtain ⟨⟨x31_4a, x31_4b⟩, e31_4, h⟩ := bnd h
         refine WC.region ?_
         refine sp (OpV.loadAll rfl (.tail _ (.tail _ (.tail _ (.tail _ (.tail _ (.tail _ (.tail _ (.tail _ (.tail _ (.tail _ (.tail _ (.tail _ (.tail _ (.tail _ (.tail _ (.tail _ (.tail _ (.tail _ (.tail _ (.tail _ (.tail _ (.head _)))))))))))))))))))))) ag_41) ?_
         refine WL.heavy rfl rfl rfl (OpH.callR (evs.cons rfl (evs.nil)) ca_25 (fun w hs => w_laws_toCrtc e31_1 (r0_0.ext hs.below) (r0_1.ext hs.below) (r0_2.ext hs.below)) ?_)
         rintro _ _ ⟨a31_100, n31_100, c31_100, f31_100, a31_101, n31_101, c31_101, f31_101, a31_102, n31_102, c31_102, f31_102, rfl, rfl⟩
         refine sp (OpV.move rfl) ?_
         refine WL.heavy rfl rfl rfl (OpH.callR (evs.cons rfl (evs.nil)) ca_26 (fun w hs => w_laws_toChangeS e31_3 (r1_0.ext hs.below)) ?_)
         rintro _ _ ⟨a31_300, n31_300, c31_300, f31_300, rfl, rfl⟩
         refine WL.heavy rfl rfl rfl (OpH.callR (evs.cons rfl (evs.cons rfl (evs.nil))) ca_27 (fun w hs => w_impl_TestChanges e31_4 (Ow.rd (hs.mem (.tail _ (.head _)))) (Ow.rd (hs.mem (.tail _ (.tail _ (.head _))))) (Ow.rd (hs.mem (.tail _ (.tail _ (.tail _ (.head _)))))) (Ow.rd (hs.mem (.head _)))) ?_)
         rintro _ _ ⟨a31_400, n31_400, c31_400, f31_400, a31_401, n31_401, c31_401, f31_401, a31_402, n31_402, c31_402, f31_402, rfl, rfl⟩
         refine sp (OpV.move rfl) ?_
         refine sp (OpV.extract rfl rfl) ?_
         refine sp (OpV.extract rfl rfl) ?_
         refine WL.heavy rfl rfl rfl (OpH.alloc zc_46 ?_)
         intro b31_8
         refine WL.heavy0 rfl rfl (OpH.storeTo (A := []) [_, _, _, _, _] rfl rfl rfl ts_46 rfl rfl rfl ?_)
         refine sp (OpV.assign rfl) ?_
         refine WL.nil (En.next (WC.seq (WC.seq ?_)))
         obtain ⟨x32_2, e32_2, h⟩ := bnd h
         refine WC.region ?_
         refine sp (OpV.loadAll rfl (.head _) ag_46) ?_
         refine sp (OpV.loadAll rfl (.tail _ (.tail _ (.tail _ (.tail _ (.tail _ (.tail _ (.tail _ (.tail _ (.tail _ (.tail _ (.tail _ (.tail _ (.tail _ (.tail _ (.tail _ (.tail _ (.tail _ (.tail _ (.tail _ (.tail _ (.tail _ (.head _)))))))))))))))))))))) ag_46) ?_
         refine sp (OpV.call (evs.cons rfl (evs.cons rfl (evs.nil))) ca_28 (fun w hs => w_laws_eqCrtc e32_2 (Ow.rd (hs.mem (.tail _ (.head _)))) (Ow.rd (hs.mem (.tail _ (.tail _ (.head _))))) (Ow.rd (hs.mem (.tail _ (.tail _ (.tail _ (.head _)))))) (Ow.rd (hs.mem (.tail _ (.tail _ (.tail _ (.tail _ (.tail _ (.tail _ (.tail _ (.tail _ (.tail _ (.tail _ (.tail _ (.tail _ (.tail _ (.tail _ (.tail _ (.tail _ (.tail _ (.tail _ (.tail _ (.tail _ (.tail _ (.tail _ (.head _))))))))))))))))))))))))) (Ow.rd (hs.mem (.tail _ (.tail _ (.tail _ (.tail _ (.tail _ (.tail _ (.tail _ (.tail _ (.tail _ (.tail _ (.tail _ (.tail _ (.tail _ (.tail _ (.tail _ (.tail _ (.tail _ (.tail _ (.tail _ (.tail _ (.tail _ (.tail _ (.tail _ (.head _)))))))))))))))))))))))))) (Ow.rd (hs.mem (.tail _ (.tail _ (.tail _ (.tail _ (.tail _ (.tail _ (.tail _ (.tail _ (.tail _ (.tail _ (.tail _ (.tail _ (.tail _ (.tail _ (.tail _ (.tail _ (.tail _ (.tail _ (.tail _ (.tail _ (.tail _ (.tail _ (.tail _ (.tail _ (.head _))))))))))))))))))))))))))))) ?_
         refine sp (OpV.not rfl) ?_
         refine sp (OpV.move rfl) ?_
         refine Lt.ofWL.or 106 110 109 (p := ?pz4) (rest := ?qz4) (B := ?Bz4) rfl ?Tz4 ?Fz4 ?az4 ?bz4 ?cz4 ?dz4 ?ez4
         case Tz4 =>
          intro hcz4 hkz4
          refine sk ?_
          refine sk ?_
          refine sk ?_
          refine hkz4 _ ?_
          repeat (first | exact Sub.refl _ | refine Sub.skip rfl ?_)
         case Fz4 =>
          intro hcz4 hkz4
          refine sp (OpV.move rfl) ?_
          refine sp (OpV.move rfl) ?_
          refine sp (OpV.bneq rfl rfl ub_4) ?_
          refine hkz4 _ ?_ ?_
          exact rfl
          repeat (first | exact Sub.refl _ | refine Sub.skip rfl ?_)
         case az4 => exact rfl
         case bz4 => exact rfl
         case cz4 => exact rfl
         case dz4 => exact rfl
         refine WL.nil (En.next ?_)
         refine WC.cond rfl ?_ ?_
         ·
          intro hc_9
          replace h := ifO_t hc_9 h
          refine WC.seq (WC.region ?_)
          refine sp (OpV.assign rfl) ?_
          refine WL.nil (En.next (WC.ret (En.then_ret ?_)))
          refine En.ret1 rfl (Res.tmp rfl) ?_
          obtain rfl := Option.some.inj h
          intro w' hs
          exact ⟨rfl, hs.below⟩
         ·
          intro hc_9
          replace h := ifO_f hc_9 h
          refine WC.skip (En.next (WC.seq (WC.region ?_)))
          refine sp (OpV.assign rfl) ?_
          refine WL.nil (En.next (WC.seq ?_))
          obtain ⟨x35_2, e35_2, h⟩ := bnd h
          refine WC.region ?_
          refine sp (OpV.loadAll rfl (.tail _ (.tail _ (.tail _ (.tail _ (.tail _ (.tail _ (.tail _ (.tail _ (.tail _ (.tail _ (.tail _ (.tail _ (.tail _ (.tail _ (.tail _ (.tail _ (.tail _ (.tail _ (.tail _ (.head _)))))))))))))))))))) ag_46) ?_
          refine sp (OpV.move rfl) ?_
          refine sp (OpV.call (evs.cons rfl (evs.cons rfl (evs.nil))) ca_32 (fun w hs => w_laws_heldCrtc e35_2 (Ow.rd (hs.mem (.tail _ (.tail _ (.tail _ (.tail _ (.tail _ (.tail _ (.tail _ (.tail _ (.head _))))))))))) (Ow.rd (hs.mem (.tail _ (.tail _ (.tail _ (.tail _ (.tail _ (.tail _ (.tail _ (.tail _ (.tail _ (.head _)))))))))))) (Ow.rd (hs.mem (.tail _ (.tail _ (.tail _ (.tail _ (.tail _ (.tail _ (.tail _ (.tail _ (.tail _ (.tail _ (.head _))))))))))))))) ?_
          refine sp (OpV.assign rfl) ?_
          refine WL.nil (En.next (WC.seq (WC.seq (WC.region ?_))))
          refine sp (OpV.move rfl) ?_
          refine sp (OpV.lss rfl rfl) ?_
          refine WL.nil (En.next ?_)
          refine WC.cond rfl ?_ ?_
          ·
           intro hc_10
           replace h := ifO_t hc_10 h
           refine WC.seq (WC.region ?_)
           refine sp (OpV.assign rfl) ?_
           refine WL.nil (En.next (WC.ret (En.then_ret ?_)))
           refine En.ret1 rfl (Res.tmp rfl) ?_
           obtain rfl := Option.some.inj h
           intro w' hs
           exact ⟨rfl, hs.below⟩
          ·
           intro hc_10
           replace h := ifO_f hc_10 h
           refine WC.skip (En.next (WC.seq (WC.seq (WC.region ?_))))
           refine sp (OpV.move rfl) ?_
           refine sp (OpV.move rfl) ?_
           refine sp (OpV.neq rfl rfl) ?_
           refine WL.nil (En.next ?_)
           refine WC.cond rfl ?_ ?_
           ·
            intro hc_11
            replace h := ifO_t hc_11 h
            refine WC.seq (WC.region ?_)
            refine sp (OpV.assign rfl) ?_
            refine WL.nil (En.next (WC.ret (En.then_ret ?_)))
            refine En.ret1 rfl (Res.tmp rfl) ?_
            obtain rfl := Option.some.inj h
            intro w' hs
            exact ⟨rfl, hs.below⟩
           ·
            intro hc_11
            replace h := ifO_f hc_11 h
            refine WC.skip (En.next (WC.seq (WC.region ?_)))
            refine sp (OpV.assign rfl) ?_
            refine WL.nil (En.next (WC.ret ?_))
            refine En.ret1 rfl (Res.tmp rfl) ?_
            obtain rfl := Option.some.inj h
            intro w' hs
            exact ⟨rfl, hs.below⟩

end Go.Proofs.YtdbnoiiacpmbpaaGreat
