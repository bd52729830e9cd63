/- Walks: the program computes the pure functions. -/
import Derived.Test.YtmhalmnbgkpmnaaW1
namespace Go.Proofs.Ytmhalmnbgkpmnaa
open Go.RowKit K
set_option maxRecDepth 100000
set_option maxHeartbeats 4000000

theorem w_laws_heldChangeS {a_p0 : List ChangeT} {a_p1 : Int} {r : Int} {q0_0 : Option Addr} {l0_0 k0_0 : Nat} (h : laws_heldChangeS a_p0 a_p1 = some r) {w : World} (r0_0 : Rd tChange w q0_0 l0_0 k0_0 a_p0)   :
    Calls Try.prog 25 #[.slice q0_0 l0_0 k0_0, .int .i64 a_p1] w (fun en w' => en = .returned (.int .i64 r) ∧ Ext w w') := by
 obtain rfl := r0_0.1
 unfold laws_heldChangeS at h
 refine enter (vs := [_, _]) Try.func25 rfl rfl rfl rfl ?_
 refine WC.sr ?_
 refine ag ?_
 refine WL.nil (En.next (WC.seq (WC.sr ?_)))
 refine ag ?_
 refine WL.nil (En.next (WC.block ?_))
 obtain ⟨zy0, ezy0, h⟩ := bnd h
 refine WC.cut (X := (Int) × (Unit)) (.exit 0) (fun x => zy0 = .inl x.1) (fun x => match x with | (v_0e, ()) => [(1, .int .i64 v_0e)]) (fun x => match x with | (v_0e, ()) => []) ?_ ?_
 ·
  rintro ⟨v_0e, ⟨⟩⟩ hx
  replace hx : .inl v_0e = zy0 := hx.symm
  subst hx
  replace h := fork_l h
  show En _ _ _ _ [(1, .int .i64 v_0e)] []
  refine En.block_exit (En.next (WC.sr ?_))
  refine mv ?_
  refine ag ?_
  refine WL.nil (En.next (WC.ret ?_))
  refine En.ret1 rfl (Res.tmp rfl) ?_
  obtain rfl := Option.some.inj h
  intro w' hs
  exact ⟨rfl, hs.below⟩
 ·
  intro zK0_0
  refine WC.loopP (G := Unit) (fun s g => match s, g with | (v_0, v1_0), () => [(0, .slice q0_0 a_p0.length k0_0), (1, .int .i64 v_0), (5, .int .i64 v1_0)]) (fun s g => match s, g with | (v_0, v1_0), () => []) (a_p1, 0) () ezy0 (by exact sc (sc (sc sn))) (by exact (fun _ h => h)) ?_
  rintro zm0 ⟨v_0, v1_0⟩ ⟨⟩ zo0 zf0 zb0 ze0
  have zh0 : laws_heldChangeS_L0 a_p0 v_0 v1_0 = some zo0 := zf0
  unfold laws_heldChangeS_L0 at zh0
  show WC _ _ _ _ _ [(0, .slice q0_0 a_p0.length k0_0), (1, .int .i64 v_0), (5, .int .i64 v1_0)] []
  refine WC.seq (WC.sr ?_)
  refine mv ?_
  refine mv ?_
  refine sp (OpV.len rfl si_31 rfl) ?_
  refine sp (OpV.lss rfl rfl) ?_
  refine WL.nil (En.next ?_)
  refine WC.cond rfl ?_ ?_
  ·
   intro hc_1
   replace zh0 := ifO_t hc_1 zh0
   refine WC.skip (En.next (WC.seq (WC.block (WC.seq (WC.seq ?_)))))
   obtain ⟨x4_2, e4_2, zh0⟩ := bnd zh0
   obtain ⟨g4_2, o4_2, _, ha4_2, ⟨a4_2_1, c4_2_1, a4_2_2, c4_2_2, a4_2_3, c4_2_3, rfl, r4_2_1, r4_2_2, r4_2_3⟩, hd4_2⟩ := Rd.atIdx r0_0 e4_2
   replace hd4_2 : ∀ (j : Nat) v, ([.int .i64 x4_2.Plane, .bool x4_2.Value.On, .int .i64 x4_2.Value.X, .int .i64 x4_2.Value.Y, .int .i64 x4_2.Value.W, .int .i64 x4_2.Value.H, .int .i64 x4_2.Value.Layout, .slice a4_2_1 x4_2.Value.Words.length c4_2_1, .int .i64 x4_2.Value.Alpha, .int .i64 x4_2.Value.Orient, .int .i64 x4_2.Value.ToW, .int .i64 x4_2.Value.ToH, .slice a4_2_2 x4_2.Color.Matrix.length c4_2_2, .slice a4_2_3 x4_2.Color.Curve.length c4_2_3] : List Value)[j]? = some v → w.cell? ⟨g4_2, o4_2 + v1_0.toNat * 14 + j, .none⟩ = some v := hd4_2
   refine WC.region ?_
   refine mv ?_
   refine mv ?_
   refine sp (OpV.idxA rfl rfl se_31 ha4_2 ⟨(idx_some e4_2).1, (idx_some e4_2).2.1⟩) ?_
   refine sp (OpV.fieldAddr rfl fo_58_0) ?_
   refine sp (OpV.load1 rfl pt_3 (fun w hs => hs.cell (hd4_2 0 _ rfl))) ?_
   refine mv ?_
   refine sp (OpV.neq rfl rfl) ?_
   refine WL.nil (En.next ?_)
   refine WC.cond rfl ?_ ?_
   ·
    intro hc_2
    replace zh0 := ifO_t hc_2 zh0
    refine WC.sr ?_
    refine ag ?_
    refine WL.nil (En.next (WC.ret (En.then_ret (En.block_ret (En.then_ret (En.then_ret (En.block_ret (En.then_ret ?_))))))))
    refine En.ret1 rfl (Res.tmp rfl) ?_
    have hx := exitP ze0 zh0
    subst hx
    replace h := fork_r h
    obtain rfl := Option.some.inj h
    intro w' hs
    exact ⟨rfl, hs.below⟩
   ·
    intro hc_2
    replace zh0 := ifO_f hc_2 zh0
    refine WC.skip (En.next (WC.sr ?_))
    refine mv ?_
    refine sp (OpV.addR rfl rfl) ?_
    refine ag ?_
    refine WL.nil (En.next (WC.seq (WC.seq ?_)))
    obtain ⟨x7_2, e7_2, zh0⟩ := bnd zh0
    obtain ⟨g7_2, o7_2, _, ha7_2, ⟨a7_2_1, c7_2_1, a7_2_2, c7_2_2, a7_2_3, c7_2_3, rfl, r7_2_1, r7_2_2, r7_2_3⟩, hd7_2⟩ := Rd.atIdx r0_0 e7_2
    replace hd7_2 : ∀ (j : Nat) v, ([.int .i64 x7_2.Plane, .bool x7_2.Value.On, .int .i64 x7_2.Value.X, .int .i64 x7_2.Value.Y, .int .i64 x7_2.Value.W, .int .i64 x7_2.Value.H, .int .i64 x7_2.Value.Layout, .slice a7_2_1 x7_2.Value.Words.length c7_2_1, .int .i64 x7_2.Value.Alpha, .int .i64 x7_2.Value.Orient, .int .i64 x7_2.Value.ToW, .int .i64 x7_2.Value.ToH, .slice a7_2_2 x7_2.Color.Matrix.length c7_2_2, .slice a7_2_3 x7_2.Color.Curve.length c7_2_3] : List Value)[j]? = some v → w.cell? ⟨g7_2, o7_2 + v1_0.toNat * 14 + j, .none⟩ = some v := hd7_2
    refine WC.region ?_
    refine mv ?_
    refine mv ?_
    refine sp (OpV.idxA rfl rfl se_31 ha7_2 ⟨(idx_some e7_2).1, (idx_some e7_2).2.1⟩) ?_
    refine sp (OpV.fieldAddr rfl fo_58_1) ?_
    refine sp (OpV.fieldAddr rfl fo_56_0) ?_
    refine sp (OpV.load1 rfl pt_4 (fun w hs => hs.cell (hd7_2 1 _ rfl))) ?_
    refine mv ?_
    refine sp (OpV.remR rfl rfl rfl) ?_
    refine sp (OpV.eql rfl rfl) ?_
    refine sp (OpV.bneq rfl rfl ub_4) ?_
    refine WL.nil (En.next ?_)
    refine WC.cond rfl ?_ ?_
    ·
     intro hc_3
     replace zh0 := ifO_t hc_3 zh0
     refine WC.sr ?_
     refine ag ?_
     refine WL.nil (En.next (WC.ret (En.then_ret (En.block_ret (En.then_ret (En.then_ret (En.block_ret (En.then_ret ?_))))))))
     refine En.ret1 rfl (Res.tmp rfl) ?_
     have hx := exitP ze0 zh0
     subst hx
     replace h := fork_r h
     obtain rfl := Option.some.inj h
     intro w' hs
     exact ⟨rfl, hs.below⟩
    ·
     intro hc_3
     replace zh0 := ifO_f hc_3 zh0
     refine WC.skip (En.next (WC.sr ?_))
     refine mv ?_
     refine sp (OpV.addR rfl rfl) ?_
     refine ag ?_
     refine WL.nil (En.next (WC.seq (WC.seq ?_)))
     obtain ⟨x10_2, e10_2, zh0⟩ := bnd zh0
     obtain ⟨g10_2, o10_2, _, ha10_2, ⟨a10_2_1, c10_2_1, a10_2_2, c10_2_2, a10_2_3, c10_2_3, rfl, r10_2_1, r10_2_2, r10_2_3⟩, hd10_2⟩ := Rd.atIdx r0_0 e10_2
     replace hd10_2 : ∀ (j : Nat) v, ([.int .i64 x10_2.Plane, .bool x10_2.Value.On, .int .i64 x10_2.Value.X, .int .i64 x10_2.Value.Y, .int .i64 x10_2.Value.W, .int .i64 x10_2.Value.H, .int .i64 x10_2.Value.Layout, .slice a10_2_1 x10_2.Value.Words.length c10_2_1, .int .i64 x10_2.Value.Alpha, .int .i64 x10_2.Value.Orient, .int .i64 x10_2.Value.ToW, .int .i64 x10_2.Value.ToH, .slice a10_2_2 x10_2.Color.Matrix.length c10_2_2, .slice a10_2_3 x10_2.Color.Curve.length c10_2_3] : List Value)[j]? = some v → w.cell? ⟨g10_2, o10_2 + v1_0.toNat * 14 + j, .none⟩ = some v := hd10_2
     refine WC.region ?_
     refine mv ?_
     refine mv ?_
     refine sp (OpV.idxA rfl rfl se_31 ha10_2 ⟨(idx_some e10_2).1, (idx_some e10_2).2.1⟩) ?_
     refine sp (OpV.fieldAddr rfl fo_58_1) ?_
     refine sp (OpV.fieldAddr rfl fo_56_1) ?_
     refine sp (OpV.load1 rfl pt_3 (fun w hs => hs.cell (hd10_2 2 _ rfl))) ?_
     refine mv ?_
     refine sp (OpV.neq rfl rfl) ?_
     refine WL.nil (En.next ?_)
     refine WC.cond rfl ?_ ?_
     ·
      intro hc_4
      replace zh0 := ifO_t hc_4 zh0
      refine WC.sr ?_
      refine ag ?_
      refine WL.nil (En.next (WC.ret (En.then_ret (En.block_ret (En.then_ret (En.then_ret (En.block_ret (En.then_ret ?_))))))))
      refine En.ret1 rfl (Res.tmp rfl) ?_
      have hx := exitP ze0 zh0
      subst hx
      replace h := fork_r h
      obtain rfl := Option.some.inj h
      intro w' hs
      exact ⟨rfl, hs.below⟩
     ·
      intro hc_4
      replace zh0 := ifO_f hc_4 zh0
      refine WC.skip (En.next (WC.sr ?_))
      refine mv ?_
      refine sp (OpV.addR rfl rfl) ?_
      refine ag ?_
      refine WL.nil (En.next (WC.seq (WC.seq ?_)))
      obtain ⟨x13_2, e13_2, zh0⟩ := bnd zh0
      obtain ⟨g13_2, o13_2, _, ha13_2, ⟨a13_2_1, c13_2_1, a13_2_2, c13_2_2, a13_2_3, c13_2_3, rfl, r13_2_1, r13_2_2, r13_2_3⟩, hd13_2⟩ := Rd.atIdx r0_0 e13_2
      replace hd13_2 : ∀ (j : Nat) v, ([.int .i64 x13_2.Plane, .bool x13_2.Value.On, .int .i64 x13_2.Value.X, .int .i64 x13_2.Value.Y, .int .i64 x13_2.Value.W, .int .i64 x13_2.Value.H, .int .i64 x13_2.Value.Layout, .slice a13_2_1 x13_2.Value.Words.length c13_2_1, .int .i64 x13_2.Value.Alpha, .int .i64 x13_2.Value.Orient, .int .i64 x13_2.Value.ToW, .int .i64 x13_2.Value.ToH, .slice a13_2_2 x13_2.Color.Matrix.length c13_2_2, .slice a13_2_3 x13_2.Color.Curve.length c13_2_3] : List Value)[j]? = some v → w.cell? ⟨g13_2, o13_2 + v1_0.toNat * 14 + j, .none⟩ = some v := hd13_2
      refine WC.region ?_
      refine mv ?_
      refine mv ?_
      refine sp (OpV.idxA rfl rfl se_31 ha13_2 ⟨(idx_some e13_2).1, (idx_some e13_2).2.1⟩) ?_
      refine sp (OpV.fieldAddr rfl fo_58_1) ?_
      refine sp (OpV.fieldAddr rfl fo_56_2) ?_
      refine sp (OpV.load1 rfl pt_3 (fun w hs => hs.cell (hd13_2 3 _ rfl))) ?_
      refine mv ?_
      refine sp (OpV.neq rfl rfl) ?_
      refine WL.nil (En.next ?_)
      refine WC.cond rfl ?_ ?_
      ·
       intro hc_5
       replace zh0 := ifO_t hc_5 zh0
       refine WC.sr ?_
       refine ag ?_
       refine WL.nil (En.next (WC.ret (En.then_ret (En.block_ret (En.then_ret (En.then_ret (En.block_ret (En.then_ret ?_))))))))
       refine En.ret1 rfl (Res.tmp rfl) ?_
       have hx := exitP ze0 zh0
       subst hx
       replace h := fork_r h
       obtain rfl := Option.some.inj h
       intro w' hs
       exact ⟨rfl, hs.below⟩
      ·
       intro hc_5
       replace zh0 := ifO_f hc_5 zh0
       refine WC.skip (En.next (WC.sr ?_))
       refine mv ?_
       refine sp (OpV.addR rfl rfl) ?_
       refine ag ?_
       refine WL.nil (En.next (WC.seq (WC.seq ?_)))
       obtain ⟨x16_2, e16_2, zh0⟩ := bnd zh0
       obtain ⟨g16_2, o16_2, _, ha16_2, ⟨a16_2_1, c16_2_1, a16_2_2, c16_2_2, a16_2_3, c16_2_3, rfl, r16_2_1, r16_2_2, r16_2_3⟩, hd16_2⟩ := Rd.atIdx r0_0 e16_2
       replace hd16_2 : ∀ (j : Nat) v, ([.int .i64 x16_2.Plane, .bool x16_2.Value.On, .int .i64 x16_2.Value.X, .int .i64 x16_2.Value.Y, .int .i64 x16_2.Value.W, .int .i64 x16_2.Value.H, .int .i64 x16_2.Value.Layout, .slice a16_2_1 x16_2.Value.Words.length c16_2_1, .int .i64 x16_2.Value.Alpha, .int .i64 x16_2.Value.Orient, .int .i64 x16_2.Value.ToW, .int .i64 x16_2.Value.ToH, .slice a16_2_2 x16_2.Color.Matrix.length c16_2_2, .slice a16_2_3 x16_2.Color.Curve.length c16_2_3] : List Value)[j]? = some v → w.cell? ⟨g16_2, o16_2 + v1_0.toNat * 14 + j, .none⟩ = some v := hd16_2
       refine WC.region ?_
       refine mv ?_
       refine mv ?_
       refine sp (OpV.idxA rfl rfl se_31 ha16_2 ⟨(idx_some e16_2).1, (idx_some e16_2).2.1⟩) ?_
       refine sp (OpV.fieldAddr rfl fo_58_1) ?_
       refine sp (OpV.fieldAddr rfl fo_56_3) ?_
       refine sp (OpV.load1 rfl pt_3 (fun w hs => hs.cell (hd16_2 4 _ rfl))) ?_
       refine mv ?_
       refine sp (OpV.neq rfl rfl) ?_
       refine WL.nil (En.next ?_)
       refine WC.cond rfl ?_ ?_
       ·
        intro hc_6
        replace zh0 := ifO_t hc_6 zh0
        refine WC.sr ?_
        refine ag ?_
        refine WL.nil (En.next (WC.ret (En.then_ret (En.block_ret (En.then_ret (En.then_ret (En.block_ret (En.then_ret ?_))))))))
        refine En.ret1 rfl (Res.tmp rfl) ?_
        have hx := exitP ze0 zh0
        subst hx
        replace h := fork_r h
        obtain rfl := Option.some.inj h
        intro w' hs
        exact ⟨rfl, hs.below⟩
       ·
        intro hc_6
        replace zh0 := ifO_f hc_6 zh0
        refine WC.skip (En.next (WC.sr ?_))
        refine mv ?_
        refine sp (OpV.addR rfl rfl) ?_
        refine ag ?_
        refine WL.nil (En.next (WC.seq (WC.seq ?_)))
        obtain ⟨x19_2, e19_2, zh0⟩ := bnd zh0
        obtain ⟨g19_2, o19_2, _, ha19_2, ⟨a19_2_1, c19_2_1, a19_2_2, c19_2_2, a19_2_3, c19_2_3, rfl, r19_2_1, r19_2_2, r19_2_3⟩, hd19_2⟩ := Rd.atIdx r0_0 e19_2
        replace hd19_2 : ∀ (j : Nat) v, ([.int .i64 x19_2.Plane, .bool x19_2.Value.On, .int .i64 x19_2.Value.X, .int .i64 x19_2.Value.Y, .int .i64 x19_2.Value.W, .int .i64 x19_2.Value.H, .int .i64 x19_2.Value.Layout, .slice a19_2_1 x19_2.Value.Words.length c19_2_1, .int .i64 x19_2.Value.Alpha, .int .i64 x19_2.Value.Orient, .int .i64 x19_2.Value.ToW, .int .i64 x19_2.Value.ToH, .slice a19_2_2 x19_2.Color.Matrix.length c19_2_2, .slice a19_2_3 x19_2.Color.Curve.length c19_2_3] : List Value)[j]? = some v → w.cell? ⟨g19_2, o19_2 + v1_0.toNat * 14 + j, .none⟩ = some v := hd19_2
        refine WC.region ?_
        refine mv ?_
        refine mv ?_
        refine sp (OpV.idxA rfl rfl se_31 ha19_2 ⟨(idx_some e19_2).1, (idx_some e19_2).2.1⟩) ?_
        refine sp (OpV.fieldAddr rfl fo_58_1) ?_
        refine sp (OpV.fieldAddr rfl fo_56_4) ?_
        refine sp (OpV.load1 rfl pt_3 (fun w hs => hs.cell (hd19_2 5 _ rfl))) ?_
        refine mv ?_
        refine sp (OpV.neq rfl rfl) ?_
        refine WL.nil (En.next ?_)
        refine WC.cond rfl ?_ ?_
        ·
         intro hc_7
         replace zh0 := ifO_t hc_7 zh0
         refine WC.sr ?_
         refine ag ?_
         refine WL.nil (En.next (WC.ret (En.then_ret (En.block_ret (En.then_ret (En.then_ret (En.block_ret (En.then_ret ?_))))))))
         refine En.ret1 rfl (Res.tmp rfl) ?_
         have hx := exitP ze0 zh0
         subst hx
         replace h := fork_r h
         obtain rfl := Option.some.inj h
         intro w' hs
         exact ⟨rfl, hs.below⟩
        ·
         intro hc_7
         replace zh0 := ifO_f hc_7 zh0
         refine WC.skip (En.next (WC.sr ?_))
         refine mv ?_
         refine sp (OpV.addR rfl rfl) ?_
         refine ag ?_
         refine WL.nil (En.next (WC.seq (WC.seq ?_)))
         obtain ⟨x22_2, e22_2, zh0⟩ := bnd zh0
         obtain ⟨g22_2, o22_2, _, ha22_2, ⟨a22_2_1, c22_2_1, a22_2_2, c22_2_2, a22_2_3, c22_2_3, rfl, r22_2_1, r22_2_2, r22_2_3⟩, hd22_2⟩ := Rd.atIdx r0_0 e22_2
         replace hd22_2 : ∀ (j : Nat) v, ([.int .i64 x22_2.Plane, .bool x22_2.Value.On, .int .i64 x22_2.Value.X, .int .i64 x22_2.Value.Y, .int .i64 x22_2.Value.W, .int .i64 x22_2.Value.H, .int .i64 x22_2.Value.Layout, .slice a22_2_1 x22_2.Value.Words.length c22_2_1, .int .i64 x22_2.Value.Alpha, .int .i64 x22_2.Value.Orient, .int .i64 x22_2.Value.ToW, .int .i64 x22_2.Value.ToH, .slice a22_2_2 x22_2.Color.Matrix.length c22_2_2, .slice a22_2_3 x22_2.Color.Curve.length c22_2_3] : List Value)[j]? = some v → w.cell? ⟨g22_2, o22_2 + v1_0.toNat * 14 + j, .none⟩ = some v := hd22_2
         refine WC.region ?_
         refine mv ?_
         refine mv ?_
         refine sp (OpV.idxA rfl rfl se_31 ha22_2 ⟨(idx_some e22_2).1, (idx_some e22_2).2.1⟩) ?_
         refine sp (OpV.fieldAddr rfl fo_58_1) ?_
         refine sp (OpV.fieldAddr rfl fo_56_5) ?_
         refine sp (OpV.load1 rfl pt_3 (fun w hs => hs.cell (hd22_2 6 _ rfl))) ?_
         refine mv ?_
         refine sp (OpV.neq rfl rfl) ?_
         refine WL.nil (En.next ?_)
         refine WC.cond rfl ?_ ?_
         ·
          intro hc_8
          replace zh0 := ifO_t hc_8 zh0
          refine WC.sr ?_
          refine ag ?_
          refine WL.nil (En.next (WC.ret (En.then_ret (En.block_ret (En.then_ret (En.then_ret (En.block_ret (En.then_ret ?_))))))))
          refine En.ret1 rfl (Res.tmp rfl) ?_
          have hx := exitP ze0 zh0
          subst hx
          replace h := fork_r h
          obtain rfl := Option.some.inj h
          intro w' hs
          exact ⟨rfl, hs.below⟩
         ·
          intro hc_8
          replace zh0 := ifO_f hc_8 zh0
          refine WC.skip (En.next (WC.sr ?_))
          refine mv ?_
          refine sp (OpV.addR rfl rfl) ?_
          refine ag ?_
          refine WL.nil (En.next (WC.seq ?_))
          obtain ⟨x25_2, e25_2, zh0⟩ := bnd zh0
          obtain ⟨g25_2, o25_2, _, ha25_2, ⟨a25_2_1, c25_2_1, a25_2_2, c25_2_2, a25_2_3, c25_2_3, rfl, r25_2_1, r25_2_2, r25_2_3⟩, hd25_2⟩ := Rd.atIdx r0_0 e25_2
          replace hd25_2 : ∀ (j : Nat) v, ([.int .i64 x25_2.Plane, .bool x25_2.Value.On, .int .i64 x25_2.Value.X, .int .i64 x25_2.Value.Y, .int .i64 x25_2.Value.W, .int .i64 x25_2.Value.H, .int .i64 x25_2.Value.Layout, .slice a25_2_1 x25_2.Value.Words.length c25_2_1, .int .i64 x25_2.Value.Alpha, .int .i64 x25_2.Value.Orient, .int .i64 x25_2.Value.ToW, .int .i64 x25_2.Value.ToH, .slice a25_2_2 x25_2.Color.Matrix.length c25_2_2, .slice a25_2_3 x25_2.Color.Curve.length c25_2_3] : List Value)[j]? = some v → w.cell? ⟨g25_2, o25_2 + v1_0.toNat * 14 + j, .none⟩ = some v := hd25_2
          obtain ⟨x25_7, e25_7, zh0⟩ := bnd zh0
          refine WC.region ?_
          refine mv ?_
          refine mv ?_
          refine sp (OpV.idxA rfl rfl se_31 ha25_2 ⟨(idx_some e25_2).1, (idx_some e25_2).2.1⟩) ?_
          refine sp (OpV.fieldAddr rfl fo_58_1) ?_
          refine sp (OpV.fieldAddr rfl fo_56_6) ?_
          refine sp (OpV.load1 rfl pt_23 (fun w hs => hs.cell (hd25_2 7 _ rfl))) ?_
          refine mv ?_
          refine sp (OpV.call (ec rfl (ec rfl e0)) ca_68 (fun w hs => w_laws_heldIntS e25_7 (r25_2_1.ext hs.below))) ?_
          refine ag ?_
          refine WL.nil (En.next (WC.seq (WC.sr ?_)))
          refine mv ?_
          refine sp (OpV.lss rfl rfl) ?_
          refine WL.nil (En.next ?_)
          refine WC.cond rfl ?_ ?_
          ·
           intro hc_9
           replace zh0 := ifO_t hc_9 zh0
           refine WC.sr ?_
           refine ag ?_
           refine WL.nil (En.next (WC.ret (En.then_ret (En.block_ret (En.then_ret (En.then_ret (En.block_ret (En.then_ret ?_))))))))
           refine En.ret1 rfl (Res.tmp rfl) ?_
           have hx := exitP ze0 zh0
           subst hx
           replace h := fork_r h
           obtain rfl := Option.some.inj h
           intro w' hs
           exact ⟨rfl, hs.below⟩
          ·
           intro hc_9
           replace zh0 := ifO_f hc_9 zh0
           refine WC.skip (En.next (WC.seq (WC.seq ?_)))
           obtain ⟨x28_2, e28_2, zh0⟩ := bnd zh0
           obtain ⟨g28_2, o28_2, _, ha28_2, ⟨a28_2_1, c28_2_1, a28_2_2, c28_2_2, a28_2_3, c28_2_3, rfl, r28_2_1, r28_2_2, r28_2_3⟩, hd28_2⟩ := Rd.atIdx r0_0 e28_2
           replace hd28_2 : ∀ (j : Nat) v, ([.int .i64 x28_2.Plane, .bool x28_2.Value.On, .int .i64 x28_2.Value.X, .int .i64 x28_2.Value.Y, .int .i64 x28_2.Value.W, .int .i64 x28_2.Value.H, .int .i64 x28_2.Value.Layout, .slice a28_2_1 x28_2.Value.Words.length c28_2_1, .int .i64 x28_2.Value.Alpha, .int .i64 x28_2.Value.Orient, .int .i64 x28_2.Value.ToW, .int .i64 x28_2.Value.ToH, .slice a28_2_2 x28_2.Color.Matrix.length c28_2_2, .slice a28_2_3 x28_2.Color.Curve.length c28_2_3] : List Value)[j]? = some v → w.cell? ⟨g28_2, o28_2 + v1_0.toNat * 14 + j, .none⟩ = some v := hd28_2
           refine WC.region ?_
           refine mv ?_
           refine mv ?_
           refine sp (OpV.idxA rfl rfl se_31 ha28_2 ⟨(idx_some e28_2).1, (idx_some e28_2).2.1⟩) ?_
           refine sp (OpV.fieldAddr rfl fo_58_1) ?_
           refine sp (OpV.fieldAddr rfl fo_56_7) ?_
           refine sp (OpV.load1 rfl pt_3 (fun w hs => hs.cell (hd28_2 8 _ rfl))) ?_
           refine mv ?_
           refine sp (OpV.neq rfl rfl) ?_
           refine WL.nil (En.next ?_)
           refine WC.cond rfl ?_ ?_
           ·
            intro hc_10
            replace zh0 := ifO_t hc_10 zh0
            refine WC.sr ?_
            refine ag ?_
            refine WL.nil (En.next (WC.ret (En.then_ret (En.block_ret (En.then_ret (En.then_ret (En.block_ret (En.then_ret ?_))))))))
            refine En.ret1 rfl (Res.tmp rfl) ?_
            have hx := exitP ze0 zh0
            subst hx
            replace h := fork_r h
            obtain rfl := Option.some.inj h
            intro w' hs
            exact ⟨rfl, hs.below⟩
           ·
            intro hc_10
            replace zh0 := ifO_f hc_10 zh0
            refine WC.skip (En.next (WC.sr ?_))
            refine mv ?_
            refine sp (OpV.addR rfl rfl) ?_
            refine ag ?_
            refine WL.nil (En.next (WC.seq (WC.seq ?_)))
            obtain ⟨x31_2, e31_2, zh0⟩ := bnd zh0
            obtain ⟨g31_2, o31_2, _, ha31_2, ⟨a31_2_1, c31_2_1, a31_2_2, c31_2_2, a31_2_3, c31_2_3, rfl, r31_2_1, r31_2_2, r31_2_3⟩, hd31_2⟩ := Rd.atIdx r0_0 e31_2
            replace hd31_2 : ∀ (j : Nat) v, ([.int .i64 x31_2.Plane, .bool x31_2.Value.On, .int .i64 x31_2.Value.X, .int .i64 x31_2.Value.Y, .int .i64 x31_2.Value.W, .int .i64 x31_2.Value.H, .int .i64 x31_2.Value.Layout, .slice a31_2_1 x31_2.Value.Words.length c31_2_1, .int .i64 x31_2.Value.Alpha, .int .i64 x31_2.Value.Orient, .int .i64 x31_2.Value.ToW, .int .i64 x31_2.Value.ToH, .slice a31_2_2 x31_2.Color.Matrix.length c31_2_2, .slice a31_2_3 x31_2.Color.Curve.length c31_2_3] : List Value)[j]? = some v → w.cell? ⟨g31_2, o31_2 + v1_0.toNat * 14 + j, .none⟩ = some v := hd31_2
            refine WC.region ?_
            refine mv ?_
            refine mv ?_
            refine sp (OpV.idxA rfl rfl se_31 ha31_2 ⟨(idx_some e31_2).1, (idx_some e31_2).2.1⟩) ?_
            refine sp (OpV.fieldAddr rfl fo_58_1) ?_
            refine sp (OpV.fieldAddr rfl fo_56_8) ?_
            refine sp (OpV.load1 rfl pt_3 (fun w hs => hs.cell (hd31_2 9 _ rfl))) ?_
            refine mv ?_
            refine sp (OpV.neq rfl rfl) ?_
            refine WL.nil (En.next ?_)
            refine WC.cond rfl ?_ ?_
            ·
             intro hc_11
             replace zh0 := ifO_t hc_11 zh0
             refine WC.sr ?_
             refine ag ?_
             refine WL.nil (En.next (WC.ret (En.then_ret (En.block_ret (En.then_ret (En.then_ret (En.block_ret (En.then_ret ?_))))))))
             refine En.ret1 rfl (Res.tmp rfl) ?_
             have hx := exitP ze0 zh0
             subst hx
             replace h := fork_r h
             obtain rfl := Option.some.inj h
             intro w' hs
             exact ⟨rfl, hs.below⟩
            ·
             intro hc_11
             replace zh0 := ifO_f hc_11 zh0
             refine WC.skip (En.next (WC.sr ?_))
             refine mv ?_
             refine sp (OpV.addR rfl rfl) ?_
             refine ag ?_
             refine WL.nil (En.next (WC.seq (WC.seq ?_)))
             obtain ⟨x34_2, e34_2, zh0⟩ := bnd zh0
             obtain ⟨g34_2, o34_2, _, ha34_2, ⟨a34_2_1, c34_2_1, a34_2_2, c34_2_2, a34_2_3, c34_2_3, rfl, r34_2_1, r34_2_2, r34_2_3⟩, hd34_2⟩ := Rd.atIdx r0_0 e34_2
             replace hd34_2 : ∀ (j : Nat) v, ([.int .i64 x34_2.Plane, .bool x34_2.Value.On, .int .i64 x34_2.Value.X, .int .i64 x34_2.Value.Y, .int .i64 x34_2.Value.W, .int .i64 x34_2.Value.H, .int .i64 x34_2.Value.Layout, .slice a34_2_1 x34_2.Value.Words.length c34_2_1, .int .i64 x34_2.Value.Alpha, .int .i64 x34_2.Value.Orient, .int .i64 x34_2.Value.ToW, .int .i64 x34_2.Value.ToH, .slice a34_2_2 x34_2.Color.Matrix.length c34_2_2, .slice a34_2_3 x34_2.Color.Curve.length c34_2_3] : List Value)[j]? = some v → w.cell? ⟨g34_2, o34_2 + v1_0.toNat * 14 + j, .none⟩ = some v := hd34_2
             refine WC.region ?_
             refine mv ?_
             refine mv ?_
             refine sp (OpV.idxA rfl rfl se_31 ha34_2 ⟨(idx_some e34_2).1, (idx_some e34_2).2.1⟩) ?_
             refine sp (OpV.fieldAddr rfl fo_58_1) ?_
             refine sp (OpV.fieldAddr rfl fo_56_9) ?_
             refine sp (OpV.load1 rfl pt_3 (fun w hs => hs.cell (hd34_2 10 _ rfl))) ?_
             refine mv ?_
             refine sp (OpV.neq rfl rfl) ?_
             refine WL.nil (En.next ?_)
             refine WC.cond rfl ?_ ?_
             ·
              intro hc_12
              replace zh0 := ifO_t hc_12 zh0
              refine WC.sr ?_
              refine ag ?_
              refine WL.nil (En.next (WC.ret (En.then_ret (En.block_ret (En.then_ret (En.then_ret (En.block_ret (En.then_ret ?_))))))))
              refine En.ret1 rfl (Res.tmp rfl) ?_
              have hx := exitP ze0 zh0
              subst hx
              replace h := fork_r h
              obtain rfl := Option.some.inj h
              intro w' hs
              exact ⟨rfl, hs.below⟩
             ·
              intro hc_12
              replace zh0 := ifO_f hc_12 zh0
              refine WC.skip (En.next (WC.sr ?_))
              refine mv ?_
              refine sp (OpV.addR rfl rfl) ?_
              refine ag ?_
              refine WL.nil (En.next (WC.seq (WC.seq ?_)))
              obtain ⟨x37_2, e37_2, zh0⟩ := bnd zh0
              obtain ⟨g37_2, o37_2, _, ha37_2, ⟨a37_2_1, c37_2_1, a37_2_2, c37_2_2, a37_2_3, c37_2_3, rfl, r37_2_1, r37_2_2, r37_2_3⟩, hd37_2⟩ := Rd.atIdx r0_0 e37_2
              replace hd37_2 : ∀ (j : Nat) v, ([.int .i64 x37_2.Plane, .bool x37_2.Value.On, .int .i64 x37_2.Value.X, .int .i64 x37_2.Value.Y, .int .i64 x37_2.Value.W, .int .i64 x37_2.Value.H, .int .i64 x37_2.Value.Layout, .slice a37_2_1 x37_2.Value.Words.length c37_2_1, .int .i64 x37_2.Value.Alpha, .int .i64 x37_2.Value.Orient, .int .i64 x37_2.Value.ToW, .int .i64 x37_2.Value.ToH, .slice a37_2_2 x37_2.Color.Matrix.length c37_2_2, .slice a37_2_3 x37_2.Color.Curve.length c37_2_3] : List Value)[j]? = some v → w.cell? ⟨g37_2, o37_2 + v1_0.toNat * 14 + j, .none⟩ = some v := hd37_2
              refine WC.region ?_
              refine mv ?_
              refine mv ?_
              refine sp (OpV.idxA rfl rfl se_31 ha37_2 ⟨(idx_some e37_2).1, (idx_some e37_2).2.1⟩) ?_
              refine sp (OpV.fieldAddr rfl fo_58_1) ?_
              refine sp (OpV.fieldAddr rfl fo_56_10) ?_
              refine sp (OpV.load1 rfl pt_3 (fun w hs => hs.cell (hd37_2 11 _ rfl))) ?_
              refine mv ?_
              refine sp (OpV.neq rfl rfl) ?_
              refine WL.nil (En.next ?_)
              refine WC.cond rfl ?_ ?_
              ·
               intro hc_13
               replace zh0 := ifO_t hc_13 zh0
               refine WC.sr ?_
               refine ag ?_
               refine WL.nil (En.next (WC.ret (En.then_ret (En.block_ret (En.then_ret (En.then_ret (En.block_ret (En.then_ret ?_))))))))
               refine En.ret1 rfl (Res.tmp rfl) ?_
               have hx := exitP ze0 zh0
               subst hx
               replace h := fork_r h
               obtain rfl := Option.some.inj h
               intro w' hs
               exact ⟨rfl, hs.below⟩
              ·
               intro hc_13
               replace zh0 := ifO_f hc_13 zh0
               refine WC.skip (En.next (WC.sr ?_))
               refine mv ?_
               refine sp (OpV.addR rfl rfl) ?_
               refine ag ?_
               refine WL.nil (En.next (WC.seq ?_))
               obtain ⟨x40_2, e40_2, zh0⟩ := bnd zh0
               obtain ⟨g40_2, o40_2, _, ha40_2, ⟨a40_2_1, c40_2_1, a40_2_2, c40_2_2, a40_2_3, c40_2_3, rfl, r40_2_1, r40_2_2, r40_2_3⟩, hd40_2⟩ := Rd.atIdx r0_0 e40_2
               replace hd40_2 : ∀ (j : Nat) v, ([.int .i64 x40_2.Plane, .bool x40_2.Value.On, .int .i64 x40_2.Value.X, .int .i64 x40_2.Value.Y, .int .i64 x40_2.Value.W, .int .i64 x40_2.Value.H, .int .i64 x40_2.Value.Layout, .slice a40_2_1 x40_2.Value.Words.length c40_2_1, .int .i64 x40_2.Value.Alpha, .int .i64 x40_2.Value.Orient, .int .i64 x40_2.Value.ToW, .int .i64 x40_2.Value.ToH, .slice a40_2_2 x40_2.Color.Matrix.length c40_2_2, .slice a40_2_3 x40_2.Color.Curve.length c40_2_3] : List Value)[j]? = some v → w.cell? ⟨g40_2, o40_2 + v1_0.toNat * 14 + j, .none⟩ = some v := hd40_2
               obtain ⟨x40_7, e40_7, zh0⟩ := bnd zh0
               refine WC.region ?_
               refine mv ?_
               refine mv ?_
               refine sp (OpV.idxA rfl rfl se_31 ha40_2 ⟨(idx_some e40_2).1, (idx_some e40_2).2.1⟩) ?_
               refine sp (OpV.fieldAddr rfl fo_58_2) ?_
               refine sp (OpV.fieldAddr rfl fo_34_0) ?_
               refine sp (OpV.load1 rfl pt_23 (fun w hs => hs.cell (hd40_2 12 _ rfl))) ?_
               refine mv ?_
               refine sp (OpV.call (ec rfl (ec rfl e0)) ca_68 (fun w hs => w_laws_heldIntS e40_7 (r40_2_2.ext hs.below))) ?_
               refine ag ?_
               refine WL.nil (En.next (WC.seq (WC.sr ?_)))
               refine mv ?_
               refine sp (OpV.lss rfl rfl) ?_
               refine WL.nil (En.next ?_)
               refine WC.cond rfl ?_ ?_
               ·
                intro hc_14
                replace zh0 := ifO_t hc_14 zh0
                refine WC.sr ?_
                refine ag ?_
                refine WL.nil (En.next (WC.ret (En.then_ret (En.block_ret (En.then_ret (En.then_ret (En.block_ret (En.then_ret ?_))))))))
                refine En.ret1 rfl (Res.tmp rfl) ?_
                have hx := exitP ze0 zh0
                subst hx
                replace h := fork_r h
                obtain rfl := Option.some.inj h
                intro w' hs
                exact ⟨rfl, hs.below⟩
               ·
                intro hc_14
                replace zh0 := ifO_f hc_14 zh0
                refine WC.skip (En.next (WC.seq ?_))
                obtain ⟨x43_2, e43_2, zh0⟩ := bnd zh0
                obtain ⟨g43_2, o43_2, _, ha43_2, ⟨a43_2_1, c43_2_1, a43_2_2, c43_2_2, a43_2_3, c43_2_3, rfl, r43_2_1, r43_2_2, r43_2_3⟩, hd43_2⟩ := Rd.atIdx r0_0 e43_2
                replace hd43_2 : ∀ (j : Nat) v, ([.int .i64 x43_2.Plane, .bool x43_2.Value.On, .int .i64 x43_2.Value.X, .int .i64 x43_2.Value.Y, .int .i64 x43_2.Value.W, .int .i64 x43_2.Value.H, .int .i64 x43_2.Value.Layout, .slice a43_2_1 x43_2.Value.Words.length c43_2_1, .int .i64 x43_2.Value.Alpha, .int .i64 x43_2.Value.Orient, .int .i64 x43_2.Value.ToW, .int .i64 x43_2.Value.ToH, .slice a43_2_2 x43_2.Color.Matrix.length c43_2_2, .slice a43_2_3 x43_2.Color.Curve.length c43_2_3] : List Value)[j]? = some v → w.cell? ⟨g43_2, o43_2 + v1_0.toNat * 14 + j, .none⟩ = some v := hd43_2
                obtain ⟨x43_7, e43_7, zh0⟩ := bnd zh0
                refine WC.region ?_
                refine mv ?_
                refine mv ?_
                refine sp (OpV.idxA rfl rfl se_31 ha43_2 ⟨(idx_some e43_2).1, (idx_some e43_2).2.1⟩) ?_
                refine sp (OpV.fieldAddr rfl fo_58_2) ?_
                refine sp (OpV.fieldAddr rfl fo_34_1) ?_
                refine sp (OpV.load1 rfl pt_23 (fun w hs => hs.cell (hd43_2 13 _ rfl))) ?_
                refine mv ?_
                refine sp (OpV.call (ec rfl (ec rfl e0)) ca_68 (fun w hs => w_laws_heldIntS e43_7 (r43_2_3.ext hs.below))) ?_
                refine ag ?_
                refine WL.nil (En.next (WC.sr ?_))
                refine mv ?_
                refine sp (OpV.lss rfl rfl) ?_
                refine WL.nil (En.next ?_)
                refine WC.cond rfl ?_ ?_
                ·
                 intro hc_15
                 replace zh0 := ifO_t hc_15 zh0
                 refine WC.sr ?_
                 refine ag ?_
                 refine WL.nil (En.next (WC.ret (En.block_ret (En.then_ret (En.then_ret (En.block_ret (En.then_ret ?_)))))))
                 refine En.ret1 rfl (Res.tmp rfl) ?_
                 have hx := exitP ze0 zh0
                 subst hx
                 replace h := fork_r h
                 obtain rfl := Option.some.inj h
                 intro w' hs
                 exact ⟨rfl, hs.below⟩
                ·
                 intro hc_15
                 replace zh0 := ifO_f hc_15 zh0
                 refine WC.skip (En.block_norm (En.next (WC.region ?_)))
                 refine mv ?_
                 refine sp (OpV.addR rfl rfl) ?_
                 refine ag ?_
                 refine WL.nil ?_
                 exact En.backP zb0 zh0 () (sc (sc (sc sn))) (fun _ h => h)
  ·
   intro hc_1
   replace zh0 := ifO_f hc_1 zh0
   refine WC.exit (En.then_exit (En.then_exit ?_))
   have hx := exitP ze0 zh0
   exact En.wk _ _ (sc sn) (fun _ h => h) (zK0_0 (v_0, ()) hx.symm)

theorem w_laws_FnExactChangesFor {a_p0 : CrtcT} {a_p1 : List PlaneT} {a_p2 : ColorMapT} {r : Bool} {q0_0 : Option Addr} {l0_0 k0_0 : Nat} {q0_1 : Option Addr} {l0_1 k0_1 : Nat} {q0_2 : Option Addr} {l0_2 k0_2 : Nat} {q1_0 : Option Addr} {l1_0 k1_0 : Nat} {q2_0 : Option Addr} {l2_0 k2_0 : Nat} {q2_1 : Option Addr} {l2_1 k2_1 : Nat} (h : laws_FnExactChangesFor a_p0 a_p1 a_p2 = some r) {w : World} (r0_0 : Rd tPlane w q0_0 l0_0 k0_0 a_p0.Planes) (r0_1 : Rd tInt w q0_1 l0_1 k0_1 a_p0.Color.Matrix) (r0_2 : Rd tInt w q0_2 l0_2 k0_2 a_p0.Color.Curve) (r1_0 : Rd tPlane w q1_0 l1_0 k1_0 a_p1) (r2_0 : Rd tInt w q2_0 l2_0 k2_0 a_p2.Matrix) (r2_1 : Rd tInt w q2_1 l2_1 k2_1 a_p2.Curve)   :
    Calls Try.prog 3 #[.agg #[.int .i64 a_p0.W, .int .i64 a_p0.H, .slice q0_0 l0_0 k0_0, .slice q0_1 l0_1 k0_1, .slice q0_2 l0_2 k0_2], .slice q1_0 l1_0 k1_0, .agg #[.slice q2_0 l2_0 k2_0, .slice q2_1 l2_1 k2_1]] w (fun en w' => en = .returned (.bool r) ∧ Ext w w') := by
 obtain rfl := r0_0.1
 obtain rfl := r0_1.1
 obtain rfl := r0_2.1
 obtain rfl := r1_0.1
 obtain rfl := r2_0.1
 obtain rfl := r2_1.1
 unfold laws_FnExactChangesFor at h
 refine enter (vs := [_, _, _]) Try.func3 rfl rfl rfl rfl ?_
 refine WC.sr ?_
 refine WL.heavy rfl rfl rfl (OpH.box rfl rfl ?_)
 intro b0_0
 refine WL.heavy rfl rfl rfl (OpH.box rfl rfl ?_)
 intro b0_1
 refine ag ?_
 refine WL.nil (En.next (WC.sr ?_))
 refine ag ?_
 refine WL.nil (En.next (WC.seq ?_))
 obtain ⟨x2_2, e2_2, h⟩ := bnd h
 refine WC.region ?_
 refine sp (OpV.loadAll rfl mq1 ag_27) ?_
 refine mv ?_
 refine sp (OpV.call (ec rfl (ec rfl e0)) ca_9 (fun w hs => w_laws_szCrtc e2_2 (r0_0.ext hs.below) (r0_1.ext hs.below) (r0_2.ext hs.below))) ?_
 refine ag ?_
 refine WL.nil (En.next (WC.seq (WC.sr ?_)))
 refine mv ?_
 refine sp (OpV.lss rfl rfl) ?_
 refine WL.nil (En.next ?_)
 refine WC.cond rfl ?_ ?_
 ·
  intro hc_1
  replace h := ifO_t hc_1 h
  refine WC.sr ?_
  refine ag ?_
  refine WL.nil (En.next (WC.ret (En.then_ret ?_)))
  refine En.ret1 rfl (Res.tmp rfl) ?_
  obtain rfl := Option.some.inj h
  intro w' hs
  exact ⟨rfl, hs.below⟩
 ·
  intro hc_1
  replace h := ifO_f hc_1 h
  refine WC.skip (En.next (WC.seq ?_))
  obtain ⟨x5_2, e5_2, h⟩ := bnd h
  refine WC.region ?_
  refine mv ?_
  refine mv ?_
  refine sp (OpV.call (ec rfl (ec rfl e0)) ca_10 (fun w hs => w_laws_szPlaneS e5_2 (r1_0.ext hs.below))) ?_
  refine ag ?_
  refine WL.nil (En.next (WC.seq (WC.sr ?_)))
  refine mv ?_
  refine sp (OpV.lss rfl rfl) ?_
  refine WL.nil (En.next ?_)
  refine WC.cond rfl ?_ ?_
  ·
   intro hc_2
   replace h := ifO_t hc_2 h
   refine WC.sr ?_
   refine ag ?_
   refine WL.nil (En.next (WC.ret (En.then_ret ?_)))
   refine En.ret1 rfl (Res.tmp rfl) ?_
   obtain rfl := Option.some.inj h
   intro w' hs
   exact ⟨rfl, hs.below⟩
  ·
   intro hc_2
   replace h := ifO_f hc_2 h
   refine WC.skip (En.next (WC.seq ?_))
   obtain ⟨x8_2, e8_2, h⟩ := bnd h
   refine WC.region ?_
   refine sp (OpV.loadAll rfl mq0 ag_25) ?_
   refine mv ?_
   refine sp (OpV.call (ec rfl (ec rfl e0)) ca_11 (fun w hs => w_laws_szColorMap e8_2 (r2_0.ext hs.below) (r2_1.ext hs.below))) ?_
   refine ag ?_
   refine WL.nil (En.next (WC.seq (WC.sr ?_)))
   refine mv ?_
   refine sp (OpV.lss rfl rfl) ?_
   refine WL.nil (En.next ?_)
   refine WC.cond rfl ?_ ?_
   ·
    intro hc_3
    replace h := ifO_t hc_3 h
    refine WC.sr ?_
    refine ag ?_
    refine WL.nil (En.next (WC.ret (En.then_ret ?_)))
    refine En.ret1 rfl (Res.tmp rfl) ?_
    obtain rfl := Option.some.inj h
    intro w' hs
    exact ⟨rfl, hs.below⟩
   ·
    intro hc_3
    replace h := ifO_f hc_3 h
    refine WC.skip (En.next (WC.seq ?_))
    obtain ⟨x11_1, e11_1, h⟩ := bnd h
    obtain ⟨x11_3, e11_3, h⟩ := bnd h
    obtain ⟨x11_5, e11_5, h⟩ := bnd h
    obtain ⟨x11_6, e11_6, h⟩ := bnd h
    refine WC.drawnH [] ([_, _]) (fun _ h => h) (by kernel_rfl) ?_
    refine tk 0 rfl (OpV.loadAll rfl mq1 ag_27) ?_
    refine tk 2 rfl (OpV.move rfl) ?_
    refine tk 4 rfl (OpV.loadAll rfl mq0 ag_25) ?_
    refine al1 1 rfl ?_
    refine OpH.callR (ec rfl e0) ca_13 (fun w hs => w_laws_toCrtc e11_1 (r0_0.ext hs.below) (r0_1.ext hs.below) (r0_2.ext hs.below)) ?_
    rintro _ _ ⟨a11_100, n11_100, c11_100, f11_100, a11_101, n11_101, c11_101, f11_101, a11_102, n11_102, c11_102, f11_102, rfl, rfl⟩
    refine ⟨[_, _, _], rfl, ?_⟩
    refine WAE.rebase (H := []) ?_
    refine al1 3 rfl ?_
    refine OpH.callR (ec rfl e0) ca_14 (fun w hs => w_laws_toPlaneS e11_3 (r1_0.ext hs.below)) ?_
    rintro _ _ ⟨a11_300, n11_300, c11_300, f11_300, rfl, rfl⟩
    refine ⟨[_], rfl, ?_⟩
    refine WAE.rebase (H := []) ?_
    refine al1 5 rfl ?_
    refine OpH.callR (ec rfl e0) ca_15 (fun w hs => w_laws_toColorMap e11_5 (r2_0.ext hs.below) (r2_1.ext hs.below)) ?_
    rintro _ _ ⟨a11_500, n11_500, c11_500, f11_500, a11_501, n11_501, c11_501, f11_501, rfl, rfl⟩
    refine ⟨[_, _], rfl, ?_⟩
    refine WAE.rebase (H := []) ?_
    refine al1 6 rfl ?_
    refine OpH.callR (ec rfl (ec rfl (ec rfl e0))) ca_12 (fun w hs => w_spec_ChangesFor e11_6 (Ow.rd (hs.mem mq3)) (Ow.rd (hs.mem mq4)) (Ow.rd (hs.mem mq5)) (Ow.rd (hs.mem mq2)) (Ow.rd (hs.mem mq0)) (Ow.rd (hs.mem mq1))) ?_
    rintro _ _ ⟨a11_600, n11_600, c11_600, f11_600, rfl, rfl⟩
    refine ⟨[_], rfl, ?_⟩
    refine WAE.rebase (H := []) ?_
    refine tk 7 rfl (OpV.assign rfl) ?_
    refine WAE.done (by kernel_rfl) ?_ _
    refine En.next (WC.seq ?_)
    obtain ⟨x12_1, e12_1, h⟩ := bnd h
    refine WC.region ?_
    refine sp (OpV.loadAll rfl mq8 ag_27) ?_
    refine WL.heavy rfl rfl rfl (OpH.callR (ec rfl e0) ca_13 (fun w hs => w_laws_toCrtc e12_1 (r0_0.ext hs.below) (r0_1.ext hs.below) (r0_2.ext hs.below)) ?_)
    rintro _ _ ⟨a12_100, n12_100, c12_100, f12_100, a12_101, n12_101, c12_101, f12_101, a12_102, n12_102, c12_102, f12_102, rfl, rfl⟩
    refine WL.heavy rfl rfl rfl (OpH.alloc zc_36 ?_)
    intro b12_2
    refine WL.heavy0 rfl rfl (OpH.storeTo (A := []) [_, _, _, _, _] rfl rfl rfl ts_36 rfl rfl rfl ?_)
    refine WL.nil (En.next (WC.seq ?_))
    obtain ⟨x13_1, e13_1, h⟩ := bnd h
    refine WC.region ?_
    refine mv ?_
    refine WL.heavy rfl rfl rfl (OpH.callR (ec rfl e0) ca_14 (fun w hs => w_laws_toPlaneS e13_1 (r1_0.ext hs.below)) ?_)
    rintro _ _ ⟨a13_100, n13_100, c13_100, f13_100, rfl, rfl⟩
    refine ag ?_
    refine WL.nil (En.next (WC.seq ?_))
    obtain ⟨x14_1, e14_1, h⟩ := bnd h
    refine WC.region ?_
    refine sp (OpV.loadAll rfl (u10 mq2) ag_25) ?_
    refine WL.heavy rfl rfl rfl (OpH.callR (ec rfl e0) ca_15 (fun w hs => w_laws_toColorMap e14_1 (r2_0.ext hs.below) (r2_1.ext hs.below)) ?_)
    rintro _ _ ⟨a14_100, n14_100, c14_100, f14_100, a14_101, n14_101, c14_101, f14_101, rfl, rfl⟩
    refine WL.heavy rfl rfl rfl (OpH.alloc zc_34 ?_)
    intro b14_2
    refine WL.heavy0 rfl rfl (OpH.storeTo (A := []) [_, _] rfl rfl rfl ts_34 rfl rfl rfl ?_)
    refine WL.nil (En.next (WC.seq ?_))
    obtain ⟨x15_3, e15_3, h⟩ := bnd h
    refine WC.region ?_
    refine sp (OpV.loadAll rfl mq4 ag_36) ?_
    refine mv ?_
    refine sp (OpV.loadAll rfl mq0 ag_34) ?_
    refine WL.heavy rfl rfl rfl (OpH.callR (ec rfl (ec rfl (ec rfl e0))) ca_16 (fun w hs => w_impl_ChangesFor e15_3 (Ow.rd (hs.mem mq5)) (Ow.rd (hs.mem mq6)) (Ow.rd (hs.mem mq7)) (Ow.rd (hs.mem mq3)) (Ow.rd (hs.mem mq1)) (Ow.rd (hs.mem mq2))) ?_)
    rintro _ _ ⟨a15_300, n15_300, c15_300, f15_300, rfl, rfl⟩
    refine ag ?_
    refine WL.nil (En.next (WC.seq (WC.seq ?_)))
    obtain ⟨x16_2, e16_2, h⟩ := bnd h
    refine WC.region ?_
    refine mv ?_
    refine mv ?_
    refine sp (OpV.call (ec rfl (ec rfl e0)) ca_17 (fun w hs => w_laws_eqChangeS e16_2 (Ow.rd (hs.mem mq0)) (Ow.rd (hs.mem mq9)))) ?_
    refine sp (OpV.not rfl) ?_
    refine WL.nil (En.next ?_)
    refine WC.cond rfl ?_ ?_
    ·
     intro hc_4
     replace h := ifO_t hc_4 h
     refine WC.sr ?_
     refine ag ?_
     refine WL.nil (En.next (WC.ret (En.then_ret ?_)))
     refine En.ret1 rfl (Res.tmp rfl) ?_
     obtain rfl := Option.some.inj h
     intro w' hs
     exact ⟨rfl, hs.below⟩
    ·
     intro hc_4
     replace h := ifO_f hc_4 h
     refine WC.skip (En.next (WC.seq (WC.seq ?_)))
     obtain ⟨x18_2, e18_2, h⟩ := bnd h
     obtain ⟨x18_3, e18_3, h⟩ := bnd h
     refine WC.drawnH [] ([_, _, _, _, _, _, _, _, _, _, _, _, _, _, _, _, _, _]) (fun _ h => h) (by kernel_rfl) ?_
     refine tk 0 rfl (OpV.loadAll rfl mq5 ag_36) ?_
     refine tk 1 rfl (OpV.loadAll rfl (u10 mq7) ag_27) ?_
     refine al1 2 rfl ?_
     refine OpH.callR (ec rfl e0) ca_13 (fun w hs => w_laws_toCrtc e18_2 (r0_0.ext hs.below) (r0_1.ext hs.below) (r0_2.ext hs.below)) ?_
     rintro _ _ ⟨a18_200, n18_200, c18_200, f18_200, a18_201, n18_201, c18_201, f18_201, a18_202, n18_202, c18_202, f18_202, rfl, rfl⟩
     refine ⟨[_, _, _], rfl, ?_⟩
     refine WAE.rebase (H := []) ?_
     refine tk 3 rfl (OpV.call (ec rfl (ec rfl e0)) ca_18 (fun w hs => w_laws_eqCrtc e18_3 (Ow.rd (hs.mem mq9)) (Ow.rd (hs.mem (u10 mq0))) (Ow.rd (hs.mem (u10 mq1))) (Ow.rd (hs.mem mq0)) (Ow.rd (hs.mem mq1)) (Ow.rd (hs.mem mq2)))) ?_
     refine tk 4 rfl (OpV.not rfl) ?_
     refine WAE.done (by kernel_rfl) ?_ _
     refine En.next ?_
     refine WC.cond rfl ?_ ?_
     ·
      intro hc_5
      replace h := ifO_t hc_5 h
      refine WC.sr ?_
      refine ag ?_
      refine WL.nil (En.next (WC.ret (En.then_ret ?_)))
      refine En.ret1 rfl (Res.tmp rfl) ?_
      obtain rfl := Option.some.inj h
      intro w' hs
      exact ⟨rfl, hs.below⟩
     ·
      intro hc_5
      replace h := ifO_f hc_5 h
      refine WC.skip (En.next (WC.seq (WC.seq ?_)))
      obtain ⟨x20_2, e20_2, h⟩ := bnd h
      obtain ⟨x20_3, e20_3, h⟩ := bnd h
      refine WC.region ?_
      refine mv ?_
      refine mv ?_
      refine WL.heavy rfl rfl rfl (OpH.callR (ec rfl e0) ca_14 (fun w hs => w_laws_toPlaneS e20_2 (r1_0.ext hs.below)) ?_)
      rintro _ _ ⟨a20_200, n20_200, c20_200, f20_200, rfl, rfl⟩
      refine sp (OpV.call (ec rfl (ec rfl e0)) ca_19 (fun w hs => w_laws_eqPlaneS e20_3 (Ow.rd (hs.mem mq8)) (Ow.rd (hs.mem mq0)))) ?_
      refine sp (OpV.not rfl) ?_
      refine WL.nil (En.next ?_)
      refine WC.cond rfl ?_ ?_
      ·
       intro hc_6
       replace h := ifO_t hc_6 h
       refine WC.sr ?_
       refine ag ?_
       refine WL.nil (En.next (WC.ret (En.then_ret ?_)))
       refine En.ret1 rfl (Res.tmp rfl) ?_
       obtain rfl := Option.some.inj h
       intro w' hs
       exact ⟨rfl, hs.below⟩
      ·
       intro hc_6
       replace h := ifO_f hc_6 h
       refine WC.skip (En.next (WC.seq (WC.seq ?_)))
       obtain ⟨x22_2, e22_2, h⟩ := bnd h
       obtain ⟨x22_3, e22_3, h⟩ := bnd h
       refine WC.drawnH [] ([_, _, _, _, _, _, _, _, _, _, _, _, _, _, _, _, _, _, _, _, _, _]) (fun _ h => h) (by kernel_rfl) ?_
       refine tk 0 rfl (OpV.loadAll rfl mq5 ag_34) ?_
       refine tk 1 rfl (OpV.loadAll rfl (u10 (u10 mq0)) ag_25) ?_
       refine al1 2 rfl ?_
       refine OpH.callR (ec rfl e0) ca_15 (fun w hs => w_laws_toColorMap e22_2 (r2_0.ext hs.below) (r2_1.ext hs.below)) ?_
       rintro _ _ ⟨a22_200, n22_200, c22_200, f22_200, a22_201, n22_201, c22_201, f22_201, rfl, rfl⟩
       refine ⟨[_, _], rfl, ?_⟩
       refine WAE.rebase (H := []) ?_
       refine tk 3 rfl (OpV.call (ec rfl (ec rfl e0)) ca_20 (fun w hs => w_laws_eqColorMap e22_3 (Ow.rd (hs.mem mq8)) (Ow.rd (hs.mem mq9)) (Ow.rd (hs.mem mq0)) (Ow.rd (hs.mem mq1)))) ?_
       refine tk 4 rfl (OpV.not rfl) ?_
       refine WAE.done (by kernel_rfl) ?_ _
       refine En.next ?_
       refine WC.cond rfl ?_ ?_
       ·
        intro hc_7
        replace h := ifO_t hc_7 h
        refine WC.sr ?_
        refine ag ?_
        refine WL.nil (En.next (WC.ret (En.then_ret ?_)))
        refine En.ret1 rfl (Res.tmp rfl) ?_
        obtain rfl := Option.some.inj h
        intro w' hs
        exact ⟨rfl, hs.below⟩
       ·
        intro hc_7
        replace h := ifO_f hc_7 h
        refine WC.skip (En.next (WC.sr ?_))
        refine ag ?_
        refine WL.nil (En.next (WC.seq ?_))
        obtain ⟨⟨x25_2a, x25_2b, x25_2c, x25_2d⟩, e25_2, h⟩ := bnd h
        refine WC.region ?_
        refine sp (OpV.loadAll rfl (u10 mq1) ag_36) ?_
        refine mv ?_
        refine WL.wkF (fun _ h => h.pm 14) ?_
        refine WL.wkF (fun _ h => h.pm 14) ?_
        refine WL.wkF (fun _ h => h.pm 14) ?_
        refine WL.heavy rfl rfl rfl (OpH.callX (ec rfl (ec rfl e0)) ca_21 (fun w hs => w_laws_markCrtc e25_2 hs) ?_)
        rintro _ _ ⟨g25_200, g25_201, g25_202, rfl, rfl⟩
        refine ag ?_
        refine WL.nil (En.next (WC.seq ?_))
        obtain ⟨⟨x26_2a, x26_2b⟩, e26_2, h⟩ := bnd h
        refine WC.region ?_
        refine mv ?_
        refine mv ?_
        refine WL.wkF (fun _ h => h.pm 13) ?_
        refine WL.heavy rfl rfl rfl (OpH.callX (ec rfl (ec rfl e0)) ca_22 (fun w hs => w_laws_markPlaneS e26_2 hs) ?_)
        rintro _ _ ⟨g26_200, rfl, rfl⟩
        refine ag ?_
        refine WL.nil (En.next (WC.seq ?_))
        obtain ⟨⟨x27_2a, x27_2b, x27_2c⟩, e27_2, h⟩ := bnd h
        refine WC.region ?_
        refine sp (OpV.loadAll rfl (u10 mq1) ag_34) ?_
        refine mv ?_
        refine WL.wkF (fun _ h => h.pm 13) ?_
        refine WL.wkF (fun _ h => h.pm 13) ?_
        refine WL.heavy rfl rfl rfl (OpH.callX (ec rfl (ec rfl e0)) ca_23 (fun w hs => w_laws_markColorMap e27_2 hs) ?_)
        rintro _ _ ⟨g27_200, g27_201, rfl, rfl⟩
        refine ag ?_
        refine WL.nil (En.next (WC.seq (WC.seq ?_)))
        obtain ⟨q28_7, e28_7, h⟩ := bnd h
        refine WC.region ?_
        refine mv ?_
        refine sp (OpV.lss rfl rfl) ?_
        refine mv ?_
        refine Lt.ofWL.orQ 79 84 83 (p := ?pz1) (rest := ?qz1) (B := q28_7) rfl (fun hz => orO_t e28_7 hz) ?Tz1 ?Fz1 ?az1 ?bz1 ?cz1 ?dz1 ?ez1
        case Tz1 =>
         intro hcz1 hkz1
         refine sk ?_
         refine sk ?_
         refine sk ?_
         refine sk ?_
         refine hkz1 _ ?_
         repeat (first | exact Sub.refl _ | refine Sub.skip rfl ?_)
        case Fz1 =>
         intro hcz1 hkz1
         have hqz1 := orO_f e28_7 hcz1
         obtain ⟨x28_5, e28_5, hqz1⟩ := bnd hqz1
         obtain rfl := Option.some.inj hqz1
         refine mv ?_
         refine mv ?_
         refine sp (OpV.call (ec rfl (ec rfl e0)) ca_17 (fun w hs => w_laws_eqChangeS e28_5 (Ow.rd (hs.mem (u10 mq2))) (Ow.rd (hs.mem (u10 mq5))))) ?_
         refine sp (OpV.not rfl) ?_
         refine hkz1 _ ?_ ?_
         exact rfl
         repeat (first | exact Sub.refl _ | refine Sub.skip rfl ?_)
        case az1 => exact rfl
        case bz1 => exact rfl
        case cz1 => exact rfl
        case dz1 => exact rfl
        refine WL.nil (En.next ?_)
        refine WC.cond rfl ?_ ?_
        ·
         intro hc_8
         replace h := ifO_t hc_8 h
         refine WC.sr ?_
         refine ag ?_
         refine WL.nil (En.next (WC.ret (En.then_ret ?_)))
         refine En.ret1 rfl (Res.tmp rfl) ?_
         obtain rfl := Option.some.inj h
         intro w' hs
         exact ⟨rfl, hs.below⟩
        ·
         intro hc_8
         replace h := ifO_f hc_8 h
         refine WC.skip (En.next (WC.sr ?_))
         refine ag ?_
         refine WL.nil (En.next (WC.seq ?_))
         obtain ⟨⟨x31_2a, x31_2b⟩, e31_2, h⟩ := bnd h
         refine WC.region ?_
         refine mv ?_
         refine mv ?_
         refine WL.wkF (fun _ h => h.pm 12) ?_
         refine WL.heavy rfl rfl rfl (OpH.callX (ec rfl (ec rfl e0)) ca_24 (fun w hs => w_laws_markChangeS e31_2 hs) ?_)
         rintro _ _ ⟨g31_200, rfl, rfl⟩
         refine ag ?_
         refine WL.nil (En.next (WC.sr ?_))
         refine ag ?_
         refine WL.nil (En.next (WC.seq ?_))
         obtain ⟨x33_2, e33_2, h⟩ := bnd h
         refine WC.region ?_
         refine mv ?_
         refine mv ?_
         refine sp (OpV.call (ec rfl (ec rfl e0)) ca_25 (fun w hs => w_laws_heldChangeS e33_2 (Ow.rd (hs.mem mq0)))) ?_
         refine ag ?_
         refine WL.nil (En.next (WC.seq (WC.sr ?_)))
         refine mv ?_
         refine sp (OpV.lss rfl rfl) ?_
         refine WL.nil (En.next ?_)
         refine WC.cond rfl ?_ ?_
         ·
          intro hc_9
          replace h := ifO_t hc_9 h
          refine WC.sr ?_
          refine ag ?_
          refine WL.nil (En.next (WC.ret (En.then_ret ?_)))
          refine En.ret1 rfl (Res.tmp rfl) ?_
          obtain rfl := Option.some.inj h
          intro w' hs
          exact ⟨rfl, hs.below⟩
         ·
          intro hc_9
          replace h := ifO_f hc_9 h
          refine WC.skip (En.next (WC.seq (WC.sr ?_)))
          refine mv ?_
          refine mv ?_
          refine sp (OpV.neq rfl rfl) ?_
          refine WL.nil (En.next ?_)
          refine WC.cond rfl ?_ ?_
          ·
           intro hc_10
           replace h := ifO_t hc_10 h
           refine WC.sr ?_
           refine ag ?_
           refine WL.nil (En.next (WC.ret (En.then_ret ?_)))
           refine En.ret1 rfl (Res.tmp rfl) ?_
           obtain rfl := Option.some.inj h
           intro w' hs
           exact ⟨rfl, hs.below⟩
          ·
           intro hc_10
           replace h := ifO_f hc_10 h
           refine WC.skip (En.next (WC.seq ?_))
           obtain ⟨x38_1, e38_1, h⟩ := bnd h
           obtain ⟨x38_3, e38_3, h⟩ := bnd h
           obtain ⟨x38_5, e38_5, h⟩ := bnd h
           obtain ⟨x38_6, e38_6, h⟩ := bnd h
           refine WC.drawnH [] ([_, _, _, _, _, _, _, _, _, _, _, _, _, _, _, _, _, _, _, _, _, _, _, _]) (fun _ h => h) (by kernel_rfl) ?_
           refine tk 0 rfl (OpV.loadAll rfl (u10 (u10 mq3)) ag_27) ?_
           refine tk 2 rfl (OpV.move rfl) ?_
           refine tk 4 rfl (OpV.loadAll rfl (u10 (u10 mq2)) ag_25) ?_
           refine al1 1 rfl ?_
           refine OpH.callR (ec rfl e0) ca_13 (fun w hs => w_laws_toCrtc e38_1 (r0_0.ext hs.below) (r0_1.ext hs.below) (r0_2.ext hs.below)) ?_
           rintro _ _ ⟨a38_100, n38_100, c38_100, f38_100, a38_101, n38_101, c38_101, f38_101, a38_102, n38_102, c38_102, f38_102, rfl, rfl⟩
           refine ⟨[_, _, _], rfl, ?_⟩
           refine WAE.rebase (H := []) ?_
           refine al1 3 rfl ?_
           refine OpH.callR (ec rfl e0) ca_14 (fun w hs => w_laws_toPlaneS e38_3 (r1_0.ext hs.below)) ?_
           rintro _ _ ⟨a38_300, n38_300, c38_300, f38_300, rfl, rfl⟩
           refine ⟨[_], rfl, ?_⟩
           refine WAE.rebase (H := []) ?_
           refine al1 5 rfl ?_
           refine OpH.callR (ec rfl e0) ca_15 (fun w hs => w_laws_toColorMap e38_5 (r2_0.ext hs.below) (r2_1.ext hs.below)) ?_
           rintro _ _ ⟨a38_500, n38_500, c38_500, f38_500, a38_501, n38_501, c38_501, f38_501, rfl, rfl⟩
           refine ⟨[_, _], rfl, ?_⟩
           refine WAE.rebase (H := []) ?_
           refine al1 6 rfl ?_
           refine OpH.callR (ec rfl (ec rfl (ec rfl e0))) ca_16 (fun w hs => w_impl_ChangesFor e38_6 (Ow.rd (hs.mem mq3)) (Ow.rd (hs.mem mq4)) (Ow.rd (hs.mem mq5)) (Ow.rd (hs.mem mq2)) (Ow.rd (hs.mem mq0)) (Ow.rd (hs.mem mq1))) ?_
           rintro _ _ ⟨a38_600, n38_600, c38_600, f38_600, rfl, rfl⟩
           refine ⟨[_], rfl, ?_⟩
           refine WAE.rebase (H := []) ?_
           refine tk 7 rfl (OpV.assign rfl) ?_
           refine WAE.done (by kernel_rfl) ?_ _
           refine En.next (WC.seq (WC.seq ?_))
           obtain ⟨x39_2, e39_2, h⟩ := bnd h
           refine WC.region ?_
           refine mv ?_
           refine mv ?_
           refine sp (OpV.call (ec rfl (ec rfl e0)) ca_17 (fun w hs => w_laws_eqChangeS e39_2 (Ow.rd (hs.mem mq0)) (Ow.rd (hs.mem (u10 (u10 mq2)))))) ?_
           refine sp (OpV.not rfl) ?_
           refine WL.nil (En.next ?_)
           refine WC.cond rfl ?_ ?_
           ·
            intro hc_11
            replace h := ifO_t hc_11 h
            refine WC.sr ?_
            refine ag ?_
            refine WL.nil (En.next (WC.ret (En.then_ret ?_)))
            refine En.ret1 rfl (Res.tmp rfl) ?_
            obtain rfl := Option.some.inj h
            intro w' hs
            exact ⟨rfl, hs.below⟩
           ·
            intro hc_11
            replace h := ifO_f hc_11 h
            refine WC.skip (En.next (WC.sr ?_))
            refine ag ?_
            refine WL.nil (En.next (WC.seq ?_))
            obtain ⟨x42_2, e42_2, h⟩ := bnd h
            refine WC.region ?_
            refine mv ?_
            refine mv ?_
            refine sp (OpV.call (ec rfl (ec rfl e0)) ca_25 (fun w hs => w_laws_heldChangeS e42_2 (Ow.rd (hs.mem mq7)))) ?_
            refine ag ?_
            refine WL.nil (En.next (WC.seq (WC.sr ?_)))
            refine mv ?_
            refine sp (OpV.lss rfl rfl) ?_
            refine WL.nil (En.next ?_)
            refine WC.cond rfl ?_ ?_
            ·
             intro hc_12
             replace h := ifO_t hc_12 h
             refine WC.sr ?_
             refine ag ?_
             refine WL.nil (En.next (WC.ret (En.then_ret ?_)))
             refine En.ret1 rfl (Res.tmp rfl) ?_
             obtain rfl := Option.some.inj h
             intro w' hs
             exact ⟨rfl, hs.below⟩
            ·
             intro hc_12
             replace h := ifO_f hc_12 h
             refine WC.skip (En.next (WC.seq (WC.sr ?_)))
             refine mv ?_
             refine mv ?_
             refine sp (OpV.neq rfl rfl) ?_
             refine WL.nil (En.next ?_)
             refine WC.cond rfl ?_ ?_
             ·
              intro hc_13
              replace h := ifO_t hc_13 h
              refine WC.sr ?_
              refine ag ?_
              refine WL.nil (En.next (WC.ret (En.then_ret ?_)))
              refine En.ret1 rfl (Res.tmp rfl) ?_
              obtain rfl := Option.some.inj h
              intro w' hs
              exact ⟨rfl, hs.below⟩
             ·
              intro hc_13
              replace h := ifO_f hc_13 h
              refine WC.skip (En.next (WC.sr ?_))
              refine ag ?_
              refine WL.nil (En.next (WC.ret ?_))
              refine En.ret1 rfl (Res.tmp rfl) ?_
              obtain rfl := Option.some.inj h
              intro w' hs
              exact ⟨rfl, hs.below⟩

end Go.Proofs.Ytmhalmnbgkpmnaa
