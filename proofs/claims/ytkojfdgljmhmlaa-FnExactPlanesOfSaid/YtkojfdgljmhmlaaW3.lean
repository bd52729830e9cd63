/- Walks: the program computes the pure functions. -/
import Derived.Test.YtkojfdgljmhmlaaW2
namespace Go.Proofs.Ytkojfdgljmhmlaa
open Go.RowKit K
set_option maxRecDepth 100000
set_option maxHeartbeats 4000000

theorem w_laws_heldSurfaceS {a_p0 : List SurfaceT} {a_p1 : Int} {r : Int} {q0_0 : Option Addr} {n0_0 k0_0 : Nat} (h : laws_heldSurfaceS a_p0 a_p1 = some r) {w : World} (r0_0 : Rd tSurface w q0_0 n0_0 k0_0 a_p0)   :
    Calls Try.prog 84 #[.slice q0_0 n0_0 k0_0, .int .i64 a_p1] w (fun en w' => en = .returned (.int .i64 r) ∧ Ext w w') := by
  obtain rfl := r0_0.1
  unfold laws_heldSurfaceS at h
  refine enter (vs := [_, _]) Try.func84 rfl rfl rfl rfl ?_
  refine WC.seq ?_
  refine WC.region ?_
  refine Lt.ofWL.step rfl rfl rfl (OpV.assign rfl) ?_
  refine WL.nil ?_
  refine En.next ?_
  refine WC.seq ?_
  refine WC.seq ?_
  refine WC.region ?_
  refine Lt.ofWL.step rfl rfl rfl (OpV.assign rfl) ?_
  refine WL.nil ?_
  refine En.next ?_
  refine WC.block ?_
  obtain ⟨zy0, ezy0, h⟩ := bnd h
  refine WC.cut (X := (Int) × (Unit)) (.exit 0) (fun x => zy0 = .inl x.1) (fun x => match x with | (v_0e, ()) => [(1, .int .i64 v_0e)]) (fun x => match x with | (v_0e, ()) => []) ?_ ?_
  ·
    rintro ⟨v_0e, ⟨⟩⟩ hx
    replace hx : .inl v_0e = zy0 := hx.symm
    subst hx
    replace h := fork_l h
    show En _ _ _ _ [(1, .int .i64 v_0e)] []
    refine En.block_exit ?_
    refine En.next ?_
    refine WC.seq ?_
    refine WC.region ?_
    refine Lt.ofWL.step rfl rfl rfl (OpV.move rfl) ?_
    refine Lt.ofWL.step rfl rfl rfl (OpV.assign rfl) ?_
    refine WL.nil ?_
    refine En.next ?_
    refine WC.ret ?_
    refine En.ret1 rfl (Res.tmp rfl) ?_
    obtain rfl := Option.some.inj h
    intro w' hs
    exact ⟨rfl, hs.below⟩
  ·
    intro zK0_0
    refine WC.loopP (G := Unit) (fun s g => match s, g with | (v_0, v1_0), () => [(0, .slice q0_0 a_p0.length k0_0), (1, .int .i64 v_0), (5, .int .i64 v1_0)]) (fun s g => match s, g with | (v_0, v1_0), () => []) (a_p1, 0) () ezy0 (by exact Sub.cons rfl (Sub.cons rfl (Sub.cons rfl (Sub.nil _)))) (by exact (fun _ h => h)) ?_
    rintro zm0 ⟨v_0, v1_0⟩ ⟨⟩ zo0 zf0 zb0 ze0
    have zh0 : laws_heldSurfaceS_L0 a_p0 v_0 v1_0 = some zo0 := zf0
    unfold laws_heldSurfaceS_L0 at zh0
    show WC _ _ _ _ _ [(0, .slice q0_0 a_p0.length k0_0), (1, .int .i64 v_0), (5, .int .i64 v1_0)] []
    refine WC.seq ?_
    refine WC.seq ?_
    refine WC.region ?_
    refine Lt.ofWL.step rfl rfl rfl (OpV.move rfl) ?_
    refine Lt.ofWL.step rfl rfl rfl (OpV.move rfl) ?_
    refine Lt.ofWL.step rfl rfl rfl (OpV.len rfl si_24 rfl) ?_
    refine Lt.ofWL.step rfl rfl rfl (OpV.lss rfl rfl) ?_
    refine WL.nil ?_
    refine En.next ?_
    refine WC.cond rfl ?_ ?_
    ·
      intro hc_1
      replace zh0 := ifO_t hc_1 zh0
      refine WC.skip ?_
      refine En.next ?_
      refine WC.seq ?_
      refine WC.block ?_
      refine WC.seq ?_
      refine WC.seq ?_
      obtain ⟨x4_2, e4_2, zh0⟩ := bnd zh0
      obtain ⟨g4_2, o4_2, _, ha4_2, ⟨a4_2_1, c4_2_1, rfl, r4_2_1⟩, hd4_2⟩ := Rd.atIdx r0_0 e4_2
      replace hd4_2 : ∀ (j : Nat) v, ([.int .i64 x4_2.Id, .int .i64 x4_2.X, .int .i64 x4_2.Y, .int .i64 x4_2.W, .int .i64 x4_2.H, .int .i64 x4_2.Alpha, .int .i64 x4_2.Orient, .bool x4_2.Visible, .int .i64 x4_2.Buffer.W, .int .i64 x4_2.Buffer.H, .slice a4_2_1 x4_2.Buffer.Data.length c4_2_1] : List Value)[j]? = some v → w.cell? ⟨g4_2, o4_2 + v1_0.toNat * 11 + j, .none⟩ = some v := hd4_2
      refine WC.region ?_
      refine Lt.ofWL.step rfl rfl rfl (OpV.move rfl) ?_
      refine Lt.ofWL.step rfl rfl rfl (OpV.move rfl) ?_
      refine Lt.ofWL.step rfl rfl rfl (OpV.idxA rfl rfl se_24 ha4_2 ⟨(idx_some e4_2).1, (idx_some e4_2).2.1⟩) ?_
      refine Lt.ofWL.step rfl rfl rfl (OpV.fieldAddr rfl fo_38_0) ?_
      refine Lt.ofWL.step rfl rfl rfl (OpV.load1 rfl pt_3 (fun w hs => hs.cell (hd4_2 0 _ rfl))) ?_
      refine Lt.ofWL.step rfl rfl rfl (OpV.move rfl) ?_
      refine Lt.ofWL.step rfl rfl rfl (OpV.neq rfl rfl) ?_
      refine WL.nil ?_
      refine En.next ?_
      refine WC.cond rfl ?_ ?_
      ·
        intro hc_2
        replace zh0 := ifO_t hc_2 zh0
        refine WC.seq ?_
        refine WC.region ?_
        refine Lt.ofWL.step rfl rfl rfl (OpV.assign rfl) ?_
        refine WL.nil ?_
        refine En.next ?_
        refine WC.ret ?_
        refine En.then_ret ?_
        refine En.block_ret ?_
        refine En.then_ret ?_
        refine En.then_ret ?_
        refine En.block_ret ?_
        refine En.then_ret ?_
        refine En.ret1 rfl (Res.tmp rfl) ?_
        have hx := exitP ze0 zh0
        subst hx
        replace h := fork_r h
        obtain rfl := Option.some.inj h
        intro w' hs
        exact ⟨rfl, hs.below⟩
      ·
        intro hc_2
        replace zh0 := ifO_f hc_2 zh0
        refine WC.skip ?_
        refine En.next ?_
        refine WC.seq ?_
        refine WC.region ?_
        refine Lt.ofWL.step rfl rfl rfl (OpV.move rfl) ?_
        refine Lt.ofWL.step rfl rfl rfl (OpV.addR rfl rfl) ?_
        refine Lt.ofWL.step rfl rfl rfl (OpV.assign rfl) ?_
        refine WL.nil ?_
        refine En.next ?_
        refine WC.seq ?_
        refine WC.seq ?_
        obtain ⟨x7_2, e7_2, zh0⟩ := bnd zh0
        obtain ⟨g7_2, o7_2, _, ha7_2, ⟨a7_2_1, c7_2_1, rfl, r7_2_1⟩, hd7_2⟩ := Rd.atIdx r0_0 e7_2
        replace hd7_2 : ∀ (j : Nat) v, ([.int .i64 x7_2.Id, .int .i64 x7_2.X, .int .i64 x7_2.Y, .int .i64 x7_2.W, .int .i64 x7_2.H, .int .i64 x7_2.Alpha, .int .i64 x7_2.Orient, .bool x7_2.Visible, .int .i64 x7_2.Buffer.W, .int .i64 x7_2.Buffer.H, .slice a7_2_1 x7_2.Buffer.Data.length c7_2_1] : List Value)[j]? = some v → w.cell? ⟨g7_2, o7_2 + v1_0.toNat * 11 + j, .none⟩ = some v := hd7_2
        refine WC.region ?_
        refine Lt.ofWL.step rfl rfl rfl (OpV.move rfl) ?_
        refine Lt.ofWL.step rfl rfl rfl (OpV.move rfl) ?_
        refine Lt.ofWL.step rfl rfl rfl (OpV.idxA rfl rfl se_24 ha7_2 ⟨(idx_some e7_2).1, (idx_some e7_2).2.1⟩) ?_
        refine Lt.ofWL.step rfl rfl rfl (OpV.fieldAddr rfl fo_38_1) ?_
        refine Lt.ofWL.step rfl rfl rfl (OpV.load1 rfl pt_3 (fun w hs => hs.cell (hd7_2 1 _ rfl))) ?_
        refine Lt.ofWL.step rfl rfl rfl (OpV.move rfl) ?_
        refine Lt.ofWL.step rfl rfl rfl (OpV.neq rfl rfl) ?_
        refine WL.nil ?_
        refine En.next ?_
        refine WC.cond rfl ?_ ?_
        ·
          intro hc_3
          replace zh0 := ifO_t hc_3 zh0
          refine WC.seq ?_
          refine WC.region ?_
          refine Lt.ofWL.step rfl rfl rfl (OpV.assign rfl) ?_
          refine WL.nil ?_
          refine En.next ?_
          refine WC.ret ?_
          refine En.then_ret ?_
          refine En.block_ret ?_
          refine En.then_ret ?_
          refine En.then_ret ?_
          refine En.block_ret ?_
          refine En.then_ret ?_
          refine En.ret1 rfl (Res.tmp rfl) ?_
          have hx := exitP ze0 zh0
          subst hx
          replace h := fork_r h
          obtain rfl := Option.some.inj h
          intro w' hs
          exact ⟨rfl, hs.below⟩
        ·
          intro hc_3
          replace zh0 := ifO_f hc_3 zh0
          refine WC.skip ?_
          refine En.next ?_
          refine WC.seq ?_
          refine WC.region ?_
          refine Lt.ofWL.step rfl rfl rfl (OpV.move rfl) ?_
          refine Lt.ofWL.step rfl rfl rfl (OpV.addR rfl rfl) ?_
          refine Lt.ofWL.step rfl rfl rfl (OpV.assign rfl) ?_
          refine WL.nil ?_
          refine En.next ?_
          refine WC.seq ?_
          refine WC.seq ?_
          obtain ⟨x10_2, e10_2, zh0⟩ := bnd zh0
          obtain ⟨g10_2, o10_2, _, ha10_2, ⟨a10_2_1, c10_2_1, rfl, r10_2_1⟩, hd10_2⟩ := Rd.atIdx r0_0 e10_2
          replace hd10_2 : ∀ (j : Nat) v, ([.int .i64 x10_2.Id, .int .i64 x10_2.X, .int .i64 x10_2.Y, .int .i64 x10_2.W, .int .i64 x10_2.H, .int .i64 x10_2.Alpha, .int .i64 x10_2.Orient, .bool x10_2.Visible, .int .i64 x10_2.Buffer.W, .int .i64 x10_2.Buffer.H, .slice a10_2_1 x10_2.Buffer.Data.length c10_2_1] : List Value)[j]? = some v → w.cell? ⟨g10_2, o10_2 + v1_0.toNat * 11 + j, .none⟩ = some v := hd10_2
          refine WC.region ?_
          refine Lt.ofWL.step rfl rfl rfl (OpV.move rfl) ?_
          refine Lt.ofWL.step rfl rfl rfl (OpV.move rfl) ?_
          refine Lt.ofWL.step rfl rfl rfl (OpV.idxA rfl rfl se_24 ha10_2 ⟨(idx_some e10_2).1, (idx_some e10_2).2.1⟩) ?_
          refine Lt.ofWL.step rfl rfl rfl (OpV.fieldAddr rfl fo_38_2) ?_
          refine Lt.ofWL.step rfl rfl rfl (OpV.load1 rfl pt_3 (fun w hs => hs.cell (hd10_2 2 _ rfl))) ?_
          refine Lt.ofWL.step rfl rfl rfl (OpV.move rfl) ?_
          refine Lt.ofWL.step rfl rfl rfl (OpV.neq rfl rfl) ?_
          refine WL.nil ?_
          refine En.next ?_
          refine WC.cond rfl ?_ ?_
          ·
            intro hc_4
            replace zh0 := ifO_t hc_4 zh0
            refine WC.seq ?_
            refine WC.region ?_
            refine Lt.ofWL.step rfl rfl rfl (OpV.assign rfl) ?_
            refine WL.nil ?_
            refine En.next ?_
            refine WC.ret ?_
            refine En.then_ret ?_
            refine En.block_ret ?_
            refine En.then_ret ?_
            refine En.then_ret ?_
            refine En.block_ret ?_
            refine En.then_ret ?_
            refine En.ret1 rfl (Res.tmp rfl) ?_
            have hx := exitP ze0 zh0
            subst hx
            replace h := fork_r h
            obtain rfl := Option.some.inj h
            intro w' hs
            exact ⟨rfl, hs.below⟩
          ·
            intro hc_4
            replace zh0 := ifO_f hc_4 zh0
            refine WC.skip ?_
            refine En.next ?_
            refine WC.seq ?_
            refine WC.region ?_
            refine Lt.ofWL.step rfl rfl rfl (OpV.move rfl) ?_
            refine Lt.ofWL.step rfl rfl rfl (OpV.addR rfl rfl) ?_
            refine Lt.ofWL.step rfl rfl rfl (OpV.assign rfl) ?_
            refine WL.nil ?_
            refine En.next ?_
            refine WC.seq ?_
            refine WC.seq ?_
            obtain ⟨x13_2, e13_2, zh0⟩ := bnd zh0
            obtain ⟨g13_2, o13_2, _, ha13_2, ⟨a13_2_1, c13_2_1, rfl, r13_2_1⟩, hd13_2⟩ := Rd.atIdx r0_0 e13_2
            replace hd13_2 : ∀ (j : Nat) v, ([.int .i64 x13_2.Id, .int .i64 x13_2.X, .int .i64 x13_2.Y, .int .i64 x13_2.W, .int .i64 x13_2.H, .int .i64 x13_2.Alpha, .int .i64 x13_2.Orient, .bool x13_2.Visible, .int .i64 x13_2.Buffer.W, .int .i64 x13_2.Buffer.H, .slice a13_2_1 x13_2.Buffer.Data.length c13_2_1] : List Value)[j]? = some v → w.cell? ⟨g13_2, o13_2 + v1_0.toNat * 11 + j, .none⟩ = some v := hd13_2
            refine WC.region ?_
            refine Lt.ofWL.step rfl rfl rfl (OpV.move rfl) ?_
            refine Lt.ofWL.step rfl rfl rfl (OpV.move rfl) ?_
            refine Lt.ofWL.step rfl rfl rfl (OpV.idxA rfl rfl se_24 ha13_2 ⟨(idx_some e13_2).1, (idx_some e13_2).2.1⟩) ?_
            refine Lt.ofWL.step rfl rfl rfl (OpV.fieldAddr rfl fo_38_3) ?_
            refine Lt.ofWL.step rfl rfl rfl (OpV.load1 rfl pt_3 (fun w hs => hs.cell (hd13_2 3 _ rfl))) ?_
            refine Lt.ofWL.step rfl rfl rfl (OpV.move rfl) ?_
            refine Lt.ofWL.step rfl rfl rfl (OpV.neq rfl rfl) ?_
            refine WL.nil ?_
            refine En.next ?_
            refine WC.cond rfl ?_ ?_
            ·
              intro hc_5
              replace zh0 := ifO_t hc_5 zh0
              refine WC.seq ?_
              refine WC.region ?_
              refine Lt.ofWL.step rfl rfl rfl (OpV.assign rfl) ?_
              refine WL.nil ?_
              refine En.next ?_
              refine WC.ret ?_
              refine En.then_ret ?_
              refine En.block_ret ?_
              refine En.then_ret ?_
              refine En.then_ret ?_
              refine En.block_ret ?_
              refine En.then_ret ?_
              refine En.ret1 rfl (Res.tmp rfl) ?_
              have hx := exitP ze0 zh0
              subst hx
              replace h := fork_r h
              obtain rfl := Option.some.inj h
              intro w' hs
              exact ⟨rfl, hs.below⟩
            ·
              intro hc_5
              replace zh0 := ifO_f hc_5 zh0
              refine WC.skip ?_
              refine En.next ?_
              refine WC.seq ?_
              refine WC.region ?_
              refine Lt.ofWL.step rfl rfl rfl (OpV.move rfl) ?_
              refine Lt.ofWL.step rfl rfl rfl (OpV.addR rfl rfl) ?_
              refine Lt.ofWL.step rfl rfl rfl (OpV.assign rfl) ?_
              refine WL.nil ?_
              refine En.next ?_
              refine WC.seq ?_
              refine WC.seq ?_
              obtain ⟨x16_2, e16_2, zh0⟩ := bnd zh0
              obtain ⟨g16_2, o16_2, _, ha16_2, ⟨a16_2_1, c16_2_1, rfl, r16_2_1⟩, hd16_2⟩ := Rd.atIdx r0_0 e16_2
              replace hd16_2 : ∀ (j : Nat) v, ([.int .i64 x16_2.Id, .int .i64 x16_2.X, .int .i64 x16_2.Y, .int .i64 x16_2.W, .int .i64 x16_2.H, .int .i64 x16_2.Alpha, .int .i64 x16_2.Orient, .bool x16_2.Visible, .int .i64 x16_2.Buffer.W, .int .i64 x16_2.Buffer.H, .slice a16_2_1 x16_2.Buffer.Data.length c16_2_1] : List Value)[j]? = some v → w.cell? ⟨g16_2, o16_2 + v1_0.toNat * 11 + j, .none⟩ = some v := hd16_2
              refine WC.region ?_
              refine Lt.ofWL.step rfl rfl rfl (OpV.move rfl) ?_
              refine Lt.ofWL.step rfl rfl rfl (OpV.move rfl) ?_
              refine Lt.ofWL.step rfl rfl rfl (OpV.idxA rfl rfl se_24 ha16_2 ⟨(idx_some e16_2).1, (idx_some e16_2).2.1⟩) ?_
              refine Lt.ofWL.step rfl rfl rfl (OpV.fieldAddr rfl fo_38_4) ?_
              refine Lt.ofWL.step rfl rfl rfl (OpV.load1 rfl pt_3 (fun w hs => hs.cell (hd16_2 4 _ rfl))) ?_
              refine Lt.ofWL.step rfl rfl rfl (OpV.move rfl) ?_
              refine Lt.ofWL.step rfl rfl rfl (OpV.neq rfl rfl) ?_
              refine WL.nil ?_
              refine En.next ?_
              refine WC.cond rfl ?_ ?_
              ·
                intro hc_6
                replace zh0 := ifO_t hc_6 zh0
                refine WC.seq ?_
                refine WC.region ?_
                refine Lt.ofWL.step rfl rfl rfl (OpV.assign rfl) ?_
                refine WL.nil ?_
                refine En.next ?_
                refine WC.ret ?_
                refine En.then_ret ?_
                refine En.block_ret ?_
                refine En.then_ret ?_
                refine En.then_ret ?_
                refine En.block_ret ?_
                refine En.then_ret ?_
                refine En.ret1 rfl (Res.tmp rfl) ?_
                have hx := exitP ze0 zh0
                subst hx
                replace h := fork_r h
                obtain rfl := Option.some.inj h
                intro w' hs
                exact ⟨rfl, hs.below⟩
              ·
                intro hc_6
                replace zh0 := ifO_f hc_6 zh0
                refine WC.skip ?_
                refine En.next ?_
                refine WC.seq ?_
                refine WC.region ?_
                refine Lt.ofWL.step rfl rfl rfl (OpV.move rfl) ?_
                refine Lt.ofWL.step rfl rfl rfl (OpV.addR rfl rfl) ?_
                refine Lt.ofWL.step rfl rfl rfl (OpV.assign rfl) ?_
                refine WL.nil ?_
                refine En.next ?_
                refine WC.seq ?_
                refine WC.seq ?_
                obtain ⟨x19_2, e19_2, zh0⟩ := bnd zh0
                obtain ⟨g19_2, o19_2, _, ha19_2, ⟨a19_2_1, c19_2_1, rfl, r19_2_1⟩, hd19_2⟩ := Rd.atIdx r0_0 e19_2
                replace hd19_2 : ∀ (j : Nat) v, ([.int .i64 x19_2.Id, .int .i64 x19_2.X, .int .i64 x19_2.Y, .int .i64 x19_2.W, .int .i64 x19_2.H, .int .i64 x19_2.Alpha, .int .i64 x19_2.Orient, .bool x19_2.Visible, .int .i64 x19_2.Buffer.W, .int .i64 x19_2.Buffer.H, .slice a19_2_1 x19_2.Buffer.Data.length c19_2_1] : List Value)[j]? = some v → w.cell? ⟨g19_2, o19_2 + v1_0.toNat * 11 + j, .none⟩ = some v := hd19_2
                refine WC.region ?_
                refine Lt.ofWL.step rfl rfl rfl (OpV.move rfl) ?_
                refine Lt.ofWL.step rfl rfl rfl (OpV.move rfl) ?_
                refine Lt.ofWL.step rfl rfl rfl (OpV.idxA rfl rfl se_24 ha19_2 ⟨(idx_some e19_2).1, (idx_some e19_2).2.1⟩) ?_
                refine Lt.ofWL.step rfl rfl rfl (OpV.fieldAddr rfl fo_38_5) ?_
                refine Lt.ofWL.step rfl rfl rfl (OpV.load1 rfl pt_3 (fun w hs => hs.cell (hd19_2 5 _ rfl))) ?_
                refine Lt.ofWL.step rfl rfl rfl (OpV.move rfl) ?_
                refine Lt.ofWL.step rfl rfl rfl (OpV.neq rfl rfl) ?_
                refine WL.nil ?_
                refine En.next ?_
                refine WC.cond rfl ?_ ?_
                ·
                  intro hc_7
                  replace zh0 := ifO_t hc_7 zh0
                  refine WC.seq ?_
                  refine WC.region ?_
                  refine Lt.ofWL.step rfl rfl rfl (OpV.assign rfl) ?_
                  refine WL.nil ?_
                  refine En.next ?_
                  refine WC.ret ?_
                  refine En.then_ret ?_
                  refine En.block_ret ?_
                  refine En.then_ret ?_
                  refine En.then_ret ?_
                  refine En.block_ret ?_
                  refine En.then_ret ?_
                  refine En.ret1 rfl (Res.tmp rfl) ?_
                  have hx := exitP ze0 zh0
                  subst hx
                  replace h := fork_r h
                  obtain rfl := Option.some.inj h
                  intro w' hs
                  exact ⟨rfl, hs.below⟩
                ·
                  intro hc_7
                  replace zh0 := ifO_f hc_7 zh0
                  refine WC.skip ?_
                  refine En.next ?_
                  refine WC.seq ?_
                  refine WC.region ?_
                  refine Lt.ofWL.step rfl rfl rfl (OpV.move rfl) ?_
                  refine Lt.ofWL.step rfl rfl rfl (OpV.addR rfl rfl) ?_
                  refine Lt.ofWL.step rfl rfl rfl (OpV.assign rfl) ?_
                  refine WL.nil ?_
                  refine En.next ?_
                  refine WC.seq ?_
                  refine WC.seq ?_
                  obtain ⟨x22_2, e22_2, zh0⟩ := bnd zh0
                  obtain ⟨g22_2, o22_2, _, ha22_2, ⟨a22_2_1, c22_2_1, rfl, r22_2_1⟩, hd22_2⟩ := Rd.atIdx r0_0 e22_2
                  replace hd22_2 : ∀ (j : Nat) v, ([.int .i64 x22_2.Id, .int .i64 x22_2.X, .int .i64 x22_2.Y, .int .i64 x22_2.W, .int .i64 x22_2.H, .int .i64 x22_2.Alpha, .int .i64 x22_2.Orient, .bool x22_2.Visible, .int .i64 x22_2.Buffer.W, .int .i64 x22_2.Buffer.H, .slice a22_2_1 x22_2.Buffer.Data.length c22_2_1] : List Value)[j]? = some v → w.cell? ⟨g22_2, o22_2 + v1_0.toNat * 11 + j, .none⟩ = some v := hd22_2
                  refine WC.region ?_
                  refine Lt.ofWL.step rfl rfl rfl (OpV.move rfl) ?_
                  refine Lt.ofWL.step rfl rfl rfl (OpV.move rfl) ?_
                  refine Lt.ofWL.step rfl rfl rfl (OpV.idxA rfl rfl se_24 ha22_2 ⟨(idx_some e22_2).1, (idx_some e22_2).2.1⟩) ?_
                  refine Lt.ofWL.step rfl rfl rfl (OpV.fieldAddr rfl fo_38_6) ?_
                  refine Lt.ofWL.step rfl rfl rfl (OpV.load1 rfl pt_3 (fun w hs => hs.cell (hd22_2 6 _ rfl))) ?_
                  refine Lt.ofWL.step rfl rfl rfl (OpV.move rfl) ?_
                  refine Lt.ofWL.step rfl rfl rfl (OpV.neq rfl rfl) ?_
                  refine WL.nil ?_
                  refine En.next ?_
                  refine WC.cond rfl ?_ ?_
                  ·
                    intro hc_8
                    replace zh0 := ifO_t hc_8 zh0
                    refine WC.seq ?_
                    refine WC.region ?_
                    refine Lt.ofWL.step rfl rfl rfl (OpV.assign rfl) ?_
                    refine WL.nil ?_
                    refine En.next ?_
                    refine WC.ret ?_
                    refine En.then_ret ?_
                    refine En.block_ret ?_
                    refine En.then_ret ?_
                    refine En.then_ret ?_
                    refine En.block_ret ?_
                    refine En.then_ret ?_
                    refine En.ret1 rfl (Res.tmp rfl) ?_
                    have hx := exitP ze0 zh0
                    subst hx
                    replace h := fork_r h
                    obtain rfl := Option.some.inj h
                    intro w' hs
                    exact ⟨rfl, hs.below⟩
                  ·
                    intro hc_8
                    replace zh0 := ifO_f hc_8 zh0
                    refine WC.skip ?_
                    refine En.next ?_
                    refine WC.seq ?_
                    refine WC.region ?_
                    refine Lt.ofWL.step rfl rfl rfl (OpV.move rfl) ?_
                    refine Lt.ofWL.step rfl rfl rfl (OpV.addR rfl rfl) ?_
                    refine Lt.ofWL.step rfl rfl rfl (OpV.assign rfl) ?_
                    refine WL.nil ?_
                    refine En.next ?_
                    refine WC.seq ?_
                    refine WC.seq ?_
                    obtain ⟨x25_2, e25_2, zh0⟩ := bnd zh0
                    obtain ⟨g25_2, o25_2, _, ha25_2, ⟨a25_2_1, c25_2_1, rfl, r25_2_1⟩, hd25_2⟩ := Rd.atIdx r0_0 e25_2
                    replace hd25_2 : ∀ (j : Nat) v, ([.int .i64 x25_2.Id, .int .i64 x25_2.X, .int .i64 x25_2.Y, .int .i64 x25_2.W, .int .i64 x25_2.H, .int .i64 x25_2.Alpha, .int .i64 x25_2.Orient, .bool x25_2.Visible, .int .i64 x25_2.Buffer.W, .int .i64 x25_2.Buffer.H, .slice a25_2_1 x25_2.Buffer.Data.length c25_2_1] : List Value)[j]? = some v → w.cell? ⟨g25_2, o25_2 + v1_0.toNat * 11 + j, .none⟩ = some v := hd25_2
                    refine WC.region ?_
                    refine Lt.ofWL.step rfl rfl rfl (OpV.move rfl) ?_
                    refine Lt.ofWL.step rfl rfl rfl (OpV.move rfl) ?_
                    refine Lt.ofWL.step rfl rfl rfl (OpV.idxA rfl rfl se_24 ha25_2 ⟨(idx_some e25_2).1, (idx_some e25_2).2.1⟩) ?_
                    refine Lt.ofWL.step rfl rfl rfl (OpV.fieldAddr rfl fo_38_7) ?_
                    refine Lt.ofWL.step rfl rfl rfl (OpV.load1 rfl pt_4 (fun w hs => hs.cell (hd25_2 7 _ rfl))) ?_
                    refine Lt.ofWL.step rfl rfl rfl (OpV.move rfl) ?_
                    refine Lt.ofWL.step rfl rfl rfl (OpV.remR rfl rfl rfl) ?_
                    refine Lt.ofWL.step rfl rfl rfl (OpV.eql rfl rfl) ?_
                    refine Lt.ofWL.step rfl rfl rfl (OpV.bneq rfl rfl ub_4) ?_
                    refine WL.nil ?_
                    refine En.next ?_
                    refine WC.cond rfl ?_ ?_
                    ·
                      intro hc_9
                      replace zh0 := ifO_t hc_9 zh0
                      refine WC.seq ?_
                      refine WC.region ?_
                      refine Lt.ofWL.step rfl rfl rfl (OpV.assign rfl) ?_
                      refine WL.nil ?_
                      refine En.next ?_
                      refine WC.ret ?_
                      refine En.then_ret ?_
                      refine En.block_ret ?_
                      refine En.then_ret ?_
                      refine En.then_ret ?_
                      refine En.block_ret ?_
                      refine En.then_ret ?_
                      refine En.ret1 rfl (Res.tmp rfl) ?_
                      have hx := exitP ze0 zh0
                      subst hx
                      replace h := fork_r h
                      obtain rfl := Option.some.inj h
                      intro w' hs
                      exact ⟨rfl, hs.below⟩
                    ·
                      intro hc_9
                      replace zh0 := ifO_f hc_9 zh0
                      refine WC.skip ?_
                      refine En.next ?_
                      refine WC.seq ?_
                      refine WC.region ?_
                      refine Lt.ofWL.step rfl rfl rfl (OpV.move rfl) ?_
                      refine Lt.ofWL.step rfl rfl rfl (OpV.addR rfl rfl) ?_
                      refine Lt.ofWL.step rfl rfl rfl (OpV.assign rfl) ?_
                      refine WL.nil ?_
                      refine En.next ?_
                      refine WC.seq ?_
                      refine WC.seq ?_
                      obtain ⟨x28_2, e28_2, zh0⟩ := bnd zh0
                      obtain ⟨g28_2, o28_2, _, ha28_2, ⟨a28_2_1, c28_2_1, rfl, r28_2_1⟩, hd28_2⟩ := Rd.atIdx r0_0 e28_2
                      replace hd28_2 : ∀ (j : Nat) v, ([.int .i64 x28_2.Id, .int .i64 x28_2.X, .int .i64 x28_2.Y, .int .i64 x28_2.W, .int .i64 x28_2.H, .int .i64 x28_2.Alpha, .int .i64 x28_2.Orient, .bool x28_2.Visible, .int .i64 x28_2.Buffer.W, .int .i64 x28_2.Buffer.H, .slice a28_2_1 x28_2.Buffer.Data.length c28_2_1] : List Value)[j]? = some v → w.cell? ⟨g28_2, o28_2 + v1_0.toNat * 11 + j, .none⟩ = some v := hd28_2
                      refine WC.region ?_
                      refine Lt.ofWL.step rfl rfl rfl (OpV.move rfl) ?_
                      refine Lt.ofWL.step rfl rfl rfl (OpV.move rfl) ?_
                      refine Lt.ofWL.step rfl rfl rfl (OpV.idxA rfl rfl se_24 ha28_2 ⟨(idx_some e28_2).1, (idx_some e28_2).2.1⟩) ?_
                      refine Lt.ofWL.step rfl rfl rfl (OpV.fieldAddr rfl fo_38_8) ?_
                      refine Lt.ofWL.step rfl rfl rfl (OpV.fieldAddr rfl fo_36_0) ?_
                      refine Lt.ofWL.step rfl rfl rfl (OpV.load1 rfl pt_3 (fun w hs => hs.cell (hd28_2 8 _ rfl))) ?_
                      refine Lt.ofWL.step rfl rfl rfl (OpV.move rfl) ?_
                      refine Lt.ofWL.step rfl rfl rfl (OpV.neq rfl rfl) ?_
                      refine WL.nil ?_
                      refine En.next ?_
                      refine WC.cond rfl ?_ ?_
                      ·
                        intro hc_10
                        replace zh0 := ifO_t hc_10 zh0
                        refine WC.seq ?_
                        refine WC.region ?_
                        refine Lt.ofWL.step rfl rfl rfl (OpV.assign rfl) ?_
                        refine WL.nil ?_
                        refine En.next ?_
                        refine WC.ret ?_
                        refine En.then_ret ?_
                        refine En.block_ret ?_
                        refine En.then_ret ?_
                        refine En.then_ret ?_
                        refine En.block_ret ?_
                        refine En.then_ret ?_
                        refine En.ret1 rfl (Res.tmp rfl) ?_
                        have hx := exitP ze0 zh0
                        subst hx
                        replace h := fork_r h
                        obtain rfl := Option.some.inj h
                        intro w' hs
                        exact ⟨rfl, hs.below⟩
                      ·
                        intro hc_10
                        replace zh0 := ifO_f hc_10 zh0
                        refine WC.skip ?_
                        refine En.next ?_
                        refine WC.seq ?_
                        refine WC.region ?_
                        refine Lt.ofWL.step rfl rfl rfl (OpV.move rfl) ?_
                        refine Lt.ofWL.step rfl rfl rfl (OpV.addR rfl rfl) ?_
                        refine Lt.ofWL.step rfl rfl rfl (OpV.assign rfl) ?_
                        refine WL.nil ?_
                        refine En.next ?_
                        refine WC.seq ?_
                        refine WC.seq ?_
                        obtain ⟨x31_2, e31_2, zh0⟩ := bnd zh0
                        obtain ⟨g31_2, o31_2, _, ha31_2, ⟨a31_2_1, c31_2_1, rfl, r31_2_1⟩, hd31_2⟩ := Rd.atIdx r0_0 e31_2
                        replace hd31_2 : ∀ (j : Nat) v, ([.int .i64 x31_2.Id, .int .i64 x31_2.X, .int .i64 x31_2.Y, .int .i64 x31_2.W, .int .i64 x31_2.H, .int .i64 x31_2.Alpha, .int .i64 x31_2.Orient, .bool x31_2.Visible, .int .i64 x31_2.Buffer.W, .int .i64 x31_2.Buffer.H, .slice a31_2_1 x31_2.Buffer.Data.length c31_2_1] : List Value)[j]? = some v → w.cell? ⟨g31_2, o31_2 + v1_0.toNat * 11 + j, .none⟩ = some v := hd31_2
                        refine WC.region ?_
                        refine Lt.ofWL.step rfl rfl rfl (OpV.move rfl) ?_
                        refine Lt.ofWL.step rfl rfl rfl (OpV.move rfl) ?_
                        refine Lt.ofWL.step rfl rfl rfl (OpV.idxA rfl rfl se_24 ha31_2 ⟨(idx_some e31_2).1, (idx_some e31_2).2.1⟩) ?_
                        refine Lt.ofWL.step rfl rfl rfl (OpV.fieldAddr rfl fo_38_8) ?_
                        refine Lt.ofWL.step rfl rfl rfl (OpV.fieldAddr rfl fo_36_1) ?_
                        refine Lt.ofWL.step rfl rfl rfl (OpV.load1 rfl pt_3 (fun w hs => hs.cell (hd31_2 9 _ rfl))) ?_
                        refine Lt.ofWL.step rfl rfl rfl (OpV.move rfl) ?_
                        refine Lt.ofWL.step rfl rfl rfl (OpV.neq rfl rfl) ?_
                        refine WL.nil ?_
                        refine En.next ?_
                        refine WC.cond rfl ?_ ?_
                        ·
                          intro hc_11
                          replace zh0 := ifO_t hc_11 zh0
                          refine WC.seq ?_
                          refine WC.region ?_
                          refine Lt.ofWL.step rfl rfl rfl (OpV.assign rfl) ?_
                          refine WL.nil ?_
                          refine En.next ?_
                          refine WC.ret ?_
                          refine En.then_ret ?_
                          refine En.block_ret ?_
                          refine En.then_ret ?_
                          refine En.then_ret ?_
                          refine En.block_ret ?_
                          refine En.then_ret ?_
                          refine En.ret1 rfl (Res.tmp rfl) ?_
                          have hx := exitP ze0 zh0
                          subst hx
                          replace h := fork_r h
                          obtain rfl := Option.some.inj h
                          intro w' hs
                          exact ⟨rfl, hs.below⟩
                        ·
                          intro hc_11
                          replace zh0 := ifO_f hc_11 zh0
                          refine WC.skip ?_
                          refine En.next ?_
                          refine WC.seq ?_
                          refine WC.region ?_
                          refine Lt.ofWL.step rfl rfl rfl (OpV.move rfl) ?_
                          refine Lt.ofWL.step rfl rfl rfl (OpV.addR rfl rfl) ?_
                          refine Lt.ofWL.step rfl rfl rfl (OpV.assign rfl) ?_
                          refine WL.nil ?_
                          refine En.next ?_
                          refine WC.seq ?_
                          obtain ⟨x34_2, e34_2, zh0⟩ := bnd zh0
                          obtain ⟨g34_2, o34_2, _, ha34_2, ⟨a34_2_1, c34_2_1, rfl, r34_2_1⟩, hd34_2⟩ := Rd.atIdx r0_0 e34_2
                          replace hd34_2 : ∀ (j : Nat) v, ([.int .i64 x34_2.Id, .int .i64 x34_2.X, .int .i64 x34_2.Y, .int .i64 x34_2.W, .int .i64 x34_2.H, .int .i64 x34_2.Alpha, .int .i64 x34_2.Orient, .bool x34_2.Visible, .int .i64 x34_2.Buffer.W, .int .i64 x34_2.Buffer.H, .slice a34_2_1 x34_2.Buffer.Data.length c34_2_1] : List Value)[j]? = some v → w.cell? ⟨g34_2, o34_2 + v1_0.toNat * 11 + j, .none⟩ = some v := hd34_2
                          obtain ⟨x34_7, e34_7, zh0⟩ := bnd zh0
                          refine WC.region ?_
                          refine Lt.ofWL.step rfl rfl rfl (OpV.move rfl) ?_
                          refine Lt.ofWL.step rfl rfl rfl (OpV.move rfl) ?_
                          refine Lt.ofWL.step rfl rfl rfl (OpV.idxA rfl rfl se_24 ha34_2 ⟨(idx_some e34_2).1, (idx_some e34_2).2.1⟩) ?_
                          refine Lt.ofWL.step rfl rfl rfl (OpV.fieldAddr rfl fo_38_8) ?_
                          refine Lt.ofWL.step rfl rfl rfl (OpV.fieldAddr rfl fo_36_2) ?_
                          refine Lt.ofWL.step rfl rfl rfl (OpV.load1 rfl pt_32 (fun w hs => hs.cell (hd34_2 10 _ rfl))) ?_
                          refine Lt.ofWL.step rfl rfl rfl (OpV.move rfl) ?_
                          refine Lt.ofWL.step rfl rfl rfl (OpV.call (evs.cons rfl (evs.cons rfl (evs.nil))) ca_29 (fun w hs => w_laws_heldIntS e34_7 (r34_2_1.ext hs.below))) ?_
                          refine Lt.ofWL.step rfl rfl rfl (OpV.assign rfl) ?_
                          refine WL.nil ?_
                          refine En.next ?_
                          refine WC.seq ?_
                          refine WC.region ?_
                          refine Lt.ofWL.step rfl rfl rfl (OpV.move rfl) ?_
                          refine Lt.ofWL.step rfl rfl rfl (OpV.lss rfl rfl) ?_
                          refine WL.nil ?_
                          refine En.next ?_
                          refine WC.cond rfl ?_ ?_
                          ·
                            intro hc_12
                            replace zh0 := ifO_t hc_12 zh0
                            refine WC.seq ?_
                            refine WC.region ?_
                            refine Lt.ofWL.step rfl rfl rfl (OpV.assign rfl) ?_
                            refine WL.nil ?_
                            refine En.next ?_
                            refine WC.ret ?_
                            refine En.block_ret ?_
                            refine En.then_ret ?_
                            refine En.then_ret ?_
                            refine En.block_ret ?_
                            refine En.then_ret ?_
                            refine En.ret1 rfl (Res.tmp rfl) ?_
                            have hx := exitP ze0 zh0
                            subst hx
                            replace h := fork_r h
                            obtain rfl := Option.some.inj h
                            intro w' hs
                            exact ⟨rfl, hs.below⟩
                          ·
                            intro hc_12
                            replace zh0 := ifO_f hc_12 zh0
                            refine WC.skip ?_
                            refine En.block_norm ?_
                            refine En.next ?_
                            refine WC.region ?_
                            refine Lt.ofWL.step rfl rfl rfl (OpV.move rfl) ?_
                            refine Lt.ofWL.step rfl rfl rfl (OpV.addR rfl rfl) ?_
                            refine Lt.ofWL.step rfl rfl rfl (OpV.assign rfl) ?_
                            refine WL.nil ?_
                            exact En.backP zb0 zh0 () (Sub.cons rfl (Sub.cons rfl (Sub.cons rfl (Sub.nil _)))) (fun _ h => h)
    ·
      intro hc_1
      replace zh0 := ifO_f hc_1 zh0
      refine WC.exit ?_
      refine En.then_exit ?_
      refine En.then_exit ?_
      have hx := exitP ze0 zh0
      exact En.wk _ _ (Sub.cons rfl (Sub.nil _)) (fun _ h => h) (zK0_0 (v_0, ()) hx.symm)

theorem w_laws_heldScene {a_p0 : SceneT} {k_p1 : Int} {r : Int} {q0_0 : Option Addr} {n0_0 k0_0 : Nat} (h : laws_heldScene a_p0 k_p1 = some r) {w : World} (r0_0 : Rd tSurface w q0_0 n0_0 k0_0 a_p0.Surfaces)   :
    Calls Try.prog 32 #[.agg #[.int .i64 a_p0.W, .int .i64 a_p0.H, .int .i64 a_p0.Back, .slice q0_0 n0_0 k0_0], .int .i64 k_p1] w (fun en w' => en = .returned (.int .i64 r) ∧ Ext w w') := by
  obtain rfl := r0_0.1
  unfold laws_heldScene at h
  refine enter (vs := [_, _]) Try.func32 rfl rfl rfl rfl ?_
  refine WC.seq ?_
  refine WC.region ?_
  refine WL.heavy rfl rfl rfl (OpH.box rfl rfl ?_)
  intro b0_0
  refine Lt.ofWL.step rfl rfl rfl (OpV.assign rfl) ?_
  refine WL.nil ?_
  refine En.next ?_
  refine WC.seq ?_
  obtain ⟨x1_3, e1_3, h⟩ := bnd h
  refine WC.region ?_
  refine Lt.ofWL.step rfl rfl rfl (OpV.fieldAddr rfl fo_26_3) ?_
  refine Lt.ofWL.step rfl rfl rfl (OpV.loadBox rfl pt_24 (.head _) rfl) ?_
  refine Lt.ofWL.step rfl rfl rfl (OpV.move rfl) ?_
  refine Lt.ofWL.step rfl rfl rfl (OpV.call (evs.cons rfl (evs.cons rfl (evs.nil))) ca_84 (fun w hs => w_laws_heldSurfaceS e1_3 (r0_0.ext hs.below))) ?_
  refine Lt.ofWL.step rfl rfl rfl (OpV.assign rfl) ?_
  refine WL.nil ?_
  refine En.next ?_
  refine WC.seq ?_
  refine WC.seq ?_
  refine WC.region ?_
  refine Lt.ofWL.step rfl rfl rfl (OpV.move rfl) ?_
  refine Lt.ofWL.step rfl rfl rfl (OpV.lss rfl rfl) ?_
  refine WL.nil ?_
  refine En.next ?_
  refine WC.cond rfl ?_ ?_
  ·
    intro hc_1
    replace h := ifO_t hc_1 h
    refine WC.seq ?_
    refine WC.region ?_
    refine Lt.ofWL.step rfl rfl rfl (OpV.assign rfl) ?_
    refine WL.nil ?_
    refine En.next ?_
    refine WC.ret ?_
    refine En.then_ret ?_
    refine En.ret1 rfl (Res.tmp rfl) ?_
    obtain rfl := Option.some.inj h
    intro w' hs
    exact ⟨rfl, hs.below⟩
  ·
    intro hc_1
    replace h := ifO_f hc_1 h
    refine WC.skip ?_
    refine En.next ?_
    refine WC.seq ?_
    refine WC.region ?_
    refine Lt.ofWL.step rfl rfl rfl (OpV.move rfl) ?_
    refine Lt.ofWL.step rfl rfl rfl (OpV.assign rfl) ?_
    refine WL.nil ?_
    refine En.next ?_
    refine WC.ret ?_
    refine En.ret1 rfl (Res.tmp rfl) ?_
    obtain rfl := Option.some.inj h
    intro w' hs
    exact ⟨rfl, hs.below⟩

theorem w_laws_FnExactRestOf {a_p0 : SceneT} {a_p1 : OptionsT} {r : Bool} {q0_0 : Option Addr} {n0_0 k0_0 : Nat} (h : laws_FnExactRestOf a_p0 a_p1 = some r) {w : World} (r0_0 : Rd tSurface w q0_0 n0_0 k0_0 a_p0.Surfaces)   :
    Calls Try.prog 5 #[.agg #[.int .i64 a_p0.W, .int .i64 a_p0.H, .int .i64 a_p0.Back, .slice q0_0 n0_0 k0_0], .agg #[.int .i64 a_p1.Overlays, .bool a_p1.Cursor, .int .i64 a_p1.Layout, .bool a_p1.Partial, .bool a_p1.Sleep, .bool a_p1.Secret]] w (fun en w' => en = .returned (.bool r) ∧ Ext w w') := by
  obtain rfl := r0_0.1
  unfold laws_FnExactRestOf at h
  refine enter (vs := [_, _]) Try.func5 rfl rfl rfl rfl ?_
  refine WC.seq ?_
  refine WC.region ?_
  refine WL.heavy rfl rfl rfl (OpH.box rfl rfl ?_)
  intro b0_0
  refine WL.heavy rfl rfl rfl (OpH.box rfl rfl ?_)
  intro b0_1
  refine Lt.ofWL.step rfl rfl rfl (OpV.assign rfl) ?_
  refine WL.nil ?_
  refine En.next ?_
  refine WC.seq ?_
  refine WC.region ?_
  refine Lt.ofWL.step rfl rfl rfl (OpV.assign rfl) ?_
  refine WL.nil ?_
  refine En.next ?_
  refine WC.seq ?_
  obtain ⟨x2_2, e2_2, h⟩ := bnd h
  refine WC.region ?_
  refine Lt.ofWL.step rfl rfl rfl (OpV.loadAll rfl (.tail _ (.head _)) ag_43) ?_
  refine Lt.ofWL.step rfl rfl rfl (OpV.move rfl) ?_
  refine Lt.ofWL.step rfl rfl rfl (OpV.call (evs.cons rfl (evs.cons rfl (evs.nil))) ca_21 (fun w hs => w_laws_szScene e2_2 (r0_0.ext hs.below))) ?_
  refine Lt.ofWL.step rfl rfl rfl (OpV.assign rfl) ?_
  refine WL.nil ?_
  refine En.next ?_
  refine WC.seq ?_
  refine WC.seq ?_
  refine WC.region ?_
  refine Lt.ofWL.step rfl rfl rfl (OpV.move rfl) ?_
  refine Lt.ofWL.step rfl rfl rfl (OpV.lss rfl rfl) ?_
  refine WL.nil ?_
  refine En.next ?_
  refine WC.cond rfl ?_ ?_
  ·
    intro hc_1
    replace h := ifO_t hc_1 h
    refine WC.seq ?_
    refine WC.region ?_
    refine Lt.ofWL.step rfl rfl rfl (OpV.assign rfl) ?_
    refine WL.nil ?_
    refine En.next ?_
    refine WC.ret ?_
    refine En.then_ret ?_
    refine En.ret1 rfl (Res.tmp rfl) ?_
    obtain rfl := Option.some.inj h
    intro w' hs
    exact ⟨rfl, hs.below⟩
  ·
    intro hc_1
    replace h := ifO_f hc_1 h
    refine WC.skip ?_
    refine En.next ?_
    refine WC.seq ?_
    obtain ⟨x5_1, e5_1, h⟩ := bnd h
    obtain ⟨x5_3, e5_3, h⟩ := bnd h
    obtain ⟨x5_4, e5_4, h⟩ := bnd h
    refine WC.cut (X := Nat × (Option Addr) × Nat × Nat × (List Nat) × (List Nat) × (Option Addr) × Nat × Nat) .normal (fun _ => True) (fun x => match x with | (b5_5, a5_400, n5_400, c5_400, f5_400, f5_100, a5_100, n5_100, c5_100) => [(2, .pointer (some ⟨b0_0, 0, .none⟩)), (3, .pointer (some ⟨b0_1, 0, .none⟩)), (6, .pointer (some ⟨b5_5, 0, .none⟩))]) (fun x => match x with | (b5_5, a5_400, n5_400, c5_400, f5_400, f5_100, a5_100, n5_100, c5_100) => [Chunk.box b5_5 26 [.int .i64 x5_4.W, .int .i64 x5_4.H, .int .i64 x5_4.Back, .slice a5_400 n5_400 c5_400], Chunk.own tSurface f5_400 a5_400 n5_400 c5_400 x5_4.Surfaces, Chunk.box b0_1 44 [.int .i64 a_p1.Overlays, .bool a_p1.Cursor, .int .i64 a_p1.Layout, .bool a_p1.Partial, .bool a_p1.Sleep, .bool a_p1.Secret], Chunk.box b0_0 43 [.int .i64 a_p0.W, .int .i64 a_p0.H, .int .i64 a_p0.Back, .slice q0_0 a_p0.Surfaces.length k0_0]]) ?_ ?_
    ·
      rintro ⟨b5_5, a5_400, n5_400, c5_400, f5_400, f5_100, a5_100, n5_100, c5_100⟩ _
      show En _ _ _ _ [(2, .pointer (some ⟨b0_0, 0, .none⟩)), (3, .pointer (some ⟨b0_1, 0, .none⟩)), (6, .pointer (some ⟨b5_5, 0, .none⟩))] [Chunk.box b5_5 26 [.int .i64 x5_4.W, .int .i64 x5_4.H, .int .i64 x5_4.Back, .slice a5_400 n5_400 c5_400], Chunk.own tSurface f5_400 a5_400 n5_400 c5_400 x5_4.Surfaces, Chunk.box b0_1 44 [.int .i64 a_p1.Overlays, .bool a_p1.Cursor, .int .i64 a_p1.Layout, .bool a_p1.Partial, .bool a_p1.Sleep, .bool a_p1.Secret], Chunk.box b0_0 43 [.int .i64 a_p0.W, .int .i64 a_p0.H, .int .i64 a_p0.Back, .slice q0_0 a_p0.Surfaces.length k0_0]]
      refine En.next ?_
      refine WC.seq ?_
      obtain ⟨x6_1, e6_1, h⟩ := bnd h
      refine WC.region ?_
      refine Lt.ofWL.step rfl rfl rfl (OpV.loadAll rfl (.tail _ (.tail _ (.tail _ (.head _)))) ag_43) ?_
      refine WL.heavy rfl rfl rfl (OpH.callR (evs.cons rfl (evs.nil)) ca_23 (fun w hs => w_laws_toScene e6_1 (r0_0.ext hs.below)) ?_)
      rintro _ _ ⟨a6_100, n6_100, c6_100, f6_100, rfl, rfl⟩
      refine WL.heavy rfl rfl rfl (OpH.alloc zc_26 ?_)
      intro b6_2
      refine WL.heavy0 rfl rfl (OpH.storeTo (A := []) [_, _, _, _] rfl rfl rfl ts_26 rfl rfl rfl ?_)
      refine WL.nil ?_
      refine En.next ?_
      refine WC.seq ?_
      obtain ⟨x7_2, e7_2, h⟩ := bnd h
      obtain ⟨x7_3, e7_3, h⟩ := bnd h
      refine WC.cut (X := Nat × (Option Addr) × Nat × Nat × (List Nat)) .normal (fun _ => True) (fun x => match x with | (b7_4, a7_300, n7_300, c7_300, f7_300) => [(2, .pointer (some ⟨b0_0, 0, .none⟩)), (3, .pointer (some ⟨b0_1, 0, .none⟩)), (6, .pointer (some ⟨b5_5, 0, .none⟩)), (7, .pointer (some ⟨b6_2, 0, .none⟩)), (8, .pointer (some ⟨b7_4, 0, .none⟩))]) (fun x => match x with | (b7_4, a7_300, n7_300, c7_300, f7_300) => [Chunk.box b7_4 26 [.int .i64 x7_3.W, .int .i64 x7_3.H, .int .i64 x7_3.Back, .slice a7_300 n7_300 c7_300], Chunk.own tSurface f7_300 a7_300 n7_300 c7_300 x7_3.Surfaces, Chunk.box b6_2 26 [.int .i64 x6_1.W, .int .i64 x6_1.H, .int .i64 x6_1.Back, .slice a6_100 n6_100 c6_100], Chunk.own tSurface f6_100 a6_100 n6_100 c6_100 x6_1.Surfaces, Chunk.box b5_5 26 [.int .i64 x5_4.W, .int .i64 x5_4.H, .int .i64 x5_4.Back, .slice a5_400 n5_400 c5_400], Chunk.own tSurface f5_400 a5_400 n5_400 c5_400 x5_4.Surfaces, Chunk.box b0_1 44 [.int .i64 a_p1.Overlays, .bool a_p1.Cursor, .int .i64 a_p1.Layout, .bool a_p1.Partial, .bool a_p1.Sleep, .bool a_p1.Secret], Chunk.box b0_0 43 [.int .i64 a_p0.W, .int .i64 a_p0.H, .int .i64 a_p0.Back, .slice q0_0 a_p0.Surfaces.length k0_0]]) ?_ ?_
      ·
        rintro ⟨b7_4, a7_300, n7_300, c7_300, f7_300⟩ _
        show En _ _ _ _ [(2, .pointer (some ⟨b0_0, 0, .none⟩)), (3, .pointer (some ⟨b0_1, 0, .none⟩)), (6, .pointer (some ⟨b5_5, 0, .none⟩)), (7, .pointer (some ⟨b6_2, 0, .none⟩)), (8, .pointer (some ⟨b7_4, 0, .none⟩))] [Chunk.box b7_4 26 [.int .i64 x7_3.W, .int .i64 x7_3.H, .int .i64 x7_3.Back, .slice a7_300 n7_300 c7_300], Chunk.own tSurface f7_300 a7_300 n7_300 c7_300 x7_3.Surfaces, Chunk.box b6_2 26 [.int .i64 x6_1.W, .int .i64 x6_1.H, .int .i64 x6_1.Back, .slice a6_100 n6_100 c6_100], Chunk.own tSurface f6_100 a6_100 n6_100 c6_100 x6_1.Surfaces, Chunk.box b5_5 26 [.int .i64 x5_4.W, .int .i64 x5_4.H, .int .i64 x5_4.Back, .slice a5_400 n5_400 c5_400], Chunk.own tSurface f5_400 a5_400 n5_400 c5_400 x5_4.Surfaces, Chunk.box b0_1 44 [.int .i64 a_p1.Overlays, .bool a_p1.Cursor, .int .i64 a_p1.Layout, .bool a_p1.Partial, .bool a_p1.Sleep, .bool a_p1.Secret], Chunk.box b0_0 43 [.int .i64 a_p0.W, .int .i64 a_p0.H, .int .i64 a_p0.Back, .slice q0_0 a_p0.Surfaces.length k0_0]]
        refine En.next ?_
        refine WC.seq ?_
        refine WC.seq ?_
        obtain ⟨x8_2, e8_2, h⟩ := bnd h
        refine WC.region ?_
        refine Lt.ofWL.step rfl rfl rfl (OpV.loadAll rfl (.head _) ag_26) ?_
        refine Lt.ofWL.step rfl rfl rfl (OpV.loadAll rfl (.tail _ (.tail _ (.tail _ (.tail _ (.head _))))) ag_26) ?_
        refine Lt.ofWL.step rfl rfl rfl (OpV.call (evs.cons rfl (evs.cons rfl (evs.nil))) ca_26 (fun w hs => w_laws_eqScene e8_2 (Ow.rd (hs.mem (.tail _ (.head _)))) (Ow.rd (hs.mem (.tail _ (.tail _ (.tail _ (.tail _ (.tail _ (.head _)))))))))) ?_
        refine Lt.ofWL.step rfl rfl rfl (OpV.not rfl) ?_
        refine WL.nil ?_
        refine En.next ?_
        refine WC.cond rfl ?_ ?_
        ·
          intro hc_2
          replace h := ifO_t hc_2 h
          refine WC.seq ?_
          refine WC.region ?_
          refine Lt.ofWL.step rfl rfl rfl (OpV.assign rfl) ?_
          refine WL.nil ?_
          refine En.next ?_
          refine WC.ret ?_
          refine En.then_ret ?_
          refine En.ret1 rfl (Res.tmp rfl) ?_
          obtain rfl := Option.some.inj h
          intro w' hs
          exact ⟨rfl, hs.below⟩
        ·
          intro hc_2
          replace h := ifO_f hc_2 h
          refine WC.skip ?_
          refine En.next ?_
          refine WC.seq ?_
          refine WC.seq ?_
          obtain ⟨x10_2, e10_2, h⟩ := bnd h
          obtain ⟨x10_3, e10_3, h⟩ := bnd h
          refine WC.drawnH [] ([_, _, _, _, _, _, _, _]) (fun _ h => h) (by kernel_rfl) ?_
          refine WAE.take (i := 0) rfl (by kernel_rfl) (by kernel_rfl) (by kernel_rfl) rfl rfl rfl (OpV.loadAll rfl (.tail _ (.tail _ (.head _))) ag_26) ?_
          refine WAE.take (i := 1) rfl (by kernel_rfl) (by kernel_rfl) (by kernel_rfl) rfl rfl rfl (OpV.loadAll rfl (.tail _ (.tail _ (.tail _ (.tail _ (.tail _ (.tail _ (.tail _ (.head _)))))))) ag_43) ?_
          refine WAE.all (rs := [2]) (by kernel_rfl) rfl (AllR.cons rfl rfl rfl rfl ?_ AllR.nil)
          refine OpH.callR (evs.cons rfl (evs.nil)) ca_23 (fun w hs => w_laws_toScene e10_2 (r0_0.ext hs.below)) ?_
          rintro _ _ ⟨a10_200, n10_200, c10_200, f10_200, rfl, rfl⟩
          refine ⟨[_], rfl, ?_⟩
          refine WAE.rebase (H := []) ?_
          refine WAE.take (i := 3) rfl (by kernel_rfl) (by kernel_rfl) (by kernel_rfl) rfl rfl rfl (OpV.call (evs.cons rfl (evs.cons rfl (evs.nil))) ca_26 (fun w hs => w_laws_eqScene e10_3 (Ow.rd (hs.mem (.tail _ (.tail _ (.tail _ (.tail _ (.head _))))))) (Ow.rd (hs.mem (.head _))))) ?_
          refine WAE.take (i := 4) rfl (by kernel_rfl) (by kernel_rfl) (by kernel_rfl) rfl rfl rfl (OpV.not rfl) ?_
          refine WAE.done (by kernel_rfl) ?_ _
          refine En.next ?_
          refine WC.cond rfl ?_ ?_
          ·
            intro hc_3
            replace h := ifO_t hc_3 h
            refine WC.seq ?_
            refine WC.region ?_
            refine Lt.ofWL.step rfl rfl rfl (OpV.assign rfl) ?_
            refine WL.nil ?_
            refine En.next ?_
            refine WC.ret ?_
            refine En.then_ret ?_
            refine En.ret1 rfl (Res.tmp rfl) ?_
            obtain rfl := Option.some.inj h
            intro w' hs
            exact ⟨rfl, hs.below⟩
          ·
            intro hc_3
            replace h := ifO_f hc_3 h
            refine WC.skip ?_
            refine En.next ?_
            refine WC.seq ?_
            refine WC.region ?_
            refine Lt.ofWL.step rfl rfl rfl (OpV.assign rfl) ?_
            refine WL.nil ?_
            refine En.next ?_
            refine WC.seq ?_
            obtain ⟨⟨x13_2a, x13_2b⟩, e13_2, h⟩ := bnd h
            refine WC.region ?_
            refine Lt.ofWL.step rfl rfl rfl (OpV.loadAll rfl (.tail _ (.tail _ (.tail _ (.head _)))) ag_26) ?_
            refine Lt.ofWL.step rfl rfl rfl (OpV.move rfl) ?_
            refine WL.wkF (fun _ h => h.perm (List.perm_middle (l₁ := [_, _, _, _]))) ?_
            refine WL.heavy rfl rfl rfl (OpH.callX (evs.cons rfl (evs.cons rfl (evs.nil))) ca_27 (fun w hs => w_laws_markScene e13_2 hs) ?_)
            rintro _ _ ⟨g13_200, rfl, rfl⟩
            refine Lt.ofWL.step rfl rfl rfl (OpV.assign rfl) ?_
            refine WL.nil ?_
            refine En.next ?_
            refine WC.seq ?_
            refine WC.seq ?_
            obtain ⟨q14_7, e14_7, h⟩ := bnd h
            refine WC.region ?_
            refine Lt.ofWL.step rfl rfl rfl (OpV.move rfl) ?_
            refine Lt.ofWL.step rfl rfl rfl (OpV.lss rfl rfl) ?_
            refine Lt.ofWL.step rfl rfl rfl (OpV.move rfl) ?_
            refine Lt.ofWL.orQ 43 48 47 (p := ?pz1) (rest := ?qz1) (B := q14_7) rfl (fun hz => orO_t e14_7 hz) ?Tz1 ?Fz1 ?az1 ?bz1 ?cz1 ?dz1 ?ez1
            case Tz1 =>
              intro hcz1 hkz1
              refine Lt.ofWL.skip rfl rfl rfl ?_
              refine Lt.ofWL.skip rfl rfl rfl ?_
              refine Lt.ofWL.skip rfl rfl rfl ?_
              refine Lt.ofWL.skip rfl rfl rfl ?_
              refine hkz1 _ ?_
              repeat (first | exact Sub.refl _ | refine Sub.skip rfl ?_)
            case Fz1 =>
              intro hcz1 hkz1
              have hqz1 := orO_f e14_7 hcz1
              obtain ⟨x14_5, e14_5, hqz1⟩ := bnd hqz1
              obtain rfl := Option.some.inj hqz1
              refine Lt.ofWL.step rfl rfl rfl (OpV.loadAll rfl (.tail _ (.tail _ (.head _))) ag_26) ?_
              refine Lt.ofWL.step rfl rfl rfl (OpV.loadAll rfl (.tail _ (.tail _ (.tail _ (.tail _ (.tail _ (.head _)))))) ag_26) ?_
              refine Lt.ofWL.step rfl rfl rfl (OpV.call (evs.cons rfl (evs.cons rfl (evs.nil))) ca_26 (fun w hs => w_laws_eqScene e14_5 (Ow.rd (hs.mem (.tail _ (.tail _ (.tail _ (.head _)))))) (Ow.rd (hs.mem (.tail _ (.tail _ (.tail _ (.tail _ (.tail _ (.tail _ (.head _))))))))))) ?_
              refine Lt.ofWL.step rfl rfl rfl (OpV.not rfl) ?_
              refine hkz1 _ ?_ ?_
              exact rfl
              repeat (first | exact Sub.refl _ | refine Sub.skip rfl ?_)
            case az1 => exact rfl
            case bz1 => exact rfl
            case cz1 => exact rfl
            case dz1 => exact rfl
            refine WL.nil ?_
            refine En.next ?_
            refine WC.cond rfl ?_ ?_
            ·
              intro hc_4
              replace h := ifO_t hc_4 h
              refine WC.seq ?_
              refine WC.region ?_
              refine Lt.ofWL.step rfl rfl rfl (OpV.assign rfl) ?_
              refine WL.nil ?_
              refine En.next ?_
              refine WC.ret ?_
              refine En.then_ret ?_
              refine En.ret1 rfl (Res.tmp rfl) ?_
              obtain rfl := Option.some.inj h
              intro w' hs
              exact ⟨rfl, hs.below⟩
            ·
              intro hc_4
              replace h := ifO_f hc_4 h
              refine WC.skip ?_
              refine En.next ?_
              refine WC.seq ?_
              refine WC.region ?_
              refine Lt.ofWL.step rfl rfl rfl (OpV.assign rfl) ?_
              refine WL.nil ?_
              refine En.next ?_
              refine WC.seq ?_
              obtain ⟨⟨x17_2a, x17_2b⟩, e17_2, h⟩ := bnd h
              refine WC.region ?_
              refine Lt.ofWL.step rfl rfl rfl (OpV.loadAll rfl (.tail _ (.tail _ (.head _))) ag_26) ?_
              refine Lt.ofWL.step rfl rfl rfl (OpV.move rfl) ?_
              refine WL.wkF (fun _ h => h.perm (List.perm_middle (l₁ := [_, _, _]))) ?_
              refine WL.heavy rfl rfl rfl (OpH.callX (evs.cons rfl (evs.cons rfl (evs.nil))) ca_27 (fun w hs => w_laws_markScene e17_2 hs) ?_)
              rintro _ _ ⟨g17_200, rfl, rfl⟩
              refine Lt.ofWL.step rfl rfl rfl (OpV.assign rfl) ?_
              refine WL.nil ?_
              refine En.next ?_
              refine WC.seq ?_
              refine WC.region ?_
              refine Lt.ofWL.step rfl rfl rfl (OpV.assign rfl) ?_
              refine WL.nil ?_
              refine En.next ?_
              refine WC.seq ?_
              obtain ⟨x19_2, e19_2, h⟩ := bnd h
              refine WC.region ?_
              refine Lt.ofWL.step rfl rfl rfl (OpV.loadAll rfl (.tail _ (.tail _ (.tail _ (.head _)))) ag_26) ?_
              refine Lt.ofWL.step rfl rfl rfl (OpV.move rfl) ?_
              refine Lt.ofWL.step rfl rfl rfl (OpV.call (evs.cons rfl (evs.cons rfl (evs.nil))) ca_32 (fun w hs => w_laws_heldScene e19_2 (Ow.rd (hs.mem (.head _))))) ?_
              refine Lt.ofWL.step rfl rfl rfl (OpV.assign rfl) ?_
              refine WL.nil ?_
              refine En.next ?_
              refine WC.seq ?_
              refine WC.seq ?_
              refine WC.region ?_
              refine Lt.ofWL.step rfl rfl rfl (OpV.move rfl) ?_
              refine Lt.ofWL.step rfl rfl rfl (OpV.lss rfl rfl) ?_
              refine WL.nil ?_
              refine En.next ?_
              refine WC.cond rfl ?_ ?_
              ·
                intro hc_5
                replace h := ifO_t hc_5 h
                refine WC.seq ?_
                refine WC.region ?_
                refine Lt.ofWL.step rfl rfl rfl (OpV.assign rfl) ?_
                refine WL.nil ?_
                refine En.next ?_
                refine WC.ret ?_
                refine En.then_ret ?_
                refine En.ret1 rfl (Res.tmp rfl) ?_
                obtain rfl := Option.some.inj h
                intro w' hs
                exact ⟨rfl, hs.below⟩
              ·
                intro hc_5
                replace h := ifO_f hc_5 h
                refine WC.skip ?_
                refine En.next ?_
                refine WC.seq ?_
                refine WC.seq ?_
                refine WC.region ?_
                refine Lt.ofWL.step rfl rfl rfl (OpV.move rfl) ?_
                refine Lt.ofWL.step rfl rfl rfl (OpV.move rfl) ?_
                refine Lt.ofWL.step rfl rfl rfl (OpV.neq rfl rfl) ?_
                refine WL.nil ?_
                refine En.next ?_
                refine WC.cond rfl ?_ ?_
                ·
                  intro hc_6
                  replace h := ifO_t hc_6 h
                  refine WC.seq ?_
                  refine WC.region ?_
                  refine Lt.ofWL.step rfl rfl rfl (OpV.assign rfl) ?_
                  refine WL.nil ?_
                  refine En.next ?_
                  refine WC.ret ?_
                  refine En.then_ret ?_
                  refine En.ret1 rfl (Res.tmp rfl) ?_
                  obtain rfl := Option.some.inj h
                  intro w' hs
                  exact ⟨rfl, hs.below⟩
                ·
                  intro hc_6
                  replace h := ifO_f hc_6 h
                  refine WC.skip ?_
                  refine En.next ?_
                  refine WC.seq ?_
                  obtain ⟨x24_1, e24_1, h⟩ := bnd h
                  obtain ⟨x24_3, e24_3, h⟩ := bnd h
                  obtain ⟨x24_4, e24_4, h⟩ := bnd h
                  refine WC.cut (X := Nat × (Option Addr) × Nat × Nat × (List Nat) × (List Nat) × (Option Addr) × Nat × Nat) .normal (fun _ => True) (fun x => match x with | (b24_5, a24_400, n24_400, c24_400, f24_400, f24_100, a24_100, n24_100, c24_100) => [(6, .pointer (some ⟨b5_5, 0, .none⟩)), (8, .pointer (some ⟨b7_4, 0, .none⟩)), (10, .int .i64 x17_2a), (12, .pointer (some ⟨b24_5, 0, .none⟩))]) (fun x => match x with | (b24_5, a24_400, n24_400, c24_400, f24_400, f24_100, a24_100, n24_100, c24_100) => [Chunk.box b24_5 26 [.int .i64 x24_4.W, .int .i64 x24_4.H, .int .i64 x24_4.Back, .slice a24_400 n24_400 c24_400], Chunk.own tSurface f24_400 a24_400 n24_400 c24_400 x24_4.Surfaces, Chunk.own tSurface g17_200 a7_300 n7_300 c7_300 x17_2b, Chunk.box b7_4 26 [.int .i64 x7_3.W, .int .i64 x7_3.H, .int .i64 x7_3.Back, .slice a7_300 n7_300 c7_300], Chunk.box b5_5 26 [.int .i64 x5_4.W, .int .i64 x5_4.H, .int .i64 x5_4.Back, .slice a5_400 n5_400 c5_400], Chunk.own tSurface f5_400 a5_400 n5_400 c5_400 x5_4.Surfaces]) ?_ ?_
                  ·
                    rintro ⟨b24_5, a24_400, n24_400, c24_400, f24_400, f24_100, a24_100, n24_100, c24_100⟩ _
                    show En _ _ _ _ [(6, .pointer (some ⟨b5_5, 0, .none⟩)), (8, .pointer (some ⟨b7_4, 0, .none⟩)), (10, .int .i64 x17_2a), (12, .pointer (some ⟨b24_5, 0, .none⟩))] [Chunk.box b24_5 26 [.int .i64 x24_4.W, .int .i64 x24_4.H, .int .i64 x24_4.Back, .slice a24_400 n24_400 c24_400], Chunk.own tSurface f24_400 a24_400 n24_400 c24_400 x24_4.Surfaces, Chunk.own tSurface g17_200 a7_300 n7_300 c7_300 x17_2b, Chunk.box b7_4 26 [.int .i64 x7_3.W, .int .i64 x7_3.H, .int .i64 x7_3.Back, .slice a7_300 n7_300 c7_300], Chunk.box b5_5 26 [.int .i64 x5_4.W, .int .i64 x5_4.H, .int .i64 x5_4.Back, .slice a5_400 n5_400 c5_400], Chunk.own tSurface f5_400 a5_400 n5_400 c5_400 x5_4.Surfaces]
                    refine En.next ?_
                    refine WC.seq ?_
                    refine WC.seq ?_
                    obtain ⟨x25_2, e25_2, h⟩ := bnd h
                    refine WC.region ?_
                    refine Lt.ofWL.step rfl rfl rfl (OpV.loadAll rfl (.head _) ag_26) ?_
                    refine Lt.ofWL.step rfl rfl rfl (OpV.loadAll rfl (.tail _ (.tail _ (.tail _ (.tail _ (.head _))))) ag_26) ?_
                    refine Lt.ofWL.step rfl rfl rfl (OpV.call (evs.cons rfl (evs.cons rfl (evs.nil))) ca_26 (fun w hs => w_laws_eqScene e25_2 (Ow.rd (hs.mem (.tail _ (.head _)))) (Ow.rd (hs.mem (.tail _ (.tail _ (.tail _ (.tail _ (.tail _ (.head _)))))))))) ?_
                    refine Lt.ofWL.step rfl rfl rfl (OpV.not rfl) ?_
                    refine WL.nil ?_
                    refine En.next ?_
                    refine WC.cond rfl ?_ ?_
                    ·
                      intro hc_7
                      replace h := ifO_t hc_7 h
                      refine WC.seq ?_
                      refine WC.region ?_
                      refine Lt.ofWL.step rfl rfl rfl (OpV.assign rfl) ?_
                      refine WL.nil ?_
                      refine En.next ?_
                      refine WC.ret ?_
                      refine En.then_ret ?_
                      refine En.ret1 rfl (Res.tmp rfl) ?_
                      obtain rfl := Option.some.inj h
                      intro w' hs
                      exact ⟨rfl, hs.below⟩
                    ·
                      intro hc_7
                      replace h := ifO_f hc_7 h
                      refine WC.skip ?_
                      refine En.next ?_
                      refine WC.seq ?_
                      refine WC.region ?_
                      refine Lt.ofWL.step rfl rfl rfl (OpV.assign rfl) ?_
                      refine WL.nil ?_
                      refine En.next ?_
                      refine WC.seq ?_
                      obtain ⟨x28_2, e28_2, h⟩ := bnd h
                      refine WC.region ?_
                      refine Lt.ofWL.step rfl rfl rfl (OpV.loadAll rfl (.tail _ (.tail _ (.tail _ (.head _)))) ag_26) ?_
                      refine Lt.ofWL.step rfl rfl rfl (OpV.move rfl) ?_
                      refine Lt.ofWL.step rfl rfl rfl (OpV.call (evs.cons rfl (evs.cons rfl (evs.nil))) ca_32 (fun w hs => w_laws_heldScene e28_2 (Ow.rd (hs.mem (.tail _ (.tail _ (.head _))))))) ?_
                      refine Lt.ofWL.step rfl rfl rfl (OpV.assign rfl) ?_
                      refine WL.nil ?_
                      refine En.next ?_
                      refine WC.seq ?_
                      refine WC.seq ?_
                      refine WC.region ?_
                      refine Lt.ofWL.step rfl rfl rfl (OpV.move rfl) ?_
                      refine Lt.ofWL.step rfl rfl rfl (OpV.lss rfl rfl) ?_
                      refine WL.nil ?_
                      refine En.next ?_
                      refine WC.cond rfl ?_ ?_
                      ·
                        intro hc_8
                        replace h := ifO_t hc_8 h
                        refine WC.seq ?_
                        refine WC.region ?_
                        refine Lt.ofWL.step rfl rfl rfl (OpV.assign rfl) ?_
                        refine WL.nil ?_
                        refine En.next ?_
                        refine WC.ret ?_
                        refine En.then_ret ?_
                        refine En.ret1 rfl (Res.tmp rfl) ?_
                        obtain rfl := Option.some.inj h
                        intro w' hs
                        exact ⟨rfl, hs.below⟩
                      ·
                        intro hc_8
                        replace h := ifO_f hc_8 h
                        refine WC.skip ?_
                        refine En.next ?_
                        refine WC.seq ?_
                        refine WC.seq ?_
                        refine WC.region ?_
                        refine Lt.ofWL.step rfl rfl rfl (OpV.move rfl) ?_
                        refine Lt.ofWL.step rfl rfl rfl (OpV.move rfl) ?_
                        refine Lt.ofWL.step rfl rfl rfl (OpV.neq rfl rfl) ?_
                        refine WL.nil ?_
                        refine En.next ?_
                        refine WC.cond rfl ?_ ?_
                        ·
                          intro hc_9
                          replace h := ifO_t hc_9 h
                          refine WC.seq ?_
                          refine WC.region ?_
                          refine Lt.ofWL.step rfl rfl rfl (OpV.assign rfl) ?_
                          refine WL.nil ?_
                          refine En.next ?_
                          refine WC.ret ?_
                          refine En.then_ret ?_
                          refine En.ret1 rfl (Res.tmp rfl) ?_
                          obtain rfl := Option.some.inj h
                          intro w' hs
                          exact ⟨rfl, hs.below⟩
                        ·
                          intro hc_9
                          replace h := ifO_f hc_9 h
                          refine WC.skip ?_
                          refine En.next ?_
                          refine WC.seq ?_
                          refine WC.region ?_
                          refine Lt.ofWL.step rfl rfl rfl (OpV.assign rfl) ?_
                          refine WL.nil ?_
                          refine En.next ?_
                          refine WC.ret ?_
                          refine En.ret1 rfl (Res.tmp rfl) ?_
                          obtain rfl := Option.some.inj h
                          intro w' hs
                          exact ⟨rfl, hs.below⟩
                  ·
                    intro KR24
                    refine WC.drawnH [] ([_, _, _, _, _, _, _, _, _]) (fun _ h => h) (by kernel_rfl) ?_
                    refine WAE.take (i := 0) rfl (by kernel_rfl) (by kernel_rfl) (by kernel_rfl) rfl rfl rfl (OpV.loadAll rfl (.tail _ (.tail _ (.tail _ (.tail _ (.tail _ (.tail _ (.tail _ (.tail _ (.head _))))))))) ag_43) ?_
                    refine WAE.take (i := 2) rfl (by kernel_rfl) (by kernel_rfl) (by kernel_rfl) rfl rfl rfl (OpV.loadAll rfl (.tail _ (.tail _ (.tail _ (.tail _ (.tail _ (.tail _ (.tail _ (.head _)))))))) ag_44) ?_
                    refine WAE.all (rs := [1, 5]) (by kernel_rfl) rfl (AllR.cons rfl rfl rfl rfl ?_ (AllR.cons rfl rfl rfl rfl ?_ AllR.nil))
                    ·
                      refine OpH.callR (evs.cons rfl (evs.nil)) ca_23 (fun w hs => w_laws_toScene e24_1 (r0_0.ext hs.below)) ?_
                      rintro _ _ ⟨a24_100, n24_100, c24_100, f24_100, rfl, rfl⟩
                      refine ⟨[_], rfl, ?_⟩
                      refine WAE.rebase (H := []) ?_
                      refine WAE.take (i := 3) rfl (by kernel_rfl) (by kernel_rfl) (by kernel_rfl) rfl rfl rfl (OpV.call (evs.cons rfl (evs.nil)) ca_24 (fun w hs => w_laws_toOptions e24_3)) ?_
                      refine WAE.all (rs := [4, 5]) (by kernel_rfl) rfl (AllR.cons rfl rfl rfl rfl ?_ (AllR.cons rfl rfl rfl rfl ?_ AllR.nil))
                      ·
                        refine OpH.callR (evs.cons rfl (evs.cons rfl (evs.nil))) ca_31 (fun w hs => w_impl_RestOf e24_4 (Ow.rd (hs.mem (.head _)))) ?_
                        rintro _ _ ⟨a24_400, n24_400, c24_400, f24_400, rfl, rfl⟩
                        refine ⟨[_], rfl, ?_⟩
                        refine WAE.rebase (H := []) ?_
                        refine WAE.all (rs := [5]) (by kernel_rfl) rfl (AllR.cons rfl rfl rfl rfl ?_ AllR.nil)
                        refine OpH.alloc zc_26 ?_
                        intro b24_5
                        refine ⟨[_], rfl, ?_⟩
                        refine WAE.all (rs := [6]) (by kernel_rfl) rfl (AllR.cons0 rfl rfl rfl ?_ AllR.nil)
                        refine OpH.storeTo (A := []) [_, _, _, _] rfl rfl rfl ts_26 rfl rfl rfl ?_
                        refine ⟨[_], rfl, ?_⟩
                        refine WAE.rebase (H := []) ?_
                        refine WAE.done (by kernel_rfl) ?_ _
                        exact En.wk _ _ (Sub.cons rfl (Sub.cons rfl (Sub.cons rfl (Sub.cons rfl (Sub.nil _))))) (fun _ h => (((((((h).perm (List.perm_middle (l₁ := [_, _, _, _, _, _, _, _, _]))).perm (List.perm_middle (l₁ := [_, _, _, _, _, _, _, _, _]))).perm (List.perm_middle (l₁ := [_, _, _, _, _, _, _, _]))).perm (List.perm_middle (l₁ := [_, _, _, _, _, _]))).perm (List.perm_middle (l₁ := [_, _, _, _, _]))).perm (List.perm_middle (l₁ := [_, _, _, _, _]))).sub (.cons_cons _ (.cons_cons _ (.cons_cons _ (.cons_cons _ (.cons_cons _ (.cons_cons _ (.cons _ (.cons _ (.cons _ (.cons _ (.cons _ (.cons _ (.slnil)))))))))))))) (KR24 (b24_5, a24_400, n24_400, c24_400, f24_400, f24_100, a24_100, n24_100, c24_100) trivial)
                      ·
                        refine OpH.alloc zc_26 ?_
                        intro b24_5
                        refine ⟨[_], rfl, ?_⟩
                        refine WAE.all (rs := [4]) (by kernel_rfl) rfl (AllR.cons rfl rfl rfl rfl ?_ AllR.nil)
                        refine OpH.callR (evs.cons rfl (evs.cons rfl (evs.nil))) ca_31 (fun w hs => w_impl_RestOf e24_4 (Ow.rd (hs.mem (.tail _ (.head _))))) ?_
                        rintro _ _ ⟨a24_400, n24_400, c24_400, f24_400, rfl, rfl⟩
                        refine ⟨[_, _], rfl, ?_⟩
                        refine WAE.all (rs := [6]) (by kernel_rfl) rfl (AllR.cons0 rfl rfl rfl ?_ AllR.nil)
                        refine OpH.storeTo (A := [_]) [_, _, _, _] rfl rfl rfl ts_26 rfl rfl rfl ?_
                        refine ⟨[_, _], rfl, ?_⟩
                        refine WAE.rebase (H := []) ?_
                        refine WAE.done (by kernel_rfl) ?_ _
                        exact En.wk _ _ (Sub.cons rfl (Sub.cons rfl (Sub.cons rfl (Sub.cons rfl (Sub.nil _))))) (fun _ h => (((((((h).perm (List.perm_middle (l₁ := [_, _, _, _, _, _, _, _, _]))).perm (List.perm_middle (l₁ := [_, _, _, _, _, _, _, _, _]))).perm (List.perm_middle (l₁ := [_, _, _, _, _, _, _, _]))).perm (List.perm_middle (l₁ := [_, _, _, _, _, _]))).perm (List.perm_middle (l₁ := [_, _, _, _]))).perm (List.perm_middle (l₁ := [_, _, _, _, _]))).sub (.cons_cons _ (.cons_cons _ (.cons_cons _ (.cons_cons _ (.cons_cons _ (.cons_cons _ (.cons _ (.cons _ (.cons _ (.cons _ (.cons _ (.cons _ (.slnil)))))))))))))) (KR24 (b24_5, a24_400, n24_400, c24_400, f24_400, f24_100, a24_100, n24_100, c24_100) trivial)
                    ·
                      refine OpH.alloc zc_26 ?_
                      intro b24_5
                      refine ⟨[_], rfl, ?_⟩
                      refine WAE.all (rs := [1]) (by kernel_rfl) rfl (AllR.cons rfl rfl rfl rfl ?_ AllR.nil)
                      refine OpH.callR (evs.cons rfl (evs.nil)) ca_23 (fun w hs => w_laws_toScene e24_1 (r0_0.ext hs.below)) ?_
                      rintro _ _ ⟨a24_100, n24_100, c24_100, f24_100, rfl, rfl⟩
                      refine ⟨[_, _], rfl, ?_⟩
                      refine WAE.take (i := 3) rfl (by kernel_rfl) (by kernel_rfl) (by kernel_rfl) rfl rfl rfl (OpV.call (evs.cons rfl (evs.nil)) ca_24 (fun w hs => w_laws_toOptions e24_3)) ?_
                      refine WAE.all (rs := [4]) (by kernel_rfl) rfl (AllR.cons rfl rfl rfl rfl ?_ AllR.nil)
                      refine OpH.callR (evs.cons rfl (evs.cons rfl (evs.nil))) ca_31 (fun w hs => w_impl_RestOf e24_4 (Ow.rd (hs.mem (.head _)))) ?_
                      rintro _ _ ⟨a24_400, n24_400, c24_400, f24_400, rfl, rfl⟩
                      refine ⟨[_, _, _], rfl, ?_⟩
                      refine WAE.all (rs := [6]) (by kernel_rfl) rfl (AllR.cons0 rfl rfl rfl ?_ AllR.nil)
                      refine OpH.storeTo (A := [_, _]) [_, _, _, _] rfl rfl rfl ts_26 rfl rfl rfl ?_
                      refine ⟨[_, _, _], rfl, ?_⟩
                      refine WAE.rebase (H := []) ?_
                      refine WAE.done (by kernel_rfl) ?_ _
                      exact En.wk _ _ (Sub.cons rfl (Sub.cons rfl (Sub.cons rfl (Sub.cons rfl (Sub.nil _))))) (fun _ h => (((((((h).perm (List.perm_middle (l₁ := [_, _, _, _, _, _, _, _, _]))).perm (List.perm_middle (l₁ := [_, _, _, _, _, _, _, _, _]))).perm (List.perm_middle (l₁ := [_, _, _, _, _, _, _, _]))).perm (List.perm_middle (l₁ := [_, _, _, _, _, _]))).perm (List.perm_middle (l₁ := [_, _, _, _]))).perm (List.perm_middle (l₁ := [_, _, _, _, _, _]))).sub (.cons_cons _ (.cons_cons _ (.cons_cons _ (.cons_cons _ (.cons_cons _ (.cons_cons _ (.cons _ (.cons _ (.cons _ (.cons _ (.cons _ (.cons _ (.slnil)))))))))))))) (KR24 (b24_5, a24_400, n24_400, c24_400, f24_400, f24_100, a24_100, n24_100, c24_100) trivial)
      ·
        intro KR7
        refine WC.drawnH [] ([_, _, _, _, _, _]) (fun _ h => h) (by kernel_rfl) ?_
        refine WAE.take (i := 0) rfl (by kernel_rfl) (by kernel_rfl) (by kernel_rfl) rfl rfl rfl (OpV.loadAll rfl (.head _) ag_26) ?_
        refine WAE.take (i := 1) rfl (by kernel_rfl) (by kernel_rfl) (by kernel_rfl) rfl rfl rfl (OpV.loadAll rfl (.tail _ (.tail _ (.tail _ (.tail _ (.head _))))) ag_44) ?_
        refine WAE.take (i := 2) rfl (by kernel_rfl) (by kernel_rfl) (by kernel_rfl) rfl rfl rfl (OpV.call (evs.cons rfl (evs.nil)) ca_24 (fun w hs => w_laws_toOptions e7_2)) ?_
        refine WAE.all (rs := [3, 4]) (by kernel_rfl) rfl (AllR.cons rfl rfl rfl rfl ?_ (AllR.cons rfl rfl rfl rfl ?_ AllR.nil))
        ·
          refine OpH.callR (evs.cons rfl (evs.cons rfl (evs.nil))) ca_31 (fun w hs => w_impl_RestOf e7_3 (Ow.rd (hs.mem (.tail _ (.head _))))) ?_
          rintro _ _ ⟨a7_300, n7_300, c7_300, f7_300, rfl, rfl⟩
          refine ⟨[_], rfl, ?_⟩
          refine WAE.rebase (H := []) ?_
          refine WAE.all (rs := [4]) (by kernel_rfl) rfl (AllR.cons rfl rfl rfl rfl ?_ AllR.nil)
          refine OpH.alloc zc_26 ?_
          intro b7_4
          refine ⟨[_], rfl, ?_⟩
          refine WAE.all (rs := [5]) (by kernel_rfl) rfl (AllR.cons0 rfl rfl rfl ?_ AllR.nil)
          refine OpH.storeTo (A := []) [_, _, _, _] rfl rfl rfl ts_26 rfl rfl rfl ?_
          refine ⟨[_], rfl, ?_⟩
          refine WAE.rebase (H := []) ?_
          refine WAE.done (by kernel_rfl) ?_ _
          exact En.wk _ _ (Sub.cons rfl (Sub.cons rfl (Sub.cons rfl (Sub.cons rfl (Sub.cons rfl (Sub.nil _)))))) (fun _ h => h) (KR7 (b7_4, a7_300, n7_300, c7_300, f7_300) trivial)
        ·
          refine OpH.alloc zc_26 ?_
          intro b7_4
          refine ⟨[_], rfl, ?_⟩
          refine WAE.all (rs := [3]) (by kernel_rfl) rfl (AllR.cons rfl rfl rfl rfl ?_ AllR.nil)
          refine OpH.callR (evs.cons rfl (evs.cons rfl (evs.nil))) ca_31 (fun w hs => w_impl_RestOf e7_3 (Ow.rd (hs.mem (.tail _ (.tail _ (.head _)))))) ?_
          rintro _ _ ⟨a7_300, n7_300, c7_300, f7_300, rfl, rfl⟩
          refine ⟨[_, _], rfl, ?_⟩
          refine WAE.all (rs := [5]) (by kernel_rfl) rfl (AllR.cons0 rfl rfl rfl ?_ AllR.nil)
          refine OpH.storeTo (A := [_]) [_, _, _, _] rfl rfl rfl ts_26 rfl rfl rfl ?_
          refine ⟨[_, _], rfl, ?_⟩
          refine WAE.rebase (H := []) ?_
          refine WAE.done (by kernel_rfl) ?_ _
          exact En.wk _ _ (Sub.cons rfl (Sub.cons rfl (Sub.cons rfl (Sub.cons rfl (Sub.cons rfl (Sub.nil _)))))) (fun _ h => ((((((((h).perm (List.perm_middle (l₁ := [_, _, _, _, _, _, _]))).perm (List.perm_middle (l₁ := [_, _, _, _, _, _, _]))).perm (List.perm_middle (l₁ := [_, _, _, _, _, _, _]))).perm (List.perm_middle (l₁ := [_, _, _, _, _, _, _]))).perm (List.perm_middle (l₁ := [_, _, _, _, _, _, _]))).perm (List.perm_middle (l₁ := [_, _, _, _, _, _, _]))).perm (List.perm_middle (l₁ := [_, _, _, _, _, _]))).perm (List.perm_middle (l₁ := [_, _, _, _, _, _, _]))) (KR7 (b7_4, a7_300, n7_300, c7_300, f7_300) trivial)
    ·
      intro KR5
      refine WC.drawnH [] ([_, _]) (fun _ h => h) (by kernel_rfl) ?_
      refine WAE.take (i := 0) rfl (by kernel_rfl) (by kernel_rfl) (by kernel_rfl) rfl rfl rfl (OpV.loadAll rfl (.tail _ (.head _)) ag_43) ?_
      refine WAE.take (i := 2) rfl (by kernel_rfl) (by kernel_rfl) (by kernel_rfl) rfl rfl rfl (OpV.loadAll rfl (.head _) ag_44) ?_
      refine WAE.all (rs := [1, 5]) (by kernel_rfl) rfl (AllR.cons rfl rfl rfl rfl ?_ (AllR.cons rfl rfl rfl rfl ?_ AllR.nil))
      ·
        refine OpH.callR (evs.cons rfl (evs.nil)) ca_23 (fun w hs => w_laws_toScene e5_1 (r0_0.ext hs.below)) ?_
        rintro _ _ ⟨a5_100, n5_100, c5_100, f5_100, rfl, rfl⟩
        refine ⟨[_], rfl, ?_⟩
        refine WAE.rebase (H := []) ?_
        refine WAE.take (i := 3) rfl (by kernel_rfl) (by kernel_rfl) (by kernel_rfl) rfl rfl rfl (OpV.call (evs.cons rfl (evs.nil)) ca_24 (fun w hs => w_laws_toOptions e5_3)) ?_
        refine WAE.all (rs := [4, 5]) (by kernel_rfl) rfl (AllR.cons rfl rfl rfl rfl ?_ (AllR.cons rfl rfl rfl rfl ?_ AllR.nil))
        ·
          refine OpH.callR (evs.cons rfl (evs.cons rfl (evs.nil))) ca_30 (fun w hs => w_spec_RestOf e5_4 (Ow.rd (hs.mem (.head _)))) ?_
          rintro _ _ ⟨a5_400, n5_400, c5_400, f5_400, rfl, rfl⟩
          refine ⟨[_], rfl, ?_⟩
          refine WAE.rebase (H := []) ?_
          refine WAE.all (rs := [5]) (by kernel_rfl) rfl (AllR.cons rfl rfl rfl rfl ?_ AllR.nil)
          refine OpH.alloc zc_26 ?_
          intro b5_5
          refine ⟨[_], rfl, ?_⟩
          refine WAE.all (rs := [6]) (by kernel_rfl) rfl (AllR.cons0 rfl rfl rfl ?_ AllR.nil)
          refine OpH.storeTo (A := []) [_, _, _, _] rfl rfl rfl ts_26 rfl rfl rfl ?_
          refine ⟨[_], rfl, ?_⟩
          refine WAE.rebase (H := []) ?_
          refine WAE.done (by kernel_rfl) ?_ _
          exact En.wk _ _ (Sub.cons rfl (Sub.cons rfl (Sub.cons rfl (Sub.nil _)))) (fun _ h => (((((h).perm (List.perm_middle (l₁ := [_, _, _, _]))).perm (List.perm_middle (l₁ := [_, _, _, _]))).perm (List.perm_middle (l₁ := [_, _, _]))).perm (List.perm_middle (l₁ := [_, _, _]))).sub (.cons_cons _ (.cons_cons _ (.cons_cons _ (.cons_cons _ (.cons _ (.slnil))))))) (KR5 (b5_5, a5_400, n5_400, c5_400, f5_400, f5_100, a5_100, n5_100, c5_100) trivial)
        ·
          refine OpH.alloc zc_26 ?_
          intro b5_5
          refine ⟨[_], rfl, ?_⟩
          refine WAE.all (rs := [4]) (by kernel_rfl) rfl (AllR.cons rfl rfl rfl rfl ?_ AllR.nil)
          refine OpH.callR (evs.cons rfl (evs.cons rfl (evs.nil))) ca_30 (fun w hs => w_spec_RestOf e5_4 (Ow.rd (hs.mem (.tail _ (.head _))))) ?_
          rintro _ _ ⟨a5_400, n5_400, c5_400, f5_400, rfl, rfl⟩
          refine ⟨[_, _], rfl, ?_⟩
          refine WAE.all (rs := [6]) (by kernel_rfl) rfl (AllR.cons0 rfl rfl rfl ?_ AllR.nil)
          refine OpH.storeTo (A := [_]) [_, _, _, _] rfl rfl rfl ts_26 rfl rfl rfl ?_
          refine ⟨[_, _], rfl, ?_⟩
          refine WAE.rebase (H := []) ?_
          refine WAE.done (by kernel_rfl) ?_ _
          exact En.wk _ _ (Sub.cons rfl (Sub.cons rfl (Sub.cons rfl (Sub.nil _)))) (fun _ h => (((((h).perm (List.perm_middle (l₁ := [_, _, _, _]))).perm (List.perm_middle (l₁ := [_, _, _, _]))).perm (List.perm_middle (l₁ := [_, _]))).perm (List.perm_middle (l₁ := [_, _, _]))).sub (.cons_cons _ (.cons_cons _ (.cons_cons _ (.cons_cons _ (.cons _ (.slnil))))))) (KR5 (b5_5, a5_400, n5_400, c5_400, f5_400, f5_100, a5_100, n5_100, c5_100) trivial)
      ·
        refine OpH.alloc zc_26 ?_
        intro b5_5
        refine ⟨[_], rfl, ?_⟩
        refine WAE.all (rs := [1]) (by kernel_rfl) rfl (AllR.cons rfl rfl rfl rfl ?_ AllR.nil)
        refine OpH.callR (evs.cons rfl (evs.nil)) ca_23 (fun w hs => w_laws_toScene e5_1 (r0_0.ext hs.below)) ?_
        rintro _ _ ⟨a5_100, n5_100, c5_100, f5_100, rfl, rfl⟩
        refine ⟨[_, _], rfl, ?_⟩
        refine WAE.take (i := 3) rfl (by kernel_rfl) (by kernel_rfl) (by kernel_rfl) rfl rfl rfl (OpV.call (evs.cons rfl (evs.nil)) ca_24 (fun w hs => w_laws_toOptions e5_3)) ?_
        refine WAE.all (rs := [4]) (by kernel_rfl) rfl (AllR.cons rfl rfl rfl rfl ?_ AllR.nil)
        refine OpH.callR (evs.cons rfl (evs.cons rfl (evs.nil))) ca_30 (fun w hs => w_spec_RestOf e5_4 (Ow.rd (hs.mem (.head _)))) ?_
        rintro _ _ ⟨a5_400, n5_400, c5_400, f5_400, rfl, rfl⟩
        refine ⟨[_, _, _], rfl, ?_⟩
        refine WAE.all (rs := [6]) (by kernel_rfl) rfl (AllR.cons0 rfl rfl rfl ?_ AllR.nil)
        refine OpH.storeTo (A := [_, _]) [_, _, _, _] rfl rfl rfl ts_26 rfl rfl rfl ?_
        refine ⟨[_, _, _], rfl, ?_⟩
        refine WAE.rebase (H := []) ?_
        refine WAE.done (by kernel_rfl) ?_ _
        exact En.wk _ _ (Sub.cons rfl (Sub.cons rfl (Sub.cons rfl (Sub.nil _)))) (fun _ h => (((((h).perm (List.perm_middle (l₁ := [_, _, _, _]))).perm (List.perm_middle (l₁ := [_, _, _, _]))).perm (List.perm_middle (l₁ := [_, _]))).perm (List.perm_middle (l₁ := [_, _, _, _]))).sub (.cons_cons _ (.cons_cons _ (.cons_cons _ (.cons_cons _ (.cons _ (.slnil))))))) (KR5 (b5_5, a5_400, n5_400, c5_400, f5_400, f5_100, a5_100, n5_100, c5_100) trivial)

theorem w_spec_WordCount {w_p0 : Int} {h_p1 : Int} {layout_p2 : Int} {r : Int}  (h : spec_WordCount w_p0 h_p1 layout_p2 = some r) {w : World}    :
    Calls Try.prog 172 #[.int .i64 w_p0, .int .i64 h_p1, .int .i64 layout_p2] w (fun en w' => en = .returned (.int .i64 r) ∧ Ext w w') := by
  unfold spec_WordCount at h
  refine enter (vs := [_, _, _]) Try.func172 rfl rfl rfl rfl ?_
  refine WC.seq ?_
  refine WC.region ?_
  refine Lt.ofWL.step rfl rfl rfl (OpV.assign rfl) ?_
  refine WL.nil ?_
  refine En.next ?_
  refine WC.seq ?_
  refine WC.seq ?_
  obtain ⟨x1_1, e1_1, h⟩ := bnd h
  obtain ⟨q1_7, e1_7, h⟩ := bnd h
  refine WC.region ?_
  refine Lt.ofWL.step rfl rfl rfl (OpV.move rfl) ?_
  refine Lt.ofWL.step rfl rfl rfl (OpV.call (evs.cons rfl (evs.cons rfl (evs.cons rfl (evs.nil)))) ca_88 (fun w hs => w_spec_l01In e1_1)) ?_
  refine Lt.ofWL.step rfl rfl rfl (OpV.not rfl) ?_
  refine Lt.ofWL.step rfl rfl rfl (OpV.move rfl) ?_
  refine Lt.ofWL.orQ 10 14 13 (p := ?pz1) (rest := ?qz1) (B := q1_7) rfl (fun hz => orO_t e1_7 hz) ?Tz1 ?Fz1 ?az1 ?bz1 ?cz1 ?dz1 ?ez1
  case Tz1 =>
    intro hcz1 hkz1
    refine Lt.ofWL.skip rfl rfl rfl ?_
    refine Lt.ofWL.skip rfl rfl rfl ?_
    refine Lt.ofWL.skip rfl rfl rfl ?_
    refine hkz1 _ ?_
    repeat (first | exact Sub.refl _ | refine Sub.skip rfl ?_)
  case Fz1 =>
    intro hcz1 hkz1
    have hqz1 := orO_f e1_7 hcz1
    obtain ⟨x1_5, e1_5, hqz1⟩ := bnd hqz1
    obtain rfl := Option.some.inj hqz1
    refine Lt.ofWL.step rfl rfl rfl (OpV.move rfl) ?_
    refine Lt.ofWL.step rfl rfl rfl (OpV.call (evs.cons rfl (evs.cons rfl (evs.cons rfl (evs.nil)))) ca_88 (fun w hs => w_spec_l01In e1_5)) ?_
    refine Lt.ofWL.step rfl rfl rfl (OpV.not rfl) ?_
    refine hkz1 _ ?_ ?_
    exact rfl
    repeat (first | exact Sub.refl _ | refine Sub.skip rfl ?_)
  case az1 => exact rfl
  case bz1 => exact rfl
  case cz1 => exact rfl
  case dz1 => exact rfl
  refine WL.nil ?_
  refine En.next ?_
  refine WC.cond rfl ?_ ?_
  ·
    intro hc_1
    replace h := ifO_t hc_1 h
    refine WC.seq ?_
    refine WC.region ?_
    refine Lt.ofWL.step rfl rfl rfl (OpV.assign rfl) ?_
    refine WL.nil ?_
    refine En.next ?_
    refine WC.ret ?_
    refine En.then_ret ?_
    refine En.ret1 rfl (Res.tmp rfl) ?_
    obtain rfl := Option.some.inj h
    intro w' hs
    exact ⟨rfl, hs.below⟩
  ·
    intro hc_1
    replace h := ifO_f hc_1 h
    refine WC.skip ?_
    refine En.next ?_
    refine WC.seq ?_
    refine WC.seq ?_
    refine WC.region ?_
    refine Lt.ofWL.step rfl rfl rfl (OpV.move rfl) ?_
    refine WL.nil ?_
    refine En.next ?_
    refine WC.block ?_
    refine WC.seq ?_
    refine WC.region ?_
    refine Lt.ofWL.step rfl rfl rfl (OpV.eql rfl rfl) ?_
    refine Lt.ofWL.step rfl rfl rfl (OpV.assign rfl) ?_
    refine WL.nil ?_
    refine En.next ?_
    refine WC.cond rfl ?_ ?_
    ·
      intro hc_2
      replace h := ifO_t hc_2 h
      refine WC.seq ?_
      refine WC.region ?_
      refine Lt.ofWL.step rfl rfl rfl (OpV.move rfl) ?_
      refine Lt.ofWL.step rfl rfl rfl (OpV.move rfl) ?_
      refine Lt.ofWL.step rfl rfl rfl (OpV.mulR rfl rfl) ?_
      refine Lt.ofWL.step rfl rfl rfl (OpV.assign rfl) ?_
      refine WL.nil ?_
      refine En.next ?_
      refine WC.ret ?_
      refine En.block_ret ?_
      refine En.then_ret ?_
      refine En.ret1 rfl (Res.tmp rfl) ?_
      obtain rfl := Option.some.inj h
      intro w' hs
      exact ⟨rfl, hs.below⟩
    ·
      intro hc_2
      replace h := ifO_f hc_2 h
      refine WC.seq ?_
      refine WC.region ?_
      refine Lt.ofWL.step rfl rfl rfl (OpV.eql rfl rfl) ?_
      refine Lt.ofWL.step rfl rfl rfl (OpV.assign rfl) ?_
      refine WL.nil ?_
      refine En.next ?_
      refine WC.cond rfl ?_ ?_
      ·
        intro hc_3
        replace h := ifO_t hc_3 h
        refine WC.seq ?_
        refine WC.region ?_
        refine Lt.ofWL.step rfl rfl rfl (OpV.move rfl) ?_
        refine Lt.ofWL.step rfl rfl rfl (OpV.addR rfl rfl) ?_
        refine Lt.ofWL.step rfl rfl rfl (OpV.quoR rfl rfl rfl) ?_
        refine Lt.ofWL.step rfl rfl rfl (OpV.mulR rfl rfl) ?_
        refine Lt.ofWL.step rfl rfl rfl (OpV.move rfl) ?_
        refine Lt.ofWL.step rfl rfl rfl (OpV.addR rfl rfl) ?_
        refine Lt.ofWL.step rfl rfl rfl (OpV.quoR rfl rfl rfl) ?_
        refine Lt.ofWL.step rfl rfl rfl (OpV.mulR rfl rfl) ?_
        refine Lt.ofWL.step rfl rfl rfl (OpV.mulR rfl rfl) ?_
        refine Lt.ofWL.step rfl rfl rfl (OpV.assign rfl) ?_
        refine WL.nil ?_
        refine En.next ?_
        refine WC.ret ?_
        refine En.block_ret ?_
        refine En.then_ret ?_
        refine En.ret1 rfl (Res.tmp rfl) ?_
        obtain rfl := Option.some.inj h
        intro w' hs
        exact ⟨rfl, hs.below⟩
      ·
        intro hc_3
        replace h := ifO_f hc_3 h
        refine WC.skip ?_
        refine En.block_norm ?_
        refine En.next ?_
        refine WC.seq ?_
        refine WC.region ?_
        refine Lt.ofWL.step rfl rfl rfl (OpV.assign rfl) ?_
        refine WL.nil ?_
        refine En.next ?_
        refine WC.ret ?_
        refine En.ret1 rfl (Res.tmp rfl) ?_
        obtain rfl := Option.some.inj h
        intro w' hs
        exact ⟨rfl, hs.below⟩

theorem w_spec_WordPlace {w_p0 : Int} {h_p1 : Int} {layout_p2 : Int} {x_p3 : Int} {y_p4 : Int} {r : Int}  (h : spec_WordPlace w_p0 h_p1 layout_p2 x_p3 y_p4 = some r) {w : World}    :
    Calls Try.prog 173 #[.int .i64 w_p0, .int .i64 h_p1, .int .i64 layout_p2, .int .i64 x_p3, .int .i64 y_p4] w (fun en w' => en = .returned (.int .i64 r) ∧ Ext w w') := by
  unfold spec_WordPlace at h
  refine enter (vs := [_, _, _, _, _]) Try.func173 rfl rfl rfl rfl ?_
  refine WC.seq ?_
  refine WC.region ?_
  refine Lt.ofWL.step rfl rfl rfl (OpV.assign rfl) ?_
  refine WL.nil ?_
  refine En.next ?_
  refine WC.seq ?_
  refine WC.seq ?_
  obtain ⟨x1_3, e1_3, h⟩ := bnd h
  obtain ⟨q1_11, e1_11, h⟩ := bnd h
  obtain ⟨q1_18, e1_18, h⟩ := bnd h
  refine WC.region ?_
  refine Lt.ofWL.step rfl rfl rfl (OpV.move rfl) ?_
  refine Lt.ofWL.step rfl rfl rfl (OpV.move rfl) ?_
  refine Lt.ofWL.step rfl rfl rfl (OpV.move rfl) ?_
  refine Lt.ofWL.step rfl rfl rfl (OpV.call (evs.cons rfl (evs.cons rfl (evs.cons rfl (evs.nil)))) ca_172 (fun w hs => w_spec_WordCount e1_3)) ?_
  refine Lt.ofWL.step rfl rfl rfl (OpV.lss rfl rfl) ?_
  refine Lt.ofWL.step rfl rfl rfl (OpV.move rfl) ?_
  refine Lt.ofWL.orQ 16 22 21 (p := ?pz1) (rest := ?qz1) (B := q1_11) rfl (fun hz => orO_t e1_11 hz) ?Tz1 ?Fz1 ?az1 ?bz1 ?cz1 ?dz1 ?ez1
  case Tz1 =>
    intro hcz1 hkz1
    refine Lt.ofWL.skip rfl rfl rfl ?_
    refine Lt.ofWL.skip rfl rfl rfl ?_
    refine Lt.ofWL.skip rfl rfl rfl ?_
    refine Lt.ofWL.skip rfl rfl rfl ?_
    refine Lt.ofWL.skip rfl rfl rfl ?_
    refine hkz1 _ ?_
    repeat (first | exact Sub.refl _ | refine Sub.skip rfl ?_)
  case Fz1 =>
    intro hcz1 hkz1
    have hqz1 := orO_f e1_11 hcz1
    obtain ⟨x1_9, e1_9, hqz1⟩ := bnd hqz1
    obtain rfl := Option.some.inj hqz1
    refine Lt.ofWL.step rfl rfl rfl (OpV.move rfl) ?_
    refine Lt.ofWL.step rfl rfl rfl (OpV.move rfl) ?_
    refine Lt.ofWL.step rfl rfl rfl (OpV.subR rfl rfl) ?_
    refine Lt.ofWL.step rfl rfl rfl (OpV.call (evs.cons rfl (evs.cons rfl (evs.cons rfl (evs.nil)))) ca_88 (fun w hs => w_spec_l01In e1_9)) ?_
    refine Lt.ofWL.step rfl rfl rfl (OpV.not rfl) ?_
    refine hkz1 _ ?_ ?_
    exact rfl
    repeat (first | exact Sub.refl _ | refine Sub.skip rfl ?_)
  case az1 => exact rfl
  case bz1 => exact rfl
  case cz1 => exact rfl
  case dz1 => exact rfl
  refine Lt.ofWL.step rfl rfl rfl (OpV.move rfl) ?_
  refine Lt.ofWL.orQ 23 29 28 (p := ?pz2) (rest := ?qz2) (B := q1_18) rfl (fun hz => orO_t e1_18 hz) ?Tz2 ?Fz2 ?az2 ?bz2 ?cz2 ?dz2 ?ez2
  case Tz2 =>
    intro hcz2 hkz2
    refine Lt.ofWL.skip rfl rfl rfl ?_
    refine Lt.ofWL.skip rfl rfl rfl ?_
    refine Lt.ofWL.skip rfl rfl rfl ?_
    refine Lt.ofWL.skip rfl rfl rfl ?_
    refine Lt.ofWL.skip rfl rfl rfl ?_
    refine hkz2 _ ?_
    repeat (first | exact Sub.refl _ | refine Sub.skip rfl ?_)
  case Fz2 =>
    intro hcz2 hkz2
    have hqz2 := orO_f e1_18 hcz2
    obtain ⟨x1_16, e1_16, hqz2⟩ := bnd hqz2
    obtain rfl := Option.some.inj hqz2
    refine Lt.ofWL.step rfl rfl rfl (OpV.move rfl) ?_
    refine Lt.ofWL.step rfl rfl rfl (OpV.move rfl) ?_
    refine Lt.ofWL.step rfl rfl rfl (OpV.subR rfl rfl) ?_
    refine Lt.ofWL.step rfl rfl rfl (OpV.call (evs.cons rfl (evs.cons rfl (evs.cons rfl (evs.nil)))) ca_88 (fun w hs => w_spec_l01In e1_16)) ?_
    refine Lt.ofWL.step rfl rfl rfl (OpV.not rfl) ?_
    refine hkz2 _ ?_ ?_
    exact rfl
    repeat (first | exact Sub.refl _ | refine Sub.skip rfl ?_)
  case az2 => exact rfl
  case bz2 => exact rfl
  case cz2 => exact rfl
  case dz2 => exact rfl
  refine WL.nil ?_
  refine En.next ?_
  refine WC.cond rfl ?_ ?_
  ·
    intro hc_1
    replace h := ifO_t hc_1 h
    refine WC.seq ?_
    refine WC.region ?_
    refine Lt.ofWL.step rfl rfl rfl (OpV.assign rfl) ?_
    refine WL.nil ?_
    refine En.next ?_
    refine WC.ret ?_
    refine En.then_ret ?_
    refine En.ret1 rfl (Res.tmp rfl) ?_
    obtain rfl := Option.some.inj h
    intro w' hs
    exact ⟨rfl, hs.below⟩
  ·
    intro hc_1
    replace h := ifO_f hc_1 h
    refine WC.skip ?_
    refine En.next ?_
    refine WC.seq ?_
    refine WC.seq ?_
    refine WC.region ?_
    refine Lt.ofWL.step rfl rfl rfl (OpV.move rfl) ?_
    refine Lt.ofWL.step rfl rfl rfl (OpV.eql rfl rfl) ?_
    refine WL.nil ?_
    refine En.next ?_
    refine WC.cond rfl ?_ ?_
    ·
      intro hc_2
      replace h := ifO_t hc_2 h
      refine WC.seq ?_
      refine WC.region ?_
      refine Lt.ofWL.step rfl rfl rfl (OpV.move rfl) ?_
      refine Lt.ofWL.step rfl rfl rfl (OpV.move rfl) ?_
      refine Lt.ofWL.step rfl rfl rfl (OpV.mulR rfl rfl) ?_
      refine Lt.ofWL.step rfl rfl rfl (OpV.move rfl) ?_
      refine Lt.ofWL.step rfl rfl rfl (OpV.addR rfl rfl) ?_
      refine Lt.ofWL.step rfl rfl rfl (OpV.assign rfl) ?_
      refine WL.nil ?_
      refine En.next ?_
      refine WC.ret ?_
      refine En.then_ret ?_
      refine En.ret1 rfl (Res.tmp rfl) ?_
      obtain rfl := Option.some.inj h
      intro w' hs
      exact ⟨rfl, hs.below⟩
    ·
      intro hc_2
      replace h := ifO_f hc_2 h
      refine WC.skip ?_
      refine En.next ?_
      refine WC.seq ?_
      refine WC.region ?_
      refine Lt.ofWL.step rfl rfl rfl (OpV.move rfl) ?_
      refine Lt.ofWL.step rfl rfl rfl (OpV.quoR rfl rfl rfl) ?_
      refine Lt.ofWL.step rfl rfl rfl (OpV.move rfl) ?_
      refine Lt.ofWL.step rfl rfl rfl (OpV.addR rfl rfl) ?_
      refine Lt.ofWL.step rfl rfl rfl (OpV.quoR rfl rfl rfl) ?_
      refine Lt.ofWL.step rfl rfl rfl (OpV.mulR rfl rfl) ?_
      refine Lt.ofWL.step rfl rfl rfl (OpV.move rfl) ?_
      refine Lt.ofWL.step rfl rfl rfl (OpV.quoR rfl rfl rfl) ?_
      refine Lt.ofWL.step rfl rfl rfl (OpV.addR rfl rfl) ?_
      refine Lt.ofWL.step rfl rfl rfl (OpV.mulR rfl rfl) ?_
      refine Lt.ofWL.step rfl rfl rfl (OpV.move rfl) ?_
      refine Lt.ofWL.step rfl rfl rfl (OpV.remR rfl rfl rfl) ?_
      refine Lt.ofWL.step rfl rfl rfl (OpV.mulR rfl rfl) ?_
      refine Lt.ofWL.step rfl rfl rfl (OpV.addR rfl rfl) ?_
      refine Lt.ofWL.step rfl rfl rfl (OpV.move rfl) ?_
      refine Lt.ofWL.step rfl rfl rfl (OpV.remR rfl rfl rfl) ?_
      refine Lt.ofWL.step rfl rfl rfl (OpV.addR rfl rfl) ?_
      refine Lt.ofWL.step rfl rfl rfl (OpV.assign rfl) ?_
      refine WL.nil ?_
      refine En.next ?_
      refine WC.ret ?_
      refine En.ret1 rfl (Res.tmp rfl) ?_
      obtain rfl := Option.some.inj h
      intro w' hs
      exact ⟨rfl, hs.below⟩

theorem w_spec_StoreImage {a_p0 : ImageT} {a_p1 : Int} {r : (List Int) × Bool} {q0_0 : Option Addr} {n0_0 k0_0 : Nat} (h : spec_StoreImage a_p0 a_p1 = some r) {w : World} (r0_0 : Rd tInt w q0_0 n0_0 k0_0 a_p0.Data)   :
    Calls Try.prog 162 #[.agg #[.int .i64 a_p0.W, .int .i64 a_p0.H, .slice q0_0 n0_0 k0_0], .int .i64 a_p1] w (fun en w' => ∃ rv G, en = .returned rv ∧ (∃ (a0_0 : Option Addr) (n0_0 : Nat) (c0_0 : Nat) (f0_0 : List Nat), rv = .tuple #[.slice a0_0 n0_0 c0_0, .bool r.2] ∧ G = [Chunk.own tInt f0_0 a0_0 n0_0 c0_0 r.1]) ∧ St w G w') := by
  obtain rfl := r0_0.1
  unfold spec_StoreImage at h
  refine enter (vs := [_, _]) Try.func162 rfl rfl rfl rfl ?_
  refine WC.seq ?_
  refine WC.region ?_
  refine WL.heavy rfl rfl rfl (OpH.box rfl rfl ?_)
  intro b0_0
  refine Lt.ofWL.step rfl rfl rfl (OpV.assign rfl) ?_
  refine Lt.ofWL.step rfl rfl rfl (OpV.assign rfl) ?_
  refine WL.nil ?_
  refine En.next ?_
  refine WC.seq ?_
  refine WC.seq ?_
  obtain ⟨x1_1, e1_1, h⟩ := bnd h
  obtain ⟨q1_7, e1_7, h⟩ := bnd h
  refine WC.region ?_
  refine Lt.ofWL.step rfl rfl rfl (OpV.loadAll rfl (.head _) ag_36) ?_
  refine Lt.ofWL.step rfl rfl rfl (OpV.call (evs.cons rfl (evs.nil)) ca_101 (fun w hs => w_spec_ImageOk e1_1 (r0_0.ext hs.below))) ?_
  refine Lt.ofWL.step rfl rfl rfl (OpV.not rfl) ?_
  refine Lt.ofWL.step rfl rfl rfl (OpV.move rfl) ?_
  refine Lt.ofWL.orQ 16 20 19 (p := ?pz1) (rest := ?qz1) (B := q1_7) rfl (fun hz => orO_t e1_7 hz) ?Tz1 ?Fz1 ?az1 ?bz1 ?cz1 ?dz1 ?ez1
  case Tz1 =>
    intro hcz1 hkz1
    refine Lt.ofWL.skip rfl rfl rfl ?_
    refine Lt.ofWL.skip rfl rfl rfl ?_
    refine Lt.ofWL.skip rfl rfl rfl ?_
    refine hkz1 _ ?_
    repeat (first | exact Sub.refl _ | refine Sub.skip rfl ?_)
  case Fz1 =>
    intro hcz1 hkz1
    have hqz1 := orO_f e1_7 hcz1
    obtain ⟨x1_5, e1_5, hqz1⟩ := bnd hqz1
    obtain rfl := Option.some.inj hqz1
    refine Lt.ofWL.step rfl rfl rfl (OpV.move rfl) ?_
    refine Lt.ofWL.step rfl rfl rfl (OpV.call (evs.cons rfl (evs.cons rfl (evs.cons rfl (evs.nil)))) ca_88 (fun w hs => w_spec_l01In e1_5)) ?_
    refine Lt.ofWL.step rfl rfl rfl (OpV.not rfl) ?_
    refine hkz1 _ ?_ ?_
    exact rfl
    repeat (first | exact Sub.refl _ | refine Sub.skip rfl ?_)
  case az1 => exact rfl
  case bz1 => exact rfl
  case cz1 => exact rfl
  case dz1 => exact rfl
  refine WL.nil ?_
  refine En.next ?_
  refine WC.cond rfl ?_ ?_
  ·
    intro hc_1
    replace h := ifO_t hc_1 h
    refine WC.seq ?_
    refine WC.region ?_
    refine WL.heavy rfl rfl rfl (OpH.lit0 (A := tInt) (evps.nil) bs_32_0_ ?_)
    intro b2_0
    refine Lt.ofWL.step rfl rfl rfl (OpV.assign rfl) ?_
    refine Lt.ofWL.step rfl rfl rfl (OpV.assign rfl) ?_
    refine WL.nil ?_
    refine En.next ?_
    refine WC.ret ?_
    refine En.then_ret ?_
    refine En.ret2 rfl (Res.tmp rfl) (Res.tmp rfl) ?_
    obtain rfl := Option.some.inj h
    intro w' hs
    have hs := (hs).sub (.cons_cons _ (.cons _ (.slnil)))
    exact ⟨_, _, rfl, ⟨(some ⟨b2_0, 0, .none⟩), 0, 0, [b2_0], rfl, rfl⟩, hs⟩
  ·
    intro hc_1
    replace h := ifO_f hc_1 h
    refine WC.skip ?_
    refine En.next ?_
    refine WC.seq ?_
    refine WC.seq ?_
    refine WC.region ?_
    refine Lt.ofWL.step rfl rfl rfl (OpV.move rfl) ?_
    refine Lt.ofWL.step rfl rfl rfl (OpV.eql rfl rfl) ?_
    refine WL.nil ?_
    refine En.next ?_
    refine WC.cond rfl ?_ ?_
    ·
      intro hc_2
      replace h := ifO_t hc_2 h
      refine WC.seq ?_
      refine WC.region ?_
      refine WL.heavy rfl rfl rfl (OpH.lit0 (A := tInt) (evps.nil) bs_32_0_ ?_)
      intro b4_0
      refine Lt.ofWL.step rfl rfl rfl (OpV.assign rfl) ?_
      refine WL.nil ?_
      refine En.next ?_
      refine WC.seq ?_
      refine WC.seq ?_
      refine WC.region ?_
      refine Lt.ofWL.step rfl rfl rfl (OpV.assign rfl) ?_
      refine WL.nil ?_
      refine En.next ?_
      refine WC.block ?_
      obtain ⟨zy0, ezy0, h⟩ := bnd h
      refine WC.cut (X := ((List Int)) × ((Option Addr) × Nat × Nat × (List Nat))) (.exit 0) (fun x => zy0 = x.1) (fun x => match x with | (v_0e, (av_0e, nv_0e, cv_0e, fv_0e)) => [(6, .slice av_0e nv_0e cv_0e)]) (fun x => match x with | (v_0e, (av_0e, nv_0e, cv_0e, fv_0e)) => [Chunk.own tInt fv_0e av_0e nv_0e cv_0e v_0e]) ?_ ?_
      ·
        rintro ⟨v_0e, ⟨av_0e, nv_0e, cv_0e, fv_0e⟩⟩ hx
        replace hx : v_0e = zy0 := hx.symm
        subst hx
        show En _ _ _ _ [(6, .slice av_0e nv_0e cv_0e)] [Chunk.own tInt fv_0e av_0e nv_0e cv_0e v_0e]
        refine En.block_exit ?_
        refine En.next ?_
        refine WC.seq ?_
        refine WC.region ?_
        refine Lt.ofWL.step rfl rfl rfl (OpV.move rfl) ?_
        refine Lt.ofWL.step rfl rfl rfl (OpV.assign rfl) ?_
        refine Lt.ofWL.step rfl rfl rfl (OpV.assign rfl) ?_
        refine WL.nil ?_
        refine En.next ?_
        refine WC.ret ?_
        refine En.then_ret ?_
        refine En.ret2 rfl (Res.tmp rfl) (Res.tmp rfl) ?_
        obtain rfl := Option.some.inj h
        intro w' hs
        have hs := hs
        exact ⟨_, _, rfl, ⟨av_0e, nv_0e, cv_0e, fv_0e, rfl, rfl⟩, hs⟩
      ·
        intro zK0_0
        refine WC.loopP (G := (Option Addr) × Nat × Nat × (List Nat)) (fun s g => match s, g with | (v_0, v1_0), (av_0, nv_0, cv_0, fv_0) => [(2, .pointer (some ⟨b0_0, 0, .none⟩)), (6, .slice av_0 nv_0 cv_0), (7, .int .i64 v1_0)]) (fun s g => match s, g with | (v_0, v1_0), (av_0, nv_0, cv_0, fv_0) => [Chunk.box b0_0 36 [.int .i64 a_p0.W, .int .i64 a_p0.H, .slice q0_0 a_p0.Data.length k0_0], Chunk.own tInt fv_0 av_0 nv_0 cv_0 v_0]) (([] : List Int), 0) ((some ⟨b4_0, 0, .none⟩), 0, 0, [b4_0]) ezy0 (by exact Sub.cons rfl (Sub.cons rfl (Sub.cons rfl (Sub.nil _)))) (by exact (fun _ h => (h).perm (List.perm_middle (l₁ := [_])))) ?_
        rintro zm0 ⟨v_0, v1_0⟩ ⟨av_0, nv_0, cv_0, fv_0⟩ zo0 zf0 zb0 ze0
        have zh0 : spec_StoreImage_L0 a_p0 v_0 v1_0 = some zo0 := zf0
        unfold spec_StoreImage_L0 at zh0
        show WC _ _ _ _ _ [(2, .pointer (some ⟨b0_0, 0, .none⟩)), (6, .slice av_0 nv_0 cv_0), (7, .int .i64 v1_0)] [Chunk.box b0_0 36 [.int .i64 a_p0.W, .int .i64 a_p0.H, .slice q0_0 a_p0.Data.length k0_0], Chunk.own tInt fv_0 av_0 nv_0 cv_0 v_0]
        refine WC.seq ?_
        refine WC.seq ?_
        refine WC.region ?_
        refine Lt.ofWL.step rfl rfl rfl (OpV.move rfl) ?_
        refine Lt.ofWL.step rfl rfl rfl (OpV.fieldAddr rfl fo_36_1) ?_
        refine Lt.ofWL.step rfl rfl rfl (OpV.loadBox rfl pt_3 (.head _) rfl) ?_
        refine Lt.ofWL.step rfl rfl rfl (OpV.lss rfl rfl) ?_
        refine WL.nil ?_
        refine En.next ?_
        refine WC.cond rfl ?_ ?_
        ·
          intro hc_3
          replace zh0 := ifO_t hc_3 zh0
          refine WC.skip ?_
          refine En.next ?_
          refine WC.seq ?_
          refine WC.block ?_
          refine WC.seq ?_
          refine WC.region ?_
          refine Lt.ofWL.step rfl rfl rfl (OpV.assign rfl) ?_
          refine WL.nil ?_
          refine En.next ?_
          refine WC.block ?_
          obtain ⟨zy1, ezy1, zh0⟩ := bnd zh0
          refine WC.cut (X := ((List Int)) × ((Option Addr) × Nat × Nat × (List Nat))) (.exit 2) (fun x => zy1 = x.1) (fun x => match x with | (v_1e, (av_1e, nv_1e, cv_1e, fv_1e)) => [(2, .pointer (some ⟨b0_0, 0, .none⟩)), (6, .slice av_1e nv_1e cv_1e), (7, .int .i64 v1_0)]) (fun x => match x with | (v_1e, (av_1e, nv_1e, cv_1e, fv_1e)) => [Chunk.box b0_0 36 [.int .i64 a_p0.W, .int .i64 a_p0.H, .slice q0_0 a_p0.Data.length k0_0], Chunk.own tInt fv_1e av_1e nv_1e cv_1e v_1e]) ?_ ?_
          ·
            rintro ⟨v_1e, ⟨av_1e, nv_1e, cv_1e, fv_1e⟩⟩ hx
            replace hx : v_1e = zy1 := hx.symm
            subst hx
            show En _ _ _ _ [(2, .pointer (some ⟨b0_0, 0, .none⟩)), (6, .slice av_1e nv_1e cv_1e), (7, .int .i64 v1_0)] [Chunk.box b0_0 36 [.int .i64 a_p0.W, .int .i64 a_p0.H, .slice q0_0 a_p0.Data.length k0_0], Chunk.own tInt fv_1e av_1e nv_1e cv_1e v_1e]
            refine En.block_exit ?_
            refine En.block_norm ?_
            refine En.next ?_
            refine WC.region ?_
            refine Lt.ofWL.step rfl rfl rfl (OpV.move rfl) ?_
            refine Lt.ofWL.step rfl rfl rfl (OpV.addR rfl rfl) ?_
            refine Lt.ofWL.step rfl rfl rfl (OpV.assign rfl) ?_
            refine WL.nil ?_
            exact En.backP zb0 zh0 (av_1e, nv_1e, cv_1e, fv_1e) (Sub.cons rfl (Sub.cons rfl (Sub.cons rfl (Sub.nil _)))) (fun _ h => h)
          ·
            intro zK1_0
            refine WC.loopP (G := (Option Addr) × Nat × Nat × (List Nat)) (fun s g => match s, g with | (v_1, v1_1), (av_1, nv_1, cv_1, fv_1) => [(2, .pointer (some ⟨b0_0, 0, .none⟩)), (6, .slice av_1 nv_1 cv_1), (7, .int .i64 v1_0), (8, .int .i64 v1_1)]) (fun s g => match s, g with | (v_1, v1_1), (av_1, nv_1, cv_1, fv_1) => [Chunk.box b0_0 36 [.int .i64 a_p0.W, .int .i64 a_p0.H, .slice q0_0 a_p0.Data.length k0_0], Chunk.own tInt fv_1 av_1 nv_1 cv_1 v_1]) (v_0, 0) (av_0, nv_0, cv_0, fv_0) ezy1 (by exact Sub.cons rfl (Sub.cons rfl (Sub.cons rfl (Sub.cons rfl (Sub.nil _))))) (by exact (fun _ h => h)) ?_
            rintro zm1 ⟨v_1, v1_1⟩ ⟨av_1, nv_1, cv_1, fv_1⟩ zo1 zf1 zb1 ze1
            have zh1 : spec_StoreImage_L1 a_p0 v1_0 v_1 v1_1 = some zo1 := zf1
            unfold spec_StoreImage_L1 at zh1
            show WC _ _ _ _ _ [(2, .pointer (some ⟨b0_0, 0, .none⟩)), (6, .slice av_1 nv_1 cv_1), (7, .int .i64 v1_0), (8, .int .i64 v1_1)] [Chunk.box b0_0 36 [.int .i64 a_p0.W, .int .i64 a_p0.H, .slice q0_0 a_p0.Data.length k0_0], Chunk.own tInt fv_1 av_1 nv_1 cv_1 v_1]
            refine WC.seq ?_
            refine WC.seq ?_
            refine WC.region ?_
            refine Lt.ofWL.step rfl rfl rfl (OpV.move rfl) ?_
            refine Lt.ofWL.step rfl rfl rfl (OpV.fieldAddr rfl fo_36_0) ?_
            refine Lt.ofWL.step rfl rfl rfl (OpV.loadBox rfl pt_3 (.head _) rfl) ?_
            refine Lt.ofWL.step rfl rfl rfl (OpV.lss rfl rfl) ?_
            refine WL.nil ?_
            refine En.next ?_
            refine WC.cond rfl ?_ ?_
            ·
              intro hc_4
              replace zh1 := ifO_t hc_4 zh1
              refine WC.skip ?_
              refine En.next ?_
              refine WC.block ?_
              refine WC.seq ?_
              refine WC.region ?_
              refine Lt.ofWL.step rfl rfl rfl (OpV.assign rfl) ?_
              refine WL.nil ?_
              refine En.next ?_
              refine WC.seq ?_
              refine WC.block ?_
              obtain ⟨zy2, ezy2, zh1⟩ := bnd zh1
              refine WC.cut (X := (Int) × (Unit)) (.exit 4) (fun x => zy2 = x.1) (fun x => match x with | (v_2e, ()) => [(2, .pointer (some ⟨b0_0, 0, .none⟩)), (6, .slice av_1 nv_1 cv_1), (7, .int .i64 v1_0), (8, .int .i64 v1_1), (9, .int .i64 v_2e)]) (fun x => match x with | (v_2e, ()) => [Chunk.box b0_0 36 [.int .i64 a_p0.W, .int .i64 a_p0.H, .slice q0_0 a_p0.Data.length k0_0], Chunk.own tInt fv_1 av_1 nv_1 cv_1 v_1]) ?_ ?_
              ·
                rintro ⟨v_2e, ⟨⟩⟩ hx
                replace hx : v_2e = zy2 := hx.symm
                subst hx
                show En _ _ _ _ [(2, .pointer (some ⟨b0_0, 0, .none⟩)), (6, .slice av_1 nv_1 cv_1), (7, .int .i64 v1_0), (8, .int .i64 v1_1), (9, .int .i64 v_2e)] [Chunk.box b0_0 36 [.int .i64 a_p0.W, .int .i64 a_p0.H, .slice q0_0 a_p0.Data.length k0_0], Chunk.own tInt fv_1 av_1 nv_1 cv_1 v_1]
                refine En.block_exit ?_
                refine En.next ?_
                refine WC.seq ?_
                obtain ⟨x13_10, e13_10, zh1⟩ := bnd zh1
                obtain ⟨g13_10, o13_10, _, ha13_10, rfl, hd13_10⟩ := Rd.atIdx r0_0 e13_10
                replace hd13_10 : ∀ (j : Nat) v, ([.int .i64 x13_10] : List Value)[j]? = some v → w.cell? ⟨g13_10, o13_10 + (wr ((wr (v1_0 * a_p0.W)) + v1_1)).toNat * 1 + j, .none⟩ = some v := hd13_10
                obtain ⟨x13_13, e13_13, zh1⟩ := bnd zh1
                refine WC.region ?_
                refine Lt.ofWL.step rfl rfl rfl (OpV.move rfl) ?_
                refine Lt.ofWL.step rfl rfl rfl (OpV.move rfl) ?_
                refine Lt.ofWL.step rfl rfl rfl (OpV.fieldAddr rfl fo_36_2) ?_
                refine Lt.ofWL.step rfl rfl rfl (OpV.loadBox rfl pt_32 (.head _) rfl) ?_
                refine Lt.ofWL.step rfl rfl rfl (OpV.move rfl) ?_
                refine Lt.ofWL.step rfl rfl rfl (OpV.fieldAddr rfl fo_36_0) ?_
                refine Lt.ofWL.step rfl rfl rfl (OpV.loadBox rfl pt_3 (.head _) rfl) ?_
                refine Lt.ofWL.step rfl rfl rfl (OpV.mulR rfl rfl) ?_
                refine Lt.ofWL.step rfl rfl rfl (OpV.move rfl) ?_
                refine Lt.ofWL.step rfl rfl rfl (OpV.addR rfl rfl) ?_
                refine Lt.ofWL.step rfl rfl rfl (OpV.idxA rfl rfl se_32 ha13_10 ⟨(idx_some e13_10).1, (idx_some e13_10).2.1⟩) ?_
                refine Lt.ofWL.step rfl rfl rfl (OpV.load1 rfl pt_3 (fun w hs => hs.cell (hd13_10 0 _ rfl))) ?_
                refine WL.heavy rfl rfl rfl (OpH.litF (A := tInt) (xs := [v_2e, x13_10]) tInt_flat (evps.cons rfl (evps.cons rfl (evps.nil))) (bs_32_2_0_1 _ _) rfl rfl (Nat.le_of_ble_eq_true rfl) ?_)
                intro b13_12
                refine WL.heavy rfl rfl rfl (OpH.appS (F := [_, _]) (A := tInt) tInt_flat rfl rfl rfl mi_32 rfl (by decide) (fun w hs => (Ow.rd (hs.mem (.head _)))) e13_13 ?_)
                intro f13_13 a13_13 c13_13
                refine Lt.ofWL.step rfl rfl rfl (OpV.assign rfl) ?_
                refine WL.nil ?_
                refine En.next ?_
                refine WC.region ?_
                refine Lt.ofWL.step rfl rfl rfl (OpV.move rfl) ?_
                refine Lt.ofWL.step rfl rfl rfl (OpV.move rfl) ?_
                refine Lt.ofWL.step rfl rfl rfl (OpV.addR rfl rfl) ?_
                refine Lt.ofWL.step rfl rfl rfl (OpV.assign rfl) ?_
                refine WL.nil ?_
                refine En.block_norm ?_
                exact En.backP zb1 zh1 (a13_13, x13_13.length, c13_13, f13_13) (Sub.cons rfl (Sub.cons rfl (Sub.cons rfl (Sub.cons rfl (Sub.nil _))))) (fun _ h => (((h).perm (List.perm_middle (l₁ := [_, _]))).perm (List.perm_middle (l₁ := [_, _]))).sub (.cons_cons _ (.cons_cons _ (.cons _ (.slnil)))))
              ·
                intro zK2_0
                refine WC.loopP (G := Unit) (fun s g => match s, g with | v_2, () => [(2, .pointer (some ⟨b0_0, 0, .none⟩)), (6, .slice av_1 nv_1 cv_1), (7, .int .i64 v1_0), (8, .int .i64 v1_1), (9, .int .i64 v_2)]) (fun s g => match s, g with | v_2, () => [Chunk.box b0_0 36 [.int .i64 a_p0.W, .int .i64 a_p0.H, .slice q0_0 a_p0.Data.length k0_0], Chunk.own tInt fv_1 av_1 nv_1 cv_1 v_1]) 1 () ezy2 (by exact Sub.cons rfl (Sub.cons rfl (Sub.cons rfl (Sub.cons rfl (Sub.cons rfl (Sub.nil _)))))) (by exact (fun _ h => h)) ?_
                rintro zm2 v_2 ⟨⟩ zo2 zf2 zb2 ze2
                have zh2 : spec_StoreImage_L2 a_p0 v1_0 v1_1 v_2 = some zo2 := zf2
                unfold spec_StoreImage_L2 at zh2
                show WC _ _ _ _ _ [(2, .pointer (some ⟨b0_0, 0, .none⟩)), (6, .slice av_1 nv_1 cv_1), (7, .int .i64 v1_0), (8, .int .i64 v1_1), (9, .int .i64 v_2)] [Chunk.box b0_0 36 [.int .i64 a_p0.W, .int .i64 a_p0.H, .slice q0_0 a_p0.Data.length k0_0], Chunk.own tInt fv_1 av_1 nv_1 cv_1 v_1]
                refine WC.seq ?_
                refine WC.seq ?_
                obtain ⟨q11_30, e11_30, zh2⟩ := bnd zh2
                refine WC.drawn [(2, ?r11v2), (6, ?r11v6), (7, ?r11v7), (8, ?r11v8), (9, ?r11v9), (65, ?r11v65)] (by kernel_rfl) (by kernel_rfl) ?dH11 ?dK11
                case dH11 =>
                  intro W hW hk
                  refine hW.step rfl rfl rfl (OpV.move rfl) ?_
                  refine hW.step rfl rfl rfl (OpV.move rfl) ?_
                  refine hW.step rfl rfl rfl (OpV.addR rfl rfl) ?_
                  refine hW.step rfl rfl rfl (OpV.fieldAddr rfl fo_36_0) ?_
                  refine hW.step rfl rfl rfl (OpV.loadBox rfl pt_3 (.head _) rfl) ?_
                  refine hW.step rfl rfl rfl (OpV.lss rfl rfl) ?_
                  refine hW.step rfl rfl rfl (OpV.move rfl) ?_
                  refine hW.andQ 41 65 64 (p := ?pz2) (rest := ?qz2) (B := q11_30) rfl (fun hz => andO_f e11_30 hz) ?Tz2 ?Fz2 ?az2 ?bz2 ?cz2 ?dz2 ?ez2
                  case Tz2 =>
                    intro hcz2 hkz2
                    have hqz2 := andO_t e11_30 hcz2
                    obtain ⟨x11_17, e11_17, hqz2⟩ := bnd hqz2
                    obtain ⟨g11_17, o11_17, _, ha11_17, rfl, hd11_17⟩ := Rd.atIdx r0_0 e11_17
                    replace hd11_17 : ∀ (j : Nat) v, ([.int .i64 x11_17] : List Value)[j]? = some v → w.cell? ⟨g11_17, o11_17 + (wr ((wr ((wr (v1_0 * a_p0.W)) + v1_1)) + v_2)).toNat * 1 + j, .none⟩ = some v := hd11_17
                    obtain ⟨x11_27, e11_27, hqz2⟩ := bnd hqz2
                    obtain ⟨g11_27, o11_27, _, ha11_27, rfl, hd11_27⟩ := Rd.atIdx r0_0 e11_27
                    replace hd11_27 : ∀ (j : Nat) v, ([.int .i64 x11_27] : List Value)[j]? = some v → w.cell? ⟨g11_27, o11_27 + (wr ((wr (v1_0 * a_p0.W)) + v1_1)).toNat * 1 + j, .none⟩ = some v := hd11_27
                    obtain rfl := Option.some.inj hqz2
                    refine hW.step rfl rfl rfl (OpV.fieldAddr rfl fo_36_2) ?_
                    refine hW.step rfl rfl rfl (OpV.loadBox rfl pt_32 (.head _) rfl) ?_
                    refine hW.step rfl rfl rfl (OpV.move rfl) ?_
                    refine hW.step rfl rfl rfl (OpV.fieldAddr rfl fo_36_0) ?_
                    refine hW.step rfl rfl rfl (OpV.loadBox rfl pt_3 (.head _) rfl) ?_
                    refine hW.step rfl rfl rfl (OpV.mulR rfl rfl) ?_
                    refine hW.step rfl rfl rfl (OpV.move rfl) ?_
                    refine hW.step rfl rfl rfl (OpV.addR rfl rfl) ?_
                    refine hW.step rfl rfl rfl (OpV.move rfl) ?_
                    refine hW.step rfl rfl rfl (OpV.addR rfl rfl) ?_
                    refine hW.step rfl rfl rfl (OpV.idxA rfl rfl se_32 ha11_17 ⟨(idx_some e11_17).1, (idx_some e11_17).2.1⟩) ?_
                    refine hW.step rfl rfl rfl (OpV.load1 rfl pt_3 (fun w hs => hs.cell (hd11_17 0 _ rfl))) ?_
                    refine hW.step rfl rfl rfl (OpV.fieldAddr rfl fo_36_2) ?_
                    refine hW.step rfl rfl rfl (OpV.loadBox rfl pt_32 (.head _) rfl) ?_
                    refine hW.step rfl rfl rfl (OpV.move rfl) ?_
                    refine hW.step rfl rfl rfl (OpV.fieldAddr rfl fo_36_0) ?_
                    refine hW.step rfl rfl rfl (OpV.loadBox rfl pt_3 (.head _) rfl) ?_
                    refine hW.step rfl rfl rfl (OpV.mulR rfl rfl) ?_
                    refine hW.step rfl rfl rfl (OpV.move rfl) ?_
                    refine hW.step rfl rfl rfl (OpV.addR rfl rfl) ?_
                    refine hW.step rfl rfl rfl (OpV.idxA rfl rfl se_32 ha11_27 ⟨(idx_some e11_27).1, (idx_some e11_27).2.1⟩) ?_
                    refine hW.step rfl rfl rfl (OpV.load1 rfl pt_3 (fun w hs => hs.cell (hd11_27 0 _ rfl))) ?_
                    refine hW.step rfl rfl rfl (OpV.eql rfl rfl) ?_
                    refine hkz2 _ ?_ ?_
                    exact rfl
                    repeat (first | exact Sub.refl _ | refine Sub.skip rfl ?_)
                  case Fz2 =>
                    intro hcz2 hkz2
                    refine hW.skip rfl rfl rfl ?_
                    refine hW.skip rfl rfl rfl ?_
                    refine hW.skip rfl rfl rfl ?_
                    refine hW.skip rfl rfl rfl ?_
                    refine hW.skip rfl rfl rfl ?_
                    refine hW.skip rfl rfl rfl ?_
                    refine hW.skip rfl rfl rfl ?_
                    refine hW.skip rfl rfl rfl ?_
                    refine hW.skip rfl rfl rfl ?_
                    refine hW.skip rfl rfl rfl ?_
                    refine hW.skip rfl rfl rfl ?_
                    refine hW.skip rfl rfl rfl ?_
                    refine hW.skip rfl rfl rfl ?_
                    refine hW.skip rfl rfl rfl ?_
                    refine hW.skip rfl rfl rfl ?_
                    refine hW.skip rfl rfl rfl ?_
                    refine hW.skip rfl rfl rfl ?_
                    refine hW.skip rfl rfl rfl ?_
                    refine hW.skip rfl rfl rfl ?_
                    refine hW.skip rfl rfl rfl ?_
                    refine hW.skip rfl rfl rfl ?_
                    refine hW.skip rfl rfl rfl ?_
                    refine hW.skip rfl rfl rfl ?_
                    refine hkz2 _ ?_
                    repeat (first | exact Sub.refl _ | refine Sub.skip rfl ?_)
                  case az2 => exact rfl
                  case bz2 => exact rfl
                  case cz2 => exact rfl
                  case dz2 => exact rfl
                  refine hk _ ?_
                  refine Sub.cons ?_ (Sub.cons ?_ (Sub.cons ?_ (Sub.cons ?_ (Sub.cons ?_ (Sub.cons ?_ (Sub.nil _))))))
                  all_goals exact rfl
                refine En.next ?_
                refine WC.cond rfl ?_ ?_
                ·
                  intro hc_5
                  replace zh2 := ifO_t hc_5 zh2
                  refine WC.skip ?_
                  refine En.next ?_
                  refine WC.block ?_
                  refine WC.region ?_
                  refine Lt.ofWL.step rfl rfl rfl (OpV.move rfl) ?_
                  refine Lt.ofWL.step rfl rfl rfl (OpV.addR rfl rfl) ?_
                  refine Lt.ofWL.step rfl rfl rfl (OpV.assign rfl) ?_
                  refine WL.nil ?_
                  refine En.block_norm ?_
                  exact En.backP zb2 zh2 () (Sub.cons rfl (Sub.cons rfl (Sub.cons rfl (Sub.cons rfl (Sub.cons rfl (Sub.nil _)))))) (fun _ h => h)
                ·
                  intro hc_5
                  replace zh2 := ifO_f hc_5 zh2
                  refine WC.exit ?_
                  refine En.then_exit ?_
                  refine En.then_exit ?_
                  have hx := exitP ze2 zh2
                  exact En.wk _ _ (Sub.cons rfl (Sub.cons rfl (Sub.cons rfl (Sub.cons rfl (Sub.cons rfl (Sub.nil _)))))) (fun _ h => h) (zK2_0 (v_2, ()) hx.symm)
            ·
              intro hc_4
              replace zh1 := ifO_f hc_4 zh1
              refine WC.exit ?_
              refine En.then_exit ?_
              refine En.then_exit ?_
              have hx := exitP ze1 zh1
              exact En.wk _ _ (Sub.cons rfl (Sub.cons rfl (Sub.cons rfl (Sub.nil _)))) (fun _ h => h) (zK1_0 (v_1, (av_1, nv_1, cv_1, fv_1)) hx.symm)
        ·
          intro hc_3
          replace zh0 := ifO_f hc_3 zh0
          refine WC.exit ?_
          refine En.then_exit ?_
          refine En.then_exit ?_
          have hx := exitP ze0 zh0
          exact En.wk _ _ (Sub.cons rfl (Sub.nil _)) (fun _ h => ((h).perm (List.perm_middle (l₁ := [_]))).sub (.cons_cons _ (.cons _ (.slnil)))) (zK0_0 (v_0, (av_0, nv_0, cv_0, fv_0)) hx.symm)
    ·
      intro hc_2
      replace h := ifO_f hc_2 h
      refine WC.skip ?_
      refine En.next ?_
      refine WC.seq ?_
      obtain ⟨x16_5, e16_5, h⟩ := bnd h
      obtain ⟨x16_6, e16_6, h⟩ := bnd h
      refine WC.region ?_
      refine Lt.ofWL.step rfl rfl rfl (OpV.fieldAddr rfl fo_36_0) ?_
      refine Lt.ofWL.step rfl rfl rfl (OpV.loadBox rfl pt_3 (.head _) rfl) ?_
      refine Lt.ofWL.step rfl rfl rfl (OpV.fieldAddr rfl fo_36_1) ?_
      refine Lt.ofWL.step rfl rfl rfl (OpV.loadBox rfl pt_3 (.head _) rfl) ?_
      refine Lt.ofWL.step rfl rfl rfl (OpV.move rfl) ?_
      refine Lt.ofWL.step rfl rfl rfl (OpV.call (evs.cons rfl (evs.cons rfl (evs.cons rfl (evs.nil)))) ca_172 (fun w hs => w_spec_WordCount e16_5)) ?_
      refine WL.heavy rfl rfl rfl (OpH.makeO (A := tInt) rfl rfl mi_32 (fun w => tInt_flat.ow w 0) (by decide) e16_6 ⟨Int.le_refl _, (mkO_some e16_6).1.2⟩ ?_)
      intro b16_6
      refine Lt.ofWL.step rfl rfl rfl (OpV.assign rfl) ?_
      refine WL.nil ?_
      refine En.next ?_
      refine WC.seq ?_
      refine WC.seq ?_
      refine WC.region ?_
      refine Lt.ofWL.step rfl rfl rfl (OpV.assign rfl) ?_
      refine WL.nil ?_
      refine En.next ?_
      refine WC.block ?_
      obtain ⟨zy3, ezy3, h⟩ := bnd h
      refine WC.cut (X := ((List Int)) × ((List Nat))) (.exit 6) (fun x => zy3 = x.1) (fun x => match x with | (v_3e, fv_3e) => [(10, .slice (some ⟨b16_6, 0, .none⟩) x16_6.length x16_5.toNat)]) (fun x => match x with | (v_3e, fv_3e) => [Chunk.own tInt fv_3e (some ⟨b16_6, 0, .none⟩) x16_6.length x16_5.toNat v_3e]) ?_ ?_
      ·
        rintro ⟨v_3e, fv_3e⟩ hx
        replace hx : v_3e = zy3 := hx.symm
        subst hx
        show En _ _ _ _ [(10, .slice (some ⟨b16_6, 0, .none⟩) x16_6.length x16_5.toNat)] [Chunk.own tInt fv_3e (some ⟨b16_6, 0, .none⟩) x16_6.length x16_5.toNat v_3e]
        refine En.block_exit ?_
        refine En.next ?_
        refine WC.seq ?_
        refine WC.region ?_
        refine Lt.ofWL.step rfl rfl rfl (OpV.move rfl) ?_
        refine Lt.ofWL.step rfl rfl rfl (OpV.assign rfl) ?_
        refine Lt.ofWL.step rfl rfl rfl (OpV.assign rfl) ?_
        refine WL.nil ?_
        refine En.next ?_
        refine WC.ret ?_
        refine En.ret2 rfl (Res.tmp rfl) (Res.tmp rfl) ?_
        obtain rfl := Option.some.inj h
        intro w' hs
        have hs := hs
        exact ⟨_, _, rfl, ⟨(some ⟨b16_6, 0, .none⟩), x16_6.length, x16_5.toNat, fv_3e, rfl, rfl⟩, hs⟩
      ·
        intro zK3_0
        refine WC.loopP (G := (List Nat)) (fun s g => match s, g with | (v_3, v1_3), fv_3 => [(1, .int .i64 a_p1), (2, .pointer (some ⟨b0_0, 0, .none⟩)), (10, .slice (some ⟨b16_6, 0, .none⟩) x16_6.length x16_5.toNat), (11, .int .i64 v1_3)]) (fun s g => match s, g with | (v_3, v1_3), fv_3 => [Chunk.box b0_0 36 [.int .i64 a_p0.W, .int .i64 a_p0.H, .slice q0_0 a_p0.Data.length k0_0], Chunk.own tInt fv_3 (some ⟨b16_6, 0, .none⟩) x16_6.length x16_5.toNat v_3]) (x16_6, 0) [b16_6] ezy3 (by exact Sub.cons rfl (Sub.cons rfl (Sub.cons rfl (Sub.cons rfl (Sub.nil _))))) (by exact (fun _ h => (h).perm (List.perm_middle (l₁ := [_])))) ?_
        rintro zm3 ⟨v_3, v1_3⟩ fv_3 zo3 zf3 zb3 ze3
        have zh3 : spec_StoreImage_L3 a_p0 a_p1 v_3 v1_3 = some zo3 := zf3
        unfold spec_StoreImage_L3 at zh3
        show WC _ _ _ _ _ [(1, .int .i64 a_p1), (2, .pointer (some ⟨b0_0, 0, .none⟩)), (10, .slice (some ⟨b16_6, 0, .none⟩) x16_6.length x16_5.toNat), (11, .int .i64 v1_3)] [Chunk.box b0_0 36 [.int .i64 a_p0.W, .int .i64 a_p0.H, .slice q0_0 a_p0.Data.length k0_0], Chunk.own tInt fv_3 (some ⟨b16_6, 0, .none⟩) x16_6.length x16_5.toNat v_3]
        refine WC.seq ?_
        refine WC.seq ?_
        refine WC.region ?_
        refine Lt.ofWL.step rfl rfl rfl (OpV.move rfl) ?_
        refine Lt.ofWL.step rfl rfl rfl (OpV.fieldAddr rfl fo_36_1) ?_
        refine Lt.ofWL.step rfl rfl rfl (OpV.loadBox rfl pt_3 (.head _) rfl) ?_
        refine Lt.ofWL.step rfl rfl rfl (OpV.lss rfl rfl) ?_
        refine WL.nil ?_
        refine En.next ?_
        refine WC.cond rfl ?_ ?_
        ·
          intro hc_6
          replace zh3 := ifO_t hc_6 zh3
          refine WC.skip ?_
          refine En.next ?_
          refine WC.seq ?_
          refine WC.block ?_
          refine WC.seq ?_
          refine WC.region ?_
          refine Lt.ofWL.step rfl rfl rfl (OpV.assign rfl) ?_
          refine WL.nil ?_
          refine En.next ?_
          refine WC.block ?_
          obtain ⟨zy4, ezy4, zh3⟩ := bnd zh3
          refine WC.cut (X := ((List Int)) × ((List Nat))) (.exit 8) (fun x => zy4 = x.1) (fun x => match x with | (v_4e, fv_4e) => [(1, .int .i64 a_p1), (2, .pointer (some ⟨b0_0, 0, .none⟩)), (10, .slice (some ⟨b16_6, 0, .none⟩) x16_6.length x16_5.toNat), (11, .int .i64 v1_3)]) (fun x => match x with | (v_4e, fv_4e) => [Chunk.box b0_0 36 [.int .i64 a_p0.W, .int .i64 a_p0.H, .slice q0_0 a_p0.Data.length k0_0], Chunk.own tInt fv_4e (some ⟨b16_6, 0, .none⟩) x16_6.length x16_5.toNat v_4e]) ?_ ?_
          ·
            rintro ⟨v_4e, fv_4e⟩ hx
            replace hx : v_4e = zy4 := hx.symm
            subst hx
            show En _ _ _ _ [(1, .int .i64 a_p1), (2, .pointer (some ⟨b0_0, 0, .none⟩)), (10, .slice (some ⟨b16_6, 0, .none⟩) x16_6.length x16_5.toNat), (11, .int .i64 v1_3)] [Chunk.box b0_0 36 [.int .i64 a_p0.W, .int .i64 a_p0.H, .slice q0_0 a_p0.Data.length k0_0], Chunk.own tInt fv_4e (some ⟨b16_6, 0, .none⟩) x16_6.length x16_5.toNat v_4e]
            refine En.block_exit ?_
            refine En.block_norm ?_
            refine En.next ?_
            refine WC.region ?_
            refine Lt.ofWL.step rfl rfl rfl (OpV.move rfl) ?_
            refine Lt.ofWL.step rfl rfl rfl (OpV.addR rfl rfl) ?_
            refine Lt.ofWL.step rfl rfl rfl (OpV.assign rfl) ?_
            refine WL.nil ?_
            exact En.backP zb3 zh3 fv_4e (Sub.cons rfl (Sub.cons rfl (Sub.cons rfl (Sub.cons rfl (Sub.nil _))))) (fun _ h => h)
          ·
            intro zK4_0
            refine WC.loopP (G := (List Nat)) (fun s g => match s, g with | (v_4, v1_4), fv_4 => [(1, .int .i64 a_p1), (2, .pointer (some ⟨b0_0, 0, .none⟩)), (10, .slice (some ⟨b16_6, 0, .none⟩) x16_6.length x16_5.toNat), (11, .int .i64 v1_3), (12, .int .i64 v1_4)]) (fun s g => match s, g with | (v_4, v1_4), fv_4 => [Chunk.box b0_0 36 [.int .i64 a_p0.W, .int .i64 a_p0.H, .slice q0_0 a_p0.Data.length k0_0], Chunk.own tInt fv_4 (some ⟨b16_6, 0, .none⟩) x16_6.length x16_5.toNat v_4]) (v_3, 0) fv_3 ezy4 (by exact Sub.cons rfl (Sub.cons rfl (Sub.cons rfl (Sub.cons rfl (Sub.cons rfl (Sub.nil _)))))) (by exact (fun _ h => h)) ?_
            rintro zm4 ⟨v_4, v1_4⟩ fv_4 zo4 zf4 zb4 ze4
            have zh4 : spec_StoreImage_L4 a_p0 a_p1 v1_3 v_4 v1_4 = some zo4 := zf4
            unfold spec_StoreImage_L4 at zh4
            show WC _ _ _ _ _ [(1, .int .i64 a_p1), (2, .pointer (some ⟨b0_0, 0, .none⟩)), (10, .slice (some ⟨b16_6, 0, .none⟩) x16_6.length x16_5.toNat), (11, .int .i64 v1_3), (12, .int .i64 v1_4)] [Chunk.box b0_0 36 [.int .i64 a_p0.W, .int .i64 a_p0.H, .slice q0_0 a_p0.Data.length k0_0], Chunk.own tInt fv_4 (some ⟨b16_6, 0, .none⟩) x16_6.length x16_5.toNat v_4]
            refine WC.seq ?_
            refine WC.seq ?_
            refine WC.region ?_
            refine Lt.ofWL.step rfl rfl rfl (OpV.move rfl) ?_
            refine Lt.ofWL.step rfl rfl rfl (OpV.fieldAddr rfl fo_36_0) ?_
            refine Lt.ofWL.step rfl rfl rfl (OpV.loadBox rfl pt_3 (.head _) rfl) ?_
            refine Lt.ofWL.step rfl rfl rfl (OpV.lss rfl rfl) ?_
            refine WL.nil ?_
            refine En.next ?_
            refine WC.cond rfl ?_ ?_
            ·
              intro hc_7
              replace zh4 := ifO_t hc_7 zh4
              refine WC.skip ?_
              refine En.next ?_
              refine WC.seq ?_
              refine WC.block ?_
              refine WC.inh fun hin23 => ?_
              obtain ⟨x23_8, e23_8, zh4⟩ := bnd zh4
              obtain ⟨x23_17, e23_17, zh4⟩ := bnd zh4
              obtain ⟨g23_17, o23_17, _, ha23_17, rfl, hd23_17⟩ := Rd.atIdx r0_0 e23_17
              replace hd23_17 : ∀ (j : Nat) v, ([.int .i64 x23_17] : List Value)[j]? = some v → w.cell? ⟨g23_17, o23_17 + (wr ((wr (v1_3 * a_p0.W)) + v1_4)).toNat * 1 + j, .none⟩ = some v := hd23_17
              have hn23_19 := ownLen hin23 (.tail _ (.head _))
              obtain ⟨x23_20, e23_20, zh4⟩ := bnd zh4
              obtain ⟨g23_19, ha23_19⟩ := ownAddrU hin23 (.tail _ (.head _)) e23_20
              refine WC.wkF (fun _ h => h.perm (List.perm_middle (l₁ := [_]))) ?_
              refine WC.drawnH [_] ([_]) (fun _ h => h) (by kernel_rfl) ?_
              refine WAE.take (i := 0) rfl (by kernel_rfl) (by kernel_rfl) (by kernel_rfl) rfl rfl rfl (OpV.move rfl) ?_
              refine WAE.take (i := 1) rfl (by kernel_rfl) (by kernel_rfl) (by kernel_rfl) rfl rfl rfl (OpV.fieldAddr rfl fo_36_0) ?_
              refine WAE.take (i := 2) rfl (by kernel_rfl) (by kernel_rfl) (by kernel_rfl) rfl rfl rfl (OpV.loadBox rfl pt_3 (.head _) rfl) ?_
              refine WAE.take (i := 3) rfl (by kernel_rfl) (by kernel_rfl) (by kernel_rfl) rfl rfl rfl (OpV.fieldAddr rfl fo_36_1) ?_
              refine WAE.take (i := 4) rfl (by kernel_rfl) (by kernel_rfl) (by kernel_rfl) rfl rfl rfl (OpV.loadBox rfl pt_3 (.head _) rfl) ?_
              refine WAE.take (i := 5) rfl (by kernel_rfl) (by kernel_rfl) (by kernel_rfl) rfl rfl rfl (OpV.move rfl) ?_
              refine WAE.take (i := 6) rfl (by kernel_rfl) (by kernel_rfl) (by kernel_rfl) rfl rfl rfl (OpV.move rfl) ?_
              refine WAE.take (i := 7) rfl (by kernel_rfl) (by kernel_rfl) (by kernel_rfl) rfl rfl rfl (OpV.move rfl) ?_
              refine WAE.take (i := 8) rfl (by kernel_rfl) (by kernel_rfl) (by kernel_rfl) rfl rfl rfl (OpV.call (evs.cons rfl (evs.cons rfl (evs.cons rfl (evs.cons rfl (evs.cons rfl (evs.nil)))))) ca_173 (fun w hs => w_spec_WordPlace e23_8)) ?_
              refine WAE.take (i := 9) rfl (by kernel_rfl) (by kernel_rfl) (by kernel_rfl) rfl rfl rfl (OpV.fieldAddr rfl fo_36_2) ?_
              refine WAE.take (i := 10) rfl (by kernel_rfl) (by kernel_rfl) (by kernel_rfl) rfl rfl rfl (OpV.loadBox rfl pt_32 (.head _) rfl) ?_
              refine WAE.take (i := 11) rfl (by kernel_rfl) (by kernel_rfl) (by kernel_rfl) rfl rfl rfl (OpV.move rfl) ?_
              refine WAE.take (i := 12) rfl (by kernel_rfl) (by kernel_rfl) (by kernel_rfl) rfl rfl rfl (OpV.fieldAddr rfl fo_36_0) ?_
              refine WAE.take (i := 13) rfl (by kernel_rfl) (by kernel_rfl) (by kernel_rfl) rfl rfl rfl (OpV.loadBox rfl pt_3 (.head _) rfl) ?_
              refine WAE.take (i := 14) rfl (by kernel_rfl) (by kernel_rfl) (by kernel_rfl) rfl rfl rfl (OpV.mulR rfl rfl) ?_
              refine WAE.take (i := 15) rfl (by kernel_rfl) (by kernel_rfl) (by kernel_rfl) rfl rfl rfl (OpV.move rfl) ?_
              refine WAE.take (i := 16) rfl (by kernel_rfl) (by kernel_rfl) (by kernel_rfl) rfl rfl rfl (OpV.addR rfl rfl) ?_
              refine WAE.take (i := 17) rfl (by kernel_rfl) (by kernel_rfl) (by kernel_rfl) rfl rfl rfl (OpV.idxA rfl rfl se_32 ha23_17 ⟨(idx_some e23_17).1, (idx_some e23_17).2.1⟩) ?_
              refine WAE.take (i := 18) rfl (by kernel_rfl) (by kernel_rfl) (by kernel_rfl) rfl rfl rfl (OpV.load1 rfl pt_3 (fun w hs => hs.cell (hd23_17 0 _ rfl))) ?_
              refine WAE.take (i := 19) rfl (by kernel_rfl) (by kernel_rfl) (by kernel_rfl) rfl rfl rfl (OpV.idxA rfl rfl se_32 ha23_19 ⟨(upd_some e23_20).1.1, by rw [hn23_19]; exact (upd_some e23_20).1.2⟩) ?_
              refine WAE.all (rs := [20]) (by kernel_rfl) rfl (AllR.cons0 rfl rfl rfl ?_ AllR.nil)
              refine OpH.wkF (fun _ h => St.elFlat tInt_flat x23_17 h) ?_
              refine OpH.setEl (A := tInt) ha23_19 rfl rfl rfl ts_3 e23_20 ?_
              intro f23_20
              refine ⟨[_], rfl, ?_⟩
              refine WAE.rebase (H := []) ?_
              refine WAE.done (by kernel_rfl) ?_ _
              refine En.block_norm ?_
              refine En.next ?_
              refine WC.region ?_
              refine Lt.ofWL.step rfl rfl rfl (OpV.move rfl) ?_
              refine Lt.ofWL.step rfl rfl rfl (OpV.addR rfl rfl) ?_
              refine Lt.ofWL.step rfl rfl rfl (OpV.assign rfl) ?_
              refine WL.nil ?_
              exact En.backP zb4 zh4 f23_20 (Sub.cons rfl (Sub.cons rfl (Sub.cons rfl (Sub.cons rfl (Sub.cons rfl (Sub.nil _)))))) (fun _ h => (h).perm (List.perm_middle (l₁ := [_])))
            ·
              intro hc_7
              replace zh4 := ifO_f hc_7 zh4
              refine WC.exit ?_
              refine En.then_exit ?_
              refine En.then_exit ?_
              have hx := exitP ze4 zh4
              exact En.wk _ _ (Sub.cons rfl (Sub.cons rfl (Sub.cons rfl (Sub.cons rfl (Sub.nil _))))) (fun _ h => h) (zK4_0 (v_4, fv_4) hx.symm)
        ·
          intro hc_6
          replace zh3 := ifO_f hc_6 zh3
          refine WC.exit ?_
          refine En.then_exit ?_
          refine En.then_exit ?_
          have hx := exitP ze3 zh3
          exact En.wk _ _ (Sub.cons rfl (Sub.nil _)) (fun _ h => ((h).perm (List.perm_middle (l₁ := [_]))).sub (.cons_cons _ (.cons _ (.slnil)))) (zK3_0 (v_3, fv_3) hx.symm)

theorem w_spec_PlaneOf {i_p0 : ImageT} {x_p1 : Int} {y_p2 : Int} {layout_p3 : Int} {r : PlaneT} {q0_0 : Option Addr} {n0_0 k0_0 : Nat} (h : spec_PlaneOf i_p0 x_p1 y_p2 layout_p3 = some r) {w : World} (r0_0 : Rd tInt w q0_0 n0_0 k0_0 i_p0.Data)   :
    Calls Try.prog 116 #[.agg #[.int .i64 i_p0.W, .int .i64 i_p0.H, .slice q0_0 n0_0 k0_0], .int .i64 x_p1, .int .i64 y_p2, .int .i64 layout_p3] w (fun en w' => ∃ rv G, en = .returned rv ∧ (∃ (a0_0 : Option Addr) (n0_0 : Nat) (c0_0 : Nat) (f0_0 : List Nat), rv = .agg #[.bool r.On, .int .i64 r.X, .int .i64 r.Y, .int .i64 r.W, .int .i64 r.H, .int .i64 r.Layout, .slice a0_0 n0_0 c0_0, .int .i64 r.Alpha, .int .i64 r.Orient, .int .i64 r.ToW, .int .i64 r.ToH] ∧ G = [Chunk.own tInt f0_0 a0_0 n0_0 c0_0 r.Words]) ∧ St w G w') := by
  obtain rfl := r0_0.1
  unfold spec_PlaneOf at h
  refine enter (vs := [_, _, _, _]) Try.func116 rfl rfl rfl rfl ?_
  refine WC.seq ?_
  refine WC.region ?_
  refine WL.heavy rfl rfl rfl (OpH.box rfl rfl ?_)
  intro b0_0
  refine WL.heavy rfl rfl rfl (OpH.alloc zc_57 ?_)
  intro b0_1
  refine WL.nil ?_
  refine En.next ?_
  refine WC.seq ?_
  obtain ⟨⟨x1_2a, x1_2b⟩, e1_2, h⟩ := bnd h
  refine WC.region ?_
  refine Lt.ofWL.step rfl rfl rfl (OpV.loadAll rfl (.tail _ (.head _)) ag_36) ?_
  refine Lt.ofWL.step rfl rfl rfl (OpV.move rfl) ?_
  refine WL.heavy rfl rfl rfl (OpH.callR (evs.cons rfl (evs.cons rfl (evs.nil))) ca_162 (fun w hs => w_spec_StoreImage e1_2 (r0_0.ext hs.below)) ?_)
  rintro _ _ ⟨a1_200, n1_200, c1_200, f1_200, rfl, rfl⟩
  refine Lt.ofWL.step rfl rfl rfl (OpV.move rfl) ?_
  refine Lt.ofWL.step rfl rfl rfl (OpV.extract rfl rfl) ?_
  refine Lt.ofWL.step rfl rfl rfl (OpV.extract rfl rfl) ?_
  refine Lt.ofWL.step rfl rfl rfl (OpV.assign rfl) ?_
  refine Lt.ofWL.step rfl rfl rfl (OpV.assign rfl) ?_
  refine WL.nil ?_
  refine En.next ?_
  refine WC.seq ?_
  refine WC.seq ?_
  refine WC.region ?_
  refine Lt.ofWL.step rfl rfl rfl (OpV.move rfl) ?_
  refine Lt.ofWL.step rfl rfl rfl (OpV.not rfl) ?_
  refine WL.nil ?_
  refine En.next ?_
  refine WC.cond rfl ?_ ?_
  ·
    intro hc_1
    replace h := ifO_t hc_1 h
    refine WC.seq ?_
    refine WC.region ?_
    refine Lt.ofWL.step rfl rfl rfl (OpV.build (evps.nil) bd_57_) ?_
    refine WL.heavy0 rfl rfl (OpH.storeTo (A := [_]) [_, _, _, _, _, _, _, _, _, _, _] rfl rfl rfl ts_57 rfl rfl rfl ?_)
    refine WL.nil ?_
    refine En.next ?_
    refine WC.ret ?_
    refine En.then_ret ?_
    refine En.ret1 rfl (Res.cell rfl (.tail _ (.head _)) ag_57) ?_
    obtain rfl := Option.some.inj h
    intro w' hs
    have hs := ((hs).ownNil (A := tInt)).sub (.cons_cons _ (.cons _ (.cons _ (.cons _ (.slnil)))))
    exact ⟨_, _, rfl, ⟨.none, 0, 0, [], rfl, rfl⟩, hs⟩
  ·
    intro hc_1
    replace h := ifO_f hc_1 h
    refine WC.skip ?_
    refine En.next ?_
    refine WC.seq ?_
    refine WC.region ?_
    refine Lt.ofWL.step rfl rfl rfl (OpV.move rfl) ?_
    refine Lt.ofWL.step rfl rfl rfl (OpV.move rfl) ?_
    refine Lt.ofWL.step rfl rfl rfl (OpV.fieldAddr rfl fo_36_0) ?_
    refine Lt.ofWL.step rfl rfl rfl (OpV.loadBox rfl pt_3 (.tail _ (.tail _ (.head _))) rfl) ?_
    refine Lt.ofWL.step rfl rfl rfl (OpV.fieldAddr rfl fo_36_1) ?_
    refine Lt.ofWL.step rfl rfl rfl (OpV.loadBox rfl pt_3 (.tail _ (.tail _ (.head _))) rfl) ?_
    refine Lt.ofWL.step rfl rfl rfl (OpV.move rfl) ?_
    refine Lt.ofWL.step rfl rfl rfl (OpV.move rfl) ?_
    refine Lt.ofWL.step rfl rfl rfl (OpV.build (evps.cons rfl (evps.cons rfl (evps.cons rfl (evps.cons rfl (evps.cons rfl (evps.cons rfl (evps.cons rfl (evps.cons rfl (evps.nil))))))))) (bd_57_0_1_2_3_4_5_6_7 _ _ _ _ _ _ _ _ _ _)) ?_
    refine WL.heavy0 rfl rfl (OpH.storeTo (A := [_]) [_, _, _, _, _, _, _, _, _, _, _] rfl rfl rfl ts_57 rfl rfl rfl ?_)
    refine WL.nil ?_
    refine En.next ?_
    refine WC.ret ?_
    refine En.ret1 rfl (Res.cell rfl (.tail _ (.head _)) ag_57) ?_
    obtain rfl := Option.some.inj h
    intro w' hs
    have hs := (hs).sub (.cons_cons _ (.cons _ (.cons _ (.slnil))))
    exact ⟨_, _, rfl, ⟨a1_200, n1_200, c1_200, f1_200, rfl, rfl⟩, hs⟩

theorem w_spec_PlanesOf {a_p0 : SceneT} {a_p1 : OptionsT} {a_p2 : ImageT} {r : (List PlaneT)} {q0_0 : Option Addr} {n0_0 k0_0 : Nat} {q2_0 : Option Addr} {n2_0 k2_0 : Nat} (h : spec_PlanesOf a_p0 a_p1 a_p2 = some r) {w : World} (r0_0 : Rd tSurface w q0_0 n0_0 k0_0 a_p0.Surfaces) (r2_0 : Rd tInt w q2_0 n2_0 k2_0 a_p2.Data)   :
    Calls Try.prog 59 #[.agg #[.int .i64 a_p0.W, .int .i64 a_p0.H, .int .i64 a_p0.Back, .slice q0_0 n0_0 k0_0], .agg #[.int .i64 a_p1.Overlays, .bool a_p1.Cursor, .int .i64 a_p1.Layout, .bool a_p1.Partial, .bool a_p1.Sleep, .bool a_p1.Secret], .agg #[.int .i64 a_p2.W, .int .i64 a_p2.H, .slice q2_0 n2_0 k2_0]] w (fun en w' => ∃ rv G, en = .returned rv ∧ (∃ (a0_0 : Option Addr) (n0_0 : Nat) (c0_0 : Nat) (f0_0 : List Nat), rv = .slice a0_0 n0_0 c0_0 ∧ G = [Chunk.own tPlane f0_0 a0_0 n0_0 c0_0 r]) ∧ St w G w') := by
  obtain rfl := r0_0.1
  obtain rfl := r2_0.1
  unfold spec_PlanesOf at h
  refine enter (vs := [_, _, _]) Try.func59 rfl rfl rfl rfl ?_
  refine WC.seq ?_
  refine WC.region ?_
  refine WL.heavy rfl rfl rfl (OpH.box rfl rfl ?_)
  intro b0_0
  refine WL.heavy rfl rfl rfl (OpH.box rfl rfl ?_)
  intro b0_1
  refine WL.heavy rfl rfl rfl (OpH.box rfl rfl ?_)
  intro b0_2
  refine Lt.ofWL.step rfl rfl rfl (OpV.assign rfl) ?_
  refine WL.nil ?_
  refine En.next ?_
  refine WC.seq ?_
  obtain ⟨⟨x1_2a, x1_2b⟩, e1_2, h⟩ := bnd h
  refine WC.region ?_
  refine Lt.ofWL.step rfl rfl rfl (OpV.loadAll rfl (.tail _ (.tail _ (.head _))) ag_26) ?_
  refine Lt.ofWL.step rfl rfl rfl (OpV.loadAll rfl (.tail _ (.head _)) ag_28) ?_
  refine WL.heavy rfl rfl rfl (OpH.callR (evs.cons rfl (evs.cons rfl (evs.nil))) ca_22 (fun w hs => w_spec_AssignedOf e1_2 (r0_0.ext hs.below)) ?_)
  rintro _ _ ⟨a1_200, n1_200, c1_200, f1_200, rfl, rfl⟩
  refine Lt.ofWL.step rfl rfl rfl (OpV.move rfl) ?_
  refine Lt.ofWL.step rfl rfl rfl (OpV.extract rfl rfl) ?_
  refine Lt.ofWL.step rfl rfl rfl (OpV.extract rfl rfl) ?_
  refine Lt.ofWL.step rfl rfl rfl (OpV.assign rfl) ?_
  refine Lt.ofWL.step rfl rfl rfl (OpV.assign rfl) ?_
  refine WL.nil ?_
  refine En.next ?_
  refine WC.seq ?_
  refine WC.seq ?_
  obtain ⟨q2_7, e2_7, h⟩ := bnd h
  refine WC.region ?_
  refine Lt.ofWL.step rfl rfl rfl (OpV.move rfl) ?_
  refine Lt.ofWL.step rfl rfl rfl (OpV.inhF fun hin => OpV.lenO (xs := x1_2a) rfl si_32 rfl (ownLen hin (.head _))) ?_
  refine Lt.ofWL.step rfl rfl rfl (OpV.eql rfl rfl) ?_
  refine Lt.ofWL.step rfl rfl rfl (OpV.move rfl) ?_
  refine Lt.ofWL.orQ 22 26 25 (p := ?pz1) (rest := ?qz1) (B := q2_7) rfl (fun hz => orO_t e2_7 hz) ?Tz1 ?Fz1 ?az1 ?bz1 ?cz1 ?dz1 ?ez1
  case Tz1 =>
    intro hcz1 hkz1
    refine Lt.ofWL.skip rfl rfl rfl ?_
    refine Lt.ofWL.skip rfl rfl rfl ?_
    refine Lt.ofWL.skip rfl rfl rfl ?_
    refine hkz1 _ ?_
    repeat (first | exact Sub.refl _ | refine Sub.skip rfl ?_)
  case Fz1 =>
    intro hcz1 hkz1
    have hqz1 := orO_f e2_7 hcz1
    obtain ⟨x2_5, e2_5, hqz1⟩ := bnd hqz1
    obtain rfl := Option.some.inj hqz1
    refine Lt.ofWL.step rfl rfl rfl (OpV.loadAll rfl (.tail _ (.head _)) ag_36) ?_
    refine Lt.ofWL.step rfl rfl rfl (OpV.call (evs.cons rfl (evs.nil)) ca_101 (fun w hs => w_spec_ImageOk e2_5 (r2_0.ext hs.below))) ?_
    refine Lt.ofWL.step rfl rfl rfl (OpV.not rfl) ?_
    refine hkz1 _ ?_ ?_
    exact rfl
    repeat (first | exact Sub.refl _ | refine Sub.skip rfl ?_)
  case az1 => exact rfl
  case bz1 => exact rfl
  case cz1 => exact rfl
  case dz1 => exact rfl
  refine WL.nil ?_
  refine En.next ?_
  refine WC.cond rfl ?_ ?_
  ·
    intro hc_1
    replace h := ifO_t hc_1 h
    refine WC.seq ?_
    refine WC.region ?_
    refine WL.heavy rfl rfl rfl (OpH.lit0 (A := tPlane) (evps.nil) bs_53_0_ ?_)
    intro b3_0
    refine Lt.ofWL.step rfl rfl rfl (OpV.assign rfl) ?_
    refine WL.nil ?_
    refine En.next ?_
    refine WC.ret ?_
    refine En.then_ret ?_
    refine En.ret1 rfl (Res.tmp rfl) ?_
    obtain rfl := Option.some.inj h
    intro w' hs
    have hs := (hs).sub (.cons_cons _ (.cons _ (.cons _ (.cons _ (.cons _ (.slnil))))))
    exact ⟨_, _, rfl, ⟨(some ⟨b3_0, 0, .none⟩), 0, 0, [b3_0], rfl, rfl⟩, hs⟩
  ·
    intro hc_1
    replace h := ifO_f hc_1 h
    refine WC.skip ?_
    refine En.next ?_
    refine WC.seq ?_
    obtain ⟨x4_3, e4_3, h⟩ := bnd h
    refine WC.region ?_
    refine Lt.ofWL.step rfl rfl rfl (OpV.loadAll rfl (.tail _ (.head _)) ag_36) ?_
    refine Lt.ofWL.step rfl rfl rfl (OpV.fieldAddr rfl fo_28_2) ?_
    refine Lt.ofWL.step rfl rfl rfl (OpV.loadBox rfl pt_3 (.tail _ (.tail _ (.head _))) rfl) ?_
    refine WL.heavy rfl rfl rfl (OpH.callR (evs.cons rfl (evs.cons rfl (evs.cons rfl (evs.cons rfl (evs.nil))))) ca_116 (fun w hs => w_spec_PlaneOf e4_3 (r2_0.ext hs.below)) ?_)
    rintro _ _ ⟨a4_300, n4_300, c4_300, f4_300, rfl, rfl⟩
    refine WL.wkF (fun _ h => h.innNil (A := tPlane)) ?_
    refine WL.wkF (fun _ h => h.perm (List.perm_middle (l₁ := [_]))) ?_
    refine WL.wkF (fun _ h => tPlane_mk x4_3.On x4_3.X x4_3.Y x4_3.W x4_3.H x4_3.Layout x4_3.Words x4_3.Alpha x4_3.Orient x4_3.ToW x4_3.ToH h) ?_
    refine WL.wkF (fun _ h => h.innSnoc) ?_
    refine WL.heavy rfl rfl rfl (OpH.litN (A := tPlane) (evps.cons rfl (evps.nil)) (bs_53_1_0 _ _ _ _ _ _ _ _ _ _ _ _ _) rfl rfl (Nat.le_of_ble_eq_true rfl) ?_)
    intro b4_4 f4_4
    refine Lt.ofWL.step rfl rfl rfl (OpV.assign rfl) ?_
    refine WL.nil ?_
    refine En.next ?_
    refine WC.seq ?_
    refine WC.seq ?_
    refine WC.region ?_
    refine Lt.ofWL.step rfl rfl rfl (OpV.assign rfl) ?_
    refine WL.nil ?_
    refine En.next ?_
    refine WC.block ?_
    obtain ⟨zy0, ezy0, h⟩ := bnd h
    refine WC.cut (X := ((List PlaneT)) × ((Option Addr) × Nat × Nat × (List Nat))) (.exit 0) (fun x => zy0 = x.1) (fun x => match x with | (v_0e, (av_0e, nv_0e, cv_0e, fv_0e)) => [(9, .slice av_0e nv_0e cv_0e)]) (fun x => match x with | (v_0e, (av_0e, nv_0e, cv_0e, fv_0e)) => [Chunk.own tPlane fv_0e av_0e nv_0e cv_0e v_0e]) ?_ ?_
    ·
      rintro ⟨v_0e, ⟨av_0e, nv_0e, cv_0e, fv_0e⟩⟩ hx
      replace hx : v_0e = zy0 := hx.symm
      subst hx
      show En _ _ _ _ [(9, .slice av_0e nv_0e cv_0e)] [Chunk.own tPlane fv_0e av_0e nv_0e cv_0e v_0e]
      refine En.block_exit ?_
      refine En.next ?_
      refine WC.seq ?_
      refine WC.region ?_
      refine Lt.ofWL.step rfl rfl rfl (OpV.move rfl) ?_
      refine Lt.ofWL.step rfl rfl rfl (OpV.assign rfl) ?_
      refine WL.nil ?_
      refine En.next ?_
      refine WC.ret ?_
      refine En.ret1 rfl (Res.tmp rfl) ?_
      obtain rfl := Option.some.inj h
      intro w' hs
      have hs := hs
      exact ⟨_, _, rfl, ⟨av_0e, nv_0e, cv_0e, fv_0e, rfl, rfl⟩, hs⟩
    ·
      intro zK0_0
      refine WC.loopP (G := (Option Addr) × Nat × Nat × (List Nat)) (fun s g => match s, g with | (v_0, v1_0), (av_0, nv_0, cv_0, fv_0) => [(3, .pointer (some ⟨b0_0, 0, .none⟩)), (4, .pointer (some ⟨b0_1, 0, .none⟩)), (7, .slice a1_200 n1_200 c1_200), (9, .slice av_0 nv_0 cv_0), (10, .int .i64 v1_0)]) (fun s g => match s, g with | (v_0, v1_0), (av_0, nv_0, cv_0, fv_0) => [Chunk.box b0_0 26 [.int .i64 a_p0.W, .int .i64 a_p0.H, .int .i64 a_p0.Back, .slice q0_0 a_p0.Surfaces.length k0_0], Chunk.box b0_1 28 [.int .i64 a_p1.Overlays, .bool a_p1.Cursor, .int .i64 a_p1.Layout, .bool a_p1.Partial, .bool a_p1.Sleep, .bool a_p1.Secret], Chunk.own tInt f1_200 a1_200 n1_200 c1_200 x1_2a, Chunk.own tPlane fv_0 av_0 nv_0 cv_0 v_0]) ([x4_3], 0) ((some ⟨b4_4, 0, .none⟩), 1, 1, f4_4) ezy0 (by exact Sub.cons rfl (Sub.cons rfl (Sub.cons rfl (Sub.cons rfl (Sub.cons rfl (Sub.nil _)))))) (by exact (fun _ h => ((((h).perm (List.perm_middle (l₁ := [_]))).perm (List.perm_middle (l₁ := [_, _, _]))).perm (List.perm_middle (l₁ := [_, _, _, _]))).sub (.cons_cons _ (.cons_cons _ (.cons_cons _ (.cons_cons _ (.cons _ (.slnil)))))))) ?_
      rintro zm0 ⟨v_0, v1_0⟩ ⟨av_0, nv_0, cv_0, fv_0⟩ zo0 zf0 zb0 ze0
      have zh0 : spec_PlanesOf_L0 a_p0 a_p1 x1_2a v_0 v1_0 = some zo0 := zf0
      unfold spec_PlanesOf_L0 at zh0
      show WC _ _ _ _ _ [(3, .pointer (some ⟨b0_0, 0, .none⟩)), (4, .pointer (some ⟨b0_1, 0, .none⟩)), (7, .slice a1_200 n1_200 c1_200), (9, .slice av_0 nv_0 cv_0), (10, .int .i64 v1_0)] [Chunk.box b0_0 26 [.int .i64 a_p0.W, .int .i64 a_p0.H, .int .i64 a_p0.Back, .slice q0_0 a_p0.Surfaces.length k0_0], Chunk.box b0_1 28 [.int .i64 a_p1.Overlays, .bool a_p1.Cursor, .int .i64 a_p1.Layout, .bool a_p1.Partial, .bool a_p1.Sleep, .bool a_p1.Secret], Chunk.own tInt f1_200 a1_200 n1_200 c1_200 x1_2a, Chunk.own tPlane fv_0 av_0 nv_0 cv_0 v_0]
      refine WC.seq ?_
      refine WC.seq ?_
      refine WC.region ?_
      refine Lt.ofWL.step rfl rfl rfl (OpV.move rfl) ?_
      refine Lt.ofWL.step rfl rfl rfl (OpV.move rfl) ?_
      refine Lt.ofWL.step rfl rfl rfl (OpV.inhF fun hin => OpV.lenO (xs := x1_2a) rfl si_32 rfl (ownLen hin (.tail _ (.tail _ (.head _))))) ?_
      refine Lt.ofWL.step rfl rfl rfl (OpV.lss rfl rfl) ?_
      refine WL.nil ?_
      refine En.next ?_
      refine WC.cond rfl ?_ ?_
      ·
        intro hc_2
        replace zh0 := ifO_t hc_2 zh0
        refine WC.skip ?_
        refine En.next ?_
        refine WC.seq ?_
        obtain ⟨zy1, ej1, zh0⟩ := bnd zh0
        refine WC.cut (X := ((List PlaneT)) × ((Option Addr) × Nat × Nat × (List Nat))) .normal (fun x => zy1 = x.1) (fun x => match x with | (v_1j, (av_1j, nv_1j, cv_1j, fv_1j)) => [(3, .pointer (some ⟨b0_0, 0, .none⟩)), (4, .pointer (some ⟨b0_1, 0, .none⟩)), (7, .slice a1_200 n1_200 c1_200), (9, .slice av_1j nv_1j cv_1j), (10, .int .i64 v1_0)]) (fun x => match x with | (v_1j, (av_1j, nv_1j, cv_1j, fv_1j)) => [Chunk.box b0_0 26 [.int .i64 a_p0.W, .int .i64 a_p0.H, .int .i64 a_p0.Back, .slice q0_0 a_p0.Surfaces.length k0_0], Chunk.box b0_1 28 [.int .i64 a_p1.Overlays, .bool a_p1.Cursor, .int .i64 a_p1.Layout, .bool a_p1.Partial, .bool a_p1.Sleep, .bool a_p1.Secret], Chunk.own tInt f1_200 a1_200 n1_200 c1_200 x1_2a, Chunk.own tPlane fv_1j av_1j nv_1j cv_1j v_1j]) ?_ ?_
        ·
          rintro ⟨v_1j, ⟨av_1j, nv_1j, cv_1j, fv_1j⟩⟩ hx
          replace hx : v_1j = zy1 := hx.symm
          subst hx
          show En _ _ _ _ [(3, .pointer (some ⟨b0_0, 0, .none⟩)), (4, .pointer (some ⟨b0_1, 0, .none⟩)), (7, .slice a1_200 n1_200 c1_200), (9, .slice av_1j nv_1j cv_1j), (10, .int .i64 v1_0)] [Chunk.box b0_0 26 [.int .i64 a_p0.W, .int .i64 a_p0.H, .int .i64 a_p0.Back, .slice q0_0 a_p0.Surfaces.length k0_0], Chunk.box b0_1 28 [.int .i64 a_p1.Overlays, .bool a_p1.Cursor, .int .i64 a_p1.Layout, .bool a_p1.Partial, .bool a_p1.Sleep, .bool a_p1.Secret], Chunk.own tInt f1_200 a1_200 n1_200 c1_200 x1_2a, Chunk.own tPlane fv_1j av_1j nv_1j cv_1j v_1j]
          refine En.next ?_
          refine WC.region ?_
          refine Lt.ofWL.step rfl rfl rfl (OpV.move rfl) ?_
          refine Lt.ofWL.step rfl rfl rfl (OpV.addR rfl rfl) ?_
          refine Lt.ofWL.step rfl rfl rfl (OpV.assign rfl) ?_
          refine WL.nil ?_
          exact En.backP zb0 zh0 (av_1j, nv_1j, cv_1j, fv_1j) (Sub.cons rfl (Sub.cons rfl (Sub.cons rfl (Sub.cons rfl (Sub.cons rfl (Sub.nil _)))))) (fun _ h => h)
        ·
          intro zK1
          refine WC.block ?_
          refine WC.seq ?_
          refine WC.region ?_
          refine Lt.ofWL.step rfl rfl rfl (OpV.build (evps.nil) bd_57_) ?_
          refine WL.heavy rfl rfl rfl (OpH.alloc zc_57 ?_)
          intro b8_1
          refine WL.heavy0 rfl rfl (OpH.storeTo (A := []) [_, _, _, _, _, _, _, _, _, _, _] rfl rfl rfl ts_57 rfl rfl rfl ?_)
          refine WL.nil ?_
          refine En.next ?_
          refine WC.seq ?_
          refine WC.seq ?_
          refine WC.inh fun hin9 => ?_
          obtain ⟨x9_2, e9_2, ej1⟩ := bnd ej1
          obtain ⟨g9_2, ha9_2⟩ := ownAddr hin9 (.tail _ (.tail _ (.tail _ (.head _)))) e9_2
          have hn9_2 := ownLen hin9 (.tail _ (.tail _ (.tail _ (.head _))))
          refine WC.region ?_
          refine Lt.ofWL.step rfl rfl rfl (OpV.move rfl) ?_
          refine Lt.ofWL.step rfl rfl rfl (OpV.move rfl) ?_
          refine Lt.ofWL.step rfl rfl rfl (OpV.idxA rfl rfl se_32 ha9_2 ⟨(idx_some e9_2).1, by rw [hn9_2]; exact (idx_some e9_2).2.1⟩) ?_
          refine Lt.ofWL.step rfl rfl rfl (OpV.load1 rfl pt_3 (fun w hs => Rd.cell1 tInt_flat (Ow.rd (hs.mem (.tail _ (.tail _ (.tail _ (.head _)))))) e9_2 ha9_2 rfl)) ?_
          refine Lt.ofWL.step rfl rfl rfl (OpV.geq rfl rfl) ?_
          refine WL.nil ?_
          refine En.next ?_
          refine WC.cond rfl ?_ ?_
          ·
            intro hc_3
            replace ej1 := ifO_t hc_3 ej1
            refine WC.seq ?_
            refine WC.inh fun hin10 => ?_
            obtain ⟨x10_4, e10_4, ej1⟩ := bnd ej1
            obtain ⟨g10_4, ha10_4⟩ := ownAddr hin10 (.tail _ (.tail _ (.tail _ (.head _)))) e10_4
            have hn10_4 := ownLen hin10 (.tail _ (.tail _ (.tail _ (.head _))))
            obtain ⟨x10_6, e10_6, ej1⟩ := bnd ej1
            obtain ⟨g10_6, o10_6, _, ha10_6, ⟨a10_6_1, c10_6_1, rfl, r10_6_1⟩, hd10_6⟩ := Rd.atIdx r0_0 e10_6
            replace hd10_6 : ∀ (j : Nat) v, ([.int .i64 x10_6.Id, .int .i64 x10_6.X, .int .i64 x10_6.Y, .int .i64 x10_6.W, .int .i64 x10_6.H, .int .i64 x10_6.Alpha, .int .i64 x10_6.Orient, .bool x10_6.Visible, .int .i64 x10_6.Buffer.W, .int .i64 x10_6.Buffer.H, .slice a10_6_1 x10_6.Buffer.Data.length c10_6_1] : List Value)[j]? = some v → w.cell? ⟨g10_6, o10_6 + x10_4.toNat * 11 + j, .none⟩ = some v := hd10_6
            refine WC.drawnH [] ([_, _, _, _, _]) (fun _ h => h) (by kernel_rfl) ?_
            refine WAE.take (i := 0) rfl (by kernel_rfl) (by kernel_rfl) (by kernel_rfl) rfl rfl rfl (OpV.fieldAddr rfl fo_26_3) ?_
            refine WAE.take (i := 1) rfl (by kernel_rfl) (by kernel_rfl) (by kernel_rfl) rfl rfl rfl (OpV.loadBox rfl pt_24 (.tail _ (.head _)) rfl) ?_
            refine WAE.take (i := 2) rfl (by kernel_rfl) (by kernel_rfl) (by kernel_rfl) rfl rfl rfl (OpV.move rfl) ?_
            refine WAE.take (i := 3) rfl (by kernel_rfl) (by kernel_rfl) (by kernel_rfl) rfl rfl rfl (OpV.move rfl) ?_
            refine WAE.take (i := 4) rfl (by kernel_rfl) (by kernel_rfl) (by kernel_rfl) rfl rfl rfl (OpV.idxA rfl rfl se_32 ha10_4 ⟨(idx_some e10_4).1, by rw [hn10_4]; exact (idx_some e10_4).2.1⟩) ?_
            refine WAE.take (i := 5) rfl (by kernel_rfl) (by kernel_rfl) (by kernel_rfl) rfl rfl rfl (OpV.load1 rfl pt_3 (fun w hs => Rd.cell1 tInt_flat (Ow.rd (hs.mem (.tail _ (.tail _ (.tail _ (.head _)))))) e10_4 ha10_4 rfl)) ?_
            refine WAE.take (i := 6) rfl (by kernel_rfl) (by kernel_rfl) (by kernel_rfl) rfl rfl rfl (OpV.idxA rfl rfl se_24 ha10_6 ⟨(idx_some e10_6).1, (idx_some e10_6).2.1⟩) ?_
            refine WAE.take (i := 7) rfl (by kernel_rfl) (by kernel_rfl) (by kernel_rfl) rfl rfl rfl (OpV.loadN rfl ag_38 rfl (fun w hs => hs.cellsAt hd10_6)) ?_
            refine WAE.all (rs := [8]) (by kernel_rfl) rfl (AllR.cons rfl rfl rfl rfl ?_ AllR.nil)
            refine OpH.alloc zc_38 ?_
            intro b10_8
            refine ⟨[_], rfl, ?_⟩
            refine WAE.all (rs := [9]) (by kernel_rfl) rfl (AllR.cons0 rfl rfl rfl ?_ AllR.nil)
            refine OpH.storeTo (A := []) [_, _, _, _, _, _, _, _, _, _, _] rfl rfl rfl ts_38 rfl rfl rfl ?_
            refine ⟨[_], rfl, ?_⟩
            refine WAE.rebase (H := []) ?_
            refine WAE.done (by kernel_rfl) ?_ _
            refine En.next ?_
            refine WC.seq ?_
            obtain ⟨x11_8, e11_8, ej1⟩ := bnd ej1
            refine WC.region ?_
            refine Lt.ofWL.step rfl rfl rfl (OpV.fieldAddr rfl fo_38_8) ?_
            refine Lt.ofWL.step rfl rfl rfl (OpV.loadPart rfl (.head _) ag_36 rfl rfl) ?_
            refine Lt.ofWL.step rfl rfl rfl (OpV.fieldAddr rfl fo_38_1) ?_
            refine Lt.ofWL.step rfl rfl rfl (OpV.loadBox rfl pt_3 (.head _) rfl) ?_
            refine Lt.ofWL.step rfl rfl rfl (OpV.fieldAddr rfl fo_38_2) ?_
            refine Lt.ofWL.step rfl rfl rfl (OpV.loadBox rfl pt_3 (.head _) rfl) ?_
            refine Lt.ofWL.step rfl rfl rfl (OpV.fieldAddr rfl fo_28_2) ?_
            refine Lt.ofWL.step rfl rfl rfl (OpV.loadBox rfl pt_3 (.tail _ (.tail _ (.tail _ (.head _)))) rfl) ?_
            refine WL.heavy rfl rfl rfl (OpH.callR (evs.cons rfl (evs.cons rfl (evs.cons rfl (evs.cons rfl (evs.nil))))) ca_116 (fun w hs => w_spec_PlaneOf e11_8 (r10_6_1.ext hs.below)) ?_)
            rintro _ _ ⟨a11_800, n11_800, c11_800, f11_800, rfl, rfl⟩
            refine WL.heavy0 rfl rfl (OpH.storeTo (A := [_, _]) [_, _, _, _, _, _, _, _, _, _, _] rfl rfl rfl ts_57 rfl rfl rfl ?_)
            refine WL.nil ?_
            refine En.next ?_
            refine WC.seq ?_
            refine WC.region ?_
            refine Lt.ofWL.step rfl rfl rfl (OpV.fieldAddr rfl fo_38_5) ?_
            refine Lt.ofWL.step rfl rfl rfl (OpV.loadBox rfl pt_3 (.tail _ (.head _)) rfl) ?_
            refine Lt.ofWL.step rfl rfl rfl (OpV.fieldAddr rfl fo_57_7) ?_
            refine WL.heavy0 rfl rfl (OpH.storeTo (A := [_, _]) [_, _, _, _, _, _, _, _, _, _, _] rfl rfl rfl ts_3 rfl rfl rfl ?_)
            refine WL.nil ?_
            refine En.next ?_
            refine WC.seq ?_
            refine WC.region ?_
            refine Lt.ofWL.step rfl rfl rfl (OpV.fieldAddr rfl fo_38_6) ?_
            refine Lt.ofWL.step rfl rfl rfl (OpV.loadBox rfl pt_3 (.tail _ (.head _)) rfl) ?_
            refine Lt.ofWL.step rfl rfl rfl (OpV.fieldAddr rfl fo_57_8) ?_
            refine WL.heavy0 rfl rfl (OpH.storeTo (A := [_, _]) [_, _, _, _, _, _, _, _, _, _, _] rfl rfl rfl ts_3 rfl rfl rfl ?_)
            refine WL.nil ?_
            refine En.next ?_
            refine WC.seq ?_
            refine WC.region ?_
            refine Lt.ofWL.step rfl rfl rfl (OpV.fieldAddr rfl fo_38_3) ?_
            refine Lt.ofWL.step rfl rfl rfl (OpV.loadBox rfl pt_3 (.tail _ (.head _)) rfl) ?_
            refine Lt.ofWL.step rfl rfl rfl (OpV.fieldAddr rfl fo_57_9) ?_
            refine WL.heavy0 rfl rfl (OpH.storeTo (A := [_, _]) [_, _, _, _, _, _, _, _, _, _, _] rfl rfl rfl ts_3 rfl rfl rfl ?_)
            refine WL.nil ?_
            refine En.next ?_
            refine WC.region ?_
            refine Lt.ofWL.step rfl rfl rfl (OpV.fieldAddr rfl fo_38_4) ?_
            refine Lt.ofWL.step rfl rfl rfl (OpV.loadBox rfl pt_3 (.tail _ (.head _)) rfl) ?_
            refine Lt.ofWL.step rfl rfl rfl (OpV.fieldAddr rfl fo_57_10) ?_
            refine WL.heavy0 rfl rfl (OpH.storeTo (A := [_, _]) [_, _, _, _, _, _, _, _, _, _, _] rfl rfl rfl ts_3 rfl rfl rfl ?_)
            refine WL.nil ?_
            refine En.next ?_
            obtain ⟨x16_3, e16_3, ej1⟩ := bnd ej1
            refine WC.region ?_
            refine Lt.ofWL.step rfl rfl rfl (OpV.move rfl) ?_
            refine Lt.ofWL.step rfl rfl rfl (OpV.loadAll rfl (.tail _ (.tail _ (.head _))) ag_57) ?_
            refine WL.heavy rfl rfl rfl (OpH.buildSlice (evps.cons rfl (evps.nil)) (bs_53_1_0 _ _ _ _ _ _ _ _ _ _ _ _ _) ?_)
            intro b16_2
            refine WL.wkF (fun _ h => h.perm (List.perm_middle (l₁ := [_]))) ?_
            refine WL.wkF (fun _ h => tPlane_mk x11_8.On x11_8.X x11_8.Y x11_8.W x11_8.H x11_8.Layout x11_8.Words x10_6.Alpha x10_6.Orient x10_6.W x10_6.H h) ?_
            refine WL.wkF (fun _ h => h.perm (List.perm_middle (l₁ := [_, _, _, _, _, _, _]))) ?_
            refine WL.wkF (fun _ h => h.perm (List.perm_middle (l₁ := [_]))) ?_
            refine WL.heavy rfl rfl rfl (OpH.push (A := tPlane) rfl rfl rfl mi_53 rfl (by decide) (.head _) e16_3 ?_)
            intro f16_3 a16_3 c16_3
            refine Lt.ofWL.step rfl rfl rfl (OpV.assign rfl) ?_
            refine WL.nil ?_
            refine En.block_norm ?_
            exact En.wk _ _ (Sub.cons rfl (Sub.cons rfl (Sub.cons rfl (Sub.cons rfl (Sub.cons rfl (Sub.nil _)))))) (fun _ h => ((((h).perm (List.perm_middle (l₁ := [_, _, _, _, _, _]))).perm (List.perm_middle (l₁ := [_, _, _, _, _, _]))).perm (List.perm_middle (l₁ := [_, _, _, _, _, _]))).sub (.cons_cons _ (.cons_cons _ (.cons_cons _ (.cons_cons _ (.cons _ (.cons _ (.cons _ (.slnil))))))))) (zK1 (x16_3, (a16_3, x16_3.length, c16_3, f16_3)) (Option.some.inj ej1).symm)
          ·
            intro hc_3
            replace ej1 := ifO_f hc_3 ej1
            refine WC.skip ?_
            refine En.next ?_
            obtain ⟨x16_3, e16_3, ej1⟩ := bnd ej1
            refine WC.region ?_
            refine Lt.ofWL.step rfl rfl rfl (OpV.move rfl) ?_
            refine Lt.ofWL.step rfl rfl rfl (OpV.loadAll rfl (.head _) ag_57) ?_
            refine WL.heavy rfl rfl rfl (OpH.buildSlice (evps.cons rfl (evps.nil)) (bs_53_1_0 _ _ _ _ _ _ _ _ _ _ _ _ _) ?_)
            intro b16_2
            refine WL.wkF (fun _ h => h.ownNil (A := tInt)) ?_
            refine WL.wkF (fun _ h => tPlane_mk false 0 0 0 0 0 ([] : List Int) 0 0 0 0 h) ?_
            refine WL.wkF (fun _ h => h.perm (List.perm_middle (l₁ := [_, _, _, _, _, _]))) ?_
            refine WL.wkF (fun _ h => h.perm (List.perm_middle (l₁ := [_]))) ?_
            refine WL.heavy rfl rfl rfl (OpH.push (A := tPlane) rfl rfl rfl mi_53 rfl (by decide) (.head _) e16_3 ?_)
            intro f16_3 a16_3 c16_3
            refine Lt.ofWL.step rfl rfl rfl (OpV.assign rfl) ?_
            refine WL.nil ?_
            refine En.block_norm ?_
            exact En.wk _ _ (Sub.cons rfl (Sub.cons rfl (Sub.cons rfl (Sub.cons rfl (Sub.cons rfl (Sub.nil _)))))) (fun _ h => ((((h).perm (List.perm_middle (l₁ := [_, _, _, _, _]))).perm (List.perm_middle (l₁ := [_, _, _, _, _]))).perm (List.perm_middle (l₁ := [_, _, _, _, _]))).sub (.cons_cons _ (.cons_cons _ (.cons_cons _ (.cons_cons _ (.cons _ (.cons _ (.slnil)))))))) (zK1 (x16_3, (a16_3, x16_3.length, c16_3, f16_3)) (Option.some.inj ej1).symm)
      ·
        intro hc_2
        replace zh0 := ifO_f hc_2 zh0
        refine WC.exit ?_
        refine En.then_exit ?_
        refine En.then_exit ?_
        have hx := exitP ze0 zh0
        exact En.wk _ _ (Sub.cons rfl (Sub.nil _)) (fun _ h => ((h).perm (List.perm_middle (l₁ := [_, _, _]))).sub (.cons_cons _ (.cons _ (.cons _ (.cons _ (.slnil)))))) (zK0_0 (v_0, (av_0, nv_0, cv_0, fv_0)) hx.symm)

theorem w_impl_runsOf {i_p0 : ImageT} {r : (List Int)} {q0_0 : Option Addr} {n0_0 k0_0 : Nat} (h : impl_runsOf i_p0 = some r) {w : World} (r0_0 : Rd tInt w q0_0 n0_0 k0_0 i_p0.Data)   :
    Calls Try.prog 137 #[.agg #[.int .i64 i_p0.W, .int .i64 i_p0.H, .slice q0_0 n0_0 k0_0]] w (fun en w' => ∃ rv G, en = .returned rv ∧ (∃ (a0_0 : Option Addr) (n0_0 : Nat) (c0_0 : Nat) (f0_0 : List Nat), rv = .slice a0_0 n0_0 c0_0 ∧ G = [Chunk.own tInt f0_0 a0_0 n0_0 c0_0 r]) ∧ St w G w') := by
  obtain rfl := r0_0.1
  unfold impl_runsOf at h
  refine enter (vs := [_]) Try.func137 rfl rfl rfl rfl ?_
  refine WC.seq ?_
  refine WC.region ?_
  refine WL.heavy rfl rfl rfl (OpH.box rfl rfl ?_)
  intro b0_0
  refine Lt.ofWL.step rfl rfl rfl (OpV.assign rfl) ?_
  refine WL.nil ?_
  refine En.next ?_
  refine WC.seq ?_
  refine WC.region ?_
  refine WL.heavy rfl rfl rfl (OpH.lit0 (A := tInt) (evps.nil) bs_32_0_ ?_)
  intro b1_0
  refine Lt.ofWL.step rfl rfl rfl (OpV.assign rfl) ?_
  refine WL.nil ?_
  refine En.next ?_
  refine WC.seq ?_
  refine WC.seq ?_
  refine WC.region ?_
  refine Lt.ofWL.step rfl rfl rfl (OpV.assign rfl) ?_
  refine WL.nil ?_
  refine En.next ?_
  refine WC.block ?_
  obtain ⟨zy0, ezy0, h⟩ := bnd h
  refine WC.cut (X := ((List Int)) × ((Option Addr) × Nat × Nat × (List Nat))) (.exit 0) (fun x => zy0 = x.1) (fun x => match x with | (out_0e, (aout_0e, nout_0e, cout_0e, fout_0e)) => [(3, .slice aout_0e nout_0e cout_0e)]) (fun x => match x with | (out_0e, (aout_0e, nout_0e, cout_0e, fout_0e)) => [Chunk.own tInt fout_0e aout_0e nout_0e cout_0e out_0e]) ?_ ?_
  ·
    rintro ⟨out_0e, ⟨aout_0e, nout_0e, cout_0e, fout_0e⟩⟩ hx
    replace hx : out_0e = zy0 := hx.symm
    subst hx
    show En _ _ _ _ [(3, .slice aout_0e nout_0e cout_0e)] [Chunk.own tInt fout_0e aout_0e nout_0e cout_0e out_0e]
    refine En.block_exit ?_
    refine En.next ?_
    refine WC.seq ?_
    refine WC.region ?_
    refine Lt.ofWL.step rfl rfl rfl (OpV.move rfl) ?_
    refine Lt.ofWL.step rfl rfl rfl (OpV.assign rfl) ?_
    refine WL.nil ?_
    refine En.next ?_
    refine WC.ret ?_
    refine En.ret1 rfl (Res.tmp rfl) ?_
    obtain rfl := Option.some.inj h
    intro w' hs
    have hs := hs
    exact ⟨_, _, rfl, ⟨aout_0e, nout_0e, cout_0e, fout_0e, rfl, rfl⟩, hs⟩
  ·
    intro zK0_0
    refine WC.loopP (G := (Option Addr) × Nat × Nat × (List Nat)) (fun s g => match s, g with | (out_0, k_0), (aout_0, nout_0, cout_0, fout_0) => [(1, .pointer (some ⟨b0_0, 0, .none⟩)), (3, .slice aout_0 nout_0 cout_0), (4, .int .i64 k_0)]) (fun s g => match s, g with | (out_0, k_0), (aout_0, nout_0, cout_0, fout_0) => [Chunk.box b0_0 36 [.int .i64 i_p0.W, .int .i64 i_p0.H, .slice q0_0 i_p0.Data.length k0_0], Chunk.own tInt fout_0 aout_0 nout_0 cout_0 out_0]) (([] : List Int), 0) ((some ⟨b1_0, 0, .none⟩), 0, 0, [b1_0]) ezy0 (by exact Sub.cons rfl (Sub.cons rfl (Sub.cons rfl (Sub.nil _)))) (by exact (fun _ h => (h).perm (List.perm_middle (l₁ := [_])))) ?_
    rintro zm0 ⟨out_0, k_0⟩ ⟨aout_0, nout_0, cout_0, fout_0⟩ zo0 zf0 zb0 ze0
    have zh0 : impl_runsOf_L0 i_p0 out_0 k_0 = some zo0 := zf0
    unfold impl_runsOf_L0 at zh0
    show WC _ _ _ _ _ [(1, .pointer (some ⟨b0_0, 0, .none⟩)), (3, .slice aout_0 nout_0 cout_0), (4, .int .i64 k_0)] [Chunk.box b0_0 36 [.int .i64 i_p0.W, .int .i64 i_p0.H, .slice q0_0 i_p0.Data.length k0_0], Chunk.own tInt fout_0 aout_0 nout_0 cout_0 out_0]
    refine WC.seq ?_
    refine WC.seq ?_
    refine WC.region ?_
    refine Lt.ofWL.step rfl rfl rfl (OpV.move rfl) ?_
    refine Lt.ofWL.step rfl rfl rfl (OpV.fieldAddr rfl fo_36_2) ?_
    refine Lt.ofWL.step rfl rfl rfl (OpV.loadBox rfl pt_32 (.head _) rfl) ?_
    refine Lt.ofWL.step rfl rfl rfl (OpV.len rfl si_32 rfl) ?_
    refine Lt.ofWL.step rfl rfl rfl (OpV.lss rfl rfl) ?_
    refine WL.nil ?_
    refine En.next ?_
    refine WC.cond rfl ?_ ?_
    ·
      intro hc_1
      replace zh0 := ifO_t hc_1 zh0
      refine WC.skip ?_
      refine En.next ?_
      refine WC.block ?_
      refine WC.seq ?_
      refine WC.region ?_
      refine Lt.ofWL.step rfl rfl rfl (OpV.move rfl) ?_
      refine Lt.ofWL.step rfl rfl rfl (OpV.addR rfl rfl) ?_
      refine Lt.ofWL.step rfl rfl rfl (OpV.assign rfl) ?_
      refine WL.nil ?_
      refine En.next ?_
      refine WC.seq ?_
      refine WC.block ?_
      obtain ⟨zy1, ezy1, zh0⟩ := bnd zh0
      refine WC.cut (X := (Int) × (Unit)) (.exit 2) (fun x => zy1 = x.1) (fun x => match x with | (end_1e, ()) => [(1, .pointer (some ⟨b0_0, 0, .none⟩)), (3, .slice aout_0 nout_0 cout_0), (4, .int .i64 k_0), (5, .int .i64 end_1e)]) (fun x => match x with | (end_1e, ()) => [Chunk.box b0_0 36 [.int .i64 i_p0.W, .int .i64 i_p0.H, .slice q0_0 i_p0.Data.length k0_0], Chunk.own tInt fout_0 aout_0 nout_0 cout_0 out_0]) ?_ ?_
      ·
        rintro ⟨end_1e, ⟨⟩⟩ hx
        replace hx : end_1e = zy1 := hx.symm
        subst hx
        show En _ _ _ _ [(1, .pointer (some ⟨b0_0, 0, .none⟩)), (3, .slice aout_0 nout_0 cout_0), (4, .int .i64 k_0), (5, .int .i64 end_1e)] [Chunk.box b0_0 36 [.int .i64 i_p0.W, .int .i64 i_p0.H, .slice q0_0 i_p0.Data.length k0_0], Chunk.own tInt fout_0 aout_0 nout_0 cout_0 out_0]
        refine En.block_exit ?_
        refine En.next ?_
        refine WC.seq ?_
        obtain ⟨x7_7, e7_7, zh0⟩ := bnd zh0
        obtain ⟨g7_7, o7_7, _, ha7_7, rfl, hd7_7⟩ := Rd.atIdx r0_0 e7_7
        replace hd7_7 : ∀ (j : Nat) v, ([.int .i64 x7_7] : List Value)[j]? = some v → w.cell? ⟨g7_7, o7_7 + k_0.toNat * 1 + j, .none⟩ = some v := hd7_7
        obtain ⟨x7_10, e7_10, zh0⟩ := bnd zh0
        refine WC.region ?_
        refine Lt.ofWL.step rfl rfl rfl (OpV.move rfl) ?_
        refine Lt.ofWL.step rfl rfl rfl (OpV.move rfl) ?_
        refine Lt.ofWL.step rfl rfl rfl (OpV.move rfl) ?_
        refine Lt.ofWL.step rfl rfl rfl (OpV.subR rfl rfl) ?_
        refine Lt.ofWL.step rfl rfl rfl (OpV.fieldAddr rfl fo_36_2) ?_
        refine Lt.ofWL.step rfl rfl rfl (OpV.loadBox rfl pt_32 (.head _) rfl) ?_
        refine Lt.ofWL.step rfl rfl rfl (OpV.move rfl) ?_
        refine Lt.ofWL.step rfl rfl rfl (OpV.idxA rfl rfl se_32 ha7_7 ⟨(idx_some e7_7).1, (idx_some e7_7).2.1⟩) ?_
        refine Lt.ofWL.step rfl rfl rfl (OpV.load1 rfl pt_3 (fun w hs => hs.cell (hd7_7 0 _ rfl))) ?_
        refine WL.heavy rfl rfl rfl (OpH.litF (A := tInt) (xs := [(wr (end_1e - k_0)), x7_7]) tInt_flat (evps.cons rfl (evps.cons rfl (evps.nil))) (bs_32_2_0_1 _ _) rfl rfl (Nat.le_of_ble_eq_true rfl) ?_)
        intro b7_9
        refine WL.heavy rfl rfl rfl (OpH.appS (F := [_, _]) (A := tInt) tInt_flat rfl rfl rfl mi_32 rfl (by decide) (fun w hs => (Ow.rd (hs.mem (.head _)))) e7_10 ?_)
        intro f7_10 a7_10 c7_10
        refine Lt.ofWL.step rfl rfl rfl (OpV.assign rfl) ?_
        refine WL.nil ?_
        refine En.next ?_
        refine WC.region ?_
        refine Lt.ofWL.step rfl rfl rfl (OpV.move rfl) ?_
        refine Lt.ofWL.step rfl rfl rfl (OpV.assign rfl) ?_
        refine WL.nil ?_
        refine En.block_norm ?_
        exact En.backP zb0 zh0 (a7_10, x7_10.length, c7_10, f7_10) (Sub.cons rfl (Sub.cons rfl (Sub.cons rfl (Sub.nil _)))) (fun _ h => (((h).perm (List.perm_middle (l₁ := [_, _]))).perm (List.perm_middle (l₁ := [_, _]))).sub (.cons_cons _ (.cons_cons _ (.cons _ (.slnil)))))
      ·
        intro zK1_0
        refine WC.loopP (G := Unit) (fun s g => match s, g with | end_1, () => [(1, .pointer (some ⟨b0_0, 0, .none⟩)), (3, .slice aout_0 nout_0 cout_0), (4, .int .i64 k_0), (5, .int .i64 end_1)]) (fun s g => match s, g with | end_1, () => [Chunk.box b0_0 36 [.int .i64 i_p0.W, .int .i64 i_p0.H, .slice q0_0 i_p0.Data.length k0_0], Chunk.own tInt fout_0 aout_0 nout_0 cout_0 out_0]) (wr (k_0 + 1)) () ezy1 (by exact Sub.cons rfl (Sub.cons rfl (Sub.cons rfl (Sub.cons rfl (Sub.nil _))))) (by exact (fun _ h => h)) ?_
        rintro zm1 end_1 ⟨⟩ zo1 zf1 zb1 ze1
        have zh1 : impl_runsOf_L1 i_p0 k_0 end_1 = some zo1 := zf1
        unfold impl_runsOf_L1 at zh1
        show WC _ _ _ _ _ [(1, .pointer (some ⟨b0_0, 0, .none⟩)), (3, .slice aout_0 nout_0 cout_0), (4, .int .i64 k_0), (5, .int .i64 end_1)] [Chunk.box b0_0 36 [.int .i64 i_p0.W, .int .i64 i_p0.H, .slice q0_0 i_p0.Data.length k0_0], Chunk.own tInt fout_0 aout_0 nout_0 cout_0 out_0]
        refine WC.seq ?_
        refine WC.seq ?_
        obtain ⟨x5_3, e5_3, zh1⟩ := bnd zh1
        obtain ⟨q5_17, e5_17, zh1⟩ := bnd zh1
        refine WC.drawn [(1, ?r5v1), (3, ?r5v3), (4, ?r5v4), (5, ?r5v5), (31, ?r5v31)] (by kernel_rfl) (by kernel_rfl) ?dH5 ?dK5
        case dH5 =>
          intro W hW hk
          refine hW.step rfl rfl rfl (OpV.move rfl) ?_
          refine hW.step rfl rfl rfl (OpV.fieldAddr rfl fo_36_0) ?_
          refine hW.step rfl rfl rfl (OpV.loadBox rfl pt_3 (.head _) rfl) ?_
          refine hW.step rfl rfl rfl (OpV.remR rfl rfl e5_3) ?_
          refine hW.step rfl rfl rfl (OpV.neq rfl rfl) ?_
          refine hW.step rfl rfl rfl (OpV.move rfl) ?_
          refine hW.andQ 19 31 30 (p := ?pz1) (rest := ?qz1) (B := q5_17) rfl (fun hz => andO_f e5_17 hz) ?Tz1 ?Fz1 ?az1 ?bz1 ?cz1 ?dz1 ?ez1
          case Tz1 =>
            intro hcz1 hkz1
            have hqz1 := andO_t e5_17 hcz1
            obtain ⟨x5_9, e5_9, hqz1⟩ := bnd hqz1
            obtain ⟨g5_9, o5_9, _, ha5_9, rfl, hd5_9⟩ := Rd.atIdx r0_0 e5_9
            replace hd5_9 : ∀ (j : Nat) v, ([.int .i64 x5_9] : List Value)[j]? = some v → w.cell? ⟨g5_9, o5_9 + end_1.toNat * 1 + j, .none⟩ = some v := hd5_9
            obtain ⟨x5_14, e5_14, hqz1⟩ := bnd hqz1
            obtain ⟨g5_14, o5_14, _, ha5_14, rfl, hd5_14⟩ := Rd.atIdx r0_0 e5_14
            replace hd5_14 : ∀ (j : Nat) v, ([.int .i64 x5_14] : List Value)[j]? = some v → w.cell? ⟨g5_14, o5_14 + k_0.toNat * 1 + j, .none⟩ = some v := hd5_14
            obtain rfl := Option.some.inj hqz1
            refine hW.step rfl rfl rfl (OpV.fieldAddr rfl fo_36_2) ?_
            refine hW.step rfl rfl rfl (OpV.loadBox rfl pt_32 (.head _) rfl) ?_
            refine hW.step rfl rfl rfl (OpV.move rfl) ?_
            refine hW.step rfl rfl rfl (OpV.idxA rfl rfl se_32 ha5_9 ⟨(idx_some e5_9).1, (idx_some e5_9).2.1⟩) ?_
            refine hW.step rfl rfl rfl (OpV.load1 rfl pt_3 (fun w hs => hs.cell (hd5_9 0 _ rfl))) ?_
            refine hW.step rfl rfl rfl (OpV.fieldAddr rfl fo_36_2) ?_
            refine hW.step rfl rfl rfl (OpV.loadBox rfl pt_32 (.head _) rfl) ?_
            refine hW.step rfl rfl rfl (OpV.move rfl) ?_
            refine hW.step rfl rfl rfl (OpV.idxA rfl rfl se_32 ha5_14 ⟨(idx_some e5_14).1, (idx_some e5_14).2.1⟩) ?_
            refine hW.step rfl rfl rfl (OpV.load1 rfl pt_3 (fun w hs => hs.cell (hd5_14 0 _ rfl))) ?_
            refine hW.step rfl rfl rfl (OpV.eql rfl rfl) ?_
            refine hkz1 _ ?_ ?_
            exact rfl
            repeat (first | exact Sub.refl _ | refine Sub.skip rfl ?_)
          case Fz1 =>
            intro hcz1 hkz1
            refine hW.skip rfl rfl rfl ?_
            refine hW.skip rfl rfl rfl ?_
            refine hW.skip rfl rfl rfl ?_
            refine hW.skip rfl rfl rfl ?_
            refine hW.skip rfl rfl rfl ?_
            refine hW.skip rfl rfl rfl ?_
            refine hW.skip rfl rfl rfl ?_
            refine hW.skip rfl rfl rfl ?_
            refine hW.skip rfl rfl rfl ?_
            refine hW.skip rfl rfl rfl ?_
            refine hW.skip rfl rfl rfl ?_
            refine hkz1 _ ?_
            repeat (first | exact Sub.refl _ | refine Sub.skip rfl ?_)
          case az1 => exact rfl
          case bz1 => exact rfl
          case cz1 => exact rfl
          case dz1 => exact rfl
          refine hk _ ?_
          refine Sub.cons ?_ (Sub.cons ?_ (Sub.cons ?_ (Sub.cons ?_ (Sub.cons ?_ (Sub.nil _)))))
          all_goals exact rfl
        refine En.next ?_
        refine WC.cond rfl ?_ ?_
        ·
          intro hc_2
          replace zh1 := ifO_t hc_2 zh1
          refine WC.skip ?_
          refine En.next ?_
          refine WC.block ?_
          refine WC.region ?_
          refine Lt.ofWL.step rfl rfl rfl (OpV.move rfl) ?_
          refine Lt.ofWL.step rfl rfl rfl (OpV.addR rfl rfl) ?_
          refine Lt.ofWL.step rfl rfl rfl (OpV.assign rfl) ?_
          refine WL.nil ?_
          refine En.block_norm ?_
          exact En.backP zb1 zh1 () (Sub.cons rfl (Sub.cons rfl (Sub.cons rfl (Sub.cons rfl (Sub.nil _))))) (fun _ h => h)
        ·
          intro hc_2
          replace zh1 := ifO_f hc_2 zh1
          refine WC.exit ?_
          refine En.then_exit ?_
          refine En.then_exit ?_
          have hx := exitP ze1 zh1
          exact En.wk _ _ (Sub.cons rfl (Sub.cons rfl (Sub.cons rfl (Sub.cons rfl (Sub.nil _))))) (fun _ h => h) (zK1_0 (end_1, ()) hx.symm)
    ·
      intro hc_1
      replace zh0 := ifO_f hc_1 zh0
      refine WC.exit ?_
      refine En.then_exit ?_
      refine En.then_exit ?_
      have hx := exitP ze0 zh0
      exact En.wk _ _ (Sub.cons rfl (Sub.nil _)) (fun _ h => ((h).perm (List.perm_middle (l₁ := [_]))).sub (.cons_cons _ (.cons _ (.slnil)))) (zK0_0 (out_0, (aout_0, nout_0, cout_0, fout_0)) hx.symm)

theorem w_impl_tilesOf {n_p0 : Int} {r : Int}  (h : impl_tilesOf n_p0 = some r) {w : World}    :
    Calls Try.prog 169 #[.int .i64 n_p0] w (fun en w' => en = .returned (.int .i64 r) ∧ Ext w w') := by
  unfold impl_tilesOf at h
  refine enter (vs := [_]) Try.func169 rfl rfl rfl rfl ?_
  refine WC.seq ?_
  refine WC.region ?_
  refine Lt.ofWL.step rfl rfl rfl (OpV.assign rfl) ?_
  refine WL.nil ?_
  refine En.next ?_
  refine WC.seq ?_
  refine WC.region ?_
  refine Lt.ofWL.step rfl rfl rfl (OpV.move rfl) ?_
  refine Lt.ofWL.step rfl rfl rfl (OpV.addR rfl rfl) ?_
  refine Lt.ofWL.step rfl rfl rfl (OpV.subR rfl rfl) ?_
  refine Lt.ofWL.step rfl rfl rfl (OpV.quoR rfl rfl rfl) ?_
  refine Lt.ofWL.step rfl rfl rfl (OpV.assign rfl) ?_
  refine WL.nil ?_
  refine En.next ?_
  refine WC.ret ?_
  refine En.ret1 rfl (Res.tmp rfl) ?_
  obtain rfl := Option.some.inj h
  intro w' hs
  exact ⟨rfl, hs.below⟩

theorem w_impl_WordCount {w_p0 : Int} {h_p1 : Int} {layout_p2 : Int} {r : Int}  (h : impl_WordCount w_p0 h_p1 layout_p2 = some r) {w : World}    :
    Calls Try.prog 138 #[.int .i64 w_p0, .int .i64 h_p1, .int .i64 layout_p2] w (fun en w' => en = .returned (.int .i64 r) ∧ Ext w w') := by
  unfold impl_WordCount at h
  refine enter (vs := [_, _, _]) Try.func138 rfl rfl rfl rfl ?_
  refine WC.seq ?_
  refine WC.region ?_
  refine Lt.ofWL.step rfl rfl rfl (OpV.assign rfl) ?_
  refine WL.nil ?_
  refine En.next ?_
  refine WC.seq ?_
  refine WC.seq ?_
  obtain ⟨x1_1, e1_1, h⟩ := bnd h
  obtain ⟨q1_7, e1_7, h⟩ := bnd h
  refine WC.region ?_
  refine Lt.ofWL.step rfl rfl rfl (OpV.move rfl) ?_
  refine Lt.ofWL.step rfl rfl rfl (OpV.call (evs.cons rfl (evs.nil)) ca_92 (fun w hs => w_impl_isSide e1_1)) ?_
  refine Lt.ofWL.step rfl rfl rfl (OpV.not rfl) ?_
  refine Lt.ofWL.step rfl rfl rfl (OpV.move rfl) ?_
  refine Lt.ofWL.orQ 10 14 13 (p := ?pz1) (rest := ?qz1) (B := q1_7) rfl (fun hz => orO_t e1_7 hz) ?Tz1 ?Fz1 ?az1 ?bz1 ?cz1 ?dz1 ?ez1
  case Tz1 =>
    intro hcz1 hkz1
    refine Lt.ofWL.skip rfl rfl rfl ?_
    refine Lt.ofWL.skip rfl rfl rfl ?_
    refine Lt.ofWL.skip rfl rfl rfl ?_
    refine hkz1 _ ?_
    repeat (first | exact Sub.refl _ | refine Sub.skip rfl ?_)
  case Fz1 =>
    intro hcz1 hkz1
    have hqz1 := orO_f e1_7 hcz1
    obtain ⟨x1_5, e1_5, hqz1⟩ := bnd hqz1
    obtain rfl := Option.some.inj hqz1
    refine Lt.ofWL.step rfl rfl rfl (OpV.move rfl) ?_
    refine Lt.ofWL.step rfl rfl rfl (OpV.call (evs.cons rfl (evs.nil)) ca_92 (fun w hs => w_impl_isSide e1_5)) ?_
    refine Lt.ofWL.step rfl rfl rfl (OpV.not rfl) ?_
    refine hkz1 _ ?_ ?_
    exact rfl
    repeat (first | exact Sub.refl _ | refine Sub.skip rfl ?_)
  case az1 => exact rfl
  case bz1 => exact rfl
  case cz1 => exact rfl
  case dz1 => exact rfl
  refine WL.nil ?_
  refine En.next ?_
  refine WC.cond rfl ?_ ?_
  ·
    intro hc_1
    replace h := ifO_t hc_1 h
    refine WC.seq ?_
    refine WC.region ?_
    refine Lt.ofWL.step rfl rfl rfl (OpV.assign rfl) ?_
    refine WL.nil ?_
    refine En.next ?_
    refine WC.ret ?_
    refine En.then_ret ?_
    refine En.ret1 rfl (Res.tmp rfl) ?_
    obtain rfl := Option.some.inj h
    intro w' hs
    exact ⟨rfl, hs.below⟩
  ·
    intro hc_1
    replace h := ifO_f hc_1 h
    refine WC.skip ?_
    refine En.next ?_
    refine WC.seq ?_
    refine WC.seq ?_
    refine WC.region ?_
    refine Lt.ofWL.step rfl rfl rfl (OpV.move rfl) ?_
    refine WL.nil ?_
    refine En.next ?_
    refine WC.block ?_
    refine WC.seq ?_
    refine WC.region ?_
    refine Lt.ofWL.step rfl rfl rfl (OpV.eql rfl rfl) ?_
    refine Lt.ofWL.step rfl rfl rfl (OpV.assign rfl) ?_
    refine WL.nil ?_
    refine En.next ?_
    refine WC.cond rfl ?_ ?_
    ·
      intro hc_2
      replace h := ifO_t hc_2 h
      refine WC.seq ?_
      refine WC.region ?_
      refine Lt.ofWL.step rfl rfl rfl (OpV.move rfl) ?_
      refine Lt.ofWL.step rfl rfl rfl (OpV.move rfl) ?_
      refine Lt.ofWL.step rfl rfl rfl (OpV.mulR rfl rfl) ?_
      refine Lt.ofWL.step rfl rfl rfl (OpV.assign rfl) ?_
      refine WL.nil ?_
      refine En.next ?_
      refine WC.ret ?_
      refine En.block_ret ?_
      refine En.then_ret ?_
      refine En.ret1 rfl (Res.tmp rfl) ?_
      obtain rfl := Option.some.inj h
      intro w' hs
      exact ⟨rfl, hs.below⟩
    ·
      intro hc_2
      replace h := ifO_f hc_2 h
      refine WC.seq ?_
      refine WC.region ?_
      refine Lt.ofWL.step rfl rfl rfl (OpV.eql rfl rfl) ?_
      refine Lt.ofWL.step rfl rfl rfl (OpV.assign rfl) ?_
      refine WL.nil ?_
      refine En.next ?_
      refine WC.cond rfl ?_ ?_
      ·
        intro hc_3
        replace h := ifO_t hc_3 h
        refine WC.seq ?_
        obtain ⟨x7_1, e7_1, h⟩ := bnd h
        obtain ⟨x7_3, e7_3, h⟩ := bnd h
        refine WC.region ?_
        refine Lt.ofWL.step rfl rfl rfl (OpV.move rfl) ?_
        refine Lt.ofWL.step rfl rfl rfl (OpV.call (evs.cons rfl (evs.nil)) ca_169 (fun w hs => w_impl_tilesOf e7_1)) ?_
        refine Lt.ofWL.step rfl rfl rfl (OpV.move rfl) ?_
        refine Lt.ofWL.step rfl rfl rfl (OpV.call (evs.cons rfl (evs.nil)) ca_169 (fun w hs => w_impl_tilesOf e7_3)) ?_
        refine Lt.ofWL.step rfl rfl rfl (OpV.mulR rfl rfl) ?_
        refine Lt.ofWL.step rfl rfl rfl (OpV.mulR rfl rfl) ?_
        refine Lt.ofWL.step rfl rfl rfl (OpV.mulR rfl rfl) ?_
        refine Lt.ofWL.step rfl rfl rfl (OpV.assign rfl) ?_
        refine WL.nil ?_
        refine En.next ?_
        refine WC.ret ?_
        refine En.block_ret ?_
        refine En.then_ret ?_
        refine En.ret1 rfl (Res.tmp rfl) ?_
        obtain rfl := Option.some.inj h
        intro w' hs
        exact ⟨rfl, hs.below⟩
      ·
        intro hc_3
        replace h := ifO_f hc_3 h
        refine WC.skip ?_
        refine En.block_norm ?_
        refine En.next ?_
        refine WC.seq ?_
        refine WC.region ?_
        refine Lt.ofWL.step rfl rfl rfl (OpV.assign rfl) ?_
        refine WL.nil ?_
        refine En.next ?_
        refine WC.ret ?_
        refine En.ret1 rfl (Res.tmp rfl) ?_
        obtain rfl := Option.some.inj h
        intro w' hs
        exact ⟨rfl, hs.below⟩

theorem w_impl_wordPlace {w_p0 : Int} {layout_p1 : Int} {x_p2 : Int} {y_p3 : Int} {r : Int}  (h : impl_wordPlace w_p0 layout_p1 x_p2 y_p3 = some r) {w : World}    :
    Calls Try.prog 139 #[.int .i64 w_p0, .int .i64 layout_p1, .int .i64 x_p2, .int .i64 y_p3] w (fun en w' => en = .returned (.int .i64 r) ∧ Ext w w') := by
  unfold impl_wordPlace at h
  refine enter (vs := [_, _, _, _]) Try.func139 rfl rfl rfl rfl ?_
  refine WC.seq ?_
  refine WC.region ?_
  refine Lt.ofWL.step rfl rfl rfl (OpV.assign rfl) ?_
  refine WL.nil ?_
  refine En.next ?_
  refine WC.seq ?_
  refine WC.seq ?_
  refine WC.region ?_
  refine Lt.ofWL.step rfl rfl rfl (OpV.move rfl) ?_
  refine Lt.ofWL.step rfl rfl rfl (OpV.eql rfl rfl) ?_
  refine WL.nil ?_
  refine En.next ?_
  refine WC.cond rfl ?_ ?_
  ·
    intro hc_1
    replace h := ifO_t hc_1 h
    refine WC.seq ?_
    refine WC.region ?_
    refine Lt.ofWL.step rfl rfl rfl (OpV.move rfl) ?_
    refine Lt.ofWL.step rfl rfl rfl (OpV.move rfl) ?_
    refine Lt.ofWL.step rfl rfl rfl (OpV.mulR rfl rfl) ?_
    refine Lt.ofWL.step rfl rfl rfl (OpV.move rfl) ?_
    refine Lt.ofWL.step rfl rfl rfl (OpV.addR rfl rfl) ?_
    refine Lt.ofWL.step rfl rfl rfl (OpV.assign rfl) ?_
    refine WL.nil ?_
    refine En.next ?_
    refine WC.ret ?_
    refine En.then_ret ?_
    refine En.ret1 rfl (Res.tmp rfl) ?_
    obtain rfl := Option.some.inj h
    intro w' hs
    exact ⟨rfl, hs.below⟩
  ·
    intro hc_1
    replace h := ifO_f hc_1 h
    refine WC.skip ?_
    refine En.next ?_
    refine WC.seq ?_
    obtain ⟨x3_3, e3_3, h⟩ := bnd h
    refine WC.region ?_
    refine Lt.ofWL.step rfl rfl rfl (OpV.move rfl) ?_
    refine Lt.ofWL.step rfl rfl rfl (OpV.quoR rfl rfl rfl) ?_
    refine Lt.ofWL.step rfl rfl rfl (OpV.move rfl) ?_
    refine Lt.ofWL.step rfl rfl rfl (OpV.call (evs.cons rfl (evs.nil)) ca_169 (fun w hs => w_impl_tilesOf e3_3)) ?_
    refine Lt.ofWL.step rfl rfl rfl (OpV.mulR rfl rfl) ?_
    refine Lt.ofWL.step rfl rfl rfl (OpV.move rfl) ?_
    refine Lt.ofWL.step rfl rfl rfl (OpV.quoR rfl rfl rfl) ?_
    refine Lt.ofWL.step rfl rfl rfl (OpV.addR rfl rfl) ?_
    refine Lt.ofWL.step rfl rfl rfl (OpV.assign rfl) ?_
    refine WL.nil ?_
    refine En.next ?_
    refine WC.seq ?_
    refine WC.region ?_
    refine Lt.ofWL.step rfl rfl rfl (OpV.move rfl) ?_
    refine Lt.ofWL.step rfl rfl rfl (OpV.mulR rfl rfl) ?_
    refine Lt.ofWL.step rfl rfl rfl (OpV.mulR rfl rfl) ?_
    refine Lt.ofWL.step rfl rfl rfl (OpV.move rfl) ?_
    refine Lt.ofWL.step rfl rfl rfl (OpV.remR rfl rfl rfl) ?_
    refine Lt.ofWL.step rfl rfl rfl (OpV.mulR rfl rfl) ?_
    refine Lt.ofWL.step rfl rfl rfl (OpV.addR rfl rfl) ?_
    refine Lt.ofWL.step rfl rfl rfl (OpV.move rfl) ?_
    refine Lt.ofWL.step rfl rfl rfl (OpV.remR rfl rfl rfl) ?_
    refine Lt.ofWL.step rfl rfl rfl (OpV.addR rfl rfl) ?_
    refine Lt.ofWL.step rfl rfl rfl (OpV.assign rfl) ?_
    refine WL.nil ?_
    refine En.next ?_
    refine WC.ret ?_
    refine En.ret1 rfl (Res.tmp rfl) ?_
    obtain rfl := Option.some.inj h
    intro w' hs
    exact ⟨rfl, hs.below⟩

theorem w_impl_StoreImage {i_p0 : ImageT} {layout_p1 : Int} {r : (List Int) × Bool} {q0_0 : Option Addr} {n0_0 k0_0 : Nat} (h : impl_StoreImage i_p0 layout_p1 = some r) {w : World} (r0_0 : Rd tInt w q0_0 n0_0 k0_0 i_p0.Data)   :
    Calls Try.prog 87 #[.agg #[.int .i64 i_p0.W, .int .i64 i_p0.H, .slice q0_0 n0_0 k0_0], .int .i64 layout_p1] w (fun en w' => ∃ rv G, en = .returned rv ∧ (∃ (a0_0 : Option Addr) (n0_0 : Nat) (c0_0 : Nat) (f0_0 : List Nat), rv = .tuple #[.slice a0_0 n0_0 c0_0, .bool r.2] ∧ G = [Chunk.own tInt f0_0 a0_0 n0_0 c0_0 r.1]) ∧ St w G w') := by
  obtain rfl := r0_0.1
  unfold impl_StoreImage at h
  refine enter (vs := [_, _]) Try.func87 rfl rfl rfl rfl ?_
  refine WC.seq ?_
  refine WC.region ?_
  refine WL.heavy rfl rfl rfl (OpH.box rfl rfl ?_)
  intro b0_0
  refine Lt.ofWL.step rfl rfl rfl (OpV.assign rfl) ?_
  refine Lt.ofWL.step rfl rfl rfl (OpV.assign rfl) ?_
  refine WL.nil ?_
  refine En.next ?_
  refine WC.seq ?_
  refine WC.seq ?_
  obtain ⟨x1_1, e1_1, h⟩ := bnd h
  obtain ⟨q1_7, e1_7, h⟩ := bnd h
  refine WC.region ?_
  refine Lt.ofWL.step rfl rfl rfl (OpV.loadAll rfl (.head _) ag_36) ?_
  refine Lt.ofWL.step rfl rfl rfl (OpV.call (evs.cons rfl (evs.nil)) ca_107 (fun w hs => w_impl_ImageOk e1_1 (r0_0.ext hs.below))) ?_
  refine Lt.ofWL.step rfl rfl rfl (OpV.not rfl) ?_
  refine Lt.ofWL.step rfl rfl rfl (OpV.move rfl) ?_
  refine Lt.ofWL.orQ 12 16 15 (p := ?pz1) (rest := ?qz1) (B := q1_7) rfl (fun hz => orO_t e1_7 hz) ?Tz1 ?Fz1 ?az1 ?bz1 ?cz1 ?dz1 ?ez1
  case Tz1 =>
    intro hcz1 hkz1
    refine Lt.ofWL.skip rfl rfl rfl ?_
    refine Lt.ofWL.skip rfl rfl rfl ?_
    refine Lt.ofWL.skip rfl rfl rfl ?_
    refine hkz1 _ ?_
    repeat (first | exact Sub.refl _ | refine Sub.skip rfl ?_)
  case Fz1 =>
    intro hcz1 hkz1
    have hqz1 := orO_f e1_7 hcz1
    obtain ⟨x1_5, e1_5, hqz1⟩ := bnd hqz1
    obtain rfl := Option.some.inj hqz1
    refine Lt.ofWL.step rfl rfl rfl (OpV.move rfl) ?_
    refine Lt.ofWL.step rfl rfl rfl (OpV.call (evs.cons rfl (evs.cons rfl (evs.cons rfl (evs.nil)))) ca_91 (fun w hs => w_impl_within e1_5)) ?_
    refine Lt.ofWL.step rfl rfl rfl (OpV.not rfl) ?_
    refine hkz1 _ ?_ ?_
    exact rfl
    repeat (first | exact Sub.refl _ | refine Sub.skip rfl ?_)
  case az1 => exact rfl
  case bz1 => exact rfl
  case cz1 => exact rfl
  case dz1 => exact rfl
  refine WL.nil ?_
  refine En.next ?_
  refine WC.cond rfl ?_ ?_
  ·
    intro hc_1
    replace h := ifO_t hc_1 h
    refine WC.seq ?_
    refine WC.region ?_
    refine Lt.ofWL.step rfl rfl rfl (OpV.assign rfl) ?_
    refine Lt.ofWL.step rfl rfl rfl (OpV.assign rfl) ?_
    refine WL.nil ?_
    refine En.next ?_
    refine WC.ret ?_
    refine En.then_ret ?_
    refine En.ret2 rfl (Res.tmp rfl) (Res.tmp rfl) ?_
    obtain rfl := Option.some.inj h
    intro w' hs
    have hs := ((hs).ownNil (A := tInt)).sub (.cons_cons _ (.cons _ (.slnil)))
    exact ⟨_, _, rfl, ⟨.none, 0, 0, [], rfl, rfl⟩, hs⟩
  ·
    intro hc_1
    replace h := ifO_f hc_1 h
    refine WC.skip ?_
    refine En.next ?_
    refine WC.seq ?_
    refine WC.seq ?_
    refine WC.region ?_
    refine Lt.ofWL.step rfl rfl rfl (OpV.move rfl) ?_
    refine Lt.ofWL.step rfl rfl rfl (OpV.eql rfl rfl) ?_
    refine WL.nil ?_
    refine En.next ?_
    refine WC.cond rfl ?_ ?_
    ·
      intro hc_2
      replace h := ifO_t hc_2 h
      refine WC.seq ?_
      obtain ⟨x4_1, e4_1, h⟩ := bnd h
      refine WC.region ?_
      refine Lt.ofWL.step rfl rfl rfl (OpV.loadAll rfl (.head _) ag_36) ?_
      refine WL.heavy rfl rfl rfl (OpH.callR (evs.cons rfl (evs.nil)) ca_137 (fun w hs => w_impl_runsOf e4_1 (r0_0.ext hs.below)) ?_)
      rintro _ _ ⟨a4_100, n4_100, c4_100, f4_100, rfl, rfl⟩
      refine Lt.ofWL.step rfl rfl rfl (OpV.assign rfl) ?_
      refine Lt.ofWL.step rfl rfl rfl (OpV.assign rfl) ?_
      refine WL.nil ?_
      refine En.next ?_
      refine WC.ret ?_
      refine En.then_ret ?_
      refine En.ret2 rfl (Res.tmp rfl) (Res.tmp rfl) ?_
      obtain rfl := Option.some.inj h
      intro w' hs
      have hs := (hs).sub (.cons_cons _ (.cons _ (.slnil)))
      exact ⟨_, _, rfl, ⟨a4_100, n4_100, c4_100, f4_100, rfl, rfl⟩, hs⟩
    ·
      intro hc_2
      replace h := ifO_f hc_2 h
      refine WC.skip ?_
      refine En.next ?_
      refine WC.seq ?_
      obtain ⟨x5_5, e5_5, h⟩ := bnd h
      obtain ⟨x5_6, e5_6, h⟩ := bnd h
      refine WC.region ?_
      refine Lt.ofWL.step rfl rfl rfl (OpV.fieldAddr rfl fo_36_0) ?_
      refine Lt.ofWL.step rfl rfl rfl (OpV.loadBox rfl pt_3 (.head _) rfl) ?_
      refine Lt.ofWL.step rfl rfl rfl (OpV.fieldAddr rfl fo_36_1) ?_
      refine Lt.ofWL.step rfl rfl rfl (OpV.loadBox rfl pt_3 (.head _) rfl) ?_
      refine Lt.ofWL.step rfl rfl rfl (OpV.move rfl) ?_
      refine Lt.ofWL.step rfl rfl rfl (OpV.call (evs.cons rfl (evs.cons rfl (evs.cons rfl (evs.nil)))) ca_138 (fun w hs => w_impl_WordCount e5_5)) ?_
      refine WL.heavy rfl rfl rfl (OpH.makeO (A := tInt) rfl rfl mi_32 (fun w => tInt_flat.ow w 0) (by decide) e5_6 ⟨Int.le_refl _, (mkO_some e5_6).1.2⟩ ?_)
      intro b5_6
      refine Lt.ofWL.step rfl rfl rfl (OpV.assign rfl) ?_
      refine WL.nil ?_
      refine En.next ?_
      refine WC.seq ?_
      refine WC.seq ?_
      refine WC.region ?_
      refine Lt.ofWL.step rfl rfl rfl (OpV.fieldAddr rfl fo_36_2) ?_
      refine Lt.ofWL.step rfl rfl rfl (OpV.loadBox rfl pt_32 (.tail _ (.head _)) rfl) ?_
      refine Lt.ofWL.step rfl rfl rfl (OpV.len rfl si_32 rfl) ?_
      refine Lt.ofWL.step rfl rfl rfl (OpV.move rfl) ?_
      refine WL.nil ?_
      refine En.next ?_
      refine WC.block ?_
      obtain ⟨zy0, ezy0, h⟩ := bnd h
      refine WC.cut (X := ((List Int)) × ((List Nat))) (.exit 0) (fun x => zy0 = x.1) (fun x => match x with | (out_0e, fout_0e) => [(6, .slice (some ⟨b5_6, 0, .none⟩) x5_6.length x5_5.toNat)]) (fun x => match x with | (out_0e, fout_0e) => [Chunk.own tInt fout_0e (some ⟨b5_6, 0, .none⟩) x5_6.length x5_5.toNat out_0e]) ?_ ?_
      ·
        rintro ⟨out_0e, fout_0e⟩ hx
        replace hx : out_0e = zy0 := hx.symm
        subst hx
        show En _ _ _ _ [(6, .slice (some ⟨b5_6, 0, .none⟩) x5_6.length x5_5.toNat)] [Chunk.own tInt fout_0e (some ⟨b5_6, 0, .none⟩) x5_6.length x5_5.toNat out_0e]
        refine En.block_exit ?_
        refine En.next ?_
        refine WC.seq ?_
        refine WC.region ?_
        refine Lt.ofWL.step rfl rfl rfl (OpV.move rfl) ?_
        refine Lt.ofWL.step rfl rfl rfl (OpV.assign rfl) ?_
        refine Lt.ofWL.step rfl rfl rfl (OpV.assign rfl) ?_
        refine WL.nil ?_
        refine En.next ?_
        refine WC.ret ?_
        refine En.ret2 rfl (Res.tmp rfl) (Res.tmp rfl) ?_
        obtain rfl := Option.some.inj h
        intro w' hs
        have hs := hs
        exact ⟨_, _, rfl, ⟨(some ⟨b5_6, 0, .none⟩), x5_6.length, x5_5.toNat, fout_0e, rfl, rfl⟩, hs⟩
      ·
        intro zK0_0
        refine WC.loopP (G := (List Nat)) (fun s g => match s, g with | (out_0, v_0), fout_0 => [(1, .int .i64 layout_p1), (2, .pointer (some ⟨b0_0, 0, .none⟩)), (6, .slice (some ⟨b5_6, 0, .none⟩) x5_6.length x5_5.toNat), (29, .slice q0_0 i_p0.Data.length k0_0), (30, .int .i64 (i_p0.Data.length : Int)), (31, .int .i64 v_0)]) (fun s g => match s, g with | (out_0, v_0), fout_0 => [Chunk.box b0_0 36 [.int .i64 i_p0.W, .int .i64 i_p0.H, .slice q0_0 i_p0.Data.length k0_0], Chunk.own tInt fout_0 (some ⟨b5_6, 0, .none⟩) x5_6.length x5_5.toNat out_0]) (x5_6, 0) [b5_6] ezy0 (by exact Sub.cons rfl (Sub.cons rfl (Sub.cons rfl (Sub.cons rfl (Sub.cons rfl (Sub.cons rfl (Sub.nil _))))))) (by exact (fun _ h => (h).perm (List.perm_middle (l₁ := [_])))) ?_
        rintro zm0 ⟨out_0, v_0⟩ fout_0 zo0 zf0 zb0 ze0
        have zh0 : impl_StoreImage_L0 i_p0 layout_p1 out_0 v_0 = some zo0 := zf0
        unfold impl_StoreImage_L0 at zh0
        show WC _ _ _ _ _ [(1, .int .i64 layout_p1), (2, .pointer (some ⟨b0_0, 0, .none⟩)), (6, .slice (some ⟨b5_6, 0, .none⟩) x5_6.length x5_5.toNat), (29, .slice q0_0 i_p0.Data.length k0_0), (30, .int .i64 (i_p0.Data.length : Int)), (31, .int .i64 v_0)] [Chunk.box b0_0 36 [.int .i64 i_p0.W, .int .i64 i_p0.H, .slice q0_0 i_p0.Data.length k0_0], Chunk.own tInt fout_0 (some ⟨b5_6, 0, .none⟩) x5_6.length x5_5.toNat out_0]
        refine WC.seq ?_
        refine WC.region ?_
        refine Lt.ofWL.step rfl rfl rfl (OpV.lss rfl rfl) ?_
        refine WL.nil ?_
        refine En.next ?_
        refine WC.seq ?_
        refine WC.cond rfl ?_ ?_
        ·
          intro hc_3
          replace zh0 := ifO_t hc_3 zh0
          refine WC.skip ?_
          refine En.next ?_
          refine WC.seq ?_
          refine WC.block ?_
          refine WC.seq ?_
          obtain ⟨x8_1, e8_1, zh0⟩ := bnd zh0
          obtain ⟨g8_1, o8_1, _, ha8_1, rfl, hd8_1⟩ := Rd.atIdx r0_0 e8_1
          replace hd8_1 : ∀ (j : Nat) v, ([.int .i64 x8_1] : List Value)[j]? = some v → w.cell? ⟨g8_1, o8_1 + v_0.toNat * 1 + j, .none⟩ = some v := hd8_1
          refine WC.region ?_
          refine Lt.ofWL.step rfl rfl rfl (OpV.move rfl) ?_
          refine Lt.ofWL.step rfl rfl rfl (OpV.idxA rfl rfl se_32 ha8_1 ⟨(idx_some e8_1).1, (idx_some e8_1).2.1⟩) ?_
          refine Lt.ofWL.step rfl rfl rfl (OpV.load1 rfl pt_3 (fun w hs => hs.cell (hd8_1 0 _ rfl))) ?_
          refine Lt.ofWL.step rfl rfl rfl (OpV.assign rfl) ?_
          refine Lt.ofWL.step rfl rfl rfl (OpV.assign rfl) ?_
          refine WL.nil ?_
          refine En.next ?_
          refine WC.inh fun hin9 => ?_
          obtain ⟨x9_7, e9_7, zh0⟩ := bnd zh0
          obtain ⟨x9_11, e9_11, zh0⟩ := bnd zh0
          obtain ⟨x9_12, e9_12, zh0⟩ := bnd zh0
          have hn9_14 := ownLen hin9 (.tail _ (.head _))
          obtain ⟨x9_15, e9_15, zh0⟩ := bnd zh0
          obtain ⟨g9_14, ha9_14⟩ := ownAddrU hin9 (.tail _ (.head _)) e9_15
          refine WC.wkF (fun _ h => h.perm (List.perm_middle (l₁ := [_]))) ?_
          refine WC.drawnH [_] ([_]) (fun _ h => h) (by kernel_rfl) ?_
          refine WAE.take (i := 0) rfl (by kernel_rfl) (by kernel_rfl) (by kernel_rfl) rfl rfl rfl (OpV.move rfl) ?_
          refine WAE.take (i := 1) rfl (by kernel_rfl) (by kernel_rfl) (by kernel_rfl) rfl rfl rfl (OpV.fieldAddr rfl fo_36_0) ?_
          refine WAE.take (i := 2) rfl (by kernel_rfl) (by kernel_rfl) (by kernel_rfl) rfl rfl rfl (OpV.loadBox rfl pt_3 (.head _) rfl) ?_
          refine WAE.take (i := 3) rfl (by kernel_rfl) (by kernel_rfl) (by kernel_rfl) rfl rfl rfl (OpV.move rfl) ?_
          refine WAE.take (i := 4) rfl (by kernel_rfl) (by kernel_rfl) (by kernel_rfl) rfl rfl rfl (OpV.move rfl) ?_
          refine WAE.take (i := 5) rfl (by kernel_rfl) (by kernel_rfl) (by kernel_rfl) rfl rfl rfl (OpV.fieldAddr rfl fo_36_0) ?_
          refine WAE.take (i := 6) rfl (by kernel_rfl) (by kernel_rfl) (by kernel_rfl) rfl rfl rfl (OpV.loadBox rfl pt_3 (.head _) rfl) ?_
          refine WAE.take (i := 7) rfl (by kernel_rfl) (by kernel_rfl) (by kernel_rfl) rfl rfl rfl (OpV.remR rfl rfl e9_7) ?_
          refine WAE.take (i := 8) rfl (by kernel_rfl) (by kernel_rfl) (by kernel_rfl) rfl rfl rfl (OpV.move rfl) ?_
          refine WAE.take (i := 9) rfl (by kernel_rfl) (by kernel_rfl) (by kernel_rfl) rfl rfl rfl (OpV.fieldAddr rfl fo_36_0) ?_
          refine WAE.take (i := 10) rfl (by kernel_rfl) (by kernel_rfl) (by kernel_rfl) rfl rfl rfl (OpV.loadBox rfl pt_3 (.head _) rfl) ?_
          refine WAE.take (i := 11) rfl (by kernel_rfl) (by kernel_rfl) (by kernel_rfl) rfl rfl rfl (OpV.quoR rfl rfl e9_11) ?_
          refine WAE.take (i := 12) rfl (by kernel_rfl) (by kernel_rfl) (by kernel_rfl) rfl rfl rfl (OpV.call (evs.cons rfl (evs.cons rfl (evs.cons rfl (evs.cons rfl (evs.nil))))) ca_139 (fun w hs => w_impl_wordPlace e9_12)) ?_
          refine WAE.take (i := 13) rfl (by kernel_rfl) (by kernel_rfl) (by kernel_rfl) rfl rfl rfl (OpV.move rfl) ?_
          refine WAE.take (i := 14) rfl (by kernel_rfl) (by kernel_rfl) (by kernel_rfl) rfl rfl rfl (OpV.idxA rfl rfl se_32 ha9_14 ⟨(upd_some e9_15).1.1, by rw [hn9_14]; exact (upd_some e9_15).1.2⟩) ?_
          refine WAE.all (rs := [15]) (by kernel_rfl) rfl (AllR.cons0 rfl rfl rfl ?_ AllR.nil)
          refine OpH.wkF (fun _ h => St.elFlat tInt_flat x8_1 h) ?_
          refine OpH.setEl (A := tInt) ha9_14 rfl rfl rfl ts_3 e9_15 ?_
          intro f9_15
          refine ⟨[_], rfl, ?_⟩
          refine WAE.rebase (H := []) ?_
          refine WAE.done (by kernel_rfl) ?_ _
          refine En.block_norm ?_
          refine En.next ?_
          refine WC.region ?_
          refine Lt.ofWL.step rfl rfl rfl (OpV.addR rfl rfl) ?_
          refine Lt.ofWL.step rfl rfl rfl (OpV.move rfl) ?_
          refine WL.nil ?_
          exact En.backP zb0 zh0 f9_15 (Sub.cons rfl (Sub.cons rfl (Sub.cons rfl (Sub.cons rfl (Sub.cons rfl (Sub.cons rfl (Sub.nil _))))))) (fun _ h => (h).perm (List.perm_middle (l₁ := [_])))
        ·
          intro hc_3
          replace zh0 := ifO_f hc_3 zh0
          refine WC.exit ?_
          refine En.then_exit ?_
          refine En.then_exit ?_
          have hx := exitP ze0 zh0
          exact En.wk _ _ (Sub.cons rfl (Sub.nil _)) (fun _ h => ((h).perm (List.perm_middle (l₁ := [_]))).sub (.cons_cons _ (.cons _ (.slnil)))) (zK0_0 (out_0, fout_0) hx.symm)

theorem w_impl_PlaneOf {i_p0 : ImageT} {x_p1 : Int} {y_p2 : Int} {layout_p3 : Int} {r : PlaneT} {q0_0 : Option Addr} {n0_0 k0_0 : Nat} (h : impl_PlaneOf i_p0 x_p1 y_p2 layout_p3 = some r) {w : World} (r0_0 : Rd tInt w q0_0 n0_0 k0_0 i_p0.Data)   :
    Calls Try.prog 34 #[.agg #[.int .i64 i_p0.W, .int .i64 i_p0.H, .slice q0_0 n0_0 k0_0], .int .i64 x_p1, .int .i64 y_p2, .int .i64 layout_p3] w (fun en w' => ∃ rv G, en = .returned rv ∧ (∃ (a0_0 : Option Addr) (n0_0 : Nat) (c0_0 : Nat) (f0_0 : List Nat), rv = .agg #[.bool r.On, .int .i64 r.X, .int .i64 r.Y, .int .i64 r.W, .int .i64 r.H, .int .i64 r.Layout, .slice a0_0 n0_0 c0_0, .int .i64 r.Alpha, .int .i64 r.Orient, .int .i64 r.ToW, .int .i64 r.ToH] ∧ G = [Chunk.own tInt f0_0 a0_0 n0_0 c0_0 r.Words]) ∧ St w G w') := by
  obtain rfl := r0_0.1
  unfold impl_PlaneOf at h
  refine enter (vs := [_, _, _, _]) Try.func34 rfl rfl rfl rfl ?_
  refine WC.seq ?_
  refine WC.region ?_
  refine WL.heavy rfl rfl rfl (OpH.box rfl rfl ?_)
  intro b0_0
  refine WL.heavy rfl rfl rfl (OpH.alloc zc_57 ?_)
  intro b0_1
  refine WL.nil ?_
  refine En.next ?_
  refine WC.seq ?_
  obtain ⟨⟨x1_2a, x1_2b⟩, e1_2, h⟩ := bnd h
  refine WC.region ?_
  refine Lt.ofWL.step rfl rfl rfl (OpV.loadAll rfl (.tail _ (.head _)) ag_36) ?_
  refine Lt.ofWL.step rfl rfl rfl (OpV.move rfl) ?_
  refine WL.heavy rfl rfl rfl (OpH.callR (evs.cons rfl (evs.cons rfl (evs.nil))) ca_87 (fun w hs => w_impl_StoreImage e1_2 (r0_0.ext hs.below)) ?_)
  rintro _ _ ⟨a1_200, n1_200, c1_200, f1_200, rfl, rfl⟩
  refine Lt.ofWL.step rfl rfl rfl (OpV.move rfl) ?_
  refine Lt.ofWL.step rfl rfl rfl (OpV.extract rfl rfl) ?_
  refine Lt.ofWL.step rfl rfl rfl (OpV.extract rfl rfl) ?_
  refine Lt.ofWL.step rfl rfl rfl (OpV.assign rfl) ?_
  refine Lt.ofWL.step rfl rfl rfl (OpV.assign rfl) ?_
  refine WL.nil ?_
  refine En.next ?_
  refine WC.seq ?_
  refine WC.seq ?_
  refine WC.region ?_
  refine Lt.ofWL.step rfl rfl rfl (OpV.move rfl) ?_
  refine Lt.ofWL.step rfl rfl rfl (OpV.not rfl) ?_
  refine WL.nil ?_
  refine En.next ?_
  refine WC.cond rfl ?_ ?_
  ·
    intro hc_1
    replace h := ifO_t hc_1 h
    refine WC.seq ?_
    refine WC.region ?_
    refine Lt.ofWL.step rfl rfl rfl (OpV.build (evps.nil) bd_57_) ?_
    refine WL.heavy0 rfl rfl (OpH.storeTo (A := [_]) [_, _, _, _, _, _, _, _, _, _, _] rfl rfl rfl ts_57 rfl rfl rfl ?_)
    refine WL.nil ?_
    refine En.next ?_
    refine WC.ret ?_
    refine En.then_ret ?_
    refine En.ret1 rfl (Res.cell rfl (.tail _ (.head _)) ag_57) ?_
    obtain rfl := Option.some.inj h
    intro w' hs
    have hs := ((hs).ownNil (A := tInt)).sub (.cons_cons _ (.cons _ (.cons _ (.cons _ (.slnil)))))
    exact ⟨_, _, rfl, ⟨.none, 0, 0, [], rfl, rfl⟩, hs⟩
  ·
    intro hc_1
    replace h := ifO_f hc_1 h
    refine WC.skip ?_
    refine En.next ?_
    refine WC.seq ?_
    refine WC.region ?_
    refine Lt.ofWL.step rfl rfl rfl (OpV.move rfl) ?_
    refine Lt.ofWL.step rfl rfl rfl (OpV.move rfl) ?_
    refine Lt.ofWL.step rfl rfl rfl (OpV.fieldAddr rfl fo_36_0) ?_
    refine Lt.ofWL.step rfl rfl rfl (OpV.loadBox rfl pt_3 (.tail _ (.tail _ (.head _))) rfl) ?_
    refine Lt.ofWL.step rfl rfl rfl (OpV.fieldAddr rfl fo_36_1) ?_
    refine Lt.ofWL.step rfl rfl rfl (OpV.loadBox rfl pt_3 (.tail _ (.tail _ (.head _))) rfl) ?_
    refine Lt.ofWL.step rfl rfl rfl (OpV.move rfl) ?_
    refine Lt.ofWL.step rfl rfl rfl (OpV.move rfl) ?_
    refine Lt.ofWL.step rfl rfl rfl (OpV.build (evps.cons rfl (evps.cons rfl (evps.cons rfl (evps.cons rfl (evps.cons rfl (evps.cons rfl (evps.cons rfl (evps.cons rfl (evps.nil))))))))) (bd_57_0_1_2_3_4_5_6_7 _ _ _ _ _ _ _ _ _ _)) ?_
    refine WL.heavy0 rfl rfl (OpH.storeTo (A := [_]) [_, _, _, _, _, _, _, _, _, _, _] rfl rfl rfl ts_57 rfl rfl rfl ?_)
    refine WL.nil ?_
    refine En.next ?_
    refine WC.ret ?_
    refine En.ret1 rfl (Res.cell rfl (.tail _ (.head _)) ag_57) ?_
    obtain rfl := Option.some.inj h
    intro w' hs
    have hs := (hs).sub (.cons_cons _ (.cons _ (.cons _ (.slnil))))
    exact ⟨_, _, rfl, ⟨a1_200, n1_200, c1_200, f1_200, rfl, rfl⟩, hs⟩

theorem w_impl_PlanesOf {a_p0 : SceneT} {a_p1 : OptionsT} {a_p2 : ImageT} {r : (List PlaneT)} {q0_0 : Option Addr} {n0_0 k0_0 : Nat} {q2_0 : Option Addr} {n2_0 k2_0 : Nat} (h : impl_PlanesOf a_p0 a_p1 a_p2 = some r) {w : World} (r0_0 : Rd tSurface w q0_0 n0_0 k0_0 a_p0.Surfaces) (r2_0 : Rd tInt w q2_0 n2_0 k2_0 a_p2.Data)   :
    Calls Try.prog 61 #[.agg #[.int .i64 a_p0.W, .int .i64 a_p0.H, .int .i64 a_p0.Back, .slice q0_0 n0_0 k0_0], .agg #[.int .i64 a_p1.Overlays, .bool a_p1.Cursor, .int .i64 a_p1.Layout, .bool a_p1.Partial, .bool a_p1.Sleep, .bool a_p1.Secret], .agg #[.int .i64 a_p2.W, .int .i64 a_p2.H, .slice q2_0 n2_0 k2_0]] w (fun en w' => ∃ rv G, en = .returned rv ∧ (∃ (a0_0 : Option Addr) (n0_0 : Nat) (c0_0 : Nat) (f0_0 : List Nat), rv = .slice a0_0 n0_0 c0_0 ∧ G = [Chunk.own tPlane f0_0 a0_0 n0_0 c0_0 r]) ∧ St w G w') := by
  obtain rfl := r0_0.1
  obtain rfl := r2_0.1
  unfold impl_PlanesOf at h
  refine enter (vs := [_, _, _]) Try.func61 rfl rfl rfl rfl ?_
  refine WC.seq ?_
  refine WC.region ?_
  refine WL.heavy rfl rfl rfl (OpH.box rfl rfl ?_)
  intro b0_0
  refine WL.heavy rfl rfl rfl (OpH.box rfl rfl ?_)
  intro b0_1
  refine WL.heavy rfl rfl rfl (OpH.box rfl rfl ?_)
  intro b0_2
  refine Lt.ofWL.step rfl rfl rfl (OpV.assign rfl) ?_
  refine WL.nil ?_
  refine En.next ?_
  refine WC.seq ?_
  refine WC.seq ?_
  obtain ⟨x1_1, e1_1, h⟩ := bnd h
  obtain ⟨q1_7, e1_7, h⟩ := bnd h
  obtain ⟨q1_12, e1_12, h⟩ := bnd h
  refine WC.region ?_
  refine Lt.ofWL.step rfl rfl rfl (OpV.loadAll rfl (.tail _ (.tail _ (.head _))) ag_26) ?_
  refine Lt.ofWL.step rfl rfl rfl (OpV.call (evs.cons rfl (evs.nil)) ca_70 (fun w hs => w_impl_SceneOk e1_1 (r0_0.ext hs.below))) ?_
  refine Lt.ofWL.step rfl rfl rfl (OpV.not rfl) ?_
  refine Lt.ofWL.step rfl rfl rfl (OpV.move rfl) ?_
  refine Lt.ofWL.orQ 17 21 20 (p := ?pz1) (rest := ?qz1) (B := q1_7) rfl (fun hz => orO_t e1_7 hz) ?Tz1 ?Fz1 ?az1 ?bz1 ?cz1 ?dz1 ?ez1
  case Tz1 =>
    intro hcz1 hkz1
    refine Lt.ofWL.skip rfl rfl rfl ?_
    refine Lt.ofWL.skip rfl rfl rfl ?_
    refine Lt.ofWL.skip rfl rfl rfl ?_
    refine hkz1 _ ?_
    repeat (first | exact Sub.refl _ | refine Sub.skip rfl ?_)
  case Fz1 =>
    intro hcz1 hkz1
    have hqz1 := orO_f e1_7 hcz1
    obtain ⟨x1_5, e1_5, hqz1⟩ := bnd hqz1
    obtain rfl := Option.some.inj hqz1
    refine Lt.ofWL.step rfl rfl rfl (OpV.loadAll rfl (.tail _ (.head _)) ag_28) ?_
    refine Lt.ofWL.step rfl rfl rfl (OpV.call (evs.cons rfl (evs.nil)) ca_71 (fun w hs => w_impl_OptionsOk e1_5)) ?_
    refine Lt.ofWL.step rfl rfl rfl (OpV.not rfl) ?_
    refine hkz1 _ ?_ ?_
    exact rfl
    repeat (first | exact Sub.refl _ | refine Sub.skip rfl ?_)
  case az1 => exact rfl
  case bz1 => exact rfl
  case cz1 => exact rfl
  case dz1 => exact rfl
  refine Lt.ofWL.step rfl rfl rfl (OpV.move rfl) ?_
  refine Lt.ofWL.orQ 22 26 25 (p := ?pz2) (rest := ?qz2) (B := q1_12) rfl (fun hz => orO_t e1_12 hz) ?Tz2 ?Fz2 ?az2 ?bz2 ?cz2 ?dz2 ?ez2
  case Tz2 =>
    intro hcz2 hkz2
    refine Lt.ofWL.skip rfl rfl rfl ?_
    refine Lt.ofWL.skip rfl rfl rfl ?_
    refine Lt.ofWL.skip rfl rfl rfl ?_
    refine hkz2 _ ?_
    repeat (first | exact Sub.refl _ | refine Sub.skip rfl ?_)
  case Fz2 =>
    intro hcz2 hkz2
    have hqz2 := orO_f e1_12 hcz2
    obtain ⟨x1_10, e1_10, hqz2⟩ := bnd hqz2
    obtain rfl := Option.some.inj hqz2
    refine Lt.ofWL.step rfl rfl rfl (OpV.loadAll rfl (.head _) ag_36) ?_
    refine Lt.ofWL.step rfl rfl rfl (OpV.call (evs.cons rfl (evs.nil)) ca_107 (fun w hs => w_impl_ImageOk e1_10 (r2_0.ext hs.below))) ?_
    refine Lt.ofWL.step rfl rfl rfl (OpV.not rfl) ?_
    refine hkz2 _ ?_ ?_
    exact rfl
    repeat (first | exact Sub.refl _ | refine Sub.skip rfl ?_)
  case az2 => exact rfl
  case bz2 => exact rfl
  case cz2 => exact rfl
  case dz2 => exact rfl
  refine WL.nil ?_
  refine En.next ?_
  refine WC.cond rfl ?_ ?_
  ·
    intro hc_1
    replace h := ifO_t hc_1 h
    refine WC.seq ?_
    refine WC.region ?_
    refine Lt.ofWL.step rfl rfl rfl (OpV.assign rfl) ?_
    refine WL.nil ?_
    refine En.next ?_
    refine WC.ret ?_
    refine En.then_ret ?_
    refine En.ret1 rfl (Res.tmp rfl) ?_
    obtain rfl := Option.some.inj h
    intro w' hs
    have hs := ((hs).ownNil (A := tPlane)).sub (.cons_cons _ (.cons _ (.cons _ (.cons _ (.slnil)))))
    exact ⟨_, _, rfl, ⟨.none, 0, 0, [], rfl, rfl⟩, hs⟩
  ·
    intro hc_1
    replace h := ifO_f hc_1 h
    refine WC.skip ?_
    refine En.next ?_
    refine WC.seq ?_
    obtain ⟨x3_0, e3_0, h⟩ := bnd h
    refine WC.region ?_
    refine WL.heavy rfl rfl rfl (OpH.makeO (A := tPlane) rfl rfl mi_53 tPlane_zero (by decide) e3_0 ⟨Int.le_refl _, (mkO_some e3_0).1.2⟩ ?_)
    intro b3_0
    refine Lt.ofWL.step rfl rfl rfl (OpV.assign rfl) ?_
    refine WL.nil ?_
    refine En.next ?_
    refine WC.seq ?_
    refine WC.inh fun hin4 => ?_
    obtain ⟨x4_4, e4_4, h⟩ := bnd h
    have hn4_5 := ownLen hin4 (.head _)
    obtain ⟨x4_6, e4_6, h⟩ := bnd h
    obtain ⟨g4_5, ha4_5⟩ := ownAddrU hin4 (.head _) e4_6
    refine WC.region ?_
    refine Lt.ofWL.step rfl rfl rfl (OpV.move rfl) ?_
    refine Lt.ofWL.step rfl rfl rfl (OpV.loadAll rfl (.tail _ (.head _)) ag_36) ?_
    refine Lt.ofWL.step rfl rfl rfl (OpV.fieldAddr rfl fo_28_2) ?_
    refine Lt.ofWL.step rfl rfl rfl (OpV.loadBox rfl pt_3 (.tail _ (.tail _ (.head _))) rfl) ?_
    refine WL.heavy rfl rfl rfl (OpH.callR (evs.cons rfl (evs.cons rfl (evs.cons rfl (evs.cons rfl (evs.nil))))) ca_34 (fun w hs => w_impl_PlaneOf e4_4 (r2_0.ext hs.below)) ?_)
    rintro _ _ ⟨a4_400, n4_400, c4_400, f4_400, rfl, rfl⟩
    refine Lt.ofWL.step rfl rfl rfl (OpV.idxA rfl rfl se_53 ha4_5 ⟨(upd_some e4_6).1.1, by rw [hn4_5]; exact (upd_some e4_6).1.2⟩) ?_
    refine WL.wkF (fun _ h => tPlane_mk x4_4.On x4_4.X x4_4.Y x4_4.W x4_4.H x4_4.Layout x4_4.Words x4_4.Alpha x4_4.Orient x4_4.ToW x4_4.ToH h) ?_
    refine WL.heavy0 rfl rfl (OpH.setEl (A := tPlane) ha4_5 rfl rfl rfl ts_57 e4_6 ?_)
    intro f4_6
    refine WL.nil ?_
    refine En.next ?_
    refine WC.seq ?_
    obtain ⟨⟨x5_2a, x5_2b⟩, e5_2, h⟩ := bnd h
    refine WC.region ?_
    refine Lt.ofWL.step rfl rfl rfl (OpV.loadAll rfl (.tail _ (.tail _ (.tail _ (.head _)))) ag_26) ?_
    refine Lt.ofWL.step rfl rfl rfl (OpV.loadAll rfl (.tail _ (.tail _ (.head _))) ag_28) ?_
    refine WL.heavy rfl rfl rfl (OpH.callR (evs.cons rfl (evs.cons rfl (evs.nil))) ca_18 (fun w hs => w_impl_AssignedOf e5_2 (r0_0.ext hs.below)) ?_)
    rintro _ _ ⟨a5_200, n5_200, c5_200, f5_200, rfl, rfl⟩
    refine Lt.ofWL.step rfl rfl rfl (OpV.move rfl) ?_
    refine Lt.ofWL.step rfl rfl rfl (OpV.extract rfl rfl) ?_
    refine Lt.ofWL.step rfl rfl rfl (OpV.extract rfl rfl) ?_
    refine Lt.ofWL.step rfl rfl rfl (OpV.assign rfl) ?_
    refine Lt.ofWL.step rfl rfl rfl (OpV.assign rfl) ?_
    refine WL.nil ?_
    refine En.next ?_
    refine WC.seq ?_
    refine WC.seq ?_
    refine WC.region ?_
    refine Lt.ofWL.step rfl rfl rfl (OpV.move rfl) ?_
    refine Lt.ofWL.step rfl rfl rfl (OpV.inhF fun hin => OpV.lenO (xs := x5_2a) rfl si_32 rfl (ownLen hin (.head _))) ?_
    refine Lt.ofWL.step rfl rfl rfl (OpV.move rfl) ?_
    refine WL.nil ?_
    refine En.next ?_
    refine WC.block ?_
    obtain ⟨zy0, ezy0, h⟩ := bnd h
    refine WC.cut (X := ((List PlaneT)) × ((List Nat))) (.exit 0) (fun x => zy0 = x.1) (fun x => match x with | (v_0e, fv_0e) => [(7, .slice (some ⟨b3_0, 0, .none⟩) x3_0.length (Int.toNat 4))]) (fun x => match x with | (v_0e, fv_0e) => [Chunk.own tPlane fv_0e (some ⟨b3_0, 0, .none⟩) x3_0.length (Int.toNat 4) v_0e]) ?_ ?_
    ·
      rintro ⟨v_0e, fv_0e⟩ hx
      replace hx : v_0e = zy0 := hx.symm
      subst hx
      show En _ _ _ _ [(7, .slice (some ⟨b3_0, 0, .none⟩) x3_0.length (Int.toNat 4))] [Chunk.own tPlane fv_0e (some ⟨b3_0, 0, .none⟩) x3_0.length (Int.toNat 4) v_0e]
      refine En.block_exit ?_
      refine En.next ?_
      refine WC.seq ?_
      refine WC.region ?_
      refine Lt.ofWL.step rfl rfl rfl (OpV.move rfl) ?_
      refine Lt.ofWL.step rfl rfl rfl (OpV.assign rfl) ?_
      refine WL.nil ?_
      refine En.next ?_
      refine WC.ret ?_
      refine En.ret1 rfl (Res.tmp rfl) ?_
      obtain rfl := Option.some.inj h
      intro w' hs
      have hs := hs
      exact ⟨_, _, rfl, ⟨(some ⟨b3_0, 0, .none⟩), x3_0.length, (Int.toNat 4), fv_0e, rfl, rfl⟩, hs⟩
    ·
      intro zK0_0
      refine WC.loopP (G := (List Nat)) (fun s g => match s, g with | (v_0, v1_0), fv_0 => [(3, .pointer (some ⟨b0_0, 0, .none⟩)), (4, .pointer (some ⟨b0_1, 0, .none⟩)), (7, .slice (some ⟨b3_0, 0, .none⟩) x3_0.length (Int.toNat 4)), (40, .slice a5_200 n5_200 c5_200), (41, .int .i64 (x5_2a.length : Int)), (42, .int .i64 v1_0)]) (fun s g => match s, g with | (v_0, v1_0), fv_0 => [Chunk.box b0_0 26 [.int .i64 a_p0.W, .int .i64 a_p0.H, .int .i64 a_p0.Back, .slice q0_0 a_p0.Surfaces.length k0_0], Chunk.box b0_1 28 [.int .i64 a_p1.Overlays, .bool a_p1.Cursor, .int .i64 a_p1.Layout, .bool a_p1.Partial, .bool a_p1.Sleep, .bool a_p1.Secret], Chunk.own tPlane fv_0 (some ⟨b3_0, 0, .none⟩) x3_0.length (Int.toNat 4) v_0, Chunk.own tInt f5_200 a5_200 n5_200 c5_200 x5_2a]) (x4_6, 0) f4_6 ezy0 (by exact Sub.cons rfl (Sub.cons rfl (Sub.cons rfl (Sub.cons rfl (Sub.cons rfl (Sub.cons rfl (Sub.nil _))))))) (by exact (fun _ h => ((((h).perm (List.perm_middle (l₁ := [_]))).perm (List.perm_middle (l₁ := [_, _, _]))).perm (List.perm_middle (l₁ := [_, _, _, _]))).sub (.cons_cons _ (.cons_cons _ (.cons_cons _ (.cons_cons _ (.cons _ (.slnil)))))))) ?_
      rintro zm0 ⟨v_0, v1_0⟩ fv_0 zo0 zf0 zb0 ze0
      have zh0 : impl_PlanesOf_L0 a_p0 a_p1 x5_2a v_0 v1_0 = some zo0 := zf0
      unfold impl_PlanesOf_L0 at zh0
      show WC _ _ _ _ _ [(3, .pointer (some ⟨b0_0, 0, .none⟩)), (4, .pointer (some ⟨b0_1, 0, .none⟩)), (7, .slice (some ⟨b3_0, 0, .none⟩) x3_0.length (Int.toNat 4)), (40, .slice a5_200 n5_200 c5_200), (41, .int .i64 (x5_2a.length : Int)), (42, .int .i64 v1_0)] [Chunk.box b0_0 26 [.int .i64 a_p0.W, .int .i64 a_p0.H, .int .i64 a_p0.Back, .slice q0_0 a_p0.Surfaces.length k0_0], Chunk.box b0_1 28 [.int .i64 a_p1.Overlays, .bool a_p1.Cursor, .int .i64 a_p1.Layout, .bool a_p1.Partial, .bool a_p1.Sleep, .bool a_p1.Secret], Chunk.own tPlane fv_0 (some ⟨b3_0, 0, .none⟩) x3_0.length (Int.toNat 4) v_0, Chunk.own tInt f5_200 a5_200 n5_200 c5_200 x5_2a]
      refine WC.seq ?_
      refine WC.region ?_
      refine Lt.ofWL.step rfl rfl rfl (OpV.lss rfl rfl) ?_
      refine WL.nil ?_
      refine En.next ?_
      refine WC.seq ?_
      refine WC.cond rfl ?_ ?_
      ·
        intro hc_2
        replace zh0 := ifO_t hc_2 zh0
        refine WC.skip ?_
        refine En.next ?_
        refine WC.seq ?_
        obtain ⟨zy1, ej1, zh0⟩ := bnd zh0
        refine WC.cut (X := ((List PlaneT)) × ((List Nat))) .normal (fun x => zy1 = x.1) (fun x => match x with | (v_1j, fv_1j) => [(3, .pointer (some ⟨b0_0, 0, .none⟩)), (4, .pointer (some ⟨b0_1, 0, .none⟩)), (7, .slice (some ⟨b3_0, 0, .none⟩) x3_0.length (Int.toNat 4)), (40, .slice a5_200 n5_200 c5_200), (41, .int .i64 (x5_2a.length : Int)), (42, .int .i64 v1_0)]) (fun x => match x with | (v_1j, fv_1j) => [Chunk.box b0_0 26 [.int .i64 a_p0.W, .int .i64 a_p0.H, .int .i64 a_p0.Back, .slice q0_0 a_p0.Surfaces.length k0_0], Chunk.box b0_1 28 [.int .i64 a_p1.Overlays, .bool a_p1.Cursor, .int .i64 a_p1.Layout, .bool a_p1.Partial, .bool a_p1.Sleep, .bool a_p1.Secret], Chunk.own tPlane fv_1j (some ⟨b3_0, 0, .none⟩) x3_0.length (Int.toNat 4) v_1j, Chunk.own tInt f5_200 a5_200 n5_200 c5_200 x5_2a]) ?_ ?_
        ·
          rintro ⟨v_1j, fv_1j⟩ hx
          replace hx : v_1j = zy1 := hx.symm
          subst hx
          show En _ _ _ _ [(3, .pointer (some ⟨b0_0, 0, .none⟩)), (4, .pointer (some ⟨b0_1, 0, .none⟩)), (7, .slice (some ⟨b3_0, 0, .none⟩) x3_0.length (Int.toNat 4)), (40, .slice a5_200 n5_200 c5_200), (41, .int .i64 (x5_2a.length : Int)), (42, .int .i64 v1_0)] [Chunk.box b0_0 26 [.int .i64 a_p0.W, .int .i64 a_p0.H, .int .i64 a_p0.Back, .slice q0_0 a_p0.Surfaces.length k0_0], Chunk.box b0_1 28 [.int .i64 a_p1.Overlays, .bool a_p1.Cursor, .int .i64 a_p1.Layout, .bool a_p1.Partial, .bool a_p1.Sleep, .bool a_p1.Secret], Chunk.own tPlane fv_1j (some ⟨b3_0, 0, .none⟩) x3_0.length (Int.toNat 4) v_1j, Chunk.own tInt f5_200 a5_200 n5_200 c5_200 x5_2a]
          refine En.next ?_
          refine WC.region ?_
          refine Lt.ofWL.step rfl rfl rfl (OpV.addR rfl rfl) ?_
          refine Lt.ofWL.step rfl rfl rfl (OpV.move rfl) ?_
          refine WL.nil ?_
          exact En.backP zb0 zh0 fv_1j (Sub.cons rfl (Sub.cons rfl (Sub.cons rfl (Sub.cons rfl (Sub.cons rfl (Sub.cons rfl (Sub.nil _))))))) (fun _ h => h)
        ·
          intro zK1
          refine WC.block ?_
          refine WC.seq ?_
          refine WC.inh fun hin8 => ?_
          obtain ⟨x8_1, e8_1, ej1⟩ := bnd ej1
          obtain ⟨g8_1, ha8_1⟩ := ownAddr hin8 (.tail _ (.tail _ (.tail _ (.head _)))) e8_1
          have hn8_1 := ownLen hin8 (.tail _ (.tail _ (.tail _ (.head _))))
          refine WC.region ?_
          refine Lt.ofWL.step rfl rfl rfl (OpV.move rfl) ?_
          refine Lt.ofWL.step rfl rfl rfl (OpV.idxA rfl rfl se_32 ha8_1 ⟨(idx_some e8_1).1, by rw [hn8_1]; exact (idx_some e8_1).2.1⟩) ?_
          refine Lt.ofWL.step rfl rfl rfl (OpV.load1 rfl pt_3 (fun w hs => Rd.cell1 tInt_flat (Ow.rd (hs.mem (.tail _ (.tail _ (.tail _ (.head _)))))) e8_1 ha8_1 rfl)) ?_
          refine Lt.ofWL.step rfl rfl rfl (OpV.assign rfl) ?_
          refine Lt.ofWL.step rfl rfl rfl (OpV.assign rfl) ?_
          refine WL.nil ?_
          refine En.next ?_
          refine WC.seq ?_
          refine WC.seq ?_
          refine WC.region ?_
          refine Lt.ofWL.step rfl rfl rfl (OpV.move rfl) ?_
          refine Lt.ofWL.step rfl rfl rfl (OpV.lss rfl rfl) ?_
          refine WL.nil ?_
          refine En.next ?_
          refine WC.cond rfl ?_ ?_
          ·
            intro hc_3
            replace ej1 := ifO_t hc_3 ej1
            refine WC.exit ?_
            refine En.then_exit ?_
            refine En.block_exit ?_
            exact En.wk _ _ (Sub.cons rfl (Sub.cons rfl (Sub.cons rfl (Sub.cons rfl (Sub.cons rfl (Sub.cons rfl (Sub.nil _))))))) (fun _ h => h) (zK1 (v_0, fv_0) (Option.some.inj ej1).symm)
          ·
            intro hc_3
            replace ej1 := ifO_f hc_3 ej1
            refine WC.skip ?_
            refine En.next ?_
            refine WC.seq ?_
            obtain ⟨x10_3, e10_3, ej1⟩ := bnd ej1
            obtain ⟨g10_3, o10_3, _, ha10_3, ⟨a10_3_1, c10_3_1, rfl, r10_3_1⟩, hd10_3⟩ := Rd.atIdx r0_0 e10_3
            replace hd10_3 : ∀ (j : Nat) v, ([.int .i64 x10_3.Id, .int .i64 x10_3.X, .int .i64 x10_3.Y, .int .i64 x10_3.W, .int .i64 x10_3.H, .int .i64 x10_3.Alpha, .int .i64 x10_3.Orient, .bool x10_3.Visible, .int .i64 x10_3.Buffer.W, .int .i64 x10_3.Buffer.H, .slice a10_3_1 x10_3.Buffer.Data.length c10_3_1] : List Value)[j]? = some v → w.cell? ⟨g10_3, o10_3 + x8_1.toNat * 11 + j, .none⟩ = some v := hd10_3
            refine WC.region ?_
            refine Lt.ofWL.step rfl rfl rfl (OpV.fieldAddr rfl fo_26_3) ?_
            refine Lt.ofWL.step rfl rfl rfl (OpV.loadBox rfl pt_24 (.head _) rfl) ?_
            refine Lt.ofWL.step rfl rfl rfl (OpV.move rfl) ?_
            refine Lt.ofWL.step rfl rfl rfl (OpV.idxA rfl rfl se_24 ha10_3 ⟨(idx_some e10_3).1, (idx_some e10_3).2.1⟩) ?_
            refine Lt.ofWL.step rfl rfl rfl (OpV.loadN rfl ag_38 rfl (fun w hs => hs.cellsAt hd10_3)) ?_
            refine WL.heavy rfl rfl rfl (OpH.alloc zc_38 ?_)
            intro b10_5
            refine WL.heavy0 rfl rfl (OpH.storeTo (A := []) [_, _, _, _, _, _, _, _, _, _, _] rfl rfl rfl ts_38 rfl rfl rfl ?_)
            refine WL.nil ?_
            refine En.next ?_
            refine WC.seq ?_
            obtain ⟨x11_8, e11_8, ej1⟩ := bnd ej1
            refine WC.region ?_
            refine Lt.ofWL.step rfl rfl rfl (OpV.fieldAddr rfl fo_38_8) ?_
            refine Lt.ofWL.step rfl rfl rfl (OpV.loadPart rfl (.head _) ag_36 rfl rfl) ?_
            refine Lt.ofWL.step rfl rfl rfl (OpV.fieldAddr rfl fo_38_1) ?_
            refine Lt.ofWL.step rfl rfl rfl (OpV.loadBox rfl pt_3 (.head _) rfl) ?_
            refine Lt.ofWL.step rfl rfl rfl (OpV.fieldAddr rfl fo_38_2) ?_
            refine Lt.ofWL.step rfl rfl rfl (OpV.loadBox rfl pt_3 (.head _) rfl) ?_
            refine Lt.ofWL.step rfl rfl rfl (OpV.fieldAddr rfl fo_28_2) ?_
            refine Lt.ofWL.step rfl rfl rfl (OpV.loadBox rfl pt_3 (.tail _ (.tail _ (.head _))) rfl) ?_
            refine WL.heavy rfl rfl rfl (OpH.callR (evs.cons rfl (evs.cons rfl (evs.cons rfl (evs.cons rfl (evs.nil))))) ca_34 (fun w hs => w_impl_PlaneOf e11_8 (r10_3_1.ext hs.below)) ?_)
            rintro _ _ ⟨a11_800, n11_800, c11_800, f11_800, rfl, rfl⟩
            refine WL.heavy rfl rfl rfl (OpH.alloc zc_57 ?_)
            intro b11_9
            refine WL.heavy0 rfl rfl (OpH.storeTo (A := []) [_, _, _, _, _, _, _, _, _, _, _] rfl rfl rfl ts_57 rfl rfl rfl ?_)
            refine WL.nil ?_
            refine En.next ?_
            refine WC.seq ?_
            refine WC.drawnH [_] ([_, _, _, _, _, _]) (fun _ h => h) (by kernel_rfl) ?_
            refine WAE.take (i := 0) rfl (by kernel_rfl) (by kernel_rfl) (by kernel_rfl) rfl rfl rfl (OpV.fieldAddr rfl fo_38_5) ?_
            refine WAE.take (i := 1) rfl (by kernel_rfl) (by kernel_rfl) (by kernel_rfl) rfl rfl rfl (OpV.loadBox rfl pt_3 (.tail _ (.head _)) rfl) ?_
            refine WAE.take (i := 2) rfl (by kernel_rfl) (by kernel_rfl) (by kernel_rfl) rfl rfl rfl (OpV.fieldAddr rfl fo_38_6) ?_
            refine WAE.take (i := 3) rfl (by kernel_rfl) (by kernel_rfl) (by kernel_rfl) rfl rfl rfl (OpV.loadBox rfl pt_3 (.tail _ (.head _)) rfl) ?_
            refine WAE.take (i := 4) rfl (by kernel_rfl) (by kernel_rfl) (by kernel_rfl) rfl rfl rfl (OpV.fieldAddr rfl fo_38_3) ?_
            refine WAE.take (i := 5) rfl (by kernel_rfl) (by kernel_rfl) (by kernel_rfl) rfl rfl rfl (OpV.loadBox rfl pt_3 (.tail _ (.head _)) rfl) ?_
            refine WAE.take (i := 6) rfl (by kernel_rfl) (by kernel_rfl) (by kernel_rfl) rfl rfl rfl (OpV.fieldAddr rfl fo_38_4) ?_
            refine WAE.take (i := 7) rfl (by kernel_rfl) (by kernel_rfl) (by kernel_rfl) rfl rfl rfl (OpV.loadBox rfl pt_3 (.tail _ (.head _)) rfl) ?_
            refine WAE.take (i := 8) rfl (by kernel_rfl) (by kernel_rfl) (by kernel_rfl) rfl rfl rfl (OpV.fieldAddr rfl fo_57_7) ?_
            refine WAE.all (rs := [9]) (by kernel_rfl) rfl (AllR.cons0 rfl rfl rfl ?_ AllR.nil)
            refine OpH.storeTo (A := []) [_, _, _, _, _, _, _, _, _, _, _] rfl rfl rfl ts_3 rfl rfl rfl ?_
            refine ⟨[_], rfl, ?_⟩
            refine WAE.take (i := 10) rfl (by kernel_rfl) (by kernel_rfl) (by kernel_rfl) rfl rfl rfl (OpV.fieldAddr rfl fo_57_8) ?_
            refine WAE.all (rs := [11]) (by kernel_rfl) rfl (AllR.cons0 rfl rfl rfl ?_ AllR.nil)
            refine OpH.storeTo (A := []) [_, _, _, _, _, _, _, _, _, _, _] rfl rfl rfl ts_3 rfl rfl rfl ?_
            refine ⟨[_], rfl, ?_⟩
            refine WAE.take (i := 12) rfl (by kernel_rfl) (by kernel_rfl) (by kernel_rfl) rfl rfl rfl (OpV.fieldAddr rfl fo_57_9) ?_
            refine WAE.all (rs := [13]) (by kernel_rfl) rfl (AllR.cons0 rfl rfl rfl ?_ AllR.nil)
            refine OpH.storeTo (A := []) [_, _, _, _, _, _, _, _, _, _, _] rfl rfl rfl ts_3 rfl rfl rfl ?_
            refine ⟨[_], rfl, ?_⟩
            refine WAE.take (i := 14) rfl (by kernel_rfl) (by kernel_rfl) (by kernel_rfl) rfl rfl rfl (OpV.fieldAddr rfl fo_57_10) ?_
            refine WAE.all (rs := [15]) (by kernel_rfl) rfl (AllR.cons0 rfl rfl rfl ?_ AllR.nil)
            refine OpH.storeTo (A := []) [_, _, _, _, _, _, _, _, _, _, _] rfl rfl rfl ts_3 rfl rfl rfl ?_
            refine ⟨[_], rfl, ?_⟩
            refine WAE.rebase (H := []) ?_
            refine WAE.done (by kernel_rfl) ?_ _
            refine En.next ?_
            refine WC.inh fun hin13 => ?_
            have hn13_4 := ownLen hin13 (.tail _ (.tail _ (.tail _ (.tail _ (.tail _ (.head _))))))
            obtain ⟨x13_5, e13_5, ej1⟩ := bnd ej1
            obtain ⟨g13_4, ha13_4⟩ := ownAddrU hin13 (.tail _ (.tail _ (.tail _ (.tail _ (.tail _ (.head _)))))) e13_5
            refine WC.region ?_
            refine Lt.ofWL.step rfl rfl rfl (OpV.move rfl) ?_
            refine Lt.ofWL.step rfl rfl rfl (OpV.move rfl) ?_
            refine Lt.ofWL.step rfl rfl rfl (OpV.addR rfl rfl) ?_
            refine Lt.ofWL.step rfl rfl rfl (OpV.loadAll rfl (.head _) ag_57) ?_
            refine Lt.ofWL.step rfl rfl rfl (OpV.idxA rfl rfl se_53 ha13_4 ⟨(upd_some e13_5).1.1, by rw [hn13_4]; exact (upd_some e13_5).1.2⟩) ?_
            refine WL.wkF (fun _ h => h.perm (List.perm_middle (l₁ := [_]))) ?_
            refine WL.wkF (fun _ h => tPlane_mk x11_8.On x11_8.X x11_8.Y x11_8.W x11_8.H x11_8.Layout x11_8.Words x10_3.Alpha x10_3.Orient x10_3.W x10_3.H h) ?_
            refine WL.wkF (fun _ h => h.perm (List.perm_middle (l₁ := [_, _, _, _, _]))) ?_
            refine WL.wkF (fun _ h => h.perm (List.perm_middle (l₁ := [_]))) ?_
            refine WL.heavy0 rfl rfl (OpH.setEl (A := tPlane) ha13_4 rfl rfl rfl ts_57 e13_5 ?_)
            intro f13_5
            refine WL.nil ?_
            refine En.block_norm ?_
            exact En.wk _ _ (Sub.cons rfl (Sub.cons rfl (Sub.cons rfl (Sub.cons rfl (Sub.cons rfl (Sub.cons rfl (Sub.nil _))))))) (fun _ h => (((((h).perm (List.perm_middle (l₁ := [_, _, _, _, _]))).perm (List.perm_middle (l₁ := [_]))).perm (List.perm_middle (l₁ := [_, _, _, _, _]))).perm (List.perm_middle (l₁ := [_, _, _, _, _]))).sub (.cons_cons _ (.cons_cons _ (.cons_cons _ (.cons_cons _ (.cons _ (.cons _ (.slnil)))))))) (zK1 (x13_5, f13_5) (Option.some.inj ej1).symm)
      ·
        intro hc_2
        replace zh0 := ifO_f hc_2 zh0
        refine WC.exit ?_
        refine En.then_exit ?_
        refine En.then_exit ?_
        have hx := exitP ze0 zh0
        exact En.wk _ _ (Sub.cons rfl (Sub.nil _)) (fun _ h => ((h).perm (List.perm_middle (l₁ := [_, _]))).sub (.cons_cons _ (.cons _ (.cons _ (.cons _ (.slnil)))))) (zK0_0 (v_0, fv_0) hx.symm)

theorem w_laws_eqPlane {a_p0 : PlaneT} {b_p1 : PlaneT} {r : Bool} {q0_0 : Option Addr} {n0_0 k0_0 : Nat} {q1_0 : Option Addr} {n1_0 k1_0 : Nat} (h : laws_eqPlane a_p0 b_p1 = some r) {w : World} (r0_0 : Rd tInt w q0_0 n0_0 k0_0 a_p0.Words) (r1_0 : Rd tInt w q1_0 n1_0 k1_0 b_p1.Words)   :
    Calls Try.prog 44 #[.agg #[.bool a_p0.On, .int .i64 a_p0.X, .int .i64 a_p0.Y, .int .i64 a_p0.W, .int .i64 a_p0.H, .int .i64 a_p0.Layout, .slice q0_0 n0_0 k0_0, .int .i64 a_p0.Alpha, .int .i64 a_p0.Orient, .int .i64 a_p0.ToW, .int .i64 a_p0.ToH], .agg #[.bool b_p1.On, .int .i64 b_p1.X, .int .i64 b_p1.Y, .int .i64 b_p1.W, .int .i64 b_p1.H, .int .i64 b_p1.Layout, .slice q1_0 n1_0 k1_0, .int .i64 b_p1.Alpha, .int .i64 b_p1.Orient, .int .i64 b_p1.ToW, .int .i64 b_p1.ToH]] w (fun en w' => en = .returned (.bool r) ∧ Ext w w') := by
  obtain rfl := r0_0.1
  obtain rfl := r1_0.1
  unfold laws_eqPlane at h
  refine enter (vs := [_, _]) Try.func44 rfl rfl rfl rfl ?_
  refine WC.seq ?_
  refine WC.region ?_
  refine WL.heavy rfl rfl rfl (OpH.box rfl rfl ?_)
  intro b0_0
  refine WL.heavy rfl rfl rfl (OpH.box rfl rfl ?_)
  intro b0_1
  refine Lt.ofWL.step rfl rfl rfl (OpV.assign rfl) ?_
  refine WL.nil ?_
  refine En.next ?_
  refine WC.seq ?_
  refine WC.seq ?_
  refine WC.region ?_
  refine Lt.ofWL.step rfl rfl rfl (OpV.fieldAddr rfl fo_57_0) ?_
  refine Lt.ofWL.step rfl rfl rfl (OpV.loadBox rfl pt_4 (.tail _ (.head _)) rfl) ?_
  refine Lt.ofWL.step rfl rfl rfl (OpV.fieldAddr rfl fo_57_0) ?_
  refine Lt.ofWL.step rfl rfl rfl (OpV.loadBox rfl pt_4 (.head _) rfl) ?_
  refine Lt.ofWL.step rfl rfl rfl (OpV.bneq rfl rfl ub_4) ?_
  refine WL.nil ?_
  refine En.next ?_
  refine WC.cond rfl ?_ ?_
  ·
    intro hc_1
    replace h := ifO_t hc_1 h
    refine WC.seq ?_
    refine WC.region ?_
    refine Lt.ofWL.step rfl rfl rfl (OpV.assign rfl) ?_
    refine WL.nil ?_
    refine En.next ?_
    refine WC.ret ?_
    refine En.then_ret ?_
    refine En.ret1 rfl (Res.tmp rfl) ?_
    obtain rfl := Option.some.inj h
    intro w' hs
    exact ⟨rfl, hs.below⟩
  ·
    intro hc_1
    replace h := ifO_f hc_1 h
    refine WC.skip ?_
    refine En.next ?_
    refine WC.seq ?_
    refine WC.seq ?_
    refine WC.region ?_
    refine Lt.ofWL.step rfl rfl rfl (OpV.fieldAddr rfl fo_57_1) ?_
    refine Lt.ofWL.step rfl rfl rfl (OpV.loadBox rfl pt_3 (.tail _ (.head _)) rfl) ?_
    refine Lt.ofWL.step rfl rfl rfl (OpV.fieldAddr rfl fo_57_1) ?_
    refine Lt.ofWL.step rfl rfl rfl (OpV.loadBox rfl pt_3 (.head _) rfl) ?_
    refine Lt.ofWL.step rfl rfl rfl (OpV.neq rfl rfl) ?_
    refine WL.nil ?_
    refine En.next ?_
    refine WC.cond rfl ?_ ?_
    ·
      intro hc_2
      replace h := ifO_t hc_2 h
      refine WC.seq ?_
      refine WC.region ?_
      refine Lt.ofWL.step rfl rfl rfl (OpV.assign rfl) ?_
      refine WL.nil ?_
      refine En.next ?_
      refine WC.ret ?_
      refine En.then_ret ?_
      refine En.ret1 rfl (Res.tmp rfl) ?_
      obtain rfl := Option.some.inj h
      intro w' hs
      exact ⟨rfl, hs.below⟩
    ·
      intro hc_2
      replace h := ifO_f hc_2 h
      refine WC.skip ?_
      refine En.next ?_
      refine WC.seq ?_
      refine WC.seq ?_
      refine WC.region ?_
      refine Lt.ofWL.step rfl rfl rfl (OpV.fieldAddr rfl fo_57_2) ?_
      refine Lt.ofWL.step rfl rfl rfl (OpV.loadBox rfl pt_3 (.tail _ (.head _)) rfl) ?_
      refine Lt.ofWL.step rfl rfl rfl (OpV.fieldAddr rfl fo_57_2) ?_
      refine Lt.ofWL.step rfl rfl rfl (OpV.loadBox rfl pt_3 (.head _) rfl) ?_
      refine Lt.ofWL.step rfl rfl rfl (OpV.neq rfl rfl) ?_
      refine WL.nil ?_
      refine En.next ?_
      refine WC.cond rfl ?_ ?_
      ·
        intro hc_3
        replace h := ifO_t hc_3 h
        refine WC.seq ?_
        refine WC.region ?_
        refine Lt.ofWL.step rfl rfl rfl (OpV.assign rfl) ?_
        refine WL.nil ?_
        refine En.next ?_
        refine WC.ret ?_
        refine En.then_ret ?_
        refine En.ret1 rfl (Res.tmp rfl) ?_
        obtain rfl := Option.some.inj h
        intro w' hs
        exact ⟨rfl, hs.below⟩
      ·
        intro hc_3
        replace h := ifO_f hc_3 h
        refine WC.skip ?_
        refine En.next ?_
        refine WC.seq ?_
        refine WC.seq ?_
        refine WC.region ?_
        refine Lt.ofWL.step rfl rfl rfl (OpV.fieldAddr rfl fo_57_3) ?_
        refine Lt.ofWL.step rfl rfl rfl (OpV.loadBox rfl pt_3 (.tail _ (.head _)) rfl) ?_
        refine Lt.ofWL.step rfl rfl rfl (OpV.fieldAddr rfl fo_57_3) ?_
        refine Lt.ofWL.step rfl rfl rfl (OpV.loadBox rfl pt_3 (.head _) rfl) ?_
        refine Lt.ofWL.step rfl rfl rfl (OpV.neq rfl rfl) ?_
        refine WL.nil ?_
        refine En.next ?_
        refine WC.cond rfl ?_ ?_
        ·
          intro hc_4
          replace h := ifO_t hc_4 h
          refine WC.seq ?_
          refine WC.region ?_
          refine Lt.ofWL.step rfl rfl rfl (OpV.assign rfl) ?_
          refine WL.nil ?_
          refine En.next ?_
          refine WC.ret ?_
          refine En.then_ret ?_
          refine En.ret1 rfl (Res.tmp rfl) ?_
          obtain rfl := Option.some.inj h
          intro w' hs
          exact ⟨rfl, hs.below⟩
        ·
          intro hc_4
          replace h := ifO_f hc_4 h
          refine WC.skip ?_
          refine En.next ?_
          refine WC.seq ?_
          refine WC.seq ?_
          refine WC.region ?_
          refine Lt.ofWL.step rfl rfl rfl (OpV.fieldAddr rfl fo_57_4) ?_
          refine Lt.ofWL.step rfl rfl rfl (OpV.loadBox rfl pt_3 (.tail _ (.head _)) rfl) ?_
          refine Lt.ofWL.step rfl rfl rfl (OpV.fieldAddr rfl fo_57_4) ?_
          refine Lt.ofWL.step rfl rfl rfl (OpV.loadBox rfl pt_3 (.head _) rfl) ?_
          refine Lt.ofWL.step rfl rfl rfl (OpV.neq rfl rfl) ?_
          refine WL.nil ?_
          refine En.next ?_
          refine WC.cond rfl ?_ ?_
          ·
            intro hc_5
            replace h := ifO_t hc_5 h
            refine WC.seq ?_
            refine WC.region ?_
            refine Lt.ofWL.step rfl rfl rfl (OpV.assign rfl) ?_
            refine WL.nil ?_
            refine En.next ?_
            refine WC.ret ?_
            refine En.then_ret ?_
            refine En.ret1 rfl (Res.tmp rfl) ?_
            obtain rfl := Option.some.inj h
            intro w' hs
            exact ⟨rfl, hs.below⟩
          ·
            intro hc_5
            replace h := ifO_f hc_5 h
            refine WC.skip ?_
            refine En.next ?_
            refine WC.seq ?_
            refine WC.seq ?_
            refine WC.region ?_
            refine Lt.ofWL.step rfl rfl rfl (OpV.fieldAddr rfl fo_57_5) ?_
            refine Lt.ofWL.step rfl rfl rfl (OpV.loadBox rfl pt_3 (.tail _ (.head _)) rfl) ?_
            refine Lt.ofWL.step rfl rfl rfl (OpV.fieldAddr rfl fo_57_5) ?_
            refine Lt.ofWL.step rfl rfl rfl (OpV.loadBox rfl pt_3 (.head _) rfl) ?_
            refine Lt.ofWL.step rfl rfl rfl (OpV.neq rfl rfl) ?_
            refine WL.nil ?_
            refine En.next ?_
            refine WC.cond rfl ?_ ?_
            ·
              intro hc_6
              replace h := ifO_t hc_6 h
              refine WC.seq ?_
              refine WC.region ?_
              refine Lt.ofWL.step rfl rfl rfl (OpV.assign rfl) ?_
              refine WL.nil ?_
              refine En.next ?_
              refine WC.ret ?_
              refine En.then_ret ?_
              refine En.ret1 rfl (Res.tmp rfl) ?_
              obtain rfl := Option.some.inj h
              intro w' hs
              exact ⟨rfl, hs.below⟩
            ·
              intro hc_6
              replace h := ifO_f hc_6 h
              refine WC.skip ?_
              refine En.next ?_
              refine WC.seq ?_
              refine WC.seq ?_
              obtain ⟨x13_4, e13_4, h⟩ := bnd h
              refine WC.region ?_
              refine Lt.ofWL.step rfl rfl rfl (OpV.fieldAddr rfl fo_57_6) ?_
              refine Lt.ofWL.step rfl rfl rfl (OpV.loadBox rfl pt_32 (.tail _ (.head _)) rfl) ?_
              refine Lt.ofWL.step rfl rfl rfl (OpV.fieldAddr rfl fo_57_6) ?_
              refine Lt.ofWL.step rfl rfl rfl (OpV.loadBox rfl pt_32 (.head _) rfl) ?_
              refine Lt.ofWL.step rfl rfl rfl (OpV.call (evs.cons rfl (evs.cons rfl (evs.nil))) ca_25 (fun w hs => w_laws_eqIntS e13_4 (r0_0.ext hs.below) (r1_0.ext hs.below))) ?_
              refine Lt.ofWL.step rfl rfl rfl (OpV.not rfl) ?_
              refine WL.nil ?_
              refine En.next ?_
              refine WC.cond rfl ?_ ?_
              ·
                intro hc_7
                replace h := ifO_t hc_7 h
                refine WC.seq ?_
                refine WC.region ?_
                refine Lt.ofWL.step rfl rfl rfl (OpV.assign rfl) ?_
                refine WL.nil ?_
                refine En.next ?_
                refine WC.ret ?_
                refine En.then_ret ?_
                refine En.ret1 rfl (Res.tmp rfl) ?_
                obtain rfl := Option.some.inj h
                intro w' hs
                exact ⟨rfl, hs.below⟩
              ·
                intro hc_7
                replace h := ifO_f hc_7 h
                refine WC.skip ?_
                refine En.next ?_
                refine WC.seq ?_
                refine WC.seq ?_
                refine WC.region ?_
                refine Lt.ofWL.step rfl rfl rfl (OpV.fieldAddr rfl fo_57_7) ?_
                refine Lt.ofWL.step rfl rfl rfl (OpV.loadBox rfl pt_3 (.tail _ (.head _)) rfl) ?_
                refine Lt.ofWL.step rfl rfl rfl (OpV.fieldAddr rfl fo_57_7) ?_
                refine Lt.ofWL.step rfl rfl rfl (OpV.loadBox rfl pt_3 (.head _) rfl) ?_
                refine Lt.ofWL.step rfl rfl rfl (OpV.neq rfl rfl) ?_
                refine WL.nil ?_
                refine En.next ?_
                refine WC.cond rfl ?_ ?_
                ·
                  intro hc_8
                  replace h := ifO_t hc_8 h
                  refine WC.seq ?_
                  refine WC.region ?_
                  refine Lt.ofWL.step rfl rfl rfl (OpV.assign rfl) ?_
                  refine WL.nil ?_
                  refine En.next ?_
                  refine WC.ret ?_
                  refine En.then_ret ?_
                  refine En.ret1 rfl (Res.tmp rfl) ?_
                  obtain rfl := Option.some.inj h
                  intro w' hs
                  exact ⟨rfl, hs.below⟩
                ·
                  intro hc_8
                  replace h := ifO_f hc_8 h
                  refine WC.skip ?_
                  refine En.next ?_
                  refine WC.seq ?_
                  refine WC.seq ?_
                  refine WC.region ?_
                  refine Lt.ofWL.step rfl rfl rfl (OpV.fieldAddr rfl fo_57_8) ?_
                  refine Lt.ofWL.step rfl rfl rfl (OpV.loadBox rfl pt_3 (.tail _ (.head _)) rfl) ?_
                  refine Lt.ofWL.step rfl rfl rfl (OpV.fieldAddr rfl fo_57_8) ?_
                  refine Lt.ofWL.step rfl rfl rfl (OpV.loadBox rfl pt_3 (.head _) rfl) ?_
                  refine Lt.ofWL.step rfl rfl rfl (OpV.neq rfl rfl) ?_
                  refine WL.nil ?_
                  refine En.next ?_
                  refine WC.cond rfl ?_ ?_
                  ·
                    intro hc_9
                    replace h := ifO_t hc_9 h
                    refine WC.seq ?_
                    refine WC.region ?_
                    refine Lt.ofWL.step rfl rfl rfl (OpV.assign rfl) ?_
                    refine WL.nil ?_
                    refine En.next ?_
                    refine WC.ret ?_
                    refine En.then_ret ?_
                    refine En.ret1 rfl (Res.tmp rfl) ?_
                    obtain rfl := Option.some.inj h
                    intro w' hs
                    exact ⟨rfl, hs.below⟩
                  ·
                    intro hc_9
                    replace h := ifO_f hc_9 h
                    refine WC.skip ?_
                    refine En.next ?_
                    refine WC.seq ?_
                    refine WC.seq ?_
                    refine WC.region ?_
                    refine Lt.ofWL.step rfl rfl rfl (OpV.fieldAddr rfl fo_57_9) ?_
                    refine Lt.ofWL.step rfl rfl rfl (OpV.loadBox rfl pt_3 (.tail _ (.head _)) rfl) ?_
                    refine Lt.ofWL.step rfl rfl rfl (OpV.fieldAddr rfl fo_57_9) ?_
                    refine Lt.ofWL.step rfl rfl rfl (OpV.loadBox rfl pt_3 (.head _) rfl) ?_
                    refine Lt.ofWL.step rfl rfl rfl (OpV.neq rfl rfl) ?_
                    refine WL.nil ?_
                    refine En.next ?_
                    refine WC.cond rfl ?_ ?_
                    ·
                      intro hc_10
                      replace h := ifO_t hc_10 h
                      refine WC.seq ?_
                      refine WC.region ?_
                      refine Lt.ofWL.step rfl rfl rfl (OpV.assign rfl) ?_
                      refine WL.nil ?_
                      refine En.next ?_
                      refine WC.ret ?_
                      refine En.then_ret ?_
                      refine En.ret1 rfl (Res.tmp rfl) ?_
                      obtain rfl := Option.some.inj h
                      intro w' hs
                      exact ⟨rfl, hs.below⟩
                    ·
                      intro hc_10
                      replace h := ifO_f hc_10 h
                      refine WC.skip ?_
                      refine En.next ?_
                      refine WC.seq ?_
                      refine WC.seq ?_
                      refine WC.region ?_
                      refine Lt.ofWL.step rfl rfl rfl (OpV.fieldAddr rfl fo_57_10) ?_
                      refine Lt.ofWL.step rfl rfl rfl (OpV.loadBox rfl pt_3 (.tail _ (.head _)) rfl) ?_
                      refine Lt.ofWL.step rfl rfl rfl (OpV.fieldAddr rfl fo_57_10) ?_
                      refine Lt.ofWL.step rfl rfl rfl (OpV.loadBox rfl pt_3 (.head _) rfl) ?_
                      refine Lt.ofWL.step rfl rfl rfl (OpV.neq rfl rfl) ?_
                      refine WL.nil ?_
                      refine En.next ?_
                      refine WC.cond rfl ?_ ?_
                      ·
                        intro hc_11
                        replace h := ifO_t hc_11 h
                        refine WC.seq ?_
                        refine WC.region ?_
                        refine Lt.ofWL.step rfl rfl rfl (OpV.assign rfl) ?_
                        refine WL.nil ?_
                        refine En.next ?_
                        refine WC.ret ?_
                        refine En.then_ret ?_
                        refine En.ret1 rfl (Res.tmp rfl) ?_
                        obtain rfl := Option.some.inj h
                        intro w' hs
                        exact ⟨rfl, hs.below⟩
                      ·
                        intro hc_11
                        replace h := ifO_f hc_11 h
                        refine WC.skip ?_
                        refine En.next ?_
                        refine WC.seq ?_
                        refine WC.region ?_
                        refine Lt.ofWL.step rfl rfl rfl (OpV.assign rfl) ?_
                        refine WL.nil ?_
                        refine En.next ?_
                        refine WC.ret ?_
                        refine En.ret1 rfl (Res.tmp rfl) ?_
                        obtain rfl := Option.some.inj h
                        intro w' hs
                        exact ⟨rfl, hs.below⟩

end Go.Proofs.Ytkojfdgljmhmlaa
