/- Walks: the program computes the pure functions. -/
import Derived.Test.YtbdpbboonilhhaaW2
namespace Go.Proofs.Ytbdpbboonilhhaa
open Go.RowKit K
set_option maxRecDepth 100000
set_option maxHeartbeats 4000000

theorem w_impl_TestChanges {c_p0 : CrtcT} {list_p1 : List ChangeT} {r : CrtcT × Bool} {q0_0 : Option Addr} {l0_0 k0_0 : Nat} {q0_1 : Option Addr} {l0_1 k0_1 : Nat} {q0_2 : Option Addr} {l0_2 k0_2 : Nat} {q1_0 : Option Addr} {l1_0 k1_0 : Nat} (h : impl_TestChanges c_p0 list_p1 = some r) {w : World} (r0_0 : Rd tPlane w q0_0 l0_0 k0_0 c_p0.Planes) (r0_1 : Rd tInt w q0_1 l0_1 k0_1 c_p0.Color.Matrix) (r0_2 : Rd tInt w q0_2 l0_2 k0_2 c_p0.Color.Curve) (r1_0 : Rd tChange w q1_0 l1_0 k1_0 list_p1)   :
    Calls Try.prog 19 #[.agg #[.int .i64 c_p0.W, .int .i64 c_p0.H, .slice q0_0 l0_0 k0_0, .slice q0_1 l0_1 k0_1, .slice q0_2 l0_2 k0_2], .slice q1_0 l1_0 k1_0] w (fun en w' => ∃ rv G, en = .returned rv ∧ (∃ (a0_0 : Option Addr) (n0_0 : Nat) (c0_0 : Nat) (f0_0 : List Nat) (a0_1 : Option Addr) (n0_1 : Nat) (c0_1 : Nat) (f0_1 : List Nat) (a0_2 : Option Addr) (n0_2 : Nat) (c0_2 : Nat) (f0_2 : List Nat), rv = .tuple #[.agg #[.int .i64 r.1.W, .int .i64 r.1.H, .slice a0_0 n0_0 c0_0, .slice a0_1 n0_1 c0_1, .slice a0_2 n0_2 c0_2], .bool r.2] ∧ G = [Chunk.own tPlane f0_0 a0_0 n0_0 c0_0 r.1.Planes, Chunk.own tInt f0_1 a0_1 n0_1 c0_1 r.1.Color.Matrix, Chunk.own tInt f0_2 a0_2 n0_2 c0_2 r.1.Color.Curve]) ∧ St w G w') := by
  obtain rfl := r0_0.1
  obtain rfl := r0_1.1
  obtain rfl := r0_2.1
  obtain rfl := r1_0.1
  unfold impl_TestChanges at h
  refine enter (vs := [_, _]) Try.func19 rfl rfl rfl rfl ?_
  refine WC.sr ?_
  refine WL.heavy rfl rfl rfl (OpH.box rfl rfl ?_)
  intro b0_0
  refine WL.heavy rfl rfl rfl (OpH.alloc zc_41 ?_)
  intro b0_1
  refine ag ?_
  refine WL.nil (En.next (WC.seq ?_))
  obtain ⟨x1_1, e1_1, h⟩ := bnd h
  refine WC.region ?_
  refine sp (OpV.loadAll rfl mq1 ag_41) ?_
  refine WL.heavy rfl rfl rfl (OpH.callR (ec rfl e0) ca_68 (fun w hs => w_impl_copyCrtc e1_1 (r0_0.ext hs.below) (r0_1.ext hs.below) (r0_2.ext hs.below)) ?_)
  rintro _ _ ⟨a1_100, n1_100, c1_100, f1_100, a1_101, n1_101, c1_101, f1_101, a1_102, n1_102, c1_102, f1_102, rfl, rfl⟩
  refine WL.heavy rfl rfl rfl (OpH.alloc zc_41 ?_)
  intro b1_2
  refine WL.heavy0 rfl rfl (OpH.storeTo (A := []) [_, _, _, _, _] rfl rfl rfl ts_41 rfl rfl rfl ?_)
  refine WL.nil (En.next (WC.seq (WC.seq ?_)))
  obtain ⟨x2_1, e2_1, h⟩ := bnd h
  refine WC.region ?_
  refine sp (OpV.loadAll rfl mq5 ag_41) ?_
  refine sp (OpV.call (ec rfl e0) ca_21 (fun w hs => w_impl_CrtcOk e2_1 (r0_0.ext hs.below) (r0_1.ext hs.below) (r0_2.ext hs.below))) ?_
  refine sp (OpV.not rfl) ?_
  refine WL.nil (En.next ?_)
  refine WC.cond rfl ?_ ?_
  ·
    intro hc_1
    replace h := ifO_t hc_1 h
    refine WC.sr ?_
    refine sp (OpV.loadAll rfl mq0 ag_41) ?_
    refine WL.heavy0 rfl rfl (OpH.storeTo (A := [_, _, _, _]) [_, _, _, _, _] rfl rfl rfl ts_41 rfl rfl rfl ?_)
    refine ag ?_
    refine WL.nil (En.next (WC.ret (En.then_ret ?_)))
    refine En.ret2 rfl (Res.cell rfl mq4 ag_41) (Res.tmp rfl) ?_
    obtain rfl := Option.some.inj h
    intro w' hs
    have hs := ((((hs).pm 3).pm 3).pm 3).sub (.cons_cons _ (.cons_cons _ (.cons_cons _ (.cons _ (.cons _ (.cons _ (.slnil)))))))
    exact ⟨_, _, rfl, ⟨a1_100, n1_100, c1_100, f1_100, a1_101, n1_101, c1_101, f1_101, a1_102, n1_102, c1_102, f1_102, rfl, rfl⟩, hs⟩
  ·
    intro hc_1
    replace h := ifO_f hc_1 h
    refine WC.skip (En.next (WC.seq (WC.sr ?_)))
    refine mv ?_
    refine sp (OpV.len rfl si_42 rfl) ?_
    refine mv ?_
    refine WL.nil (En.next (WC.block ?_))
    obtain ⟨zy0, ezy0, h⟩ := bnd h
    refine WC.cut (X := ((List PlaneT) × (List Int) × (List Int)) × ((List Nat) × (Option Addr) × Nat × Nat × (List Nat) × (Option Addr) × Nat × Nat × (List Nat))) (.exit 0) (fun x => zy0 = .inl x.1) (fun x => match x with | ((out_0e, out1_0e, out2_0e), (fout_0e, aout_0e, nout_0e, cout_0e, fout1_0e, aout1_0e, nout1_0e, cout1_0e, fout2_0e)) => [(2, .pointer (some ⟨b0_0, 0, .none⟩)), (4, .pointer (some ⟨b0_1, 0, .none⟩)), (6, .pointer (some ⟨b1_2, 0, .none⟩))]) (fun x => match x with | ((out_0e, out1_0e, out2_0e), (fout_0e, aout_0e, nout_0e, cout_0e, fout1_0e, aout1_0e, nout1_0e, cout1_0e, fout2_0e)) => [Chunk.box b0_0 41 [.int .i64 c_p0.W, .int .i64 c_p0.H, .slice q0_0 c_p0.Planes.length k0_0, .slice q0_1 c_p0.Color.Matrix.length k0_1, .slice q0_2 c_p0.Color.Curve.length k0_2], Chunk.box b0_1 41 [.int .i64 0, .int .i64 0, .slice .none 0 0, .slice .none 0 0, .slice .none 0 0], Chunk.box b1_2 41 [.int .i64 x1_1.W, .int .i64 x1_1.H, .slice a1_100 n1_100 c1_100, .slice aout_0e nout_0e cout_0e, .slice aout1_0e nout1_0e cout1_0e], Chunk.own tPlane fout_0e a1_100 n1_100 c1_100 out_0e, Chunk.own tInt fout1_0e aout_0e nout_0e cout_0e out1_0e, Chunk.own tInt fout2_0e aout1_0e nout1_0e cout1_0e out2_0e]) ?_ ?_
    ·
      rintro ⟨⟨out_0e, out1_0e, out2_0e⟩, ⟨fout_0e, aout_0e, nout_0e, cout_0e, fout1_0e, aout1_0e, nout1_0e, cout1_0e, fout2_0e⟩⟩ hx
      replace hx : .inl (out_0e, out1_0e, out2_0e) = zy0 := hx.symm
      subst hx
      replace h := fork_l h
      show En _ _ _ _ [(2, .pointer (some ⟨b0_0, 0, .none⟩)), (4, .pointer (some ⟨b0_1, 0, .none⟩)), (6, .pointer (some ⟨b1_2, 0, .none⟩))] [Chunk.box b0_0 41 [.int .i64 c_p0.W, .int .i64 c_p0.H, .slice q0_0 c_p0.Planes.length k0_0, .slice q0_1 c_p0.Color.Matrix.length k0_1, .slice q0_2 c_p0.Color.Curve.length k0_2], Chunk.box b0_1 41 [.int .i64 0, .int .i64 0, .slice .none 0 0, .slice .none 0 0, .slice .none 0 0], Chunk.box b1_2 41 [.int .i64 x1_1.W, .int .i64 x1_1.H, .slice a1_100 n1_100 c1_100, .slice aout_0e nout_0e cout_0e, .slice aout1_0e nout1_0e cout1_0e], Chunk.own tPlane fout_0e a1_100 n1_100 c1_100 out_0e, Chunk.own tInt fout1_0e aout_0e nout_0e cout_0e out1_0e, Chunk.own tInt fout2_0e aout1_0e nout1_0e cout1_0e out2_0e]
      refine En.block_exit (En.next (WC.seq (WC.seq ?_)))
      obtain ⟨x13_1, e13_1, h⟩ := bnd h
      refine WC.region ?_
      refine sp (OpV.loadAll rfl mq2 ag_41) ?_
      refine sp (OpV.call (ec rfl e0) ca_21 (fun w hs => w_impl_CrtcOk e13_1 (Ow.rd (hs.mem mq3)) (Ow.rd (hs.mem mq4)) (Ow.rd (hs.mem mq5)))) ?_
      refine sp (OpV.not rfl) ?_
      refine WL.nil (En.next ?_)
      refine WC.cond rfl ?_ ?_
      ·
        intro hc_2
        replace h := ifO_t hc_2 h
        refine WC.seq ?_
        obtain ⟨x14_1, e14_1, h⟩ := bnd h
        refine WC.region ?_
        refine sp (OpV.loadAll rfl mq0 ag_41) ?_
        refine WL.heavy rfl rfl rfl (OpH.callR (ec rfl e0) ca_68 (fun w hs => w_impl_copyCrtc e14_1 (r0_0.ext hs.below) (r0_1.ext hs.below) (r0_2.ext hs.below)) ?_)
        rintro _ _ ⟨a14_100, n14_100, c14_100, f14_100, a14_101, n14_101, c14_101, f14_101, a14_102, n14_102, c14_102, f14_102, rfl, rfl⟩
        refine WL.heavy0 rfl rfl (OpH.storeTo (A := [_, _, _, _]) [_, _, _, _, _] rfl rfl rfl ts_41 rfl rfl rfl ?_)
        refine ag ?_
        refine WL.nil (En.next (WC.ret (En.then_ret ?_)))
        refine En.ret2 rfl (Res.cell rfl mq4 ag_41) (Res.tmp rfl) ?_
        obtain rfl := Option.some.inj h
        intro w' hs
        have hs := (hs).sub (.cons_cons _ (.cons_cons _ (.cons_cons _ (.cons _ (.cons _ (.cons _ (.cons _ (.cons _ (.cons _ (.slnil))))))))))
        exact ⟨_, _, rfl, ⟨a14_100, n14_100, c14_100, f14_100, a14_101, n14_101, c14_101, f14_101, a14_102, n14_102, c14_102, f14_102, rfl, rfl⟩, hs⟩
      ·
        intro hc_2
        replace h := ifO_f hc_2 h
        refine WC.skip (En.next (WC.sr ?_))
        refine sp (OpV.loadAll rfl mq2 ag_41) ?_
        refine WL.heavy0 rfl rfl (OpH.storeTo (A := [_]) [_, _, _, _, _] rfl rfl rfl ts_41 rfl rfl rfl ?_)
        refine ag ?_
        refine WL.nil (En.next (WC.ret ?_))
        refine En.ret2 rfl (Res.cell rfl mq1 ag_41) (Res.tmp rfl) ?_
        obtain rfl := Option.some.inj h
        intro w' hs
        have hs := ((((hs).pm 5).pm 5).pm 5).sub (.cons_cons _ (.cons_cons _ (.cons_cons _ (.cons _ (.cons _ (.cons _ (.slnil)))))))
        exact ⟨_, _, rfl, ⟨a1_100, n1_100, c1_100, fout_0e, aout_0e, nout_0e, cout_0e, fout1_0e, aout1_0e, nout1_0e, cout1_0e, fout2_0e, rfl, rfl⟩, hs⟩
    ·
      intro zK0_0
      refine WC.loopP (G := (List Nat) × (Option Addr) × Nat × Nat × (List Nat) × (Option Addr) × Nat × Nat × (List Nat)) (fun s g => match s, g with | (out_0, out1_0, out2_0, v_0), (fout_0, aout_0, nout_0, cout_0, fout1_0, aout1_0, nout1_0, cout1_0, fout2_0) => [(2, .pointer (some ⟨b0_0, 0, .none⟩)), (4, .pointer (some ⟨b0_1, 0, .none⟩)), (6, .pointer (some ⟨b1_2, 0, .none⟩)), (15, .slice q1_0 list_p1.length k1_0), (16, .int .i64 (list_p1.length : Int)), (17, .int .i64 v_0)]) (fun s g => match s, g with | (out_0, out1_0, out2_0, v_0), (fout_0, aout_0, nout_0, cout_0, fout1_0, aout1_0, nout1_0, cout1_0, fout2_0) => [Chunk.box b0_0 41 [.int .i64 c_p0.W, .int .i64 c_p0.H, .slice q0_0 c_p0.Planes.length k0_0, .slice q0_1 c_p0.Color.Matrix.length k0_1, .slice q0_2 c_p0.Color.Curve.length k0_2], Chunk.box b0_1 41 [.int .i64 0, .int .i64 0, .slice .none 0 0, .slice .none 0 0, .slice .none 0 0], Chunk.box b1_2 41 [.int .i64 x1_1.W, .int .i64 x1_1.H, .slice a1_100 n1_100 c1_100, .slice aout_0 nout_0 cout_0, .slice aout1_0 nout1_0 cout1_0], Chunk.own tPlane fout_0 a1_100 n1_100 c1_100 out_0, Chunk.own tInt fout1_0 aout_0 nout_0 cout_0 out1_0, Chunk.own tInt fout2_0 aout1_0 nout1_0 cout1_0 out2_0]) (x1_1.Planes, x1_1.Color.Matrix, x1_1.Color.Curve, 0) (f1_100, a1_101, n1_101, c1_101, f1_101, a1_102, n1_102, c1_102, f1_102) ezy0 (by exact sc (sc (sc (sc (sc (sc sn)))))) (by exact (fun _ h => ((((((h).pm 3).pm 3).pm 3).pm 3).pm 4).pm 5)) ?_
      rintro zm0 ⟨out_0, out1_0, out2_0, v_0⟩ ⟨fout_0, aout_0, nout_0, cout_0, fout1_0, aout1_0, nout1_0, cout1_0, fout2_0⟩ zo0 zf0 zb0 ze0
      have zh0 : impl_TestChanges_L0 c_p0 list_p1 out_0 out1_0 out2_0 v_0 = some zo0 := zf0
      unfold impl_TestChanges_L0 at zh0
      show WC _ _ _ _ _ [(2, .pointer (some ⟨b0_0, 0, .none⟩)), (4, .pointer (some ⟨b0_1, 0, .none⟩)), (6, .pointer (some ⟨b1_2, 0, .none⟩)), (15, .slice q1_0 list_p1.length k1_0), (16, .int .i64 (list_p1.length : Int)), (17, .int .i64 v_0)] [Chunk.box b0_0 41 [.int .i64 c_p0.W, .int .i64 c_p0.H, .slice q0_0 c_p0.Planes.length k0_0, .slice q0_1 c_p0.Color.Matrix.length k0_1, .slice q0_2 c_p0.Color.Curve.length k0_2], Chunk.box b0_1 41 [.int .i64 0, .int .i64 0, .slice .none 0 0, .slice .none 0 0, .slice .none 0 0], Chunk.box b1_2 41 [.int .i64 x1_1.W, .int .i64 x1_1.H, .slice a1_100 n1_100 c1_100, .slice aout_0 nout_0 cout_0, .slice aout1_0 nout1_0 cout1_0], Chunk.own tPlane fout_0 a1_100 n1_100 c1_100 out_0, Chunk.own tInt fout1_0 aout_0 nout_0 cout_0 out1_0, Chunk.own tInt fout2_0 aout1_0 nout1_0 cout1_0 out2_0]
      refine WC.sr ?_
      refine sp (OpV.lss rfl rfl) ?_
      refine WL.nil (En.next (WC.seq ?_))
      refine WC.cond rfl ?_ ?_
      ·
        intro hc_3
        replace zh0 := ifO_t hc_3 zh0
        refine WC.skip (En.next (WC.seq (WC.block (WC.seq ?_))))
        obtain ⟨x6_0, e6_0, zh0⟩ := bnd zh0
        obtain ⟨g6_0, o6_0, _, ha6_0, ⟨a6_0_1, c6_0_1, a6_0_2, c6_0_2, a6_0_3, c6_0_3, rfl, r6_0_1, r6_0_2, r6_0_3⟩, hd6_0⟩ := Rd.atIdx r1_0 e6_0
        replace hd6_0 : ∀ (j : Nat) v, ([.int .i64 x6_0.Plane, .bool x6_0.Value.On, .int .i64 x6_0.Value.X, .int .i64 x6_0.Value.Y, .int .i64 x6_0.Value.W, .int .i64 x6_0.Value.H, .int .i64 x6_0.Value.Layout, .slice a6_0_1 x6_0.Value.Words.length c6_0_1, .int .i64 x6_0.Value.Alpha, .int .i64 x6_0.Value.Orient, .int .i64 x6_0.Value.ToW, .int .i64 x6_0.Value.ToH, .slice a6_0_2 x6_0.Color.Matrix.length c6_0_2, .slice a6_0_3 x6_0.Color.Curve.length c6_0_3] : List Value)[j]? = some v → w.cell? ⟨g6_0, o6_0 + v_0.toNat * 14 + j, .none⟩ = some v := hd6_0
        refine WC.region ?_
        refine sp (OpV.idxA rfl rfl se_42 ha6_0 ⟨(idx_some e6_0).1, (idx_some e6_0).2.1⟩) ?_
        refine sp (OpV.loadN rfl ag_49 rfl (fun w hs => hs.cellsAt hd6_0)) ?_
        refine WL.heavy rfl rfl rfl (OpH.alloc zc_49 ?_)
        intro b6_2
        refine WL.heavy0 rfl rfl (OpH.storeTo (A := []) [_, _, _, _, _, _, _, _, _, _, _, _, _, _] rfl rfl rfl ts_49 rfl rfl rfl ?_)
        refine WL.nil (En.next (WC.block (WC.seq ?_)))
        obtain ⟨x8_1, e8_1, zh0⟩ := bnd zh0
        refine WC.region ?_
        refine sp (OpV.loadAll rfl mq0 ag_49) ?_
        refine sp (OpV.call (ec rfl e0) ca_69 (fun w hs => w_impl_ChangeOk e8_1 (r6_0_1.ext hs.below) (r6_0_2.ext hs.below) (r6_0_3.ext hs.below))) ?_
        refine sp (OpV.not rfl) ?_
        refine ag ?_
        refine WL.nil (En.next ?_)
        refine WC.cond rfl ?_ ?_
        ·
          intro hc_4
          replace zh0 := ifO_t hc_4 zh0
          refine WC.seq ?_
          obtain ⟨x9_1, e9_1, zh0⟩ := bnd zh0
          refine WC.region ?_
          refine sp (OpV.loadAll rfl mq1 ag_41) ?_
          refine WL.heavy rfl rfl rfl (OpH.callR (ec rfl e0) ca_68 (fun w hs => w_impl_copyCrtc e9_1 (r0_0.ext hs.below) (r0_1.ext hs.below) (r0_2.ext hs.below)) ?_)
          rintro _ _ ⟨a9_100, n9_100, c9_100, f9_100, a9_101, n9_101, c9_101, f9_101, a9_102, n9_102, c9_102, f9_102, rfl, rfl⟩
          refine WL.heavy0 rfl rfl (OpH.storeTo (A := [_, _, _, _, _]) [_, _, _, _, _] rfl rfl rfl ts_41 rfl rfl rfl ?_)
          refine ag ?_
          refine WL.nil (En.next (WC.ret (En.block_ret (En.block_ret (En.then_ret (En.then_ret (En.block_ret (En.then_ret ?_))))))))
          refine En.ret2 rfl (Res.cell rfl mq5 ag_41) (Res.tmp rfl) ?_
          have hx := exitP ze0 zh0
          subst hx
          replace h := fork_r h
          obtain rfl := Option.some.inj h
          intro w' hs
          have hs := (hs).sub (.cons_cons _ (.cons_cons _ (.cons_cons _ (.cons _ (.cons _ (.cons _ (.cons _ (.cons _ (.cons _ (.cons _ (.slnil)))))))))))
          exact ⟨_, _, rfl, ⟨a9_100, n9_100, c9_100, f9_100, a9_101, n9_101, c9_101, f9_101, a9_102, n9_102, c9_102, f9_102, rfl, rfl⟩, hs⟩
        ·
          intro hc_4
          replace zh0 := ifO_f hc_4 zh0
          refine WC.sr ?_
          refine sp (OpV.fieldAddr rfl fo_49_0) ?_
          refine sp (OpV.loadBox rfl pt_3 mq0 rfl) ?_
          refine sp (OpV.lss rfl rfl) ?_
          refine ag ?_
          refine WL.nil (En.next ?_)
          refine WC.cond rfl ?_ ?_
          ·
            intro hc_5
            replace zh0 := ifO_t hc_5 zh0
            obtain ⟨x11_2, e11_2, zh0⟩ := bnd zh0
            refine WC.region ?_
            refine sp (OpV.fieldAddr rfl fo_49_2) ?_
            refine sp (OpV.loadPart rfl mq0 ag_39 rfl rfl) ?_
            refine WL.heavy rfl rfl rfl (OpH.callR (ec rfl e0) ca_70 (fun w hs => w_impl_copyColor e11_2 (r6_0_2.ext hs.below) (r6_0_3.ext hs.below)) ?_)
            rintro _ _ ⟨a11_200, n11_200, c11_200, f11_200, a11_201, n11_201, c11_201, f11_201, rfl, rfl⟩
            refine sp (OpV.fieldAddr rfl fo_41_3) ?_
            refine WL.heavy0 rfl rfl (OpH.storeTo (A := [_, _, _, _, _]) [_, _, _, _, _] rfl rfl rfl ts_39 rfl rfl rfl ?_)
            refine WL.nil (En.block_norm (En.block_norm (En.next (WC.region ?_))))
            refine sp (OpV.addR rfl rfl) ?_
            refine mv ?_
            refine WL.nil ?_
            exact En.backP zb0 zh0 (fout_0, a11_200, n11_200, c11_200, f11_200, a11_201, n11_201, c11_201, f11_201) (sc (sc (sc (sc (sc (sc sn)))))) (fun _ h => (((((((h).pm 1).pm 1).pm 6).pm 6).pm 6).pm 6).sub (.cons_cons _ (.cons_cons _ (.cons_cons _ (.cons_cons _ (.cons_cons _ (.cons_cons _ (.cons _ (.cons _ (.cons _ (.slnil)))))))))))
          ·
            intro hc_5
            replace zh0 := ifO_f hc_5 zh0
            refine WC.inh fun hin7 => ?_
            obtain ⟨x7_7, e7_7, zh0⟩ := bnd zh0
            obtain ⟨x7_8, e7_8, zh0⟩ := bnd zh0
            have hn7_10 := ownLen hin7 mq4
            obtain ⟨x7_11, e7_11, zh0⟩ := bnd zh0
            obtain ⟨g7_10, o7_10, ha7_10⟩ := ownAddrU hin7 mq4 e7_11
            refine WC.wkF (fun _ h => h.pm 4) ?_
            refine WC.drawnH [_] ([_, _, _, _, _, _]) (fun _ h => h) (by kernel_rfl) ?_
            refine tk 0 rfl (OpV.fieldAddr rfl fo_41_2) ?_
            refine tk 1 rfl (OpV.loadBox rfl pt_24 mq3 rfl) ?_
            refine tk 2 rfl (OpV.fieldAddr rfl fo_49_0) ?_
            refine tk 3 rfl (OpV.loadBox rfl pt_3 mq0 rfl) ?_
            refine tk 4 rfl (OpV.fieldAddr rfl fo_49_1) ?_
            refine tk 5 rfl (OpV.loadPart rfl mq0 ag_30 rfl rfl) ?_
            refine al1 6 rfl ?_
            refine OpH.buildSlice (evps.cons rfl (evps.nil)) (bs_24_1_0 _ _ _ _ _ _ _ _ _ _ _ _ _) ?_
            intro b7_6
            refine ⟨[_, _], rfl, ?_⟩
            refine al1 7 rfl ?_
            refine OpH.post (K := fun v F' => ∃ (a7_700 : Option Addr) (n7_700 c7_700 : Nat) (f7_700 : List Nat), v = .slice a7_700 n7_700 c7_700 ∧ F' = Chunk.own tPlane f7_700 a7_700 n7_700 c7_700 x7_7 :: [Chunk.box b7_6 30 [.bool x6_0.Value.On, .int .i64 x6_0.Value.X, .int .i64 x6_0.Value.Y, .int .i64 x6_0.Value.W, .int .i64 x6_0.Value.H, .int .i64 x6_0.Value.Layout, .slice a6_0_1 x6_0.Value.Words.length c6_0_1, .int .i64 x6_0.Value.Alpha, .int .i64 x6_0.Value.Orient, .int .i64 x6_0.Value.ToW, .int .i64 x6_0.Value.ToH], Chunk.own tPlane fout_0 a1_100 n1_100 c1_100 out_0, Chunk.box b6_2 49 [.int .i64 x6_0.Plane, .bool x6_0.Value.On, .int .i64 x6_0.Value.X, .int .i64 x6_0.Value.Y, .int .i64 x6_0.Value.W, .int .i64 x6_0.Value.H, .int .i64 x6_0.Value.Layout, .slice a6_0_1 x6_0.Value.Words.length c6_0_1, .int .i64 x6_0.Value.Alpha, .int .i64 x6_0.Value.Orient, .int .i64 x6_0.Value.ToW, .int .i64 x6_0.Value.ToH, .slice a6_0_2 x6_0.Color.Matrix.length c6_0_2, .slice a6_0_3 x6_0.Color.Curve.length c6_0_3], Chunk.box b0_0 41 [.int .i64 c_p0.W, .int .i64 c_p0.H, .slice q0_0 c_p0.Planes.length k0_0, .slice q0_1 c_p0.Color.Matrix.length k0_1, .slice q0_2 c_p0.Color.Curve.length k0_2], Chunk.box b0_1 41 [.int .i64 0, .int .i64 0, .slice .none 0 0, .slice .none 0 0, .slice .none 0 0], Chunk.box b1_2 41 [.int .i64 x1_1.W, .int .i64 x1_1.H, .slice a1_100 n1_100 c1_100, .slice aout_0 nout_0 cout_0, .slice aout1_0 nout1_0 cout1_0], Chunk.own tInt fout1_0 aout_0 nout_0 cout_0 out1_0, Chunk.own tInt fout2_0 aout1_0 nout1_0 cout1_0 out2_0]) (OpH.callR (ec rfl e0) ca_71 (fun w hs => w_impl_copyPlanes e7_7 (Rd.lit1 (hs.mem mq0) ⟨_, _, rfl, (r6_0_1.ext hs.below)⟩)) ?_) ?_
            · rintro _ _ ⟨a7_700, n7_700, c7_700, f7_700, rfl, rfl⟩
              exact ⟨_, _, _, _, rfl, rfl⟩
            rintro _ _ w' ⟨a7_700, n7_700, c7_700, f7_700, rfl, rfl⟩ hs
            have hn7_8 := ownLen ⟨w', hs⟩ mq0
            obtain ⟨g7_8, go7_8, rfl⟩ := ownAddr ⟨w', hs⟩ mq0 e7_8
            obtain ⟨⟨css7_8, fps7_8, cs7_8, fz7_8⟩, ⟨hcs7_8, hk7_8⟩, hs⟩ := St.focus (F := []) e7_8 hs
            obtain ⟨a7_8_0, c7_8_0, f7_8_0, hz7_8, hs⟩ := tPlane_open (F := []) hs
            subst hz7_8
            refine ⟨_, ?_, hs⟩
            refine ⟨[_, _, _, _, _], rfl, ?_⟩
            refine tk 8 rfl (OpV.idxA rfl rfl se_24 rfl ⟨(idx_some e7_8).1, by rw [hn7_8]; exact (idx_some e7_8).2.1⟩) ?_
            refine al1 9 rfl ?_
            refine OpH.light (OpV.loadN (l := [.bool x7_8.On, .int .i64 x7_8.X, .int .i64 x7_8.Y, .int .i64 x7_8.W, .int .i64 x7_8.H, .int .i64 x7_8.Layout, .slice a7_8_0 x7_8.Words.length c7_8_0, .int .i64 x7_8.Alpha, .int .i64 x7_8.Orient, .int .i64 x7_8.ToW, .int .i64 x7_8.ToH]) rfl ag_30 rfl (fun w hs j v hj => by rw [Addr.add_lit]; exact focCell (hs.mem mq1) hk7_8 hcs7_8 rfl hj)) ?_
            refine ⟨[_, _, _, _, _], rfl, ?_⟩
            refine tk 10 rfl (OpV.idxA rfl rfl se_24 ha7_10 ⟨(upd_some e7_11).1.1, by rw [hn7_10]; exact (upd_some e7_11).1.2⟩) ?_
            refine al0 11 rfl ?_
            refine OpH.wkF (fun _ h => tPlane_mk x7_8.On x7_8.X x7_8.Y x7_8.W x7_8.H x7_8.Layout x7_8.Words x7_8.Alpha x7_8.Orient x7_8.ToW x7_8.ToH h) ?_
            refine OpH.wkF (fun _ h => h.pm 4) ?_
            refine OpH.wkF (fun _ h => h.pm 1) ?_
            refine OpH.setEl (A := tPlane) ha7_10 rfl rfl rfl ts_30 e7_11 ?_
            intro f7_11
            refine ⟨[_, _, _, _], rfl, ?_⟩
            refine WAE.rebase (H := []) ?_
            refine WAE.done (by kernel_rfl) ?_ _
            refine En.block_norm (En.block_norm (En.next (WC.region ?_)))
            refine sp (OpV.addR rfl rfl) ?_
            refine mv ?_
            refine WL.nil ?_
            exact En.backP zb0 zh0 (f7_11, aout_0, nout_0, cout_0, fout1_0, aout1_0, nout1_0, cout1_0, fout2_0) (sc (sc (sc (sc (sc (sc sn)))))) (fun _ h => (((((((h).pm 9).pm 9).pm 2).pm 9).pm 9).pm 9).sub (.cons_cons _ (.cons_cons _ (.cons_cons _ (.cons_cons _ (.cons_cons _ (.cons_cons _ (.cons _ (.cons _ (.cons _ (.cons _ (.slnil))))))))))))
      ·
        intro hc_3
        replace zh0 := ifO_f hc_3 zh0
        refine WC.exit (En.then_exit (En.then_exit ?_))
        have hx := exitP ze0 zh0
        exact En.wk _ _ (sc (sc (sc sn))) (fun _ h => h) (zK0_0 ((out_0, out1_0, out2_0), (fout_0, aout_0, nout_0, cout_0, fout1_0, aout1_0, nout1_0, cout1_0, fout2_0)) hx.symm)

theorem w_slices_EqualFunc_S_impl_Plane_S_impl_Plane_impl_Plane_impl_Plane {s1_p0 : List PlaneT} {s2_p1 : List PlaneT} {eq_p2 : PlaneT → PlaneT → Option Bool} {r : Bool} {q0_0 : Option Addr} {l0_0 k0_0 : Nat} {q1_0 : Option Addr} {l1_0 k1_0 : Nat} {fv2 : Value} (h : slices_EqualFunc_S_impl_Plane_S_impl_Plane_impl_Plane_impl_Plane s1_p0 s2_p1 eq_p2 = some r) {w : World} (r0_0 : Rd tPlane w q0_0 l0_0 k0_0 s1_p0) (r1_0 : Rd tPlane w q1_0 l1_0 k1_0 s2_p1)  (hF2 : ∀ {y0 : PlaneT} {y1 : PlaneT} {r1 : Bool} {qa0 : Option Addr} {na0 ka0 : Nat} {qa1 : Option Addr} {na1 ka1 : Nat} {w1 : World}, Ext w w1 → eq_p2 y0 y1 = some r1 → Rd tInt w1 qa0 na0 ka0 y0.Words → Rd tInt w1 qa1 na1 ka1 y1.Words → CallsV Try.prog fv2 [.agg #[.bool y0.On, .int .i64 y0.X, .int .i64 y0.Y, .int .i64 y0.W, .int .i64 y0.H, .int .i64 y0.Layout, .slice qa0 na0 ka0, .int .i64 y0.Alpha, .int .i64 y0.Orient, .int .i64 y0.ToW, .int .i64 y0.ToH], .agg #[.bool y1.On, .int .i64 y1.X, .int .i64 y1.Y, .int .i64 y1.W, .int .i64 y1.H, .int .i64 y1.Layout, .slice qa1 na1 ka1, .int .i64 y1.Alpha, .int .i64 y1.Orient, .int .i64 y1.ToW, .int .i64 y1.ToH]] w1 (fun en w2 => en = .returned (.bool r1) ∧ Ext w1 w2)) :
    Calls Try.prog 72 #[.slice q0_0 l0_0 k0_0, .slice q1_0 l1_0 k1_0, fv2] w (fun en w' => en = .returned (.bool r) ∧ Ext w w') := by
 obtain rfl := r0_0.1
 obtain rfl := r1_0.1
 unfold slices_EqualFunc_S_impl_Plane_S_impl_Plane_impl_Plane_impl_Plane at h
 refine enter (vs := [_, _, _]) Try.func72 rfl rfl rfl rfl ?_
 refine WC.sr ?_
 refine ag ?_
 refine WL.nil (En.next (WC.seq (WC.sr ?_)))
 refine mv ?_
 refine sp (OpV.len rfl si_24 rfl) ?_
 refine mv ?_
 refine sp (OpV.len rfl si_24 rfl) ?_
 refine sp (OpV.neq rfl rfl) ?_
 refine WL.nil (En.next ?_)
 refine WC.cond rfl ?_ ?_
 ·
  intro hc_1
  replace h := ifO_t hc_1 h
  refine WC.sr ?_
  refine ag ?_
  refine WL.nil (En.next (WC.ret (En.then_ret ?_)))
  refine En.ret1 rfl (Res.tmp rfl) ?_
  obtain rfl := Option.some.inj h
  intro w' hs
  exact ⟨rfl, hs.below⟩
 ·
  intro hc_1
  replace h := ifO_f hc_1 h
  refine WC.skip (En.next (WC.seq (WC.sr ?_)))
  refine mv ?_
  refine sp (OpV.len rfl si_24 rfl) ?_
  refine mv ?_
  refine WL.nil (En.next (WC.block ?_))
  obtain ⟨zy0, ezy0, h⟩ := bnd h
  refine WC.cut (X := (Unit) × (Unit)) (.exit 0) (fun x => zy0 = .inl x.1) (fun x => match x with | ((), ()) => []) (fun x => match x with | ((), ()) => []) ?_ ?_
  ·
   rintro ⟨⟨⟩, ⟨⟩⟩ hx
   replace hx : .inl () = zy0 := hx.symm
   subst hx
   replace h := fork_l h
   show En _ _ _ _ [] []
   refine En.block_exit (En.next (WC.sr ?_))
   refine ag ?_
   refine WL.nil (En.next (WC.ret ?_))
   refine En.ret1 rfl (Res.tmp rfl) ?_
   obtain rfl := Option.some.inj h
   intro w' hs
   exact ⟨rfl, hs.below⟩
  ·
   intro zK0_0
   refine WC.loopP (G := Unit) (fun s g => match s, g with | v_0, () => [(1, .slice q1_0 s2_p1.length k1_0), (2, fv2), (15, .slice q0_0 s1_p0.length k0_0), (16, .int .i64 (s1_p0.length : Int)), (17, .int .i64 v_0)]) (fun s g => match s, g with | v_0, () => []) 0 () ezy0 (by exact sc (sc (sc (sc (sc sn))))) (by exact (fun _ h => h)) ?_
   rintro zm0 v_0 ⟨⟩ zo0 zf0 zb0 ze0
   have zh0 : slices_EqualFunc_S_impl_Plane_S_impl_Plane_impl_Plane_impl_Plane_L0 s1_p0 s2_p1 eq_p2 v_0 = some zo0 := zf0
   unfold slices_EqualFunc_S_impl_Plane_S_impl_Plane_impl_Plane_impl_Plane_L0 at zh0
   show WC _ _ _ _ _ [(1, .slice q1_0 s2_p1.length k1_0), (2, fv2), (15, .slice q0_0 s1_p0.length k0_0), (16, .int .i64 (s1_p0.length : Int)), (17, .int .i64 v_0)] []
   refine WC.sr ?_
   refine sp (OpV.lss rfl rfl) ?_
   refine WL.nil (En.next (WC.seq ?_))
   refine WC.cond rfl ?_ ?_
   ·
    intro hc_2
    replace zh0 := ifO_t hc_2 zh0
    refine WC.skip (En.next (WC.seq (WC.block (WC.seq ?_))))
    obtain ⟨x5_1, e5_1, zh0⟩ := bnd zh0
    obtain ⟨g5_1, o5_1, _, ha5_1, ⟨a5_1_1, c5_1_1, rfl, r5_1_1⟩, hd5_1⟩ := Rd.atIdx r0_0 e5_1
    replace hd5_1 : ∀ (j : Nat) v, ([.bool x5_1.On, .int .i64 x5_1.X, .int .i64 x5_1.Y, .int .i64 x5_1.W, .int .i64 x5_1.H, .int .i64 x5_1.Layout, .slice a5_1_1 x5_1.Words.length c5_1_1, .int .i64 x5_1.Alpha, .int .i64 x5_1.Orient, .int .i64 x5_1.ToW, .int .i64 x5_1.ToH] : List Value)[j]? = some v → w.cell? ⟨g5_1, o5_1 + v_0.toNat * 11 + j, .none⟩ = some v := hd5_1
    refine WC.region ?_
    refine mv ?_
    refine sp (OpV.idxA rfl rfl se_24 ha5_1 ⟨(idx_some e5_1).1, (idx_some e5_1).2.1⟩) ?_
    refine sp (OpV.loadN rfl ag_30 rfl (fun w hs => hs.cellsAt hd5_1)) ?_
    refine WL.heavy rfl rfl rfl (OpH.alloc zc_30 ?_)
    intro b5_3
    refine ag ?_
    refine WL.heavy0 rfl rfl (OpH.storeTo (A := []) [_, _, _, _, _, _, _, _, _, _, _] rfl rfl rfl ts_30 rfl rfl rfl ?_)
    refine WL.nil (En.next (WC.seq ?_))
    obtain ⟨x6_2, e6_2, zh0⟩ := bnd zh0
    obtain ⟨g6_2, o6_2, _, ha6_2, ⟨a6_2_1, c6_2_1, rfl, r6_2_1⟩, hd6_2⟩ := Rd.atIdx r1_0 e6_2
    replace hd6_2 : ∀ (j : Nat) v, ([.bool x6_2.On, .int .i64 x6_2.X, .int .i64 x6_2.Y, .int .i64 x6_2.W, .int .i64 x6_2.H, .int .i64 x6_2.Layout, .slice a6_2_1 x6_2.Words.length c6_2_1, .int .i64 x6_2.Alpha, .int .i64 x6_2.Orient, .int .i64 x6_2.ToW, .int .i64 x6_2.ToH] : List Value)[j]? = some v → w.cell? ⟨g6_2, o6_2 + v_0.toNat * 11 + j, .none⟩ = some v := hd6_2
    refine WC.region ?_
    refine mv ?_
    refine mv ?_
    refine sp (OpV.idxA rfl rfl se_24 ha6_2 ⟨(idx_some e6_2).1, (idx_some e6_2).2.1⟩) ?_
    refine sp (OpV.loadN rfl ag_30 rfl (fun w hs => hs.cellsAt hd6_2)) ?_
    refine WL.heavy rfl rfl rfl (OpH.alloc zc_30 ?_)
    intro b6_4
    refine WL.heavy0 rfl rfl (OpH.storeTo (A := []) [_, _, _, _, _, _, _, _, _, _, _] rfl rfl rfl ts_30 rfl rfl rfl ?_)
    refine WL.nil (En.next (WC.seq ?_))
    obtain ⟨x7_3, e7_3, zh0⟩ := bnd zh0
    refine WC.region ?_
    refine mv ?_
    refine sp (OpV.loadAll rfl mq1 ag_30) ?_
    refine sp (OpV.loadAll rfl mq0 ag_30) ?_
    refine sp (OpV.callV rfl (ec rfl (ec rfl e0)) (fun w hs => hF2 hs.below e7_3 (r5_1_1.ext hs.below) (r6_2_1.ext hs.below))) ?_
    refine sp (OpV.not rfl) ?_
    refine WL.nil (En.next ?_)
    refine WC.cond rfl ?_ ?_
    ·
     intro hc_3
     replace zh0 := ifO_t hc_3 zh0
     refine WC.sr ?_
     refine ag ?_
     refine WL.nil (En.next (WC.ret (En.block_ret (En.then_ret (En.then_ret (En.block_ret (En.then_ret ?_)))))))
     refine En.ret1 rfl (Res.tmp rfl) ?_
     have hx := exitP ze0 zh0
     subst hx
     replace h := fork_r h
     obtain rfl := Option.some.inj h
     intro w' hs
     exact ⟨rfl, hs.below⟩
    ·
     intro hc_3
     replace zh0 := ifO_f hc_3 zh0
     refine WC.skip (En.block_norm (En.next (WC.region ?_)))
     refine sp (OpV.addR rfl rfl) ?_
     refine mv ?_
     refine WL.nil ?_
     exact En.backP zb0 zh0 () (sc (sc (sc (sc (sc sn))))) (fun _ h => (h).sub (.cons _ (.cons _ (.slnil))))
   ·
    intro hc_2
    replace zh0 := ifO_f hc_2 zh0
    refine WC.exit (En.then_exit (En.then_exit ?_))
    have hx := exitP ze0 zh0
    exact En.wk _ _ sn (fun _ h => h) (zK0_0 ((), ()) hx.symm)

theorem w_impl_sameColor {a_p0 : ColorMapT} {b_p1 : ColorMapT} {r : Bool} {q0_0 : Option Addr} {l0_0 k0_0 : Nat} {q0_1 : Option Addr} {l0_1 k0_1 : Nat} {q1_0 : Option Addr} {l1_0 k1_0 : Nat} {q1_1 : Option Addr} {l1_1 k1_1 : Nat} (h : impl_sameColor a_p0 b_p1 = some r) {w : World} (r0_0 : Rd tInt w q0_0 l0_0 k0_0 a_p0.Matrix) (r0_1 : Rd tInt w q0_1 l0_1 k0_1 a_p0.Curve) (r1_0 : Rd tInt w q1_0 l1_0 k1_0 b_p1.Matrix) (r1_1 : Rd tInt w q1_1 l1_1 k1_1 b_p1.Curve)   :
    Calls Try.prog 73 #[.agg #[.slice q0_0 l0_0 k0_0, .slice q0_1 l0_1 k0_1], .agg #[.slice q1_0 l1_0 k1_0, .slice q1_1 l1_1 k1_1]] w (fun en w' => en = .returned (.bool r) ∧ Ext w w') := by
 obtain rfl := r0_0.1
 obtain rfl := r0_1.1
 obtain rfl := r1_0.1
 obtain rfl := r1_1.1
 unfold impl_sameColor at h
 refine enter (vs := [_, _]) Try.func73 rfl rfl rfl rfl ?_
 refine WC.sr ?_
 refine WL.heavy rfl rfl rfl (OpH.box rfl rfl ?_)
 intro b0_0
 refine WL.heavy rfl rfl rfl (OpH.box rfl rfl ?_)
 intro b0_1
 refine ag ?_
 refine WL.nil (En.next (WC.seq ?_))
 obtain ⟨x1_4, e1_4, h⟩ := bnd h
 obtain ⟨q1_11, e1_11, h⟩ := bnd h
 refine WC.region ?_
 refine sp (OpV.fieldAddr rfl fo_39_0) ?_
 refine sp (OpV.loadBox rfl pt_28 mq1 rfl) ?_
 refine sp (OpV.fieldAddr rfl fo_39_0) ?_
 refine sp (OpV.loadBox rfl pt_28 mq0 rfl) ?_
 refine sp (OpV.call (ec rfl (ec rfl e0)) ca_121 (fun w hs => w_slices_Equal_S_int_int e1_4 (r0_0.ext hs.below) (r1_0.ext hs.below))) ?_
 refine mv ?_
 refine Lt.ofWL.andQ 10 16 15 (p := ?pz1) (rest := ?qz1) (B := q1_11) rfl (fun hz => andO_f e1_11 hz) ?Tz1 ?Fz1 ?az1 ?bz1 ?cz1 ?dz1 ?ez1
 case Tz1 =>
  intro hcz1 hkz1
  have hqz1 := andO_t e1_11 hcz1
  obtain ⟨x1_10, e1_10, hqz1⟩ := bnd hqz1
  obtain rfl := Option.some.inj hqz1
  refine sp (OpV.fieldAddr rfl fo_39_1) ?_
  refine sp (OpV.loadBox rfl pt_28 mq1 rfl) ?_
  refine sp (OpV.fieldAddr rfl fo_39_1) ?_
  refine sp (OpV.loadBox rfl pt_28 mq0 rfl) ?_
  refine sp (OpV.call (ec rfl (ec rfl e0)) ca_121 (fun w hs => w_slices_Equal_S_int_int e1_10 (r0_1.ext hs.below) (r1_1.ext hs.below))) ?_
  refine hkz1 _ ?_ ?_
  exact rfl
  repeat (first | exact Sub.refl _ | refine Sub.skip rfl ?_)
 case Fz1 =>
  intro hcz1 hkz1
  refine sk ?_
  refine sk ?_
  refine sk ?_
  refine sk ?_
  refine sk ?_
  refine hkz1 _ ?_
  repeat (first | exact Sub.refl _ | refine Sub.skip rfl ?_)
 case az1 => exact rfl
 case bz1 => exact rfl
 case cz1 => exact rfl
 case dz1 => exact rfl
 refine ag ?_
 refine WL.nil (En.next (WC.ret ?_))
 refine En.ret1 rfl (Res.tmp rfl) ?_
 obtain rfl := Option.some.inj h
 intro w' hs
 exact ⟨rfl, hs.below⟩

theorem w_impl_SameCrtc {a_p0 : CrtcT} {b_p1 : CrtcT} {r : Bool} {q0_0 : Option Addr} {l0_0 k0_0 : Nat} {q0_1 : Option Addr} {l0_1 k0_1 : Nat} {q0_2 : Option Addr} {l0_2 k0_2 : Nat} {q1_0 : Option Addr} {l1_0 k1_0 : Nat} {q1_1 : Option Addr} {l1_1 k1_1 : Nat} {q1_2 : Option Addr} {l1_2 k1_2 : Nat} (h : impl_SameCrtc a_p0 b_p1 = some r) {w : World} (r0_0 : Rd tPlane w q0_0 l0_0 k0_0 a_p0.Planes) (r0_1 : Rd tInt w q0_1 l0_1 k0_1 a_p0.Color.Matrix) (r0_2 : Rd tInt w q0_2 l0_2 k0_2 a_p0.Color.Curve) (r1_0 : Rd tPlane w q1_0 l1_0 k1_0 b_p1.Planes) (r1_1 : Rd tInt w q1_1 l1_1 k1_1 b_p1.Color.Matrix) (r1_2 : Rd tInt w q1_2 l1_2 k1_2 b_p1.Color.Curve)   :
    Calls Try.prog 20 #[.agg #[.int .i64 a_p0.W, .int .i64 a_p0.H, .slice q0_0 l0_0 k0_0, .slice q0_1 l0_1 k0_1, .slice q0_2 l0_2 k0_2], .agg #[.int .i64 b_p1.W, .int .i64 b_p1.H, .slice q1_0 l1_0 k1_0, .slice q1_1 l1_1 k1_1, .slice q1_2 l1_2 k1_2]] w (fun en w' => en = .returned (.bool r) ∧ Ext w w') := by
 obtain rfl := r0_0.1
 obtain rfl := r0_1.1
 obtain rfl := r0_2.1
 obtain rfl := r1_0.1
 obtain rfl := r1_1.1
 obtain rfl := r1_2.1
 unfold impl_SameCrtc at h
 refine enter (vs := [_, _]) Try.func20 rfl rfl rfl rfl ?_
 refine WC.sr ?_
 refine WL.heavy rfl rfl rfl (OpH.box rfl rfl ?_)
 intro b0_0
 refine WL.heavy rfl rfl rfl (OpH.box rfl rfl ?_)
 intro b0_1
 refine ag ?_
 refine WL.nil (En.next (WC.seq ?_))
 obtain ⟨q1_18, e1_18, h⟩ := bnd h
 obtain ⟨q1_25, e1_25, h⟩ := bnd h
 refine WC.region ?_
 refine sp (OpV.fieldAddr rfl fo_41_0) ?_
 refine sp (OpV.loadBox rfl pt_3 mq1 rfl) ?_
 refine sp (OpV.fieldAddr rfl fo_41_0) ?_
 refine sp (OpV.loadBox rfl pt_3 mq0 rfl) ?_
 refine sp (OpV.eql rfl rfl) ?_
 refine mv ?_
 refine Lt.ofWL.and 10 16 15 (p := ?pz1) (rest := ?qz1) (B := ?Bz1) rfl ?Tz1 ?Fz1 ?az1 ?bz1 ?cz1 ?dz1 ?ez1
 case Tz1 =>
  intro hcz1 hkz1
  refine sp (OpV.fieldAddr rfl fo_41_1) ?_
  refine sp (OpV.loadBox rfl pt_3 mq1 rfl) ?_
  refine sp (OpV.fieldAddr rfl fo_41_1) ?_
  refine sp (OpV.loadBox rfl pt_3 mq0 rfl) ?_
  refine sp (OpV.eql rfl rfl) ?_
  refine hkz1 _ ?_ ?_
  exact rfl
  repeat (first | exact Sub.refl _ | refine Sub.skip rfl ?_)
 case Fz1 =>
  intro hcz1 hkz1
  refine sk ?_
  refine sk ?_
  refine sk ?_
  refine sk ?_
  refine sk ?_
  refine hkz1 _ ?_
  repeat (first | exact Sub.refl _ | refine Sub.skip rfl ?_)
 case az1 => exact rfl
 case bz1 => exact rfl
 case cz1 => exact rfl
 case dz1 => exact rfl
 refine mv ?_
 refine Lt.ofWL.andQ 17 23 22 (p := ?pz2) (rest := ?qz2) (B := q1_18) rfl (fun hz => andO_f e1_18 hz) ?Tz2 ?Fz2 ?az2 ?bz2 ?cz2 ?dz2 ?ez2
 case Tz2 =>
  intro hcz2 hkz2
  have hqz2 := andO_t e1_18 hcz2
  obtain ⟨x1_17, e1_17, hqz2⟩ := bnd hqz2
  obtain rfl := Option.some.inj hqz2
  refine sp (OpV.fieldAddr rfl fo_41_2) ?_
  refine sp (OpV.loadBox rfl pt_24 mq1 rfl) ?_
  refine sp (OpV.fieldAddr rfl fo_41_2) ?_
  refine sp (OpV.loadBox rfl pt_24 mq0 rfl) ?_
  refine sp (OpV.call (ec rfl (ec rfl (ec rfl e0))) ca_72 (fun w hs => w_slices_EqualFunc_S_impl_Plane_S_impl_Plane_impl_Plane_impl_Plane e1_17 (r0_0.ext hs.below) (r1_0.ext hs.below) (fun _ he r0 r1 => CallsV.of ca_61 (w_impl_samePlane he r0 r1)))) ?_
  refine hkz2 _ ?_ ?_
  exact rfl
  repeat (first | exact Sub.refl _ | refine Sub.skip rfl ?_)
 case Fz2 =>
  intro hcz2 hkz2
  refine sk ?_
  refine sk ?_
  refine sk ?_
  refine sk ?_
  refine sk ?_
  refine hkz2 _ ?_
  repeat (first | exact Sub.refl _ | refine Sub.skip rfl ?_)
 case az2 => exact rfl
 case bz2 => exact rfl
 case cz2 => exact rfl
 case dz2 => exact rfl
 refine mv ?_
 refine Lt.ofWL.andQ 24 30 29 (p := ?pz3) (rest := ?qz3) (B := q1_25) rfl (fun hz => andO_f e1_25 hz) ?Tz3 ?Fz3 ?az3 ?bz3 ?cz3 ?dz3 ?ez3
 case Tz3 =>
  intro hcz3 hkz3
  have hqz3 := andO_t e1_25 hcz3
  obtain ⟨x1_24, e1_24, hqz3⟩ := bnd hqz3
  obtain rfl := Option.some.inj hqz3
  refine sp (OpV.fieldAddr rfl fo_41_3) ?_
  refine sp (OpV.loadPart rfl mq1 ag_39 rfl rfl) ?_
  refine sp (OpV.fieldAddr rfl fo_41_3) ?_
  refine sp (OpV.loadPart rfl mq0 ag_39 rfl rfl) ?_
  refine sp (OpV.call (ec rfl (ec rfl e0)) ca_73 (fun w hs => w_impl_sameColor e1_24 (r0_1.ext hs.below) (r0_2.ext hs.below) (r1_1.ext hs.below) (r1_2.ext hs.below))) ?_
  refine hkz3 _ ?_ ?_
  exact rfl
  repeat (first | exact Sub.refl _ | refine Sub.skip rfl ?_)
 case Fz3 =>
  intro hcz3 hkz3
  refine sk ?_
  refine sk ?_
  refine sk ?_
  refine sk ?_
  refine sk ?_
  refine hkz3 _ ?_
  repeat (first | exact Sub.refl _ | refine Sub.skip rfl ?_)
 case az3 => exact rfl
 case bz3 => exact rfl
 case cz3 => exact rfl
 case dz3 => exact rfl
 refine ag ?_
 refine WL.nil (En.next (WC.ret ?_))
 refine En.ret1 rfl (Res.tmp rfl) ?_
 obtain rfl := Option.some.inj h
 intro w' hs
 exact ⟨rfl, hs.below⟩

theorem w_laws_FnAtomic {a_p0 : List Int} {r : Bool} {q0_0 : Option Addr} {l0_0 k0_0 : Nat} (h : laws_FnAtomic a_p0 = some r) {w : World} (r0_0 : Rd tU8 w q0_0 l0_0 k0_0 a_p0)   :
    Calls Try.prog 4 #[.slice q0_0 l0_0 k0_0] w (fun en w' => en = .returned (.bool r) ∧ Ext w w') := by
 obtain rfl := r0_0.1
 unfold laws_FnAtomic at h
 refine enter (vs := [_]) Try.func4 rfl rfl rfl rfl ?_
 refine WC.sr ?_
 refine ag ?_
 refine WL.nil (En.next (WC.seq (WC.seq ?_)))
 obtain ⟨x1_1, e1_1, h⟩ := bnd h
 refine WC.region ?_
 refine mv ?_
 refine sp (OpV.call (ec rfl e0) ca_10 (fun w hs => w_laws_big e1_1 (r0_0.ext hs.below))) ?_
 refine WL.nil (En.next ?_)
 refine WC.cond rfl ?_ ?_
 ·
  intro hc_1
  replace h := ifO_t hc_1 h
  refine WC.sr ?_
  refine ag ?_
  refine WL.nil (En.next (WC.ret (En.then_ret ?_)))
  refine En.ret1 rfl (Res.tmp rfl) ?_
  obtain rfl := Option.some.inj h
  intro w' hs
  exact ⟨rfl, hs.below⟩
 ·
  intro hc_1
  replace h := ifO_f hc_1 h
  refine WC.skip (En.next (WC.seq ?_))
  obtain ⟨⟨x3_1a, x3_1b⟩, e3_1, h⟩ := bnd h
  refine WC.region ?_
  refine mv ?_
  refine WL.heavy rfl rfl rfl (OpH.callR (ec rfl e0) ca_18 (fun w hs => w_spec_DrawChanges e3_1 (r0_0.ext hs.below)) ?_)
  rintro _ _ ⟨a3_100, n3_100, c3_100, f3_100, a3_101, n3_101, c3_101, f3_101, a3_102, n3_102, c3_102, f3_102, a3_110, n3_110, c3_110, f3_110, W3_110, G3_110, rfl, rfl⟩
  refine mv ?_
  refine sp (OpV.extract rfl rfl) ?_
  refine sp (OpV.extract rfl rfl) ?_
  refine WL.heavy rfl rfl rfl (OpH.alloc zc_41 ?_)
  intro b3_5
  refine WL.heavy0 rfl rfl (OpH.storeTo (A := []) [_, _, _, _, _] rfl rfl rfl ts_41 rfl rfl rfl ?_)
  refine ag ?_
  refine WL.nil (En.next (WC.seq ?_))
  obtain ⟨⟨x4_2a, x4_2b⟩, e4_2, h⟩ := bnd h
  refine WC.region ?_
  refine sp (OpV.loadAll rfl mq0 ag_41) ?_
  refine mv ?_
  refine WL.heavy rfl rfl rfl (OpH.callR (ec rfl (ec rfl e0)) ca_19 (fun w hs => w_impl_TestChanges e4_2 (Ow.rd (hs.mem mq1)) (Ow.rd (hs.mem mq2)) (Ow.rd (hs.mem mq3)) (Rd.al (Ow.rd (hs.mem mq4)) (hs.mem mq5))) ?_)
  rintro _ _ ⟨a4_200, n4_200, c4_200, f4_200, a4_201, n4_201, c4_201, f4_201, a4_202, n4_202, c4_202, f4_202, rfl, rfl⟩
  refine mv ?_
  refine sp (OpV.extract rfl rfl) ?_
  refine sp (OpV.extract rfl rfl) ?_
  refine WL.heavy rfl rfl rfl (OpH.alloc zc_41 ?_)
  intro b4_6
  refine WL.heavy0 rfl rfl (OpH.storeTo (A := []) [_, _, _, _, _] rfl rfl rfl ts_41 rfl rfl rfl ?_)
  refine ag ?_
  refine WL.nil (En.next (WC.seq (WC.sr ?_)))
  refine mv ?_
  refine sp (OpV.not rfl) ?_
  refine WL.nil (En.next ?_)
  refine WC.cond rfl ?_ ?_
  ·
   intro hc_2
   replace h := ifO_t hc_2 h
   refine WC.seq ?_
   obtain ⟨x6_2, e6_2, h⟩ := bnd h
   refine WC.region ?_
   refine sp (OpV.loadAll rfl mq0 ag_41) ?_
   refine sp (OpV.loadAll rfl mq4 ag_41) ?_
   refine sp (OpV.call (ec rfl (ec rfl e0)) ca_20 (fun w hs => w_impl_SameCrtc e6_2 (Ow.rd (hs.mem mq1)) (Ow.rd (hs.mem mq2)) (Ow.rd (hs.mem mq3)) (Ow.rd (hs.mem mq5)) (Ow.rd (hs.mem mq6)) (Ow.rd (hs.mem mq7)))) ?_
   refine ag ?_
   refine WL.nil (En.next (WC.ret (En.then_ret ?_)))
   refine En.ret1 rfl (Res.tmp rfl) ?_
   obtain rfl := Option.some.inj h
   intro w' hs
   exact ⟨rfl, hs.below⟩
  ·
   intro hc_2
   replace h := ifO_f hc_2 h
   refine WC.skip (En.next (WC.sr ?_))
   refine WL.heavy rfl rfl rfl (OpH.lit0 (A := (Ty.al tChange W3_110 G3_110)) (evps.nil) bs_42_0_ ?_)
   intro b7_0
   refine ag ?_
   refine WL.nil (En.next (WC.seq (WC.sr ?_)))
   refine mv ?_
   refine sp (OpV.inhF fun hin => OpV.lenO (xs := x3_1b) rfl si_42 rfl (ownLen hin mq9)) ?_
   refine sp (OpV.subR rfl rfl) ?_
   refine ag ?_
   refine WL.nil (En.next (WC.block ?_))
   obtain ⟨zy0, ezy0, h⟩ := bnd h
   refine WC.cut (X := ((List ChangeT)) × ((Option Addr) × Nat × Nat × (List Nat))) (.exit 0) (fun x => zy0 = .inl x.1) (fun x => match x with | (v_0e, (av_0e, nv_0e, cv_0e, fv_0e)) => [(3, .pointer (some ⟨b3_5, 0, .none⟩)), (5, .pointer (some ⟨b4_6, 0, .none⟩)), (7, .slice av_0e nv_0e cv_0e)]) (fun x => match x with | (v_0e, (av_0e, nv_0e, cv_0e, fv_0e)) => [Chunk.box b3_5 41 [.int .i64 x3_1a.W, .int .i64 x3_1a.H, .slice a3_100 n3_100 c3_100, .slice a3_101 n3_101 c3_101, .slice a3_102 n3_102 c3_102], Chunk.own tPlane f3_100 a3_100 n3_100 c3_100 x3_1a.Planes, Chunk.own tInt f3_101 a3_101 n3_101 c3_101 x3_1a.Color.Matrix, Chunk.own tInt f3_102 a3_102 n3_102 c3_102 x3_1a.Color.Curve, Chunk.box b4_6 41 [.int .i64 x4_2a.W, .int .i64 x4_2a.H, .slice a4_200 n4_200 c4_200, .slice a4_201 n4_201 c4_201, .slice a4_202 n4_202 c4_202], Chunk.own tPlane f4_200 a4_200 n4_200 c4_200 x4_2a.Planes, Chunk.own tInt f4_201 a4_201 n4_201 c4_201 x4_2a.Color.Matrix, Chunk.own tInt f4_202 a4_202 n4_202 c4_202 x4_2a.Color.Curve, Chunk.own (Ty.al tChange W3_110 G3_110) fv_0e av_0e nv_0e cv_0e v_0e, Chunk.vault G3_110 W3_110]) ?_ ?_
   ·
    rintro ⟨v_0e, ⟨av_0e, nv_0e, cv_0e, fv_0e⟩⟩ hx
    replace hx : .inl v_0e = zy0 := hx.symm
    subst hx
    replace h := fork_l h
    show En _ _ _ _ [(3, .pointer (some ⟨b3_5, 0, .none⟩)), (5, .pointer (some ⟨b4_6, 0, .none⟩)), (7, .slice av_0e nv_0e cv_0e)] [Chunk.box b3_5 41 [.int .i64 x3_1a.W, .int .i64 x3_1a.H, .slice a3_100 n3_100 c3_100, .slice a3_101 n3_101 c3_101, .slice a3_102 n3_102 c3_102], Chunk.own tPlane f3_100 a3_100 n3_100 c3_100 x3_1a.Planes, Chunk.own tInt f3_101 a3_101 n3_101 c3_101 x3_1a.Color.Matrix, Chunk.own tInt f3_102 a3_102 n3_102 c3_102 x3_1a.Color.Curve, Chunk.box b4_6 41 [.int .i64 x4_2a.W, .int .i64 x4_2a.H, .slice a4_200 n4_200 c4_200, .slice a4_201 n4_201 c4_201, .slice a4_202 n4_202 c4_202], Chunk.own tPlane f4_200 a4_200 n4_200 c4_200 x4_2a.Planes, Chunk.own tInt f4_201 a4_201 n4_201 c4_201 x4_2a.Color.Matrix, Chunk.own tInt f4_202 a4_202 n4_202 c4_202 x4_2a.Color.Curve, Chunk.own (Ty.al tChange W3_110 G3_110) fv_0e av_0e nv_0e cv_0e v_0e, Chunk.vault G3_110 W3_110]
    refine En.block_exit (En.next (WC.seq ?_))
    obtain ⟨⟨x17_2a, x17_2b⟩, e17_2, h⟩ := bnd h
    refine WC.region ?_
    refine sp (OpV.loadAll rfl mq0 ag_41) ?_
    refine mv ?_
    refine WL.heavy rfl rfl rfl (OpH.callR (ec rfl (ec rfl e0)) ca_19 (fun w hs => w_impl_TestChanges e17_2 (Ow.rd (hs.mem mq1)) (Ow.rd (hs.mem mq2)) (Ow.rd (hs.mem mq3)) (Rd.al (Ow.rd (hs.mem mq8)) (hs.mem mq9))) ?_)
    rintro _ _ ⟨a17_200, n17_200, c17_200, f17_200, a17_201, n17_201, c17_201, f17_201, a17_202, n17_202, c17_202, f17_202, rfl, rfl⟩
    refine mv ?_
    refine sp (OpV.extract rfl rfl) ?_
    refine sp (OpV.extract rfl rfl) ?_
    refine WL.heavy rfl rfl rfl (OpH.alloc zc_41 ?_)
    intro b17_6
    refine WL.heavy0 rfl rfl (OpH.storeTo (A := []) [_, _, _, _, _] rfl rfl rfl ts_41 rfl rfl rfl ?_)
    refine ag ?_
    refine WL.nil (En.next (WC.seq ?_))
    obtain ⟨x18_1, e18_1, h⟩ := bnd h
    obtain ⟨q18_9, e18_9, h⟩ := bnd h
    refine WC.region ?_
    refine sp (OpV.loadAll rfl mq8 ag_41) ?_
    refine sp (OpV.call (ec rfl e0) ca_21 (fun w hs => w_impl_CrtcOk e18_1 (Ow.rd (hs.mem mq9)) (Ow.rd (hs.mem (u10 mq0))) (Ow.rd (hs.mem (u10 mq1))))) ?_
    refine mv ?_
    refine Lt.ofWL.and 71 73 72 (p := ?pz1) (rest := ?qz1) (B := ?Bz1) rfl ?Tz1 ?Fz1 ?az1 ?bz1 ?cz1 ?dz1 ?ez1
    case Tz1 =>
     intro hcz1 hkz1
     refine mv ?_
     refine hkz1 _ ?_ ?_
     exact rfl
     repeat (first | exact Sub.refl _ | refine Sub.skip rfl ?_)
    case Fz1 =>
     intro hcz1 hkz1
     refine sk ?_
     refine hkz1 _ ?_
     repeat (first | exact Sub.refl _ | refine Sub.skip rfl ?_)
    case az1 => exact rfl
    case bz1 => exact rfl
    case cz1 => exact rfl
    case dz1 => exact rfl
    refine mv ?_
    refine Lt.ofWL.andQ 74 78 77 (p := ?pz2) (rest := ?qz2) (B := q18_9) rfl (fun hz => andO_f e18_9 hz) ?Tz2 ?Fz2 ?az2 ?bz2 ?cz2 ?dz2 ?ez2
    case Tz2 =>
     intro hcz2 hkz2
     have hqz2 := andO_t e18_9 hcz2
     obtain ⟨x18_8, e18_8, hqz2⟩ := bnd hqz2
     obtain rfl := Option.some.inj hqz2
     refine sp (OpV.loadAll rfl mq8 ag_41) ?_
     refine sp (OpV.loadAll rfl mq0 ag_41) ?_
     refine sp (OpV.call (ec rfl (ec rfl e0)) ca_20 (fun w hs => w_impl_SameCrtc e18_8 (Ow.rd (hs.mem mq9)) (Ow.rd (hs.mem (u10 mq0))) (Ow.rd (hs.mem (u10 mq1))) (Ow.rd (hs.mem mq1)) (Ow.rd (hs.mem mq2)) (Ow.rd (hs.mem mq3)))) ?_
     refine hkz2 _ ?_ ?_
     exact rfl
     repeat (first | exact Sub.refl _ | refine Sub.skip rfl ?_)
    case Fz2 =>
     intro hcz2 hkz2
     refine sk ?_
     refine sk ?_
     refine sk ?_
     refine hkz2 _ ?_
     repeat (first | exact Sub.refl _ | refine Sub.skip rfl ?_)
    case az2 => exact rfl
    case bz2 => exact rfl
    case cz2 => exact rfl
    case dz2 => exact rfl
    refine ag ?_
    refine WL.nil (En.next (WC.ret ?_))
    refine En.ret1 rfl (Res.tmp rfl) ?_
    obtain rfl := Option.some.inj h
    intro w' hs
    exact ⟨rfl, hs.below⟩
   ·
    intro zK0_0
    refine WC.loopP (G := (List Nat) × (Option Addr) × Nat × Nat × (List Nat)) (fun s g => match s, g with | (v_0, v1_0), (fv_0, av_0, nv_0, cv_0, fv1_0) => [(3, .pointer (some ⟨b3_5, 0, .none⟩)), (4, .slice a3_110 n3_110 c3_110), (5, .pointer (some ⟨b4_6, 0, .none⟩)), (7, .slice av_0 nv_0 cv_0), (8, .int .i64 v1_0)]) (fun s g => match s, g with | (v_0, v1_0), (fv_0, av_0, nv_0, cv_0, fv1_0) => [Chunk.box b3_5 41 [.int .i64 x3_1a.W, .int .i64 x3_1a.H, .slice a3_100 n3_100 c3_100, .slice a3_101 n3_101 c3_101, .slice a3_102 n3_102 c3_102], Chunk.own tPlane f3_100 a3_100 n3_100 c3_100 x3_1a.Planes, Chunk.own tInt f3_101 a3_101 n3_101 c3_101 x3_1a.Color.Matrix, Chunk.own tInt f3_102 a3_102 n3_102 c3_102 x3_1a.Color.Curve, Chunk.own (Ty.al tChange W3_110 G3_110) fv_0 a3_110 n3_110 c3_110 x3_1b, Chunk.box b4_6 41 [.int .i64 x4_2a.W, .int .i64 x4_2a.H, .slice a4_200 n4_200 c4_200, .slice a4_201 n4_201 c4_201, .slice a4_202 n4_202 c4_202], Chunk.own tPlane f4_200 a4_200 n4_200 c4_200 x4_2a.Planes, Chunk.own tInt f4_201 a4_201 n4_201 c4_201 x4_2a.Color.Matrix, Chunk.own tInt f4_202 a4_202 n4_202 c4_202 x4_2a.Color.Curve, Chunk.own (Ty.al tChange W3_110 G3_110) fv1_0 av_0 nv_0 cv_0 v_0, Chunk.vault G3_110 W3_110]) (([] : List ChangeT), (wr ((x3_1b.length : Int) - 1))) (f3_110, (some ⟨b7_0, 0, .none⟩), 0, 0, [b7_0]) ezy0 (by exact sc (sc (sc (sc (sc sn))))) (by exact (fun _ h => (((((((((((h).pm 10).pm 1).pm 5).pm 5).pm 5).pm 5).pm 10).pm 10).pm 10).pm 10).pm 10)) ?_
    rintro zm0 ⟨v_0, v1_0⟩ ⟨fv_0, av_0, nv_0, cv_0, fv1_0⟩ zo0 zf0 zb0 ze0
    have zh0 : laws_FnAtomic_L0 x3_1b x4_2a v_0 v1_0 = some zo0 := zf0
    unfold laws_FnAtomic_L0 at zh0
    show WC _ _ _ _ _ [(3, .pointer (some ⟨b3_5, 0, .none⟩)), (4, .slice a3_110 n3_110 c3_110), (5, .pointer (some ⟨b4_6, 0, .none⟩)), (7, .slice av_0 nv_0 cv_0), (8, .int .i64 v1_0)] [Chunk.box b3_5 41 [.int .i64 x3_1a.W, .int .i64 x3_1a.H, .slice a3_100 n3_100 c3_100, .slice a3_101 n3_101 c3_101, .slice a3_102 n3_102 c3_102], Chunk.own tPlane f3_100 a3_100 n3_100 c3_100 x3_1a.Planes, Chunk.own tInt f3_101 a3_101 n3_101 c3_101 x3_1a.Color.Matrix, Chunk.own tInt f3_102 a3_102 n3_102 c3_102 x3_1a.Color.Curve, Chunk.own (Ty.al tChange W3_110 G3_110) fv_0 a3_110 n3_110 c3_110 x3_1b, Chunk.box b4_6 41 [.int .i64 x4_2a.W, .int .i64 x4_2a.H, .slice a4_200 n4_200 c4_200, .slice a4_201 n4_201 c4_201, .slice a4_202 n4_202 c4_202], Chunk.own tPlane f4_200 a4_200 n4_200 c4_200 x4_2a.Planes, Chunk.own tInt f4_201 a4_201 n4_201 c4_201 x4_2a.Color.Matrix, Chunk.own tInt f4_202 a4_202 n4_202 c4_202 x4_2a.Color.Curve, Chunk.own (Ty.al tChange W3_110 G3_110) fv1_0 av_0 nv_0 cv_0 v_0, Chunk.vault G3_110 W3_110]
    refine WC.seq (WC.sr ?_)
    refine mv ?_
    refine sp (OpV.geq rfl rfl) ?_
    refine WL.nil (En.next ?_)
    refine WC.cond rfl ?_ ?_
    ·
     intro hc_3
     replace zh0 := ifO_t hc_3 zh0
     refine WC.skip (En.next (WC.seq (WC.block (WC.seq ?_))))
     refine WC.exF (fun w h => St.alOpen (F := [_, _, _, _]) h) ?_
     rintro cq11_0 hq11_0
     show WC _ _ _ _ _ _ [Chunk.box b3_5 41 [.int .i64 x3_1a.W, .int .i64 x3_1a.H, .slice a3_100 n3_100 c3_100, .slice a3_101 n3_101 c3_101, .slice a3_102 n3_102 c3_102], Chunk.own tPlane f3_100 a3_100 n3_100 c3_100 x3_1a.Planes, Chunk.own tInt f3_101 a3_101 n3_101 c3_101 x3_1a.Color.Matrix, Chunk.own tInt f3_102 a3_102 n3_102 c3_102 x3_1a.Color.Curve, Chunk.row tChange.T tChange.k a3_110 x3_1b.length c3_110 cq11_0.flatten, Chunk.box b4_6 41 [.int .i64 x4_2a.W, .int .i64 x4_2a.H, .slice a4_200 n4_200 c4_200, .slice a4_201 n4_201 c4_201, .slice a4_202 n4_202 c4_202], Chunk.own tPlane f4_200 a4_200 n4_200 c4_200 x4_2a.Planes, Chunk.own tInt f4_201 a4_201 n4_201 c4_201 x4_2a.Color.Matrix, Chunk.own tInt f4_202 a4_202 n4_202 c4_202 x4_2a.Color.Curve, Chunk.own (Ty.al tChange W3_110 G3_110) fv1_0 av_0 nv_0 cv_0 v_0, Chunk.vault G3_110 W3_110]
     refine WC.inh fun hin11 => ?_
     obtain ⟨x11_3, e11_3, zh0⟩ := bnd zh0
     obtain ⟨g11_3, o11_3, ha11_3⟩ := rowAddr hin11 mq4 (idx_pos e11_3)
     obtain ⟨cs11_3, hcs11_3, hr11_3⟩ := hq11_0.2.2.2 _ _ (idx_some e11_3).2.2
     obtain ⟨a11_3_1, c11_3_1, a11_3_2, c11_3_2, a11_3_3, c11_3_3, rfl, hv11_3_1, hv11_3_2, hv11_3_3⟩ := tChange_al hr11_3
     obtain ⟨x11_6, e11_6, zh0⟩ := bnd zh0
     refine WC.region ?_
     refine mv ?_
     refine mv ?_
     refine mv ?_
     refine sp (OpV.idxA rfl rfl se_42 ha11_3 ⟨(idx_some e11_3).1, by rw [hq11_0.1]; exact (idx_some e11_3).2.1⟩) ?_
     refine sp (OpV.loadN (l := [.int .i64 x11_3.Plane, .bool x11_3.Value.On, .int .i64 x11_3.Value.X, .int .i64 x11_3.Value.Y, .int .i64 x11_3.Value.W, .int .i64 x11_3.Value.H, .int .i64 x11_3.Value.Layout, .slice a11_3_1 x11_3.Value.Words.length c11_3_1, .int .i64 x11_3.Value.Alpha, .int .i64 x11_3.Value.Orient, .int .i64 x11_3.Value.ToW, .int .i64 x11_3.Value.ToH, .slice a11_3_2 x11_3.Color.Matrix.length c11_3_2, .slice a11_3_3 x11_3.Color.Curve.length c11_3_3]) rfl ag_49 rfl (fun w hs j v hj => by rw [Addr.add_lit]; exact focCell (hs.mem mq4) hq11_0.2.1 hcs11_3 ha11_3 hj)) ?_
     refine WL.heavy rfl rfl rfl (OpH.buildSlice (evps.cons rfl (evps.nil)) (bs_42_1_0 _ _ _ _ _ _ _ _ _ _ _ _ _ _ _ _ _ _ _ _) ?_)
     intro b11_5
     refine WL.wkF (fun _ h => St.elFree (A := Ty.al tChange W3_110 G3_110) (tChange_mkAl x11_3.Plane x11_3.Value x11_3.Color hv11_3_1 hv11_3_2 hv11_3_3) h) ?_
     refine WL.wkF (fun _ h => h.pm 11) ?_
     refine WL.wkF (fun _ h => h.pm 1) ?_
     refine WL.heavy rfl rfl rfl (OpH.push (A := (Ty.al tChange W3_110 G3_110)) rfl rfl rfl mi_42 rfl (by decide) mq0 e11_6 ?_)
     intro f11_6 a11_6 c11_6
     refine ag ?_
     refine WL.nil ?_
     refine En.exF (fun w h => St.alClose (hp := hq11_0) (F := [_, _, _, _, _, _]) h) ?_
     rintro fz11_0 _
     show En _ _ _ _ _ [Chunk.own (Ty.al tChange W3_110 G3_110) f11_6 a11_6 x11_6.length c11_6 x11_6, Chunk.box b11_5 49 [.int .i64 x11_3.Plane, .bool x11_3.Value.On, .int .i64 x11_3.Value.X, .int .i64 x11_3.Value.Y, .int .i64 x11_3.Value.W, .int .i64 x11_3.Value.H, .int .i64 x11_3.Value.Layout, .slice a11_3_1 x11_3.Value.Words.length c11_3_1, .int .i64 x11_3.Value.Alpha, .int .i64 x11_3.Value.Orient, .int .i64 x11_3.Value.ToW, .int .i64 x11_3.Value.ToH, .slice a11_3_2 x11_3.Color.Matrix.length c11_3_2, .slice a11_3_3 x11_3.Color.Curve.length c11_3_3], Chunk.box b3_5 41 [.int .i64 x3_1a.W, .int .i64 x3_1a.H, .slice a3_100 n3_100 c3_100, .slice a3_101 n3_101 c3_101, .slice a3_102 n3_102 c3_102], Chunk.own tPlane f3_100 a3_100 n3_100 c3_100 x3_1a.Planes, Chunk.own tInt f3_101 a3_101 n3_101 c3_101 x3_1a.Color.Matrix, Chunk.own tInt f3_102 a3_102 n3_102 c3_102 x3_1a.Color.Curve, Chunk.own (Ty.al tChange W3_110 G3_110) fz11_0 a3_110 n3_110 c3_110 x3_1b, Chunk.box b4_6 41 [.int .i64 x4_2a.W, .int .i64 x4_2a.H, .slice a4_200 n4_200 c4_200, .slice a4_201 n4_201 c4_201, .slice a4_202 n4_202 c4_202], Chunk.own tPlane f4_200 a4_200 n4_200 c4_200 x4_2a.Planes, Chunk.own tInt f4_201 a4_201 n4_201 c4_201 x4_2a.Color.Matrix, Chunk.own tInt f4_202 a4_202 n4_202 c4_202 x4_2a.Color.Curve, Chunk.vault G3_110 W3_110]
     refine En.next (WC.sr ?_)
     refine ag ?_
     refine WL.nil (En.next (WC.block ?_))
     obtain ⟨zy1, ezy1, zh0⟩ := bnd zh0
     refine WC.cut (X := (Unit) × (Unit)) (.exit 2) (fun x => zy1 = .inl x.1) (fun x => match x with | ((), ()) => [(3, .pointer (some ⟨b3_5, 0, .none⟩)), (4, .slice a3_110 n3_110 c3_110), (5, .pointer (some ⟨b4_6, 0, .none⟩)), (7, .slice a11_6 x11_6.length c11_6), (8, .int .i64 v1_0)]) (fun x => match x with | ((), ()) => [Chunk.box b3_5 41 [.int .i64 x3_1a.W, .int .i64 x3_1a.H, .slice a3_100 n3_100 c3_100, .slice a3_101 n3_101 c3_101, .slice a3_102 n3_102 c3_102], Chunk.own tPlane f3_100 a3_100 n3_100 c3_100 x3_1a.Planes, Chunk.own tInt f3_101 a3_101 n3_101 c3_101 x3_1a.Color.Matrix, Chunk.own tInt f3_102 a3_102 n3_102 c3_102 x3_1a.Color.Curve, Chunk.own (Ty.al tChange W3_110 G3_110) fz11_0 a3_110 n3_110 c3_110 x3_1b, Chunk.box b4_6 41 [.int .i64 x4_2a.W, .int .i64 x4_2a.H, .slice a4_200 n4_200 c4_200, .slice a4_201 n4_201 c4_201, .slice a4_202 n4_202 c4_202], Chunk.own tPlane f4_200 a4_200 n4_200 c4_200 x4_2a.Planes, Chunk.own tInt f4_201 a4_201 n4_201 c4_201 x4_2a.Color.Matrix, Chunk.own tInt f4_202 a4_202 n4_202 c4_202 x4_2a.Color.Curve, Chunk.own (Ty.al tChange W3_110 G3_110) f11_6 a11_6 x11_6.length c11_6 x11_6, Chunk.vault G3_110 W3_110]) ?_ ?_
     ·
      rintro ⟨⟨⟩, ⟨⟩⟩ hx
      replace hx : .inl () = zy1 := hx.symm
      subst hx
      replace zh0 := fork_l zh0
      show En _ _ _ _ [(3, .pointer (some ⟨b3_5, 0, .none⟩)), (4, .slice a3_110 n3_110 c3_110), (5, .pointer (some ⟨b4_6, 0, .none⟩)), (7, .slice a11_6 x11_6.length c11_6), (8, .int .i64 v1_0)] [Chunk.box b3_5 41 [.int .i64 x3_1a.W, .int .i64 x3_1a.H, .slice a3_100 n3_100 c3_100, .slice a3_101 n3_101 c3_101, .slice a3_102 n3_102 c3_102], Chunk.own tPlane f3_100 a3_100 n3_100 c3_100 x3_1a.Planes, Chunk.own tInt f3_101 a3_101 n3_101 c3_101 x3_1a.Color.Matrix, Chunk.own tInt f3_102 a3_102 n3_102 c3_102 x3_1a.Color.Curve, Chunk.own (Ty.al tChange W3_110 G3_110) fz11_0 a3_110 n3_110 c3_110 x3_1b, Chunk.box b4_6 41 [.int .i64 x4_2a.W, .int .i64 x4_2a.H, .slice a4_200 n4_200 c4_200, .slice a4_201 n4_201 c4_201, .slice a4_202 n4_202 c4_202], Chunk.own tPlane f4_200 a4_200 n4_200 c4_200 x4_2a.Planes, Chunk.own tInt f4_201 a4_201 n4_201 c4_201 x4_2a.Color.Matrix, Chunk.own tInt f4_202 a4_202 n4_202 c4_202 x4_2a.Color.Curve, Chunk.own (Ty.al tChange W3_110 G3_110) f11_6 a11_6 x11_6.length c11_6 x11_6, Chunk.vault G3_110 W3_110]
      refine En.block_exit (En.block_norm (En.next (WC.region ?_)))
      refine mv ?_
      refine sp (OpV.subR rfl rfl) ?_
      refine ag ?_
      refine WL.nil ?_
      exact En.backP zb0 zh0 (fz11_0, a11_6, x11_6.length, c11_6, f11_6) (sc (sc (sc (sc (sc sn))))) (fun _ h => h)
     ·
      intro zK1_0
      refine WC.loopP (G := Unit) (fun s g => match s, g with | v_1, () => [(3, .pointer (some ⟨b3_5, 0, .none⟩)), (4, .slice a3_110 n3_110 c3_110), (5, .pointer (some ⟨b4_6, 0, .none⟩)), (7, .slice a11_6 x11_6.length c11_6), (8, .int .i64 v1_0), (9, .int .i64 v_1)]) (fun s g => match s, g with | v_1, () => [Chunk.box b3_5 41 [.int .i64 x3_1a.W, .int .i64 x3_1a.H, .slice a3_100 n3_100 c3_100, .slice a3_101 n3_101 c3_101, .slice a3_102 n3_102 c3_102], Chunk.own tPlane f3_100 a3_100 n3_100 c3_100 x3_1a.Planes, Chunk.own tInt f3_101 a3_101 n3_101 c3_101 x3_1a.Color.Matrix, Chunk.own tInt f3_102 a3_102 n3_102 c3_102 x3_1a.Color.Curve, Chunk.own (Ty.al tChange W3_110 G3_110) fz11_0 a3_110 n3_110 c3_110 x3_1b, Chunk.box b4_6 41 [.int .i64 x4_2a.W, .int .i64 x4_2a.H, .slice a4_200 n4_200 c4_200, .slice a4_201 n4_201 c4_201, .slice a4_202 n4_202 c4_202], Chunk.own tPlane f4_200 a4_200 n4_200 c4_200 x4_2a.Planes, Chunk.own tInt f4_201 a4_201 n4_201 c4_201 x4_2a.Color.Matrix, Chunk.own tInt f4_202 a4_202 n4_202 c4_202 x4_2a.Color.Curve, Chunk.own (Ty.al tChange W3_110 G3_110) f11_6 a11_6 x11_6.length c11_6 x11_6, Chunk.vault G3_110 W3_110]) 0 () ezy1 (by exact sc (sc (sc (sc (sc (sc sn)))))) (by exact (fun _ h => ((((((((((((h).pm 11).pm 1).pm 11).pm 11).pm 11).pm 11).pm 11).pm 11).pm 11).pm 11).pm 11).sub (.cons_cons _ (.cons_cons _ (.cons_cons _ (.cons_cons _ (.cons_cons _ (.cons_cons _ (.cons_cons _ (.cons_cons _ (.cons_cons _ (.cons_cons _ (.cons_cons _ (.cons _ (.slnil))))))))))))))) ?_
      rintro zm1 v_1 ⟨⟩ zo1 zf1 zb1 ze1
      have zh1 : laws_FnAtomic_L1 x3_1b x4_2a v1_0 v_1 = some zo1 := zf1
      unfold laws_FnAtomic_L1 at zh1
      show WC _ _ _ _ _ [(3, .pointer (some ⟨b3_5, 0, .none⟩)), (4, .slice a3_110 n3_110 c3_110), (5, .pointer (some ⟨b4_6, 0, .none⟩)), (7, .slice a11_6 x11_6.length c11_6), (8, .int .i64 v1_0), (9, .int .i64 v_1)] [Chunk.box b3_5 41 [.int .i64 x3_1a.W, .int .i64 x3_1a.H, .slice a3_100 n3_100 c3_100, .slice a3_101 n3_101 c3_101, .slice a3_102 n3_102 c3_102], Chunk.own tPlane f3_100 a3_100 n3_100 c3_100 x3_1a.Planes, Chunk.own tInt f3_101 a3_101 n3_101 c3_101 x3_1a.Color.Matrix, Chunk.own tInt f3_102 a3_102 n3_102 c3_102 x3_1a.Color.Curve, Chunk.own (Ty.al tChange W3_110 G3_110) fz11_0 a3_110 n3_110 c3_110 x3_1b, Chunk.box b4_6 41 [.int .i64 x4_2a.W, .int .i64 x4_2a.H, .slice a4_200 n4_200 c4_200, .slice a4_201 n4_201 c4_201, .slice a4_202 n4_202 c4_202], Chunk.own tPlane f4_200 a4_200 n4_200 c4_200 x4_2a.Planes, Chunk.own tInt f4_201 a4_201 n4_201 c4_201 x4_2a.Color.Matrix, Chunk.own tInt f4_202 a4_202 n4_202 c4_202 x4_2a.Color.Curve, Chunk.own (Ty.al tChange W3_110 G3_110) f11_6 a11_6 x11_6.length c11_6 x11_6, Chunk.vault G3_110 W3_110]
      refine WC.seq (WC.sr ?_)
      refine mv ?_
      refine mv ?_
      refine sp (OpV.lss rfl rfl) ?_
      refine WL.nil (En.next ?_)
      refine WC.cond rfl ?_ ?_
      ·
       intro hc_4
       replace zh1 := ifO_t hc_4 zh1
       refine WC.skip (En.next (WC.seq (WC.block (WC.seq ?_))))
       refine WC.inh fun hin15 => ?_
       obtain ⟨x15_2, e15_2, zh1⟩ := bnd zh1
       obtain ⟨g15_2, o15_2, ha15_2⟩ := ownAddr hin15 mq4 e15_2
       have hn15_2 := ownLen hin15 mq4
       obtain ⟨x15_7, e15_7, zh1⟩ := bnd zh1
       obtain ⟨g15_7, o15_7, ha15_7⟩ := ownAddr hin15 mq4 e15_7
       have hn15_7 := ownLen hin15 mq4
       refine WC.drawn [(3, ?r15q9v3), (4, ?r15q9v4), (5, ?r15q9v5), (7, ?r15q9v7), (8, ?r15q9v8), (9, ?r15q9v9), (60, ?r15q9v60)] (by kernel_rfl) (by kernel_rfl) ?dH15q9 ?dK15q9
       case dH15q9 =>
        intro W hW hk
        refine hW.mv ?_
        refine hW.mv ?_
        refine hW.sp (OpV.idxA rfl rfl se_42 ha15_2 ⟨(idx_some e15_2).1, by rw [hn15_2]; exact (idx_some e15_2).2.1⟩) ?_
        refine hW.sp (OpV.fieldAddr rfl fo_49_0) ?_
        refine hW.sp (OpV.load1 rfl pt_3 (fun w hs => Rd.fld (j := 0) (Ow.rd (hs.mem mq4)) e15_2 ha15_2 (fun cs hq => by obtain ⟨_, _, _, _, _, _, he, _, _, _⟩ := tChange_al hq; rw [he]; rfl))) ?_
        refine hW.mv ?_
        refine hW.mv ?_
        refine hW.sp (OpV.idxA rfl rfl se_42 ha15_7 ⟨(idx_some e15_7).1, by rw [hn15_7]; exact (idx_some e15_7).2.1⟩) ?_
        refine hW.sp (OpV.fieldAddr rfl fo_49_0) ?_
        refine hW.sp (OpV.load1 rfl pt_3 (fun w hs => Rd.fld (j := 0) (Ow.rd (hs.mem mq4)) e15_7 ha15_7 (fun cs hq => by obtain ⟨_, _, _, _, _, _, he, _, _, _⟩ := tChange_al hq; rw [he]; rfl))) ?_
        refine hW.sp (OpV.eql rfl rfl) ?_
        refine hk _ ?_
        refine Sub.cons ?_ (Sub.cons ?_ (Sub.cons ?_ (Sub.cons ?_ (Sub.cons ?_ (Sub.cons ?_ (Sub.cons ?_ sn))))))
        all_goals exact rfl
       refine En.next ?_
       refine WC.cond rfl ?_ ?_
       ·
        intro hc_5
        replace zh1 := ifO_t hc_5 zh1
        refine WC.seq ?_
        obtain ⟨x16_1, e16_1, zh1⟩ := bnd zh1
        refine WC.region ?_
        refine sp (OpV.loadAll rfl mq5 ag_41) ?_
        refine sp (OpV.call (ec rfl e0) ca_21 (fun w hs => w_impl_CrtcOk e16_1 (Ow.rd (hs.mem mq6)) (Ow.rd (hs.mem mq7)) (Ow.rd (hs.mem mq8)))) ?_
        refine ag ?_
        refine WL.nil (En.next (WC.ret (En.block_ret (En.then_ret (En.then_ret (En.block_ret (En.block_ret (En.then_ret (En.then_ret (En.block_ret (En.then_ret ?_)))))))))))
        refine En.ret1 rfl (Res.tmp rfl) ?_
        have hx := exitP ze1 zh1
        subst hx
        replace zh0 := fork_r zh0
        have hx := exitP ze0 zh0
        subst hx
        replace h := fork_r h
        obtain rfl := Option.some.inj h
        intro w' hs
        exact ⟨rfl, hs.below⟩
       ·
        intro hc_5
        replace zh1 := ifO_f hc_5 zh1
        refine WC.skip (En.block_norm (En.next (WC.region ?_)))
        refine mv ?_
        refine sp (OpV.addR rfl rfl) ?_
        refine ag ?_
        refine WL.nil ?_
        exact En.backP zb1 zh1 () (sc (sc (sc (sc (sc (sc sn)))))) (fun _ h => h)
      ·
       intro hc_4
       replace zh1 := ifO_f hc_4 zh1
       refine WC.exit (En.then_exit (En.then_exit ?_))
       have hx := exitP ze1 zh1
       exact En.wk _ _ (sc (sc (sc (sc (sc sn))))) (fun _ h => h) (zK1_0 ((), ()) hx.symm)
    ·
     intro hc_3
     replace zh0 := ifO_f hc_3 zh0
     refine WC.exit (En.then_exit (En.then_exit ?_))
     have hx := exitP ze0 zh0
     exact En.wk _ _ (sc (sc (sc sn))) (fun _ h => (((((((((((h).pm 10).pm 10).pm 10).pm 10).pm 10).pm 10).pm 9).pm 9).pm 9).pm 9).sub (.cons_cons _ (.cons_cons _ (.cons_cons _ (.cons_cons _ (.cons_cons _ (.cons_cons _ (.cons_cons _ (.cons_cons _ (.cons_cons _ (.cons_cons _ (.cons _ (.slnil))))))))))))) (zK0_0 (v_0, (av_0, nv_0, cv_0, fv1_0)) hx.symm)

end Go.Proofs.Ytbdpbboonilhhaa
