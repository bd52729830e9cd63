/- Walks: the program computes the pure functions. -/
import Derived.Test.YtmhalmnbgkpmnaaGreatW3
namespace Go.Proofs.YtmhalmnbgkpmnaaGreat
open Go.RowKit K
set_option maxRecDepth 100000
set_option maxHeartbeats 4000000

theorem w_impl_TestChanges {c_p0 : CrtcT} {list_p1 : List ChangeT} {r : CrtcT × Bool} {q0_0 : Option Addr} {l0_0 k0_0 : Nat} {q0_1 : Option Addr} {l0_1 k0_1 : Nat} {q0_2 : Option Addr} {l0_2 k0_2 : Nat} {q1_0 : Option Addr} {l1_0 k1_0 : Nat} (h : impl_TestChanges c_p0 list_p1 = some r) {w : World} (r0_0 : Rd tPlane w q0_0 l0_0 k0_0 c_p0.Planes) (r0_1 : Rd tInt w q0_1 l0_1 k0_1 c_p0.Color.Matrix) (r0_2 : Rd tInt w q0_2 l0_2 k0_2 c_p0.Color.Curve) (r1_0 : Rd tChange w q1_0 l1_0 k1_0 list_p1)   :
    Calls Tryz.prog 25 #[.agg #[.int .i64 c_p0.W, .int .i64 c_p0.H, .slice q0_0 l0_0 k0_0, .slice q0_1 l0_1 k0_1, .slice q0_2 l0_2 k0_2], .slice q1_0 l1_0 k1_0] w (fun en w' => ∃ rv G, en = .returned rv ∧ (∃ (a0_0 : Option Addr) (n0_0 : Nat) (c0_0 : Nat) (f0_0 : List Nat) (a0_1 : Option Addr) (n0_1 : Nat) (c0_1 : Nat) (f0_1 : List Nat) (a0_2 : Option Addr) (n0_2 : Nat) (c0_2 : Nat) (f0_2 : List Nat), rv = .tuple #[.agg #[.int .i64 r.1.W, .int .i64 r.1.H, .slice a0_0 n0_0 c0_0, .slice a0_1 n0_1 c0_1, .slice a0_2 n0_2 c0_2], .bool r.2] ∧ G = [Chunk.own tPlane f0_0 a0_0 n0_0 c0_0 r.1.Planes, Chunk.own tInt f0_1 a0_1 n0_1 c0_1 r.1.Color.Matrix, Chunk.own tInt f0_2 a0_2 n0_2 c0_2 r.1.Color.Curve]) ∧ St w G w') := by
  obtain rfl := r0_0.1
  obtain rfl := r0_1.1
  obtain rfl := r0_2.1
  obtain rfl := r1_0.1
  unfold impl_TestChanges at h
  refine enter (vs := [_, _]) Tryz.func25 rfl rfl rfl rfl ?_
  refine WC.sr ?_
  refine WL.heavy rfl rfl rfl (OpH.box rfl rfl ?_)
  intro b0_0
  refine WL.heavy rfl rfl rfl (OpH.alloc zc_39 ?_)
  intro b0_1
  refine ag ?_
  refine WL.nil (En.next (WC.seq ?_))
  obtain ⟨x1_1, e1_1, h⟩ := bnd h
  refine WC.region ?_
  refine sp (OpV.loadAll rfl mq1 ag_39) ?_
  refine WL.heavy rfl rfl rfl (OpH.callR (ec rfl e0) ca_50 (fun w hs => w_impl_copyCrtc e1_1 (r0_0.ext hs.below) (r0_1.ext hs.below) (r0_2.ext hs.below)) ?_)
  rintro _ _ ⟨a1_100, n1_100, c1_100, f1_100, a1_101, n1_101, c1_101, f1_101, a1_102, n1_102, c1_102, f1_102, rfl, rfl⟩
  refine WL.heavy rfl rfl rfl (OpH.alloc zc_39 ?_)
  intro b1_2
  refine WL.heavy0 rfl rfl (OpH.storeTo (A := []) [_, _, _, _, _] rfl rfl rfl ts_39 rfl rfl rfl ?_)
  refine WL.nil (En.next (WC.seq (WC.seq ?_)))
  obtain ⟨x2_1, e2_1, h⟩ := bnd h
  refine WC.region ?_
  refine sp (OpV.loadAll rfl mq5 ag_39) ?_
  refine sp (OpV.call (ec rfl e0) ca_80 (fun w hs => w_impl_CrtcOk e2_1 (r0_0.ext hs.below) (r0_1.ext hs.below) (r0_2.ext hs.below))) ?_
  refine sp (OpV.not rfl) ?_
  refine WL.nil (En.next ?_)
  refine WC.cond rfl ?_ ?_
  ·
    intro hc_1
    replace h := ifO_t hc_1 h
    refine WC.sr ?_
    refine sp (OpV.loadAll rfl mq0 ag_39) ?_
    refine WL.heavy0 rfl rfl (OpH.storeTo (A := [_, _, _, _]) [_, _, _, _, _] rfl rfl rfl ts_39 rfl rfl rfl ?_)
    refine ag ?_
    refine WL.nil (En.next (WC.ret (En.then_ret ?_)))
    refine En.ret2 rfl (Res.cell rfl mq4 ag_39) (Res.tmp rfl) ?_
    obtain rfl := Option.some.inj h
    intro w' hs
    have hs := ((((hs).pm 3).pm 3).pm 3).sub (.cons_cons _ (.cons_cons _ (.cons_cons _ (.cons _ (.cons _ (.cons _ (.slnil)))))))
    exact ⟨_, _, rfl, ⟨a1_100, n1_100, c1_100, f1_100, a1_101, n1_101, c1_101, f1_101, a1_102, n1_102, c1_102, f1_102, rfl, rfl⟩, hs⟩
  ·
    intro hc_1
    replace h := ifO_f hc_1 h
    refine WC.skip (En.next (WC.seq (WC.sr ?_)))
    refine mv ?_
    refine sp (OpV.len rfl si_53 rfl) ?_
    refine mv ?_
    refine WL.nil (En.next (WC.block ?_))
    obtain ⟨zy0, ezy0, h⟩ := bnd h
    refine WC.cut (X := ((List PlaneT) × (List Int) × (List Int)) × ((List Nat) × (Option Addr) × Nat × Nat × (List Nat) × (Option Addr) × Nat × Nat × (List Nat))) (.exit 0) (fun x => zy0 = .inl x.1) (fun x => match x with | ((out_0e, out1_0e, out2_0e), (fout_0e, aout_0e, nout_0e, cout_0e, fout1_0e, aout1_0e, nout1_0e, cout1_0e, fout2_0e)) => [(2, .pointer (some ⟨b0_0, 0, .none⟩)), (4, .pointer (some ⟨b0_1, 0, .none⟩)), (6, .pointer (some ⟨b1_2, 0, .none⟩))]) (fun x => match x with | ((out_0e, out1_0e, out2_0e), (fout_0e, aout_0e, nout_0e, cout_0e, fout1_0e, aout1_0e, nout1_0e, cout1_0e, fout2_0e)) => [Chunk.box b0_0 39 [.int .i64 c_p0.W, .int .i64 c_p0.H, .slice q0_0 c_p0.Planes.length k0_0, .slice q0_1 c_p0.Color.Matrix.length k0_1, .slice q0_2 c_p0.Color.Curve.length k0_2], Chunk.box b0_1 39 [.int .i64 0, .int .i64 0, .slice .none 0 0, .slice .none 0 0, .slice .none 0 0], Chunk.box b1_2 39 [.int .i64 x1_1.W, .int .i64 x1_1.H, .slice a1_100 n1_100 c1_100, .slice aout_0e nout_0e cout_0e, .slice aout1_0e nout1_0e cout1_0e], Chunk.own tPlane fout_0e a1_100 n1_100 c1_100 out_0e, Chunk.own tInt fout1_0e aout_0e nout_0e cout_0e out1_0e, Chunk.own tInt fout2_0e aout1_0e nout1_0e cout1_0e out2_0e]) ?_ ?_
    ·
      rintro ⟨⟨out_0e, out1_0e, out2_0e⟩, ⟨fout_0e, aout_0e, nout_0e, cout_0e, fout1_0e, aout1_0e, nout1_0e, cout1_0e, fout2_0e⟩⟩ hx
      replace hx : .inl (out_0e, out1_0e, out2_0e) = zy0 := hx.symm
      subst hx
      replace h := fork_l h
      show En _ _ _ _ [(2, .pointer (some ⟨b0_0, 0, .none⟩)), (4, .pointer (some ⟨b0_1, 0, .none⟩)), (6, .pointer (some ⟨b1_2, 0, .none⟩))] [Chunk.box b0_0 39 [.int .i64 c_p0.W, .int .i64 c_p0.H, .slice q0_0 c_p0.Planes.length k0_0, .slice q0_1 c_p0.Color.Matrix.length k0_1, .slice q0_2 c_p0.Color.Curve.length k0_2], Chunk.box b0_1 39 [.int .i64 0, .int .i64 0, .slice .none 0 0, .slice .none 0 0, .slice .none 0 0], Chunk.box b1_2 39 [.int .i64 x1_1.W, .int .i64 x1_1.H, .slice a1_100 n1_100 c1_100, .slice aout_0e nout_0e cout_0e, .slice aout1_0e nout1_0e cout1_0e], Chunk.own tPlane fout_0e a1_100 n1_100 c1_100 out_0e, Chunk.own tInt fout1_0e aout_0e nout_0e cout_0e out1_0e, Chunk.own tInt fout2_0e aout1_0e nout1_0e cout1_0e out2_0e]
      refine En.block_exit (En.next (WC.seq (WC.seq ?_)))
      obtain ⟨x13_1, e13_1, h⟩ := bnd h
      refine WC.region ?_
      refine sp (OpV.loadAll rfl mq2 ag_39) ?_
      refine sp (OpV.call (ec rfl e0) ca_80 (fun w hs => w_impl_CrtcOk e13_1 (Ow.rd (hs.mem mq3)) (Ow.rd (hs.mem mq4)) (Ow.rd (hs.mem mq5)))) ?_
      refine sp (OpV.not rfl) ?_
      refine WL.nil (En.next ?_)
      refine WC.cond rfl ?_ ?_
      ·
        intro hc_2
        replace h := ifO_t hc_2 h
        refine WC.seq ?_
        obtain ⟨x14_1, e14_1, h⟩ := bnd h
        refine WC.region ?_
        refine sp (OpV.loadAll rfl mq0 ag_39) ?_
        refine WL.heavy rfl rfl rfl (OpH.callR (ec rfl e0) ca_50 (fun w hs => w_impl_copyCrtc e14_1 (r0_0.ext hs.below) (r0_1.ext hs.below) (r0_2.ext hs.below)) ?_)
        rintro _ _ ⟨a14_100, n14_100, c14_100, f14_100, a14_101, n14_101, c14_101, f14_101, a14_102, n14_102, c14_102, f14_102, rfl, rfl⟩
        refine WL.heavy0 rfl rfl (OpH.storeTo (A := [_, _, _, _]) [_, _, _, _, _] rfl rfl rfl ts_39 rfl rfl rfl ?_)
        refine ag ?_
        refine WL.nil (En.next (WC.ret (En.then_ret ?_)))
        refine En.ret2 rfl (Res.cell rfl mq4 ag_39) (Res.tmp rfl) ?_
        obtain rfl := Option.some.inj h
        intro w' hs
        have hs := (hs).sub (.cons_cons _ (.cons_cons _ (.cons_cons _ (.cons _ (.cons _ (.cons _ (.cons _ (.cons _ (.cons _ (.slnil))))))))))
        exact ⟨_, _, rfl, ⟨a14_100, n14_100, c14_100, f14_100, a14_101, n14_101, c14_101, f14_101, a14_102, n14_102, c14_102, f14_102, rfl, rfl⟩, hs⟩
      ·
        intro hc_2
        replace h := ifO_f hc_2 h
        refine WC.skip (En.next (WC.sr ?_))
        refine sp (OpV.loadAll rfl mq2 ag_39) ?_
        refine WL.heavy0 rfl rfl (OpH.storeTo (A := [_]) [_, _, _, _, _] rfl rfl rfl ts_39 rfl rfl rfl ?_)
        refine ag ?_
        refine WL.nil (En.next (WC.ret ?_))
        refine En.ret2 rfl (Res.cell rfl mq1 ag_39) (Res.tmp rfl) ?_
        obtain rfl := Option.some.inj h
        intro w' hs
        have hs := ((((hs).pm 5).pm 5).pm 5).sub (.cons_cons _ (.cons_cons _ (.cons_cons _ (.cons _ (.cons _ (.cons _ (.slnil)))))))
        exact ⟨_, _, rfl, ⟨a1_100, n1_100, c1_100, fout_0e, aout_0e, nout_0e, cout_0e, fout1_0e, aout1_0e, nout1_0e, cout1_0e, fout2_0e, rfl, rfl⟩, hs⟩
    ·
      intro zK0_0
      refine WC.loopP (G := (List Nat) × (Option Addr) × Nat × Nat × (List Nat) × (Option Addr) × Nat × Nat × (List Nat)) (fun s g => match s, g with | (out_0, out1_0, out2_0, v_0), (fout_0, aout_0, nout_0, cout_0, fout1_0, aout1_0, nout1_0, cout1_0, fout2_0) => [(2, .pointer (some ⟨b0_0, 0, .none⟩)), (4, .pointer (some ⟨b0_1, 0, .none⟩)), (6, .pointer (some ⟨b1_2, 0, .none⟩)), (15, .slice q1_0 list_p1.length k1_0), (16, .int .i64 (list_p1.length : Int)), (17, .int .i64 v_0)]) (fun s g => match s, g with | (out_0, out1_0, out2_0, v_0), (fout_0, aout_0, nout_0, cout_0, fout1_0, aout1_0, nout1_0, cout1_0, fout2_0) => [Chunk.box b0_0 39 [.int .i64 c_p0.W, .int .i64 c_p0.H, .slice q0_0 c_p0.Planes.length k0_0, .slice q0_1 c_p0.Color.Matrix.length k0_1, .slice q0_2 c_p0.Color.Curve.length k0_2], Chunk.box b0_1 39 [.int .i64 0, .int .i64 0, .slice .none 0 0, .slice .none 0 0, .slice .none 0 0], Chunk.box b1_2 39 [.int .i64 x1_1.W, .int .i64 x1_1.H, .slice a1_100 n1_100 c1_100, .slice aout_0 nout_0 cout_0, .slice aout1_0 nout1_0 cout1_0], Chunk.own tPlane fout_0 a1_100 n1_100 c1_100 out_0, Chunk.own tInt fout1_0 aout_0 nout_0 cout_0 out1_0, Chunk.own tInt fout2_0 aout1_0 nout1_0 cout1_0 out2_0]) (x1_1.Planes, x1_1.Color.Matrix, x1_1.Color.Curve, 0) (f1_100, a1_101, n1_101, c1_101, f1_101, a1_102, n1_102, c1_102, f1_102) ezy0 (by exact sc (sc (sc (sc (sc (sc sn)))))) (by exact (fun _ h => ((((((h).pm 3).pm 3).pm 3).pm 3).pm 4).pm 5)) ?_
      rintro zm0 ⟨out_0, out1_0, out2_0, v_0⟩ ⟨fout_0, aout_0, nout_0, cout_0, fout1_0, aout1_0, nout1_0, cout1_0, fout2_0⟩ zo0 zf0 zb0 ze0
      have zh0 : impl_TestChanges_L0 c_p0 list_p1 out_0 out1_0 out2_0 v_0 = some zo0 := zf0
      unfold impl_TestChanges_L0 at zh0
      show WC _ _ _ _ _ [(2, .pointer (some ⟨b0_0, 0, .none⟩)), (4, .pointer (some ⟨b0_1, 0, .none⟩)), (6, .pointer (some ⟨b1_2, 0, .none⟩)), (15, .slice q1_0 list_p1.length k1_0), (16, .int .i64 (list_p1.length : Int)), (17, .int .i64 v_0)] [Chunk.box b0_0 39 [.int .i64 c_p0.W, .int .i64 c_p0.H, .slice q0_0 c_p0.Planes.length k0_0, .slice q0_1 c_p0.Color.Matrix.length k0_1, .slice q0_2 c_p0.Color.Curve.length k0_2], Chunk.box b0_1 39 [.int .i64 0, .int .i64 0, .slice .none 0 0, .slice .none 0 0, .slice .none 0 0], Chunk.box b1_2 39 [.int .i64 x1_1.W, .int .i64 x1_1.H, .slice a1_100 n1_100 c1_100, .slice aout_0 nout_0 cout_0, .slice aout1_0 nout1_0 cout1_0], Chunk.own tPlane fout_0 a1_100 n1_100 c1_100 out_0, Chunk.own tInt fout1_0 aout_0 nout_0 cout_0 out1_0, Chunk.own tInt fout2_0 aout1_0 nout1_0 cout1_0 out2_0]
      refine WC.sr ?_
      refine sp (OpV.lss rfl rfl) ?_
      refine WL.nil (En.next (WC.seq ?_))
      refine WC.cond rfl ?_ ?_
      ·
        intro hc_3
        replace zh0 := ifO_t hc_3 zh0
        refine WC.skip (En.next (WC.seq (WC.block (WC.seq ?_))))
        obtain ⟨x6_0, e6_0, zh0⟩ := bnd zh0
        obtain ⟨g6_0, o6_0, _, ha6_0, ⟨a6_0_1, c6_0_1, a6_0_2, c6_0_2, a6_0_3, c6_0_3, rfl, r6_0_1, r6_0_2, r6_0_3⟩, hd6_0⟩ := Rd.atIdx r1_0 e6_0
        replace hd6_0 : ∀ (j : Nat) v, ([.int .i64 x6_0.Plane, .bool x6_0.Value.On, .int .i64 x6_0.Value.X, .int .i64 x6_0.Value.Y, .int .i64 x6_0.Value.W, .int .i64 x6_0.Value.H, .int .i64 x6_0.Value.Layout, .slice a6_0_1 x6_0.Value.Words.length c6_0_1, .int .i64 x6_0.Value.Alpha, .int .i64 x6_0.Value.Orient, .int .i64 x6_0.Value.ToW, .int .i64 x6_0.Value.ToH, .slice a6_0_2 x6_0.Color.Matrix.length c6_0_2, .slice a6_0_3 x6_0.Color.Curve.length c6_0_3] : List Value)[j]? = some v → w.cell? ⟨g6_0, o6_0 + v_0.toNat * 14 + j, .none⟩ = some v := hd6_0
        refine WC.region ?_
        refine sp (OpV.idxA rfl rfl se_53 ha6_0 ⟨(idx_some e6_0).1, (idx_some e6_0).2.1⟩) ?_
        refine sp (OpV.loadN rfl ag_63 rfl (fun w hs => hs.cellsAt hd6_0)) ?_
        refine WL.heavy rfl rfl rfl (OpH.alloc zc_63 ?_)
        intro b6_2
        refine WL.heavy0 rfl rfl (OpH.storeTo (A := []) [_, _, _, _, _, _, _, _, _, _, _, _, _, _] rfl rfl rfl ts_63 rfl rfl rfl ?_)
        refine WL.nil (En.next (WC.block (WC.seq ?_)))
        obtain ⟨x8_1, e8_1, zh0⟩ := bnd zh0
        refine WC.region ?_
        refine sp (OpV.loadAll rfl mq0 ag_63) ?_
        refine sp (OpV.call (ec rfl e0) ca_26 (fun w hs => w_impl_ChangeOk e8_1 (r6_0_1.ext hs.below) (r6_0_2.ext hs.below) (r6_0_3.ext hs.below))) ?_
        refine sp (OpV.not rfl) ?_
        refine ag ?_
        refine WL.nil (En.next ?_)
        refine WC.cond rfl ?_ ?_
        ·
          intro hc_4
          replace zh0 := ifO_t hc_4 zh0
          refine WC.seq ?_
          obtain ⟨x9_1, e9_1, zh0⟩ := bnd zh0
          refine WC.region ?_
          refine sp (OpV.loadAll rfl mq1 ag_39) ?_
          refine WL.heavy rfl rfl rfl (OpH.callR (ec rfl e0) ca_50 (fun w hs => w_impl_copyCrtc e9_1 (r0_0.ext hs.below) (r0_1.ext hs.below) (r0_2.ext hs.below)) ?_)
          rintro _ _ ⟨a9_100, n9_100, c9_100, f9_100, a9_101, n9_101, c9_101, f9_101, a9_102, n9_102, c9_102, f9_102, rfl, rfl⟩
          refine WL.heavy0 rfl rfl (OpH.storeTo (A := [_, _, _, _, _]) [_, _, _, _, _] rfl rfl rfl ts_39 rfl rfl rfl ?_)
          refine ag ?_
          refine WL.nil (En.next (WC.ret (En.block_ret (En.block_ret (En.then_ret (En.then_ret (En.block_ret (En.then_ret ?_))))))))
          refine En.ret2 rfl (Res.cell rfl mq5 ag_39) (Res.tmp rfl) ?_
          have hx := exitP ze0 zh0
          subst hx
          replace h := fork_r h
          obtain rfl := Option.some.inj h
          intro w' hs
          have hs := (hs).sub (.cons_cons _ (.cons_cons _ (.cons_cons _ (.cons _ (.cons _ (.cons _ (.cons _ (.cons _ (.cons _ (.cons _ (.slnil)))))))))))
          exact ⟨_, _, rfl, ⟨a9_100, n9_100, c9_100, f9_100, a9_101, n9_101, c9_101, f9_101, a9_102, n9_102, c9_102, f9_102, rfl, rfl⟩, hs⟩
        ·
          intro hc_4
          replace zh0 := ifO_f hc_4 zh0
          refine WC.sr ?_
          refine sp (OpV.fieldAddr rfl fo_63_0) ?_
          refine sp (OpV.loadBox rfl pt_3 mq0 rfl) ?_
          refine sp (OpV.lss rfl rfl) ?_
          refine ag ?_
          refine WL.nil (En.next ?_)
          refine WC.cond rfl ?_ ?_
          ·
            intro hc_5
            replace zh0 := ifO_t hc_5 zh0
            obtain ⟨x11_2, e11_2, zh0⟩ := bnd zh0
            refine WC.region ?_
            refine sp (OpV.fieldAddr rfl fo_63_2) ?_
            refine sp (OpV.loadPart rfl mq0 ag_37 rfl rfl) ?_
            refine WL.heavy rfl rfl rfl (OpH.callR (ec rfl e0) ca_79 (fun w hs => w_impl_copyColor e11_2 (r6_0_2.ext hs.below) (r6_0_3.ext hs.below)) ?_)
            rintro _ _ ⟨a11_200, n11_200, c11_200, f11_200, a11_201, n11_201, c11_201, f11_201, rfl, rfl⟩
            refine sp (OpV.fieldAddr rfl fo_39_3) ?_
            refine WL.heavy0 rfl rfl (OpH.storeTo (A := [_, _, _, _, _]) [_, _, _, _, _] rfl rfl rfl ts_37 rfl rfl rfl ?_)
            refine WL.nil (En.block_norm (En.block_norm (En.next (WC.region ?_))))
            refine sp (OpV.addR rfl rfl) ?_
            refine mv ?_
            refine WL.nil ?_
            exact En.backP zb0 zh0 (fout_0, a11_200, n11_200, c11_200, f11_200, a11_201, n11_201, c11_201, f11_201) (sc (sc (sc (sc (sc (sc sn)))))) (fun _ h => (((((((h).pm 1).pm 1).pm 6).pm 6).pm 6).pm 6).sub (.cons_cons _ (.cons_cons _ (.cons_cons _ (.cons_cons _ (.cons_cons _ (.cons_cons _ (.cons _ (.cons _ (.cons _ (.slnil)))))))))))
          ·
            intro hc_5
            replace zh0 := ifO_f hc_5 zh0
            refine WC.inh fun hin7 => ?_
            obtain ⟨x7_7, e7_7, zh0⟩ := bnd zh0
            obtain ⟨x7_8, e7_8, zh0⟩ := bnd zh0
            have hn7_10 := ownLen hin7 mq4
            obtain ⟨x7_11, e7_11, zh0⟩ := bnd zh0
            obtain ⟨g7_10, o7_10, ha7_10⟩ := ownAddrU hin7 mq4 e7_11
            refine WC.wkF (fun _ h => h.pm 4) ?_
            refine WC.drawnH [_] ([_, _, _, _, _, _]) (fun _ h => h) (by kernel_rfl) ?_
            refine tk 0 rfl (OpV.fieldAddr rfl fo_39_2) ?_
            refine tk 1 rfl (OpV.loadBox rfl pt_36 mq3 rfl) ?_
            refine tk 2 rfl (OpV.fieldAddr rfl fo_63_0) ?_
            refine tk 3 rfl (OpV.loadBox rfl pt_3 mq0 rfl) ?_
            refine tk 4 rfl (OpV.fieldAddr rfl fo_63_1) ?_
            refine tk 5 rfl (OpV.loadPart rfl mq0 ag_61 rfl rfl) ?_
            refine al1 6 rfl ?_
            refine OpH.buildSlice (evps.cons rfl (evps.nil)) (bs_36_1_0 _ _ _ _ _ _ _ _ _ _ _ _ _) ?_
            intro b7_6
            refine ⟨[_, _], rfl, ?_⟩
            refine al1 7 rfl ?_
            refine OpH.post (K := fun v F' => ∃ (a7_700 : Option Addr) (n7_700 c7_700 : Nat) (f7_700 : List Nat), v = .slice a7_700 n7_700 c7_700 ∧ F' = Chunk.own tPlane f7_700 a7_700 n7_700 c7_700 x7_7 :: [Chunk.box b7_6 61 [.bool x6_0.Value.On, .int .i64 x6_0.Value.X, .int .i64 x6_0.Value.Y, .int .i64 x6_0.Value.W, .int .i64 x6_0.Value.H, .int .i64 x6_0.Value.Layout, .slice a6_0_1 x6_0.Value.Words.length c6_0_1, .int .i64 x6_0.Value.Alpha, .int .i64 x6_0.Value.Orient, .int .i64 x6_0.Value.ToW, .int .i64 x6_0.Value.ToH], Chunk.own tPlane fout_0 a1_100 n1_100 c1_100 out_0, Chunk.box b6_2 63 [.int .i64 x6_0.Plane, .bool x6_0.Value.On, .int .i64 x6_0.Value.X, .int .i64 x6_0.Value.Y, .int .i64 x6_0.Value.W, .int .i64 x6_0.Value.H, .int .i64 x6_0.Value.Layout, .slice a6_0_1 x6_0.Value.Words.length c6_0_1, .int .i64 x6_0.Value.Alpha, .int .i64 x6_0.Value.Orient, .int .i64 x6_0.Value.ToW, .int .i64 x6_0.Value.ToH, .slice a6_0_2 x6_0.Color.Matrix.length c6_0_2, .slice a6_0_3 x6_0.Color.Curve.length c6_0_3], Chunk.box b0_0 39 [.int .i64 c_p0.W, .int .i64 c_p0.H, .slice q0_0 c_p0.Planes.length k0_0, .slice q0_1 c_p0.Color.Matrix.length k0_1, .slice q0_2 c_p0.Color.Curve.length k0_2], Chunk.box b0_1 39 [.int .i64 0, .int .i64 0, .slice .none 0 0, .slice .none 0 0, .slice .none 0 0], Chunk.box b1_2 39 [.int .i64 x1_1.W, .int .i64 x1_1.H, .slice a1_100 n1_100 c1_100, .slice aout_0 nout_0 cout_0, .slice aout1_0 nout1_0 cout1_0], Chunk.own tInt fout1_0 aout_0 nout_0 cout_0 out1_0, Chunk.own tInt fout2_0 aout1_0 nout1_0 cout1_0 out2_0]) (OpH.callR (ec rfl e0) ca_76 (fun w hs => w_impl_copyPlanes e7_7 (Rd.lit1 (hs.mem mq0) ⟨_, _, rfl, (r6_0_1.ext hs.below)⟩)) ?_) ?_
            · rintro _ _ ⟨a7_700, n7_700, c7_700, f7_700, rfl, rfl⟩
              exact ⟨_, _, _, _, rfl, rfl⟩
            rintro _ _ w' ⟨a7_700, n7_700, c7_700, f7_700, rfl, rfl⟩ hs
            have hn7_8 := ownLen ⟨w', hs⟩ mq0
            obtain ⟨g7_8, go7_8, rfl⟩ := ownAddr ⟨w', hs⟩ mq0 e7_8
            obtain ⟨⟨css7_8, fps7_8, cs7_8, fz7_8⟩, ⟨hcs7_8, hk7_8⟩, hs⟩ := St.focus (F := []) e7_8 hs
            obtain ⟨a7_8_0, c7_8_0, f7_8_0, hz7_8, hs⟩ := tPlane_open (F := []) hs
            subst hz7_8
            refine ⟨_, ?_, hs⟩
            refine ⟨[_, _, _, _, _], rfl, ?_⟩
            refine tk 8 rfl (OpV.idxA rfl rfl se_36 rfl ⟨(idx_some e7_8).1, by rw [hn7_8]; exact (idx_some e7_8).2.1⟩) ?_
            refine al1 9 rfl ?_
            refine OpH.light (OpV.loadN (l := [.bool x7_8.On, .int .i64 x7_8.X, .int .i64 x7_8.Y, .int .i64 x7_8.W, .int .i64 x7_8.H, .int .i64 x7_8.Layout, .slice a7_8_0 x7_8.Words.length c7_8_0, .int .i64 x7_8.Alpha, .int .i64 x7_8.Orient, .int .i64 x7_8.ToW, .int .i64 x7_8.ToH]) rfl ag_61 rfl (fun w hs j v hj => by rw [Addr.add_lit]; exact focCell (hs.mem mq1) hk7_8 hcs7_8 rfl hj)) ?_
            refine ⟨[_, _, _, _, _], rfl, ?_⟩
            refine tk 10 rfl (OpV.idxA rfl rfl se_36 ha7_10 ⟨(upd_some e7_11).1.1, by rw [hn7_10]; exact (upd_some e7_11).1.2⟩) ?_
            refine al0 11 rfl ?_
            refine OpH.wkF (fun _ h => tPlane_mk x7_8.On x7_8.X x7_8.Y x7_8.W x7_8.H x7_8.Layout x7_8.Words x7_8.Alpha x7_8.Orient x7_8.ToW x7_8.ToH h) ?_
            refine OpH.wkF (fun _ h => h.pm 4) ?_
            refine OpH.wkF (fun _ h => h.pm 1) ?_
            refine OpH.setEl (A := tPlane) ha7_10 rfl rfl rfl ts_61 e7_11 ?_
            intro f7_11
            refine ⟨[_, _, _, _], rfl, ?_⟩
            refine WAE.rebase (H := []) ?_
            refine WAE.done (by kernel_rfl) ?_ _
            refine En.block_norm (En.block_norm (En.next (WC.region ?_)))
            refine sp (OpV.addR rfl rfl) ?_
            refine mv ?_
            refine WL.nil ?_
            exact En.backP zb0 zh0 (f7_11, aout_0, nout_0, cout_0, fout1_0, aout1_0, nout1_0, cout1_0, fout2_0) (sc (sc (sc (sc (sc (sc sn)))))) (fun _ h => (((((((h).pm 9).pm 9).pm 2).pm 9).pm 9).pm 9).sub (.cons_cons _ (.cons_cons _ (.cons_cons _ (.cons_cons _ (.cons_cons _ (.cons_cons _ (.cons _ (.cons _ (.cons _ (.cons _ (.slnil))))))))))))
      ·
        intro hc_3
        replace zh0 := ifO_f hc_3 zh0
        refine WC.exit (En.then_exit (En.then_exit ?_))
        have hx := exitP ze0 zh0
        exact En.wk _ _ (sc (sc (sc sn))) (fun _ h => h) (zK0_0 ((out_0, out1_0, out2_0), (fout_0, aout_0, nout_0, cout_0, fout1_0, aout1_0, nout1_0, cout1_0, fout2_0)) hx.symm)

theorem w_slices_EqualFunc_S_impl_Plane_S_impl_Plane_impl_Plane_impl_Plane {s1_p0 : List PlaneT} {s2_p1 : List PlaneT} {eq_p2 : PlaneT → PlaneT → Option Bool} {r : Bool} {q0_0 : Option Addr} {l0_0 k0_0 : Nat} {q1_0 : Option Addr} {l1_0 k1_0 : Nat} {fv2 : Value} (h : slices_EqualFunc_S_impl_Plane_S_impl_Plane_impl_Plane_impl_Plane s1_p0 s2_p1 eq_p2 = some r) {w : World} (r0_0 : Rd tPlane w q0_0 l0_0 k0_0 s1_p0) (r1_0 : Rd tPlane w q1_0 l1_0 k1_0 s2_p1)  (hF2 : ∀ {y0 : PlaneT} {y1 : PlaneT} {r1 : Bool} {qa0 : Option Addr} {na0 ka0 : Nat} {qa1 : Option Addr} {na1 ka1 : Nat} {w1 : World}, Ext w w1 → eq_p2 y0 y1 = some r1 → Rd tInt w1 qa0 na0 ka0 y0.Words → Rd tInt w1 qa1 na1 ka1 y1.Words → CallsV Tryz.prog fv2 [.agg #[.bool y0.On, .int .i64 y0.X, .int .i64 y0.Y, .int .i64 y0.W, .int .i64 y0.H, .int .i64 y0.Layout, .slice qa0 na0 ka0, .int .i64 y0.Alpha, .int .i64 y0.Orient, .int .i64 y0.ToW, .int .i64 y0.ToH], .agg #[.bool y1.On, .int .i64 y1.X, .int .i64 y1.Y, .int .i64 y1.W, .int .i64 y1.H, .int .i64 y1.Layout, .slice qa1 na1 ka1, .int .i64 y1.Alpha, .int .i64 y1.Orient, .int .i64 y1.ToW, .int .i64 y1.ToH]] w1 (fun en w2 => en = .returned (.bool r1) ∧ Ext w1 w2)) :
    Calls Tryz.prog 81 #[.slice q0_0 l0_0 k0_0, .slice q1_0 l1_0 k1_0, fv2] w (fun en w' => en = .returned (.bool r) ∧ Ext w w') := by
 obtain rfl := r0_0.1
 obtain rfl := r1_0.1
 unfold slices_EqualFunc_S_impl_Plane_S_impl_Plane_impl_Plane_impl_Plane at h
 refine enter (vs := [_, _, _]) Tryz.func81 rfl rfl rfl rfl ?_
 refine WC.sr ?_
 refine ag ?_
 refine WL.nil (En.next (WC.seq (WC.sr ?_)))
 refine mv ?_
 refine sp (OpV.len rfl si_36 rfl) ?_
 refine mv ?_
 refine sp (OpV.len rfl si_36 rfl) ?_
 refine sp (OpV.neq rfl rfl) ?_
 refine WL.nil (En.next ?_)
 refine WC.cond rfl ?_ ?_
 ·
  intro hc_1
  replace h := ifO_t hc_1 h
  refine WC.sr ?_
  refine ag ?_
  refine WL.nil (En.next (WC.ret (En.then_ret ?_)))
  refine En.ret1 rfl (Res.tmp rfl) ?_
  obtain rfl := Option.some.inj h
  intro w' hs
  exact ⟨rfl, hs.below⟩
 ·
  intro hc_1
  replace h := ifO_f hc_1 h
  refine WC.skip (En.next (WC.seq (WC.sr ?_)))
  refine mv ?_
  refine sp (OpV.len rfl si_36 rfl) ?_
  refine mv ?_
  refine WL.nil (En.next (WC.block ?_))
  obtain ⟨zy0, ezy0, h⟩ := bnd h
  refine WC.cut (X := (Unit) × (Unit)) (.exit 0) (fun x => zy0 = .inl x.1) (fun x => match x with | ((), ()) => []) (fun x => match x with | ((), ()) => []) ?_ ?_
  ·
   rintro ⟨⟨⟩, ⟨⟩⟩ hx
   replace hx : .inl () = zy0 := hx.symm
   subst hx
   replace h := fork_l h
   show En _ _ _ _ [] []
   refine En.block_exit (En.next (WC.sr ?_))
   refine ag ?_
   refine WL.nil (En.next (WC.ret ?_))
   refine En.ret1 rfl (Res.tmp rfl) ?_
   obtain rfl := Option.some.inj h
   intro w' hs
   exact ⟨rfl, hs.below⟩
  ·
   intro zK0_0
   refine WC.loopP (G := Unit) (fun s g => match s, g with | v_0, () => [(1, .slice q1_0 s2_p1.length k1_0), (2, fv2), (15, .slice q0_0 s1_p0.length k0_0), (16, .int .i64 (s1_p0.length : Int)), (17, .int .i64 v_0)]) (fun s g => match s, g with | v_0, () => []) 0 () ezy0 (by exact sc (sc (sc (sc (sc sn))))) (by exact (fun _ h => h)) ?_
   rintro zm0 v_0 ⟨⟩ zo0 zf0 zb0 ze0
   have zh0 : slices_EqualFunc_S_impl_Plane_S_impl_Plane_impl_Plane_impl_Plane_L0 s1_p0 s2_p1 eq_p2 v_0 = some zo0 := zf0
   unfold slices_EqualFunc_S_impl_Plane_S_impl_Plane_impl_Plane_impl_Plane_L0 at zh0
   show WC _ _ _ _ _ [(1, .slice q1_0 s2_p1.length k1_0), (2, fv2), (15, .slice q0_0 s1_p0.length k0_0), (16, .int .i64 (s1_p0.length : Int)), (17, .int .i64 v_0)] []
   refine WC.sr ?_
   refine sp (OpV.lss rfl rfl) ?_
   refine WL.nil (En.next (WC.seq ?_))
   refine WC.cond rfl ?_ ?_
   ·
    intro hc_2
    replace zh0 := ifO_t hc_2 zh0
    refine WC.skip (En.next (WC.seq (WC.block (WC.seq ?_))))
    obtain ⟨x5_1, e5_1, zh0⟩ := bnd zh0
    obtain ⟨g5_1, o5_1, _, ha5_1, ⟨a5_1_1, c5_1_1, rfl, r5_1_1⟩, hd5_1⟩ := Rd.atIdx r0_0 e5_1
    replace hd5_1 : ∀ (j : Nat) v, ([.bool x5_1.On, .int .i64 x5_1.X, .int .i64 x5_1.Y, .int .i64 x5_1.W, .int .i64 x5_1.H, .int .i64 x5_1.Layout, .slice a5_1_1 x5_1.Words.length c5_1_1, .int .i64 x5_1.Alpha, .int .i64 x5_1.Orient, .int .i64 x5_1.ToW, .int .i64 x5_1.ToH] : List Value)[j]? = some v → w.cell? ⟨g5_1, o5_1 + v_0.toNat * 11 + j, .none⟩ = some v := hd5_1
    refine WC.region ?_
    refine mv ?_
    refine sp (OpV.idxA rfl rfl se_36 ha5_1 ⟨(idx_some e5_1).1, (idx_some e5_1).2.1⟩) ?_
    refine sp (OpV.loadN rfl ag_61 rfl (fun w hs => hs.cellsAt hd5_1)) ?_
    refine WL.heavy rfl rfl rfl (OpH.alloc zc_61 ?_)
    intro b5_3
    refine ag ?_
    refine WL.heavy0 rfl rfl (OpH.storeTo (A := []) [_, _, _, _, _, _, _, _, _, _, _] rfl rfl rfl ts_61 rfl rfl rfl ?_)
    refine WL.nil (En.next (WC.seq ?_))
    obtain ⟨x6_2, e6_2, zh0⟩ := bnd zh0
    obtain ⟨g6_2, o6_2, _, ha6_2, ⟨a6_2_1, c6_2_1, rfl, r6_2_1⟩, hd6_2⟩ := Rd.atIdx r1_0 e6_2
    replace hd6_2 : ∀ (j : Nat) v, ([.bool x6_2.On, .int .i64 x6_2.X, .int .i64 x6_2.Y, .int .i64 x6_2.W, .int .i64 x6_2.H, .int .i64 x6_2.Layout, .slice a6_2_1 x6_2.Words.length c6_2_1, .int .i64 x6_2.Alpha, .int .i64 x6_2.Orient, .int .i64 x6_2.ToW, .int .i64 x6_2.ToH] : List Value)[j]? = some v → w.cell? ⟨g6_2, o6_2 + v_0.toNat * 11 + j, .none⟩ = some v := hd6_2
    refine WC.region ?_
    refine mv ?_
    refine mv ?_
    refine sp (OpV.idxA rfl rfl se_36 ha6_2 ⟨(idx_some e6_2).1, (idx_some e6_2).2.1⟩) ?_
    refine sp (OpV.loadN rfl ag_61 rfl (fun w hs => hs.cellsAt hd6_2)) ?_
    refine WL.heavy rfl rfl rfl (OpH.alloc zc_61 ?_)
    intro b6_4
    refine WL.heavy0 rfl rfl (OpH.storeTo (A := []) [_, _, _, _, _, _, _, _, _, _, _] rfl rfl rfl ts_61 rfl rfl rfl ?_)
    refine WL.nil (En.next (WC.seq ?_))
    obtain ⟨x7_3, e7_3, zh0⟩ := bnd zh0
    refine WC.region ?_
    refine mv ?_
    refine sp (OpV.loadAll rfl mq1 ag_61) ?_
    refine sp (OpV.loadAll rfl mq0 ag_61) ?_
    refine sp (OpV.callV rfl (ec rfl (ec rfl e0)) (fun w hs => hF2 hs.below e7_3 (r5_1_1.ext hs.below) (r6_2_1.ext hs.below))) ?_
    refine sp (OpV.not rfl) ?_
    refine WL.nil (En.next ?_)
    refine WC.cond rfl ?_ ?_
    ·
     intro hc_3
     replace zh0 := ifO_t hc_3 zh0
     refine WC.sr ?_
     refine ag ?_
     refine WL.nil (En.next (WC.ret (En.block_ret (En.then_ret (En.then_ret (En.block_ret (En.then_ret ?_)))))))
     refine En.ret1 rfl (Res.tmp rfl) ?_
     have hx := exitP ze0 zh0
     subst hx
     replace h := fork_r h
     obtain rfl := Option.some.inj h
     intro w' hs
     exact ⟨rfl, hs.below⟩
    ·
     intro hc_3
     replace zh0 := ifO_f hc_3 zh0
     refine WC.skip (En.block_norm (En.next (WC.region ?_)))
     refine sp (OpV.addR rfl rfl) ?_
     refine mv ?_
     refine WL.nil ?_
     exact En.backP zb0 zh0 () (sc (sc (sc (sc (sc sn))))) (fun _ h => (h).sub (.cons _ (.cons _ (.slnil))))
   ·
    intro hc_2
    replace zh0 := ifO_f hc_2 zh0
    refine WC.exit (En.then_exit (En.then_exit ?_))
    have hx := exitP ze0 zh0
    exact En.wk _ _ sn (fun _ h => h) (zK0_0 ((), ()) hx.symm)

theorem w_impl_SameCrtc {a_p0 : CrtcT} {b_p1 : CrtcT} {r : Bool} {q0_0 : Option Addr} {l0_0 k0_0 : Nat} {q0_1 : Option Addr} {l0_1 k0_1 : Nat} {q0_2 : Option Addr} {l0_2 k0_2 : Nat} {q1_0 : Option Addr} {l1_0 k1_0 : Nat} {q1_1 : Option Addr} {l1_1 k1_1 : Nat} {q1_2 : Option Addr} {l1_2 k1_2 : Nat} (h : impl_SameCrtc a_p0 b_p1 = some r) {w : World} (r0_0 : Rd tPlane w q0_0 l0_0 k0_0 a_p0.Planes) (r0_1 : Rd tInt w q0_1 l0_1 k0_1 a_p0.Color.Matrix) (r0_2 : Rd tInt w q0_2 l0_2 k0_2 a_p0.Color.Curve) (r1_0 : Rd tPlane w q1_0 l1_0 k1_0 b_p1.Planes) (r1_1 : Rd tInt w q1_1 l1_1 k1_1 b_p1.Color.Matrix) (r1_2 : Rd tInt w q1_2 l1_2 k1_2 b_p1.Color.Curve)   :
    Calls Tryz.prog 27 #[.agg #[.int .i64 a_p0.W, .int .i64 a_p0.H, .slice q0_0 l0_0 k0_0, .slice q0_1 l0_1 k0_1, .slice q0_2 l0_2 k0_2], .agg #[.int .i64 b_p1.W, .int .i64 b_p1.H, .slice q1_0 l1_0 k1_0, .slice q1_1 l1_1 k1_1, .slice q1_2 l1_2 k1_2]] w (fun en w' => en = .returned (.bool r) ∧ Ext w w') := by
 obtain rfl := r0_0.1
 obtain rfl := r0_1.1
 obtain rfl := r0_2.1
 obtain rfl := r1_0.1
 obtain rfl := r1_1.1
 obtain rfl := r1_2.1
 unfold impl_SameCrtc at h
 refine enter (vs := [_, _]) Tryz.func27 rfl rfl rfl rfl ?_
 refine WC.sr ?_
 refine WL.heavy rfl rfl rfl (OpH.box rfl rfl ?_)
 intro b0_0
 refine WL.heavy rfl rfl rfl (OpH.box rfl rfl ?_)
 intro b0_1
 refine ag ?_
 refine WL.nil (En.next (WC.seq ?_))
 obtain ⟨q1_18, e1_18, h⟩ := bnd h
 obtain ⟨q1_25, e1_25, h⟩ := bnd h
 refine WC.region ?_
 refine sp (OpV.fieldAddr rfl fo_39_0) ?_
 refine sp (OpV.loadBox rfl pt_3 mq1 rfl) ?_
 refine sp (OpV.fieldAddr rfl fo_39_0) ?_
 refine sp (OpV.loadBox rfl pt_3 mq0 rfl) ?_
 refine sp (OpV.eql rfl rfl) ?_
 refine mv ?_
 refine Lt.ofWL.and 10 16 15 (p := ?pz1) (rest := ?qz1) (B := ?Bz1) rfl ?Tz1 ?Fz1 ?az1 ?bz1 ?cz1 ?dz1 ?ez1
 case Tz1 =>
  intro hcz1 hkz1
  refine sp (OpV.fieldAddr rfl fo_39_1) ?_
  refine sp (OpV.loadBox rfl pt_3 mq1 rfl) ?_
  refine sp (OpV.fieldAddr rfl fo_39_1) ?_
  refine sp (OpV.loadBox rfl pt_3 mq0 rfl) ?_
  refine sp (OpV.eql rfl rfl) ?_
  refine hkz1 _ ?_ ?_
  exact rfl
  repeat (first | exact Sub.refl _ | refine Sub.skip rfl ?_)
 case Fz1 =>
  intro hcz1 hkz1
  refine sk ?_
  refine sk ?_
  refine sk ?_
  refine sk ?_
  refine sk ?_
  refine hkz1 _ ?_
  repeat (first | exact Sub.refl _ | refine Sub.skip rfl ?_)
 case az1 => exact rfl
 case bz1 => exact rfl
 case cz1 => exact rfl
 case dz1 => exact rfl
 refine mv ?_
 refine Lt.ofWL.andQ 17 23 22 (p := ?pz2) (rest := ?qz2) (B := q1_18) rfl (fun hz => andO_f e1_18 hz) ?Tz2 ?Fz2 ?az2 ?bz2 ?cz2 ?dz2 ?ez2
 case Tz2 =>
  intro hcz2 hkz2
  have hqz2 := andO_t e1_18 hcz2
  obtain ⟨x1_17, e1_17, hqz2⟩ := bnd hqz2
  obtain rfl := Option.some.inj hqz2
  refine sp (OpV.fieldAddr rfl fo_39_2) ?_
  refine sp (OpV.loadBox rfl pt_36 mq1 rfl) ?_
  refine sp (OpV.fieldAddr rfl fo_39_2) ?_
  refine sp (OpV.loadBox rfl pt_36 mq0 rfl) ?_
  refine sp (OpV.call (ec rfl (ec rfl (ec rfl e0))) ca_81 (fun w hs => w_slices_EqualFunc_S_impl_Plane_S_impl_Plane_impl_Plane_impl_Plane e1_17 (r0_0.ext hs.below) (r1_0.ext hs.below) (fun _ he r0 r1 => CallsV.of ca_77 (w_impl_samePlane he r0 r1)))) ?_
  refine hkz2 _ ?_ ?_
  exact rfl
  repeat (first | exact Sub.refl _ | refine Sub.skip rfl ?_)
 case Fz2 =>
  intro hcz2 hkz2
  refine sk ?_
  refine sk ?_
  refine sk ?_
  refine sk ?_
  refine sk ?_
  refine hkz2 _ ?_
  repeat (first | exact Sub.refl _ | refine Sub.skip rfl ?_)
 case az2 => exact rfl
 case bz2 => exact rfl
 case cz2 => exact rfl
 case dz2 => exact rfl
 refine mv ?_
 refine Lt.ofWL.andQ 24 30 29 (p := ?pz3) (rest := ?qz3) (B := q1_25) rfl (fun hz => andO_f e1_25 hz) ?Tz3 ?Fz3 ?az3 ?bz3 ?cz3 ?dz3 ?ez3
 case Tz3 =>
  intro hcz3 hkz3
  have hqz3 := andO_t e1_25 hcz3
  obtain ⟨x1_24, e1_24, hqz3⟩ := bnd hqz3
  obtain rfl := Option.some.inj hqz3
  refine sp (OpV.fieldAddr rfl fo_39_3) ?_
  refine sp (OpV.loadPart rfl mq1 ag_37 rfl rfl) ?_
  refine sp (OpV.fieldAddr rfl fo_39_3) ?_
  refine sp (OpV.loadPart rfl mq0 ag_37 rfl rfl) ?_
  refine sp (OpV.call (ec rfl (ec rfl e0)) ca_78 (fun w hs => w_impl_sameColor e1_24 (r0_1.ext hs.below) (r0_2.ext hs.below) (r1_1.ext hs.below) (r1_2.ext hs.below))) ?_
  refine hkz3 _ ?_ ?_
  exact rfl
  repeat (first | exact Sub.refl _ | refine Sub.skip rfl ?_)
 case Fz3 =>
  intro hcz3 hkz3
  refine sk ?_
  refine sk ?_
  refine sk ?_
  refine sk ?_
  refine sk ?_
  refine hkz3 _ ?_
  repeat (first | exact Sub.refl _ | refine Sub.skip rfl ?_)
 case az3 => exact rfl
 case bz3 => exact rfl
 case cz3 => exact rfl
 case dz3 => exact rfl
 refine ag ?_
 refine WL.nil (En.next (WC.ret ?_))
 refine En.ret1 rfl (Res.tmp rfl) ?_
 obtain rfl := Option.some.inj h
 intro w' hs
 exact ⟨rfl, hs.below⟩

theorem w_laws_FnChangesLead {a_p0 : List Int} {r : Bool} {q0_0 : Option Addr} {l0_0 k0_0 : Nat} (h : laws_FnChangesLead a_p0 = some r) {w : World} (r0_0 : Rd tU8 w q0_0 l0_0 k0_0 a_p0)   :
    Calls Tryz.prog 5 #[.slice q0_0 l0_0 k0_0] w (fun en w' => en = .returned (.bool r) ∧ Ext w w') := by
 obtain rfl := r0_0.1
 unfold laws_FnChangesLead at h
 refine enter (vs := [_]) Tryz.func5 rfl rfl rfl rfl ?_
 refine WC.sr ?_
 refine ag ?_
 refine WL.nil (En.next (WC.seq (WC.seq ?_)))
 obtain ⟨x1_1, e1_1, h⟩ := bnd h
 refine WC.region ?_
 refine mv ?_
 refine sp (OpV.call (ec rfl e0) ca_21 (fun w hs => w_laws_big e1_1 (r0_0.ext hs.below))) ?_
 refine WL.nil (En.next ?_)
 refine WC.cond rfl ?_ ?_
 ·
  intro hc_1
  replace h := ifO_t hc_1 h
  refine WC.sr ?_
  refine ag ?_
  refine WL.nil (En.next (WC.ret (En.then_ret ?_)))
  refine En.ret1 rfl (Res.tmp rfl) ?_
  obtain rfl := Option.some.inj h
  intro w' hs
  exact ⟨rfl, hs.below⟩
 ·
  intro hc_1
  replace h := ifO_f hc_1 h
  refine WC.skip (En.next (WC.seq ?_))
  obtain ⟨⟨x3_1a, x3_1b⟩, e3_1, h⟩ := bnd h
  refine WC.region ?_
  refine mv ?_
  refine WL.heavy rfl rfl rfl (OpH.callR (ec rfl e0) ca_22 (fun w hs => w_spec_DrawChanges e3_1 (r0_0.ext hs.below)) ?_)
  rintro _ _ ⟨a3_100, n3_100, c3_100, f3_100, a3_101, n3_101, c3_101, f3_101, a3_102, n3_102, c3_102, f3_102, a3_110, n3_110, c3_110, f3_110, W3_110, G3_110, rfl, rfl⟩
  refine mv ?_
  refine sp (OpV.extract rfl rfl) ?_
  refine sp (OpV.extract rfl rfl) ?_
  refine WL.heavy rfl rfl rfl (OpH.alloc zc_39 ?_)
  intro b3_5
  refine WL.heavy0 rfl rfl (OpH.storeTo (A := []) [_, _, _, _, _] rfl rfl rfl ts_39 rfl rfl rfl ?_)
  refine ag ?_
  refine WL.nil (En.next (WC.seq ?_))
  obtain ⟨⟨x4_2a, x4_2b⟩, e4_2, h⟩ := bnd h
  refine WC.region ?_
  refine sp (OpV.loadAll rfl mq0 ag_39) ?_
  refine mv ?_
  refine WL.heavy rfl rfl rfl (OpH.callR (ec rfl (ec rfl e0)) ca_23 (fun w hs => w_spec_TestChanges e4_2 (Ow.rd (hs.mem mq1)) (Ow.rd (hs.mem mq2)) (Ow.rd (hs.mem mq3)) (Rd.al (Ow.rd (hs.mem mq4)) (hs.mem mq5))) ?_)
  rintro _ _ ⟨a4_200, n4_200, c4_200, f4_200, a4_201, n4_201, c4_201, f4_201, a4_202, n4_202, c4_202, f4_202, rfl, rfl⟩
  refine mv ?_
  refine sp (OpV.extract rfl rfl) ?_
  refine sp (OpV.extract rfl rfl) ?_
  refine WL.heavy rfl rfl rfl (OpH.alloc zc_39 ?_)
  intro b4_6
  refine WL.heavy0 rfl rfl (OpH.storeTo (A := []) [_, _, _, _, _] rfl rfl rfl ts_39 rfl rfl rfl ?_)
  refine ag ?_
  refine WL.nil (En.next (WC.seq ?_))
  obtain ⟨x5_5, e5_5, h⟩ := bnd h
  refine WC.region ?_
  refine sp (OpV.loadAll rfl mq4 ag_39) ?_
  refine sp (OpV.fieldAddr rfl fo_39_2) ?_
  refine sp (OpV.loadBox rfl pt_36 mq0 rfl) ?_
  refine sp (OpV.fieldAddr rfl fo_39_3) ?_
  refine sp (OpV.loadPart rfl mq0 ag_37 rfl rfl) ?_
  refine WL.heavy rfl rfl rfl (OpH.callR (ec rfl (ec rfl (ec rfl e0))) ca_24 (fun w hs => w_impl_ChangesFor e5_5 (Ow.rd (hs.mem mq5)) (Ow.rd (hs.mem mq6)) (Ow.rd (hs.mem mq7)) (Ow.rd (hs.mem mq1)) (Ow.rd (hs.mem mq2)) (Ow.rd (hs.mem mq3))) ?_)
  rintro _ _ ⟨a5_500, n5_500, c5_500, f5_500, rfl, rfl⟩
  refine ag ?_
  refine WL.nil (En.next (WC.seq ?_))
  obtain ⟨⟨x6_2a, x6_2b⟩, e6_2, h⟩ := bnd h
  refine WC.region ?_
  refine sp (OpV.loadAll rfl mq5 ag_39) ?_
  refine mv ?_
  refine WL.heavy rfl rfl rfl (OpH.callR (ec rfl (ec rfl e0)) ca_25 (fun w hs => w_impl_TestChanges e6_2 (Ow.rd (hs.mem mq6)) (Ow.rd (hs.mem mq7)) (Ow.rd (hs.mem mq8)) (Ow.rd (hs.mem mq0))) ?_)
  rintro _ _ ⟨a6_200, n6_200, c6_200, f6_200, a6_201, n6_201, c6_201, f6_201, a6_202, n6_202, c6_202, f6_202, rfl, rfl⟩
  refine mv ?_
  refine sp (OpV.extract rfl rfl) ?_
  refine sp (OpV.extract rfl rfl) ?_
  refine WL.heavy rfl rfl rfl (OpH.alloc zc_39 ?_)
  intro b6_6
  refine WL.heavy0 rfl rfl (OpH.storeTo (A := []) [_, _, _, _, _] rfl rfl rfl ts_39 rfl rfl rfl ?_)
  refine ag ?_
  refine WL.nil (En.next (WC.seq (WC.sr ?_)))
  refine ag ?_
  refine WL.nil (En.next (WC.block ?_))
  obtain ⟨zy0, ezy0, h⟩ := bnd h
  refine WC.cut (X := (Unit) × ((List Nat))) (.exit 0) (fun x => zy0 = .inl x.1) (fun x => match x with | ((), fv_0e) => [(5, .pointer (some ⟨b4_6, 0, .none⟩)), (7, .slice a5_500 n5_500 c5_500), (8, .pointer (some ⟨b6_6, 0, .none⟩)), (9, .bool x6_2b)]) (fun x => match x with | ((), fv_0e) => [Chunk.box b4_6 39 [.int .i64 x4_2a.W, .int .i64 x4_2a.H, .slice a4_200 n4_200 c4_200, .slice a4_201 n4_201 c4_201, .slice a4_202 n4_202 c4_202], Chunk.own tPlane f4_200 a4_200 n4_200 c4_200 x4_2a.Planes, Chunk.own tInt f4_201 a4_201 n4_201 c4_201 x4_2a.Color.Matrix, Chunk.own tInt f4_202 a4_202 n4_202 c4_202 x4_2a.Color.Curve, Chunk.own tChange fv_0e a5_500 n5_500 c5_500 x5_5, Chunk.box b6_6 39 [.int .i64 x6_2a.W, .int .i64 x6_2a.H, .slice a6_200 n6_200 c6_200, .slice a6_201 n6_201 c6_201, .slice a6_202 n6_202 c6_202], Chunk.own tPlane f6_200 a6_200 n6_200 c6_200 x6_2a.Planes, Chunk.own tInt f6_201 a6_201 n6_201 c6_201 x6_2a.Color.Matrix, Chunk.own tInt f6_202 a6_202 n6_202 c6_202 x6_2a.Color.Curve, Chunk.vault G3_110 W3_110]) ?_ ?_
  ·
   rintro ⟨⟨⟩, fv_0e⟩ hx
   replace hx : .inl () = zy0 := hx.symm
   subst hx
   replace h := fork_l h
   show En _ _ _ _ [(5, .pointer (some ⟨b4_6, 0, .none⟩)), (7, .slice a5_500 n5_500 c5_500), (8, .pointer (some ⟨b6_6, 0, .none⟩)), (9, .bool x6_2b)] [Chunk.box b4_6 39 [.int .i64 x4_2a.W, .int .i64 x4_2a.H, .slice a4_200 n4_200 c4_200, .slice a4_201 n4_201 c4_201, .slice a4_202 n4_202 c4_202], Chunk.own tPlane f4_200 a4_200 n4_200 c4_200 x4_2a.Planes, Chunk.own tInt f4_201 a4_201 n4_201 c4_201 x4_2a.Color.Matrix, Chunk.own tInt f4_202 a4_202 n4_202 c4_202 x4_2a.Color.Curve, Chunk.own tChange fv_0e a5_500 n5_500 c5_500 x5_5, Chunk.box b6_6 39 [.int .i64 x6_2a.W, .int .i64 x6_2a.H, .slice a6_200 n6_200 c6_200, .slice a6_201 n6_201 c6_201, .slice a6_202 n6_202 c6_202], Chunk.own tPlane f6_200 a6_200 n6_200 c6_200 x6_2a.Planes, Chunk.own tInt f6_201 a6_201 n6_201 c6_201 x6_2a.Color.Matrix, Chunk.own tInt f6_202 a6_202 n6_202 c6_202 x6_2a.Color.Curve, Chunk.vault G3_110 W3_110]
   refine En.block_exit (En.next (WC.seq ?_))
   obtain ⟨q12_5, e12_5, h⟩ := bnd h
   obtain ⟨q12_15, e12_15, h⟩ := bnd h
   refine WC.region ?_
   refine mv ?_
   refine mv ?_
   refine Lt.ofWL.andQ 49 53 52 (p := ?pz1) (rest := ?qz1) (B := q12_5) rfl (fun hz => andO_f e12_5 hz) ?Tz1 ?Fz1 ?az1 ?bz1 ?cz1 ?dz1 ?ez1
   case Tz1 =>
    intro hcz1 hkz1
    have hqz1 := andO_t e12_5 hcz1
    obtain ⟨x12_4, e12_4, hqz1⟩ := bnd hqz1
    obtain rfl := Option.some.inj hqz1
    refine sp (OpV.loadAll rfl mq5 ag_39) ?_
    refine sp (OpV.loadAll rfl mq0 ag_39) ?_
    refine sp (OpV.call (ec rfl (ec rfl e0)) ca_27 (fun w hs => w_impl_SameCrtc e12_4 (Ow.rd (hs.mem mq6)) (Ow.rd (hs.mem mq7)) (Ow.rd (hs.mem mq8)) (Ow.rd (hs.mem mq1)) (Ow.rd (hs.mem mq2)) (Ow.rd (hs.mem mq3)))) ?_
    refine hkz1 _ ?_ ?_
    exact rfl
    repeat (first | exact Sub.refl _ | refine Sub.skip rfl ?_)
   case Fz1 =>
    intro hcz1 hkz1
    refine sk ?_
    refine sk ?_
    refine sk ?_
    refine hkz1 _ ?_
    repeat (first | exact Sub.refl _ | refine Sub.skip rfl ?_)
   case az1 => exact rfl
   case bz1 => exact rfl
   case cz1 => exact rfl
   case dz1 => exact rfl
   refine mv ?_
   refine WL.mid 9 (E' := [(7, .slice a5_500 n5_500 c5_500), (63, .bool q12_15)]) (F' := [Chunk.box b4_6 39 [.int .i64 x4_2a.W, .int .i64 x4_2a.H, .slice a4_200 n4_200 c4_200, .slice a4_201 n4_201 c4_201, .slice a4_202 n4_202 c4_202], Chunk.own tPlane f4_200 a4_200 n4_200 c4_200 x4_2a.Planes, Chunk.own tInt f4_201 a4_201 n4_201 c4_201 x4_2a.Color.Matrix, Chunk.own tInt f4_202 a4_202 n4_202 c4_202 x4_2a.Color.Curve, Chunk.own tChange fv_0e a5_500 n5_500 c5_500 x5_5, Chunk.box b6_6 39 [.int .i64 x6_2a.W, .int .i64 x6_2a.H, .slice a6_200 n6_200 c6_200, .slice a6_201 n6_201 c6_201, .slice a6_202 n6_202 c6_202], Chunk.own tPlane f6_200 a6_200 n6_200 c6_200 x6_2a.Planes, Chunk.own tInt f6_201 a6_201 n6_201 c6_201 x6_2a.Color.Matrix, Chunk.own tInt f6_202 a6_202 n6_202 c6_202 x6_2a.Color.Curve, Chunk.vault G3_110 W3_110]) (fun KGz2 => ?_) ?_
   ·
    refine WL.split (t := 54) rfl (fun hAz2 => ?_) (fun hAz2 => ?_)
    ·
     have hqz2 := ifO_t hAz2 e12_15
     obtain ⟨x12_12, e12_12, hqz2⟩ := bnd hqz2
     replace hqz2 := Option.some.inj hqz2
     obtain rfl := hqz2
     refine sp (OpV.loadAll rfl mq0 ag_39) ?_
     refine sp (OpV.fieldAddr rfl fo_39_2) ?_
     refine sp (OpV.loadBox rfl pt_36 mq0 rfl) ?_
     refine sp (OpV.fieldAddr rfl fo_39_3) ?_
     refine sp (OpV.loadPart rfl mq0 ag_37 rfl rfl) ?_
     refine WL.heavy rfl rfl rfl (OpH.callR (ec rfl (ec rfl (ec rfl e0))) ca_24 (fun w hs => w_impl_ChangesFor e12_12 (Ow.rd (hs.mem mq1)) (Ow.rd (hs.mem mq2)) (Ow.rd (hs.mem mq3)) (Ow.rd (hs.mem mq1)) (Ow.rd (hs.mem mq2)) (Ow.rd (hs.mem mq3))) ?_)
     rintro _ _ ⟨a12_1200, n12_1200, c12_1200, f12_1200, rfl, rfl⟩
     refine sp (OpV.inhF fun hin => OpV.lenO (xs := x12_12) rfl si_53 rfl (ownLen hin mq0)) ?_
     refine sp (OpV.eql rfl rfl) ?_
     refine sp (OpV.pickT rfl rfl) ?_
     exact WL.wk (sc (sc sn)) (fun _ h => (((((((((((h).pm 10).pm 10).pm 10).pm 10).pm 10).pm 10).pm 10).pm 10).pm 10).pm 10).sub (.cons_cons _ (.cons_cons _ (.cons_cons _ (.cons_cons _ (.cons_cons _ (.cons_cons _ (.cons_cons _ (.cons_cons _ (.cons_cons _ (.cons_cons _ (.cons _ (.slnil))))))))))))) KGz2
    ·
     have hqz2 := ifO_f hAz2 e12_15
     replace hqz2 := Option.some.inj hqz2
     obtain rfl := hqz2
     refine sk ?_
     refine sk ?_
     refine sk ?_
     refine sk ?_
     refine sk ?_
     refine sk ?_
     refine sk ?_
     refine sk ?_
     refine sp (OpV.pickF rfl rfl) ?_
     exact WL.wk (sc (sc sn)) (fun _ h => h) KGz2
   refine mv ?_
   refine Lt.ofWL.and 64 68 67 (p := ?pz3) (rest := ?qz3) (B := ?Bz3) rfl ?Tz3 ?Fz3 ?az3 ?bz3 ?cz3 ?dz3 ?ez3
   case Tz3 =>
    intro hcz3 hkz3
    refine mv ?_
    refine sp (OpV.inhF fun hin => OpV.lenO (xs := x5_5) rfl si_53 rfl (ownLen hin mq4)) ?_
    refine sp (OpV.leq rfl rfl) ?_
    refine hkz3 _ ?_ ?_
    exact rfl
    repeat (first | exact Sub.refl _ | refine Sub.skip rfl ?_)
   case Fz3 =>
    intro hcz3 hkz3
    refine sk ?_
    refine sk ?_
    refine sk ?_
    refine hkz3 _ ?_
    repeat (first | exact Sub.refl _ | refine Sub.skip rfl ?_)
   case az3 => exact rfl
   case bz3 => exact rfl
   case cz3 => exact rfl
   case dz3 => exact rfl
   refine ag ?_
   refine WL.nil (En.next (WC.ret ?_))
   refine En.ret1 rfl (Res.tmp rfl) ?_
   obtain rfl := Option.some.inj h
   intro w' hs
   exact ⟨rfl, hs.below⟩
  ·
   intro zK0_0
   refine WC.loopP (G := (List Nat)) (fun s g => match s, g with | v_0, fv_0 => [(5, .pointer (some ⟨b4_6, 0, .none⟩)), (7, .slice a5_500 n5_500 c5_500), (8, .pointer (some ⟨b6_6, 0, .none⟩)), (9, .bool x6_2b), (10, .int .i64 v_0)]) (fun s g => match s, g with | v_0, fv_0 => [Chunk.box b4_6 39 [.int .i64 x4_2a.W, .int .i64 x4_2a.H, .slice a4_200 n4_200 c4_200, .slice a4_201 n4_201 c4_201, .slice a4_202 n4_202 c4_202], Chunk.own tPlane f4_200 a4_200 n4_200 c4_200 x4_2a.Planes, Chunk.own tInt f4_201 a4_201 n4_201 c4_201 x4_2a.Color.Matrix, Chunk.own tInt f4_202 a4_202 n4_202 c4_202 x4_2a.Color.Curve, Chunk.own tChange fv_0 a5_500 n5_500 c5_500 x5_5, Chunk.box b6_6 39 [.int .i64 x6_2a.W, .int .i64 x6_2a.H, .slice a6_200 n6_200 c6_200, .slice a6_201 n6_201 c6_201, .slice a6_202 n6_202 c6_202], Chunk.own tPlane f6_200 a6_200 n6_200 c6_200 x6_2a.Planes, Chunk.own tInt f6_201 a6_201 n6_201 c6_201 x6_2a.Color.Matrix, Chunk.own tInt f6_202 a6_202 n6_202 c6_202 x6_2a.Color.Curve, Chunk.vault G3_110 W3_110]) 0 f5_500 ezy0 (by exact sc (sc (sc (sc (sc sn))))) (by exact (fun _ h => (((((((((((h).pm 14).pm 4).pm 4).pm 4).pm 4).pm 5).pm 9).pm 9).pm 9).pm 9).sub (.cons_cons _ (.cons_cons _ (.cons_cons _ (.cons_cons _ (.cons_cons _ (.cons_cons _ (.cons_cons _ (.cons_cons _ (.cons_cons _ (.cons_cons _ (.cons _ (.cons _ (.cons _ (.cons _ (.cons _ (.slnil)))))))))))))))))) ?_
   rintro zm0 v_0 fv_0 zo0 zf0 zb0 ze0
   have zh0 : laws_FnChangesLead_L0 x5_5 v_0 = some zo0 := zf0
   unfold laws_FnChangesLead_L0 at zh0
   show WC _ _ _ _ _ [(5, .pointer (some ⟨b4_6, 0, .none⟩)), (7, .slice a5_500 n5_500 c5_500), (8, .pointer (some ⟨b6_6, 0, .none⟩)), (9, .bool x6_2b), (10, .int .i64 v_0)] [Chunk.box b4_6 39 [.int .i64 x4_2a.W, .int .i64 x4_2a.H, .slice a4_200 n4_200 c4_200, .slice a4_201 n4_201 c4_201, .slice a4_202 n4_202 c4_202], Chunk.own tPlane f4_200 a4_200 n4_200 c4_200 x4_2a.Planes, Chunk.own tInt f4_201 a4_201 n4_201 c4_201 x4_2a.Color.Matrix, Chunk.own tInt f4_202 a4_202 n4_202 c4_202 x4_2a.Color.Curve, Chunk.own tChange fv_0 a5_500 n5_500 c5_500 x5_5, Chunk.box b6_6 39 [.int .i64 x6_2a.W, .int .i64 x6_2a.H, .slice a6_200 n6_200 c6_200, .slice a6_201 n6_201 c6_201, .slice a6_202 n6_202 c6_202], Chunk.own tPlane f6_200 a6_200 n6_200 c6_200 x6_2a.Planes, Chunk.own tInt f6_201 a6_201 n6_201 c6_201 x6_2a.Color.Matrix, Chunk.own tInt f6_202 a6_202 n6_202 c6_202 x6_2a.Color.Curve, Chunk.vault G3_110 W3_110]
   refine WC.seq (WC.sr ?_)
   refine mv ?_
   refine mv ?_
   refine sp (OpV.inhF fun hin => OpV.lenO (xs := x5_5) rfl si_53 rfl (ownLen hin mq4)) ?_
   refine sp (OpV.lss rfl rfl) ?_
   refine WL.nil (En.next ?_)
   refine WC.cond rfl ?_ ?_
   ·
    intro hc_2
    replace zh0 := ifO_t hc_2 zh0
    refine WC.skip (En.next (WC.seq (WC.block (WC.seq ?_))))
    refine WC.inh fun hin10 => ?_
    obtain ⟨x10_2, e10_2, zh0⟩ := bnd zh0
    obtain ⟨g10_2, o10_2, ha10_2⟩ := ownAddr hin10 mq4 e10_2
    have hn10_2 := ownLen hin10 mq4
    obtain ⟨x10_4, e10_4, zh0⟩ := bnd zh0
    refine WC.region ?_
    refine mv ?_
    refine mv ?_
    refine sp (OpV.idxA rfl rfl se_53 ha10_2 ⟨(idx_some e10_2).1, by rw [hn10_2]; exact (idx_some e10_2).2.1⟩) ?_
    refine WL.exF (fun w h => St.focus (F := [_, _, _, _]) e10_2 h) ?_
    rintro ⟨css10_2, fps10_2, cs10_2, fz10_2⟩ ⟨hcs10_2, hk10_2⟩
    refine WL.exF (X := (Option Addr) × Nat × (List Nat) × (Option Addr) × Nat × (List Nat) × (Option Addr) × Nat × (List Nat)) (Pre := fun x => match x with | (a10_2_0, c10_2_0, f10_2_0, a10_2_1, c10_2_1, f10_2_1, a10_2_2, c10_2_2, f10_2_2) => cs10_2 = [.int .i64 x10_2.Plane, .bool x10_2.Value.On, .int .i64 x10_2.Value.X, .int .i64 x10_2.Value.Y, .int .i64 x10_2.Value.W, .int .i64 x10_2.Value.H, .int .i64 x10_2.Value.Layout, .slice a10_2_0 x10_2.Value.Words.length c10_2_0, .int .i64 x10_2.Value.Alpha, .int .i64 x10_2.Value.Orient, .int .i64 x10_2.Value.ToW, .int .i64 x10_2.Value.ToH, .slice a10_2_1 x10_2.Color.Matrix.length c10_2_1, .slice a10_2_2 x10_2.Color.Curve.length c10_2_2]) (F' := fun x => match x with | (a10_2_0, c10_2_0, f10_2_0, a10_2_1, c10_2_1, f10_2_1, a10_2_2, c10_2_2, f10_2_2) => [Chunk.box b4_6 39 [.int .i64 x4_2a.W, .int .i64 x4_2a.H, .slice a4_200 n4_200 c4_200, .slice a4_201 n4_201 c4_201, .slice a4_202 n4_202 c4_202], Chunk.own tPlane f4_200 a4_200 n4_200 c4_200 x4_2a.Planes, Chunk.own tInt f4_201 a4_201 n4_201 c4_201 x4_2a.Color.Matrix, Chunk.own tInt f4_202 a4_202 n4_202 c4_202 x4_2a.Color.Curve, Chunk.own tInt f10_2_0 a10_2_0 x10_2.Value.Words.length c10_2_0 x10_2.Value.Words, Chunk.own tInt f10_2_1 a10_2_1 x10_2.Color.Matrix.length c10_2_1 x10_2.Color.Matrix, Chunk.own tInt f10_2_2 a10_2_2 x10_2.Color.Curve.length c10_2_2 x10_2.Color.Curve, Chunk.row tChange.T tChange.k a5_500 x5_5.length c5_500 css10_2.flatten, Chunk.inX tChange css10_2 fps10_2 x5_5 v_0.toNat, Chunk.box b6_6 39 [.int .i64 x6_2a.W, .int .i64 x6_2a.H, .slice a6_200 n6_200 c6_200, .slice a6_201 n6_201 c6_201, .slice a6_202 n6_202 c6_202], Chunk.own tPlane f6_200 a6_200 n6_200 c6_200 x6_2a.Planes, Chunk.own tInt f6_201 a6_201 n6_201 c6_201 x6_2a.Color.Matrix, Chunk.own tInt f6_202 a6_202 n6_202 c6_202 x6_2a.Color.Curve, Chunk.vault G3_110 W3_110]) (fun w h => let ⟨a10_2_0, c10_2_0, f10_2_0, a10_2_1, c10_2_1, f10_2_1, a10_2_2, c10_2_2, f10_2_2, e, hs⟩ := tChange_open (F := [_, _, _, _]) h; ⟨(a10_2_0, c10_2_0, f10_2_0, a10_2_1, c10_2_1, f10_2_1, a10_2_2, c10_2_2, f10_2_2), e, hs⟩) ?_
    rintro ⟨a10_2_0, c10_2_0, f10_2_0, a10_2_1, c10_2_1, f10_2_1, a10_2_2, c10_2_2, f10_2_2⟩ hz10_2
    replace hz10_2 : cs10_2 = [.int .i64 x10_2.Plane, .bool x10_2.Value.On, .int .i64 x10_2.Value.X, .int .i64 x10_2.Value.Y, .int .i64 x10_2.Value.W, .int .i64 x10_2.Value.H, .int .i64 x10_2.Value.Layout, .slice a10_2_0 x10_2.Value.Words.length c10_2_0, .int .i64 x10_2.Value.Alpha, .int .i64 x10_2.Value.Orient, .int .i64 x10_2.Value.ToW, .int .i64 x10_2.Value.ToH, .slice a10_2_1 x10_2.Color.Matrix.length c10_2_1, .slice a10_2_2 x10_2.Color.Curve.length c10_2_2] := hz10_2
    subst hz10_2
    show WL _ _ _ _ _ _ _ [Chunk.box b4_6 39 [.int .i64 x4_2a.W, .int .i64 x4_2a.H, .slice a4_200 n4_200 c4_200, .slice a4_201 n4_201 c4_201, .slice a4_202 n4_202 c4_202], Chunk.own tPlane f4_200 a4_200 n4_200 c4_200 x4_2a.Planes, Chunk.own tInt f4_201 a4_201 n4_201 c4_201 x4_2a.Color.Matrix, Chunk.own tInt f4_202 a4_202 n4_202 c4_202 x4_2a.Color.Curve, Chunk.own tInt f10_2_0 a10_2_0 x10_2.Value.Words.length c10_2_0 x10_2.Value.Words, Chunk.own tInt f10_2_1 a10_2_1 x10_2.Color.Matrix.length c10_2_1 x10_2.Color.Matrix, Chunk.own tInt f10_2_2 a10_2_2 x10_2.Color.Curve.length c10_2_2 x10_2.Color.Curve, Chunk.row tChange.T tChange.k a5_500 x5_5.length c5_500 css10_2.flatten, Chunk.inX tChange css10_2 fps10_2 x5_5 v_0.toNat, Chunk.box b6_6 39 [.int .i64 x6_2a.W, .int .i64 x6_2a.H, .slice a6_200 n6_200 c6_200, .slice a6_201 n6_201 c6_201, .slice a6_202 n6_202 c6_202], Chunk.own tPlane f6_200 a6_200 n6_200 c6_200 x6_2a.Planes, Chunk.own tInt f6_201 a6_201 n6_201 c6_201 x6_2a.Color.Matrix, Chunk.own tInt f6_202 a6_202 n6_202 c6_202 x6_2a.Color.Curve, Chunk.vault G3_110 W3_110]
    refine sp (OpV.loadN (l := [.int .i64 x10_2.Plane, .bool x10_2.Value.On, .int .i64 x10_2.Value.X, .int .i64 x10_2.Value.Y, .int .i64 x10_2.Value.W, .int .i64 x10_2.Value.H, .int .i64 x10_2.Value.Layout, .slice a10_2_0 x10_2.Value.Words.length c10_2_0, .int .i64 x10_2.Value.Alpha, .int .i64 x10_2.Value.Orient, .int .i64 x10_2.Value.ToW, .int .i64 x10_2.Value.ToH, .slice a10_2_1 x10_2.Color.Matrix.length c10_2_1, .slice a10_2_2 x10_2.Color.Curve.length c10_2_2]) rfl ag_63 rfl (fun w hs j v hj => by rw [Addr.add_lit]; exact focCell (hs.mem mq7) hk10_2 hcs10_2 ha10_2 hj)) ?_
    refine sp (OpV.call (ec rfl e0) ca_26 (fun w hs => w_impl_ChangeOk e10_4 (Ow.rd (hs.mem mq4)) (Ow.rd (hs.mem mq5)) (Ow.rd (hs.mem mq6)))) ?_
    refine sp (OpV.not rfl) ?_
    refine WL.nil ?_
    refine En.wk _ _ (Sub.refl _) (fun _ h => (((((h).pm 8).pm 8).pm 8).pm 8).pm 8) ?_
    refine En.exF (fun w h => St.unfocus (F := []) hcs10_2 hn10_2 (upd_same e10_2) (tChange_mk x10_2.Plane x10_2.Value x10_2.Color h)) ?_
    rintro fp10_2_u _
    refine En.next ?_
    refine WC.cond rfl ?_ ?_
    ·
     intro hc_3
     replace zh0 := ifO_t hc_3 zh0
     refine WC.sr ?_
     refine ag ?_
     refine WL.nil (En.next (WC.ret (En.block_ret (En.then_ret (En.then_ret (En.block_ret (En.then_ret ?_)))))))
     refine En.ret1 rfl (Res.tmp rfl) ?_
     have hx := exitP ze0 zh0
     subst hx
     replace h := fork_r h
     obtain rfl := Option.some.inj h
     intro w' hs
     exact ⟨rfl, hs.below⟩
    ·
     intro hc_3
     replace zh0 := ifO_f hc_3 zh0
     refine WC.skip (En.block_norm (En.next (WC.region ?_)))
     refine mv ?_
     refine sp (OpV.addR rfl rfl) ?_
     refine ag ?_
     refine WL.nil ?_
     exact En.backP zb0 zh0 fp10_2_u (sc (sc (sc (sc (sc sn))))) (fun _ h => ((((((((((h).pm 9).pm 9).pm 9).pm 9).pm 9).pm 5).pm 9).pm 9).pm 9).pm 9)
   ·
    intro hc_2
    replace zh0 := ifO_f hc_2 zh0
    refine WC.exit (En.then_exit (En.then_exit ?_))
    have hx := exitP ze0 zh0
    exact En.wk _ _ (sc (sc (sc (sc sn)))) (fun _ h => h) (zK0_0 ((), fv_0) hx.symm)

end Go.Proofs.YtmhalmnbgkpmnaaGreat
