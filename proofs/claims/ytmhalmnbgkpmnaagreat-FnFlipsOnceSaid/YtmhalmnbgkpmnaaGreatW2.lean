/- Walks: the program computes the pure functions. -/
import Derived.Test.YtmhalmnbgkpmnaaGreatW1
namespace Go.Proofs.YtmhalmnbgkpmnaaGreat
open Go.RowKit K
set_option maxRecDepth 100000
set_option maxHeartbeats 4000000

theorem w_impl_copyCrtc {c_p0 : CrtcT} {r : CrtcT} {q0_0 : Option Addr} {l0_0 k0_0 : Nat} {q0_1 : Option Addr} {l0_1 k0_1 : Nat} {q0_2 : Option Addr} {l0_2 k0_2 : Nat} (h : impl_copyCrtc c_p0 = some r) {w : World} (r0_0 : Rd tPlane w q0_0 l0_0 k0_0 c_p0.Planes) (r0_1 : Rd tInt w q0_1 l0_1 k0_1 c_p0.Color.Matrix) (r0_2 : Rd tInt w q0_2 l0_2 k0_2 c_p0.Color.Curve)   :
    Calls Tryz.prog 50 #[.agg #[.int .i64 c_p0.W, .int .i64 c_p0.H, .slice q0_0 l0_0 k0_0, .slice q0_1 l0_1 k0_1, .slice q0_2 l0_2 k0_2]] w (fun en w' => ∃ rv G, en = .returned rv ∧ (∃ (a0_0 : Option Addr) (n0_0 : Nat) (c0_0 : Nat) (f0_0 : List Nat) (a0_1 : Option Addr) (n0_1 : Nat) (c0_1 : Nat) (f0_1 : List Nat) (a0_2 : Option Addr) (n0_2 : Nat) (c0_2 : Nat) (f0_2 : List Nat), rv = .agg #[.int .i64 r.W, .int .i64 r.H, .slice a0_0 n0_0 c0_0, .slice a0_1 n0_1 c0_1, .slice a0_2 n0_2 c0_2] ∧ G = [Chunk.own tPlane f0_0 a0_0 n0_0 c0_0 r.Planes, Chunk.own tInt f0_1 a0_1 n0_1 c0_1 r.Color.Matrix, Chunk.own tInt f0_2 a0_2 n0_2 c0_2 r.Color.Curve]) ∧ St w G w') := by
 obtain rfl := r0_0.1
 obtain rfl := r0_1.1
 obtain rfl := r0_2.1
 unfold impl_copyCrtc at h
 refine enter (vs := [_]) Tryz.func50 rfl rfl rfl rfl ?_
 refine WC.sr ?_
 refine WL.heavy rfl rfl rfl (OpH.box rfl rfl ?_)
 intro b0_0
 refine WL.heavy rfl rfl rfl (OpH.alloc zc_39 ?_)
 intro b0_1
 refine WL.nil (En.next (WC.seq ?_))
 obtain ⟨x1_6, e1_6, h⟩ := bnd h
 obtain ⟨x1_9, e1_9, h⟩ := bnd h
 refine WC.drawnH [_] ([_]) (fun _ h => h) (by kernel_rfl) ?_
 refine tk 0 rfl (OpV.fieldAddr rfl fo_39_0) ?_
 refine tk 1 rfl (OpV.loadBox rfl pt_3 mq0 rfl) ?_
 refine tk 2 rfl (OpV.fieldAddr rfl fo_39_1) ?_
 refine tk 3 rfl (OpV.loadBox rfl pt_3 mq0 rfl) ?_
 refine tk 4 rfl (OpV.fieldAddr rfl fo_39_2) ?_
 refine tk 5 rfl (OpV.loadBox rfl pt_36 mq0 rfl) ?_
 refine tk 7 rfl (OpV.fieldAddr rfl fo_39_3) ?_
 refine tk 8 rfl (OpV.loadPart rfl mq0 ag_37 rfl rfl) ?_
 refine al1 6 rfl ?_
 refine OpH.callR (ec rfl e0) ca_76 (fun w hs => w_impl_copyPlanes e1_6 (r0_0.ext hs.below)) ?_
 rintro _ _ ⟨a1_600, n1_600, c1_600, f1_600, rfl, rfl⟩
 refine ⟨[_, _], rfl, ?_⟩
 refine al1 9 rfl ?_
 refine OpH.callR (ec rfl e0) ca_79 (fun w hs => w_impl_copyColor e1_9 (r0_1.ext hs.below) (r0_2.ext hs.below)) ?_
 rintro _ _ ⟨a1_900, n1_900, c1_900, f1_900, a1_901, n1_901, c1_901, f1_901, rfl, rfl⟩
 refine ⟨[_, _, _, _], rfl, ?_⟩
 refine tk 10 rfl (OpV.build (evps.cons rfl (evps.cons rfl (evps.cons rfl (evps.cons rfl (evps.nil))))) (bd_39_0_1_2_3 _ _ _ _ _ _ _ _ _ _ _)) ?_
 refine al0 11 rfl ?_
 refine OpH.storeTo (A := [_, _, _]) [_, _, _, _, _] rfl rfl rfl ts_39 rfl rfl rfl ?_
 refine ⟨[_, _, _, _], rfl, ?_⟩
 refine WAE.rebase (H := []) ?_
 refine WAE.done (by kernel_rfl) ?_ _
 refine En.next (WC.ret ?_)
 refine En.ret1 rfl (Res.cell rfl mq3 ag_39) ?_
 obtain rfl := Option.some.inj h
 intro w' hs
 have hs := ((((hs).pm 1).pm 1).pm 2).sub (.cons_cons _ (.cons_cons _ (.cons_cons _ (.cons _ (.cons _ (.slnil))))))
 exact ⟨_, _, rfl, ⟨a1_600, n1_600, c1_600, f1_600, a1_900, n1_900, c1_900, f1_900, a1_901, n1_901, c1_901, f1_901, rfl, rfl⟩, hs⟩

theorem w_impl_copyFlips {f_p0 : FlipsT} {r : FlipsT} {q0_0 : Option Addr} {l0_0 k0_0 : Nat} {q0_1 : Option Addr} {l0_1 k0_1 : Nat} {q0_2 : Option Addr} {l0_2 k0_2 : Nat} (h : impl_copyFlips f_p0 = some r) {w : World} (r0_0 : Rd tFlip w q0_0 l0_0 k0_0 f_p0.Pending) (r0_1 : Rd tInt w q0_1 l0_1 k0_1 f_p0.Signalled) (r0_2 : Rd tInt w q0_2 l0_2 k0_2 f_p0.Events)   :
    Calls Tryz.prog 49 #[.agg #[.slice q0_0 l0_0 k0_0, .slice q0_1 l0_1 k0_1, .int .i64 f_p0.Next, .slice q0_2 l0_2 k0_2]] w (fun en w' => ∃ rv G, en = .returned rv ∧ (∃ (a0_0 : Option Addr) (n0_0 : Nat) (c0_0 : Nat) (f0_0 : List Nat) (a0_1 : Option Addr) (n0_1 : Nat) (c0_1 : Nat) (f0_1 : List Nat) (a0_2 : Option Addr) (n0_2 : Nat) (c0_2 : Nat) (f0_2 : List Nat), rv = .agg #[.slice a0_0 n0_0 c0_0, .slice a0_1 n0_1 c0_1, .int .i64 r.Next, .slice a0_2 n0_2 c0_2] ∧ G = [Chunk.own tFlip f0_0 a0_0 n0_0 c0_0 r.Pending, Chunk.own tInt f0_1 a0_1 n0_1 c0_1 r.Signalled, Chunk.own tInt f0_2 a0_2 n0_2 c0_2 r.Events]) ∧ St w G w') := by
 obtain rfl := r0_0.1
 obtain rfl := r0_1.1
 obtain rfl := r0_2.1
 unfold impl_copyFlips at h
 refine enter (vs := [_]) Tryz.func49 rfl rfl rfl rfl ?_
 refine WC.sr ?_
 refine WL.heavy rfl rfl rfl (OpH.box rfl rfl ?_)
 intro b0_0
 refine WL.heavy rfl rfl rfl (OpH.alloc zc_35 ?_)
 intro b0_1
 refine WL.nil (En.next (WC.seq ?_))
 obtain ⟨x1_2, e1_2, h⟩ := bnd h
 obtain ⟨x1_7, e1_7, h⟩ := bnd h
 refine WC.cut (X := Nat × (Option Addr) × Nat × Nat × (Option Addr) × Nat × Nat × (List Nat) × (List Nat)) .normal (fun _ => True) (fun x => match x with | (b1_9, a1_200, n1_200, c1_200, a1_700, n1_700, c1_700, f1_700, f1_200) => [(1, .pointer (some ⟨b0_0, 0, .none⟩)), (2, .pointer (some ⟨b0_1, 0, .none⟩)), (3, .pointer (some ⟨b1_9, 0, .none⟩))]) (fun x => match x with | (b1_9, a1_200, n1_200, c1_200, a1_700, n1_700, c1_700, f1_700, f1_200) => [Chunk.box b1_9 35 [.slice .none 0 0, .slice a1_200 n1_200 c1_200, .int .i64 f_p0.Next, .slice a1_700 n1_700 c1_700], Chunk.own tInt f1_700 a1_700 n1_700 c1_700 x1_7, Chunk.own tInt f1_200 a1_200 n1_200 c1_200 x1_2, Chunk.box b0_1 35 [.slice .none 0 0, .slice .none 0 0, .int .i64 0, .slice .none 0 0], Chunk.box b0_0 35 [.slice q0_0 f_p0.Pending.length k0_0, .slice q0_1 f_p0.Signalled.length k0_1, .int .i64 f_p0.Next, .slice q0_2 f_p0.Events.length k0_2]]) ?_ ?_
 ·
  rintro ⟨b1_9, a1_200, n1_200, c1_200, a1_700, n1_700, c1_700, f1_700, f1_200⟩ _
  show En _ _ _ _ [(1, .pointer (some ⟨b0_0, 0, .none⟩)), (2, .pointer (some ⟨b0_1, 0, .none⟩)), (3, .pointer (some ⟨b1_9, 0, .none⟩))] [Chunk.box b1_9 35 [.slice .none 0 0, .slice a1_200 n1_200 c1_200, .int .i64 f_p0.Next, .slice a1_700 n1_700 c1_700], Chunk.own tInt f1_700 a1_700 n1_700 c1_700 x1_7, Chunk.own tInt f1_200 a1_200 n1_200 c1_200 x1_2, Chunk.box b0_1 35 [.slice .none 0 0, .slice .none 0 0, .int .i64 0, .slice .none 0 0], Chunk.box b0_0 35 [.slice q0_0 f_p0.Pending.length k0_0, .slice q0_1 f_p0.Signalled.length k0_1, .int .i64 f_p0.Next, .slice q0_2 f_p0.Events.length k0_2]]
  refine En.next (WC.seq (WC.sr ?_))
  refine sp (OpV.fieldAddr rfl fo_35_0) ?_
  refine sp (OpV.loadBox rfl pt_33 mq4 rfl) ?_
  refine sp (OpV.len rfl si_33 rfl) ?_
  refine mv ?_
  refine WL.nil (En.next (WC.block ?_))
  obtain ⟨zy0, ezy0, h⟩ := bnd h
  refine WC.cut (X := ((List FlipT)) × ((Option Addr) × Nat × Nat × (List Nat))) (.exit 0) (fun x => zy0 = x.1) (fun x => match x with | (out_0e, (aout_0e, nout_0e, cout_0e, fout_0e)) => [(2, .pointer (some ⟨b0_1, 0, .none⟩)), (3, .pointer (some ⟨b1_9, 0, .none⟩))]) (fun x => match x with | (out_0e, (aout_0e, nout_0e, cout_0e, fout_0e)) => [Chunk.box b0_1 35 [.slice .none 0 0, .slice .none 0 0, .int .i64 0, .slice .none 0 0], Chunk.box b1_9 35 [.slice aout_0e nout_0e cout_0e, .slice a1_200 n1_200 c1_200, .int .i64 f_p0.Next, .slice a1_700 n1_700 c1_700], Chunk.own tFlip fout_0e aout_0e nout_0e cout_0e out_0e, Chunk.own tInt f1_200 a1_200 n1_200 c1_200 x1_2, Chunk.own tInt f1_700 a1_700 n1_700 c1_700 x1_7]) ?_ ?_
  ·
   rintro ⟨out_0e, ⟨aout_0e, nout_0e, cout_0e, fout_0e⟩⟩ hx
   replace hx : out_0e = zy0 := hx.symm
   subst hx
   show En _ _ _ _ [(2, .pointer (some ⟨b0_1, 0, .none⟩)), (3, .pointer (some ⟨b1_9, 0, .none⟩))] [Chunk.box b0_1 35 [.slice .none 0 0, .slice .none 0 0, .int .i64 0, .slice .none 0 0], Chunk.box b1_9 35 [.slice aout_0e nout_0e cout_0e, .slice a1_200 n1_200 c1_200, .int .i64 f_p0.Next, .slice a1_700 n1_700 c1_700], Chunk.own tFlip fout_0e aout_0e nout_0e cout_0e out_0e, Chunk.own tInt f1_200 a1_200 n1_200 c1_200 x1_2, Chunk.own tInt f1_700 a1_700 n1_700 c1_700 x1_7]
   refine En.block_exit (En.next (WC.sr ?_))
   refine sp (OpV.loadAll rfl mq1 ag_35) ?_
   refine WL.heavy0 rfl rfl (OpH.storeTo (A := []) [_, _, _, _] rfl rfl rfl ts_35 rfl rfl rfl ?_)
   refine WL.nil (En.next (WC.ret ?_))
   refine En.ret1 rfl (Res.cell rfl mq0 ag_35) ?_
   obtain rfl := Option.some.inj h
   intro w' hs
   have hs := ((((hs).pm 4).pm 4).pm 4).sub (.cons_cons _ (.cons_cons _ (.cons_cons _ (.cons _ (.cons _ (.slnil))))))
   exact ⟨_, _, rfl, ⟨aout_0e, nout_0e, cout_0e, fout_0e, a1_200, n1_200, c1_200, f1_200, a1_700, n1_700, c1_700, f1_700, rfl, rfl⟩, hs⟩
  ·
   intro zK0_0
   refine WC.loopP (G := (Option Addr) × Nat × Nat × (List Nat)) (fun s g => match s, g with | (out_0, v_0), (aout_0, nout_0, cout_0, fout_0) => [(2, .pointer (some ⟨b0_1, 0, .none⟩)), (3, .pointer (some ⟨b1_9, 0, .none⟩)), (16, .slice q0_0 f_p0.Pending.length k0_0), (17, .int .i64 (f_p0.Pending.length : Int)), (18, .int .i64 v_0)]) (fun s g => match s, g with | (out_0, v_0), (aout_0, nout_0, cout_0, fout_0) => [Chunk.box b0_1 35 [.slice .none 0 0, .slice .none 0 0, .int .i64 0, .slice .none 0 0], Chunk.box b1_9 35 [.slice aout_0 nout_0 cout_0, .slice a1_200 n1_200 c1_200, .int .i64 f_p0.Next, .slice a1_700 n1_700 c1_700], Chunk.own tFlip fout_0 aout_0 nout_0 cout_0 out_0, Chunk.own tInt f1_200 a1_200 n1_200 c1_200 x1_2, Chunk.own tInt f1_700 a1_700 n1_700 c1_700 x1_7]) ([], 0) (.none, 0, 0, []) ezy0 (by exact sc (sc (sc (sc (sc sn))))) (by exact (fun _ h => (((((((h).ownNil (A := tFlip)).pm 2).pm 3).pm 2).pm 3).pm 4).sub (.cons_cons _ (.cons_cons _ (.cons_cons _ (.cons_cons _ (.cons_cons _ (.cons _ (.slnil))))))))) ?_
   rintro zm0 ⟨out_0, v_0⟩ ⟨aout_0, nout_0, cout_0, fout_0⟩ zo0 zf0 zb0 ze0
   have zh0 : impl_copyFlips_L0 f_p0 out_0 v_0 = some zo0 := zf0
   unfold impl_copyFlips_L0 at zh0
   show WC _ _ _ _ _ [(2, .pointer (some ⟨b0_1, 0, .none⟩)), (3, .pointer (some ⟨b1_9, 0, .none⟩)), (16, .slice q0_0 f_p0.Pending.length k0_0), (17, .int .i64 (f_p0.Pending.length : Int)), (18, .int .i64 v_0)] [Chunk.box b0_1 35 [.slice .none 0 0, .slice .none 0 0, .int .i64 0, .slice .none 0 0], Chunk.box b1_9 35 [.slice aout_0 nout_0 cout_0, .slice a1_200 n1_200 c1_200, .int .i64 f_p0.Next, .slice a1_700 n1_700 c1_700], Chunk.own tFlip fout_0 aout_0 nout_0 cout_0 out_0, Chunk.own tInt f1_200 a1_200 n1_200 c1_200 x1_2, Chunk.own tInt f1_700 a1_700 n1_700 c1_700 x1_7]
   refine WC.sr ?_
   refine sp (OpV.lss rfl rfl) ?_
   refine WL.nil (En.next (WC.seq ?_))
   refine WC.cond rfl ?_ ?_
   ·
    intro hc_1
    replace zh0 := ifO_t hc_1 zh0
    refine WC.skip (En.next (WC.seq (WC.block (WC.seq ?_))))
    obtain ⟨x4_0, e4_0, zh0⟩ := bnd zh0
    obtain ⟨g4_0, o4_0, _, ha4_0, ⟨a4_0_1, c4_0_1, a4_0_2, c4_0_2, a4_0_3, c4_0_3, rfl, r4_0_1, r4_0_2, r4_0_3⟩, hd4_0⟩ := Rd.atIdx r0_0 e4_0
    replace hd4_0 : ∀ (j : Nat) v, ([.int .i64 x4_0.Seq, .int .i64 x4_0.Fence, .int .i64 x4_0.State.W, .int .i64 x4_0.State.H, .slice a4_0_1 x4_0.State.Planes.length c4_0_1, .slice a4_0_2 x4_0.State.Color.Matrix.length c4_0_2, .slice a4_0_3 x4_0.State.Color.Curve.length c4_0_3] : List Value)[j]? = some v → w.cell? ⟨g4_0, o4_0 + v_0.toNat * 7 + j, .none⟩ = some v := hd4_0
    refine WC.region ?_
    refine sp (OpV.idxA rfl rfl se_33 ha4_0 ⟨(idx_some e4_0).1, (idx_some e4_0).2.1⟩) ?_
    refine sp (OpV.loadN rfl ag_79 rfl (fun w hs => hs.cellsAt hd4_0)) ?_
    refine WL.heavy rfl rfl rfl (OpH.alloc zc_79 ?_)
    intro b4_2
    refine WL.heavy0 rfl rfl (OpH.storeTo (A := []) [_, _, _, _, _, _, _] rfl rfl rfl ts_79 rfl rfl rfl ?_)
    refine WL.nil (En.next (WC.seq ?_))
    obtain ⟨x5_2, e5_2, zh0⟩ := bnd zh0
    refine WC.region ?_
    refine sp (OpV.fieldAddr rfl fo_79_2) ?_
    refine sp (OpV.loadPart rfl mq0 ag_39 rfl rfl) ?_
    refine WL.heavy rfl rfl rfl (OpH.callR (ec rfl e0) ca_50 (fun w hs => w_impl_copyCrtc e5_2 (r4_0_1.ext hs.below) (r4_0_2.ext hs.below) (r4_0_3.ext hs.below)) ?_)
    rintro _ _ ⟨a5_200, n5_200, c5_200, f5_200, a5_201, n5_201, c5_201, f5_201, a5_202, n5_202, c5_202, f5_202, rfl, rfl⟩
    refine sp (OpV.fieldAddr rfl fo_79_2) ?_
    refine WL.heavy0 rfl rfl (OpH.storeTo (A := [_, _, _]) [_, _, _, _, _, _, _] rfl rfl rfl ts_39 rfl rfl rfl ?_)
    refine WL.nil (En.next ?_)
    obtain ⟨x6_4, e6_4, zh0⟩ := bnd zh0
    refine WC.region ?_
    refine sp (OpV.fieldAddr rfl fo_35_0) ?_
    refine sp (OpV.loadBox rfl pt_33 mq5 rfl) ?_
    refine sp (OpV.loadAll rfl mq3 ag_79) ?_
    refine WL.heavy rfl rfl rfl (OpH.buildSlice (evps.cons rfl (evps.nil)) (bs_33_1_0 _ _ _ _ _ _ _ _ _ _ _ _ _) ?_)
    intro b6_3
    refine WL.wkF (fun _ h => h.pm 3) ?_
    refine WL.wkF (fun _ h => h.pm 3) ?_
    refine WL.wkF (fun _ h => h.pm 3) ?_
    refine WL.wkF (fun _ h => tFlip_mk x4_0.Seq x4_0.Fence x5_2 h) ?_
    refine WL.wkF (fun _ h => h.pm 5) ?_
    refine WL.wkF (fun _ h => h.pm 1) ?_
    refine WL.heavy rfl rfl rfl (OpH.push (A := tFlip) rfl rfl rfl mi_33 rfl (by decide) mq0 e6_4 ?_)
    intro f6_4 a6_4 c6_4
    refine sp (OpV.fieldAddr rfl fo_35_0) ?_
    refine WL.heavy0 rfl rfl (OpH.storeTo (A := [_, _, _, _]) [_, _, _, _] rfl rfl rfl ts_33 rfl rfl rfl ?_)
    refine WL.nil (En.block_norm (En.next (WC.region ?_)))
    refine sp (OpV.addR rfl rfl) ?_
    refine mv ?_
    refine WL.nil ?_
    exact En.backP zb0 zh0 (a6_4, x6_4.length, c6_4, f6_4) (sc (sc (sc (sc (sc sn))))) (fun _ h => ((((((h).pm 6).pm 6).pm 2).pm 6).pm 6).sub (.cons_cons _ (.cons_cons _ (.cons_cons _ (.cons_cons _ (.cons_cons _ (.cons _ (.cons _ (.slnil)))))))))
   ·
    intro hc_1
    replace zh0 := ifO_f hc_1 zh0
    refine WC.exit (En.then_exit (En.then_exit ?_))
    have hx := exitP ze0 zh0
    exact En.wk _ _ (sc (sc sn)) (fun _ h => h) (zK0_0 (out_0, (aout_0, nout_0, cout_0, fout_0)) hx.symm)
 ·
  intro KR1
  refine WC.drawnH [] ([_, _]) (fun _ h => h) (by kernel_rfl) ?_
  refine tk 0 rfl (OpV.fieldAddr rfl fo_35_1) ?_
  refine tk 1 rfl (OpV.loadBox rfl pt_23 mq1 rfl) ?_
  refine tk 3 rfl (OpV.fieldAddr rfl fo_35_2) ?_
  refine tk 4 rfl (OpV.loadBox rfl pt_3 mq1 rfl) ?_
  refine tk 5 rfl (OpV.fieldAddr rfl fo_35_3) ?_
  refine tk 6 rfl (OpV.loadBox rfl pt_23 mq1 rfl) ?_
  refine WAE.all (rs := [2, 9]) (by kernel_rfl) rfl (AllR.cons rfl rfl rfl rfl ?_ (AllR.cons rfl rfl rfl rfl ?_ AllR.nil))
  ·
   refine OpH.callR (ec rfl e0) ca_98 (fun w hs => w_slices_Clone_S_int_int e1_2 (r0_1.ext hs.below)) ?_
   rintro _ _ ⟨a1_200, n1_200, c1_200, f1_200, rfl, rfl⟩
   refine ⟨[_], rfl, ?_⟩
   refine WAE.rebase (H := []) ?_
   refine WAE.all (rs := [7, 9]) (by kernel_rfl) rfl (AllR.cons rfl rfl rfl rfl ?_ (AllR.cons rfl rfl rfl rfl ?_ AllR.nil))
   ·
    refine OpH.callR (ec rfl e0) ca_98 (fun w hs => w_slices_Clone_S_int_int e1_7 (r0_2.ext hs.below)) ?_
    rintro _ _ ⟨a1_700, n1_700, c1_700, f1_700, rfl, rfl⟩
    refine ⟨[_], rfl, ?_⟩
    refine WAE.rebase (H := []) ?_
    refine tk 8 rfl (OpV.build (evps.cons rfl (evps.cons rfl (evps.cons rfl (evps.nil)))) (bd_35_1_2_3 _ _ _ _ _ _ _)) ?_
    refine al1 9 rfl ?_
    refine OpH.alloc zc_35 ?_
    intro b1_9
    refine ⟨[_], rfl, ?_⟩
    refine al0 10 rfl ?_
    refine OpH.storeTo (A := []) [_, _, _, _] rfl rfl rfl ts_35 rfl rfl rfl ?_
    refine ⟨[_], rfl, ?_⟩
    refine WAE.rebase (H := []) ?_
    refine WAE.done (by kernel_rfl) ?_ _
    exact En.wk _ _ (sc (sc (sc sn))) (fun _ h => h) (KR1 (b1_9, a1_200, n1_200, c1_200, a1_700, n1_700, c1_700, f1_700, f1_200) trivial)
   ·
    refine OpH.alloc zc_35 ?_
    intro b1_9
    refine ⟨[_], rfl, ?_⟩
    refine al1 7 rfl ?_
    refine OpH.callR (ec rfl e0) ca_98 (fun w hs => w_slices_Clone_S_int_int e1_7 (r0_2.ext hs.below)) ?_
    rintro _ _ ⟨a1_700, n1_700, c1_700, f1_700, rfl, rfl⟩
    refine ⟨[_, _], rfl, ?_⟩
    refine tk 8 rfl (OpV.build (evps.cons rfl (evps.cons rfl (evps.cons rfl (evps.nil)))) (bd_35_1_2_3 _ _ _ _ _ _ _)) ?_
    refine al0 10 rfl ?_
    refine OpH.storeTo (A := [_]) [_, _, _, _] rfl rfl rfl ts_35 rfl rfl rfl ?_
    refine ⟨[_, _], rfl, ?_⟩
    refine WAE.rebase (H := []) ?_
    refine WAE.done (by kernel_rfl) ?_ _
    exact En.wk _ _ (sc (sc (sc sn))) (fun _ h => (((((h).pm 4).pm 4).pm 4).pm 3).pm 4) (KR1 (b1_9, a1_200, n1_200, c1_200, a1_700, n1_700, c1_700, f1_700, f1_200) trivial)
  ·
   refine OpH.alloc zc_35 ?_
   intro b1_9
   refine ⟨[_], rfl, ?_⟩
   refine al1 2 rfl ?_
   refine OpH.callR (ec rfl e0) ca_98 (fun w hs => w_slices_Clone_S_int_int e1_2 (r0_1.ext hs.below)) ?_
   rintro _ _ ⟨a1_200, n1_200, c1_200, f1_200, rfl, rfl⟩
   refine ⟨[_, _], rfl, ?_⟩
   refine al1 7 rfl ?_
   refine OpH.callR (ec rfl e0) ca_98 (fun w hs => w_slices_Clone_S_int_int e1_7 (r0_2.ext hs.below)) ?_
   rintro _ _ ⟨a1_700, n1_700, c1_700, f1_700, rfl, rfl⟩
   refine ⟨[_, _, _], rfl, ?_⟩
   refine tk 8 rfl (OpV.build (evps.cons rfl (evps.cons rfl (evps.cons rfl (evps.nil)))) (bd_35_1_2_3 _ _ _ _ _ _ _)) ?_
   refine al0 10 rfl ?_
   refine OpH.storeTo (A := [_, _]) [_, _, _, _] rfl rfl rfl ts_35 rfl rfl rfl ?_
   refine ⟨[_, _, _], rfl, ?_⟩
   refine WAE.rebase (H := []) ?_
   refine WAE.done (by kernel_rfl) ?_ _
   exact En.wk _ _ (sc (sc (sc sn))) (fun _ h => (((((h).pm 4).pm 4).pm 3).pm 3).pm 4) (KR1 (b1_9, a1_200, n1_200, c1_200, a1_700, n1_700, c1_700, f1_700, f1_200) trivial)

theorem w_cmp_isNaN_int {x_p0 : Int} {r : Bool}  (h : cmp_isNaN_int x_p0 = some r) {w : World}    :
    Calls Tryz.prog 124 #[.int .i64 x_p0] w (fun en w' => en = .returned (.bool r) ∧ Ext w w') := by
 unfold cmp_isNaN_int at h
 refine enter (vs := [_]) Tryz.func124 rfl rfl rfl rfl ?_
 refine WC.sr ?_
 refine ag ?_
 refine WL.nil (En.next (WC.sr ?_))
 refine mv ?_
 refine mv ?_
 refine sp (OpV.neq rfl rfl) ?_
 refine ag ?_
 refine WL.nil (En.next (WC.ret ?_))
 refine En.ret1 rfl (Res.tmp rfl) ?_
 obtain rfl := Option.some.inj h
 intro w' hs
 exact ⟨rfl, hs.below⟩

theorem w_cmp_Less_int {x_p0 : Int} {y_p1 : Int} {r : Bool}  (h : cmp_Less_int x_p0 y_p1 = some r) {w : World}    :
    Calls Tryz.prog 101 #[.int .i64 x_p0, .int .i64 y_p1] w (fun en w' => en = .returned (.bool r) ∧ Ext w w') := by
 unfold cmp_Less_int at h
 refine enter (vs := [_, _]) Tryz.func101 rfl rfl rfl rfl ?_
 refine WC.sr ?_
 refine ag ?_
 refine WL.nil (En.next (WC.seq ?_))
 obtain ⟨x1_1, e1_1, h⟩ := bnd h
 obtain ⟨q1_6, e1_6, h⟩ := bnd h
 refine WC.region ?_
 refine mv ?_
 refine sp (OpV.call (ec rfl e0) ca_124 (fun w hs => w_cmp_isNaN_int e1_1)) ?_
 refine mv ?_
 refine Lt.ofWL.andQ 7 11 10 (p := ?pz1) (rest := ?qz1) (B := q1_6) rfl (fun hz => andO_f e1_6 hz) ?Tz1 ?Fz1 ?az1 ?bz1 ?cz1 ?dz1 ?ez1
 case Tz1 =>
  intro hcz1 hkz1
  have hqz1 := andO_t e1_6 hcz1
  obtain ⟨x1_4, e1_4, hqz1⟩ := bnd hqz1
  obtain rfl := Option.some.inj hqz1
  refine mv ?_
  refine sp (OpV.call (ec rfl e0) ca_124 (fun w hs => w_cmp_isNaN_int e1_4)) ?_
  refine sp (OpV.not rfl) ?_
  refine hkz1 _ ?_ ?_
  exact rfl
  repeat (first | exact Sub.refl _ | refine Sub.skip rfl ?_)
 case Fz1 =>
  intro hcz1 hkz1
  refine sk ?_
  refine sk ?_
  refine sk ?_
  refine hkz1 _ ?_
  repeat (first | exact Sub.refl _ | refine Sub.skip rfl ?_)
 case az1 => exact rfl
 case bz1 => exact rfl
 case cz1 => exact rfl
 case dz1 => exact rfl
 refine mv ?_
 refine Lt.ofWL.or 12 16 15 (p := ?pz2) (rest := ?qz2) (B := ?Bz2) rfl ?Tz2 ?Fz2 ?az2 ?bz2 ?cz2 ?dz2 ?ez2
 case Tz2 =>
  intro hcz2 hkz2
  refine sk ?_
  refine sk ?_
  refine sk ?_
  refine hkz2 _ ?_
  repeat (first | exact Sub.refl _ | refine Sub.skip rfl ?_)
 case Fz2 =>
  intro hcz2 hkz2
  refine mv ?_
  refine mv ?_
  refine sp (OpV.lss rfl rfl) ?_
  refine hkz2 _ ?_ ?_
  exact rfl
  repeat (first | exact Sub.refl _ | refine Sub.skip rfl ?_)
 case az2 => exact rfl
 case bz2 => exact rfl
 case cz2 => exact rfl
 case dz2 => exact rfl
 refine ag ?_
 refine WL.nil (En.next (WC.ret ?_))
 refine En.ret1 rfl (Res.tmp rfl) ?_
 obtain rfl := Option.some.inj h
 intro w' hs
 exact ⟨rfl, hs.below⟩

theorem w_slices_isNaN_int {x_p0 : Int} {r : Bool}  (h : slices_isNaN_int x_p0 = some r) {w : World}    :
    Calls Tryz.prog 102 #[.int .i64 x_p0] w (fun en w' => en = .returned (.bool r) ∧ Ext w w') := by
 unfold slices_isNaN_int at h
 refine enter (vs := [_]) Tryz.func102 rfl rfl rfl rfl ?_
 refine WC.sr ?_
 refine ag ?_
 refine WL.nil (En.next (WC.sr ?_))
 refine mv ?_
 refine mv ?_
 refine sp (OpV.neq rfl rfl) ?_
 refine ag ?_
 refine WL.nil (En.next (WC.ret ?_))
 refine En.ret1 rfl (Res.tmp rfl) ?_
 obtain rfl := Option.some.inj h
 intro w' hs
 exact ⟨rfl, hs.below⟩

theorem w_slices_BinarySearch_S_int_int {x_p0 : List Int} {target_p1 : Int} {r : Int × Bool} {q0_0 : Option Addr} {l0_0 k0_0 : Nat} (h : slices_BinarySearch_S_int_int x_p0 target_p1 = some r) {w : World} (r0_0 : Rd tInt w q0_0 l0_0 k0_0 x_p0)   :
    Calls Tryz.prog 66 #[.slice q0_0 l0_0 k0_0, .int .i64 target_p1] w (fun en w' => en = .returned (.tuple #[.int .i64 r.1, .bool r.2]) ∧ Ext w w') := by
 obtain rfl := r0_0.1
 unfold slices_BinarySearch_S_int_int at h
 refine enter (vs := [_, _]) Tryz.func66 rfl rfl rfl rfl ?_
 refine WC.sr ?_
 refine ag ?_
 refine ag ?_
 refine WL.nil (En.next (WC.sr ?_))
 refine mv ?_
 refine sp (OpV.len rfl si_23 rfl) ?_
 refine ag ?_
 refine WL.nil (En.next (WC.sr ?_))
 refine mv ?_
 refine ag ?_
 refine ag ?_
 refine WL.nil (En.next (WC.seq (WC.block ?_)))
 obtain ⟨zy0, ezy0, h⟩ := bnd h
 refine WC.cut (X := (Int) × (Unit)) (.exit 0) (fun x => zy0 = x.1) (fun x => match x with | (i_0e, ()) => [(0, .slice q0_0 x_p0.length k0_0), (1, .int .i64 target_p1), (6, .int .i64 (x_p0.length : Int)), (7, .int .i64 i_0e)]) (fun x => match x with | (i_0e, ()) => []) ?_ ?_
 ·
  rintro ⟨i_0e, ⟨⟩⟩ hx
  replace hx : i_0e = zy0 := hx.symm
  subst hx
  show En _ _ _ _ [(0, .slice q0_0 x_p0.length k0_0), (1, .int .i64 target_p1), (6, .int .i64 (x_p0.length : Int)), (7, .int .i64 i_0e)] []
  refine En.block_exit (En.next (WC.seq ?_))
  obtain ⟨q8_22, e8_22, h⟩ := bnd h
  refine WC.region ?_
  refine mv ?_
  refine mv ?_
  refine mv ?_
  refine sp (OpV.lss rfl rfl) ?_
  refine mv ?_
  refine Lt.ofWL.andQ 35 53 52 (p := ?pz1) (rest := ?qz1) (B := q8_22) rfl (fun hz => andO_f e8_22 hz) ?Tz1 ?Fz1 ?az1 ?bz1 ?cz1 ?dz1 ?ez1
  case Tz1 =>
   intro hcz1 hkz1
   have hqz1 := andO_t e8_22 hcz1
   obtain ⟨x8_7, e8_7, hqz1⟩ := bnd hqz1
   obtain ⟨g8_7, o8_7, _, ha8_7, rfl, hd8_7⟩ := Rd.atIdx r0_0 e8_7
   replace hd8_7 : ∀ (j : Nat) v, ([.int .i64 x8_7] : List Value)[j]? = some v → w.cell? ⟨g8_7, o8_7 + i_0e.toNat * 1 + j, .none⟩ = some v := hd8_7
   obtain ⟨q8_21, e8_21, hqz1⟩ := bnd hqz1
   obtain rfl := Option.some.inj hqz1
   refine mv ?_
   refine mv ?_
   refine sp (OpV.idxA rfl rfl se_23 ha8_7 ⟨(idx_some e8_7).1, (idx_some e8_7).2.1⟩) ?_
   refine sp (OpV.load1 rfl pt_3 (fun w hs => hs.cell (hd8_7 0 _ rfl))) ?_
   refine mv ?_
   refine sp (OpV.eql rfl rfl) ?_
   refine mv ?_
   refine Lt.ofWL.orQ 42 52 51 (p := ?pz2) (rest := ?qz2) (B := q8_21) rfl (fun hz => orO_t e8_21 hz) ?Tz2 ?Fz2 ?az2 ?bz2 ?cz2 ?dz2 ?ez2
   case Tz2 =>
    intro hcz2 hkz2
    refine sk ?_
    refine sk ?_
    refine sk ?_
    refine sk ?_
    refine sk ?_
    refine sk ?_
    refine sk ?_
    refine sk ?_
    refine sk ?_
    refine hkz2 _ ?_
    repeat (first | exact Sub.refl _ | refine Sub.skip rfl ?_)
   case Fz2 =>
    intro hcz2 hkz2
    have hqz2 := orO_f e8_21 hcz2
    obtain ⟨x8_14, e8_14, hqz2⟩ := bnd hqz2
    obtain ⟨g8_14, o8_14, _, ha8_14, rfl, hd8_14⟩ := Rd.atIdx r0_0 e8_14
    replace hd8_14 : ∀ (j : Nat) v, ([.int .i64 x8_14] : List Value)[j]? = some v → w.cell? ⟨g8_14, o8_14 + i_0e.toNat * 1 + j, .none⟩ = some v := hd8_14
    obtain ⟨x8_16, e8_16, hqz2⟩ := bnd hqz2
    obtain ⟨q8_20, e8_20, hqz2⟩ := bnd hqz2
    obtain rfl := Option.some.inj hqz2
    refine mv ?_
    refine mv ?_
    refine sp (OpV.idxA rfl rfl se_23 ha8_14 ⟨(idx_some e8_14).1, (idx_some e8_14).2.1⟩) ?_
    refine sp (OpV.load1 rfl pt_3 (fun w hs => hs.cell (hd8_14 0 _ rfl))) ?_
    refine sp (OpV.call (ec rfl e0) ca_102 (fun w hs => w_slices_isNaN_int e8_16)) ?_
    refine mv ?_
    refine Lt.ofWL.andQ 48 51 50 (p := ?pz3) (rest := ?qz3) (B := q8_20) rfl (fun hz => andO_f e8_20 hz) ?Tz3 ?Fz3 ?az3 ?bz3 ?cz3 ?dz3 ?ez3
    case Tz3 =>
     intro hcz3 hkz3
     have hqz3 := andO_t e8_20 hcz3
     obtain ⟨x8_19, e8_19, hqz3⟩ := bnd hqz3
     obtain rfl := Option.some.inj hqz3
     refine mv ?_
     refine sp (OpV.call (ec rfl e0) ca_102 (fun w hs => w_slices_isNaN_int e8_19)) ?_
     refine hkz3 _ ?_ ?_
     exact rfl
     repeat (first | exact Sub.refl _ | refine Sub.skip rfl ?_)
    case Fz3 =>
     intro hcz3 hkz3
     refine sk ?_
     refine sk ?_
     refine hkz3 _ ?_
     repeat (first | exact Sub.refl _ | refine Sub.skip rfl ?_)
    case az3 => exact rfl
    case bz3 => exact rfl
    case cz3 => exact rfl
    case dz3 => exact rfl
    refine hkz2 _ ?_ ?_
    exact rfl
    repeat (first | exact Sub.refl _ | refine Sub.skip rfl ?_)
   case az2 => exact rfl
   case bz2 => exact rfl
   case cz2 => exact rfl
   case dz2 => exact rfl
   refine hkz1 _ ?_ ?_
   exact rfl
   repeat (first | exact Sub.refl _ | refine Sub.skip rfl ?_)
  case Fz1 =>
   intro hcz1 hkz1
   refine sk ?_
   refine sk ?_
   refine sk ?_
   refine sk ?_
   refine sk ?_
   refine sk ?_
   refine sk ?_
   refine sk ?_
   refine sk ?_
   refine sk ?_
   refine sk ?_
   refine sk ?_
   refine sk ?_
   refine sk ?_
   refine sk ?_
   refine sk ?_
   refine sk ?_
   refine hkz1 _ ?_
   repeat (first | exact Sub.refl _ | refine Sub.skip rfl ?_)
  case az1 => exact rfl
  case bz1 => exact rfl
  case cz1 => exact rfl
  case dz1 => exact rfl
  refine ag ?_
  refine ag ?_
  refine WL.nil (En.next (WC.ret ?_))
  refine En.ret2 rfl (Res.tmp rfl) (Res.tmp rfl) ?_
  obtain rfl := Option.some.inj h
  intro w' hs
  exact ⟨rfl, hs.below⟩
 ·
  intro zK0_0
  refine WC.loopP (G := Unit) (fun s g => match s, g with | (i_0, j_0), () => [(0, .slice q0_0 x_p0.length k0_0), (1, .int .i64 target_p1), (6, .int .i64 (x_p0.length : Int)), (7, .int .i64 i_0), (8, .int .i64 j_0)]) (fun s g => match s, g with | (i_0, j_0), () => []) (0, (x_p0.length : Int)) () ezy0 (by exact sc (sc (sc (sc (sc sn))))) (by exact (fun _ h => h)) ?_
  rintro zm0 ⟨i_0, j_0⟩ ⟨⟩ zo0 zf0 zb0 ze0
  have zh0 : slices_BinarySearch_S_int_int_L0 x_p0 target_p1 i_0 j_0 = some zo0 := zf0
  unfold slices_BinarySearch_S_int_int_L0 at zh0
  show WC _ _ _ _ _ [(0, .slice q0_0 x_p0.length k0_0), (1, .int .i64 target_p1), (6, .int .i64 (x_p0.length : Int)), (7, .int .i64 i_0), (8, .int .i64 j_0)] []
  refine WC.seq (WC.sr ?_)
  refine mv ?_
  refine mv ?_
  refine sp (OpV.lss rfl rfl) ?_
  refine WL.nil (En.next ?_)
  refine WC.cond rfl ?_ ?_
  ·
   intro hc_1
   replace zh0 := ifO_t hc_1 zh0
   refine WC.skip (En.next (WC.block (WC.sr ?_)))
   refine mv ?_
   refine mv ?_
   refine sp (OpV.addR rfl rfl) ?_
   refine sp (OpV.convU rfl uS_3 ui_123_u64) ?_
   refine sp (OpV.shrU rfl rfl rfl) ?_
   refine sp (OpV.convR rfl uS_123 ui_3_i64) ?_
   refine ag ?_
   refine WL.nil (En.next (WC.seq ?_))
   obtain ⟨x5_2, e5_2, zh0⟩ := bnd zh0
   obtain ⟨g5_2, o5_2, _, ha5_2, rfl, hd5_2⟩ := Rd.atIdx r0_0 e5_2
   replace hd5_2 : ∀ (j : Nat) v, ([.int .i64 x5_2] : List Value)[j]? = some v → w.cell? ⟨g5_2, o5_2 + (wr (shr (u64w (wr (i_0 + j_0))) 1)).toNat * 1 + j, .none⟩ = some v := hd5_2
   obtain ⟨x5_5, e5_5, zh0⟩ := bnd zh0
   refine WC.region ?_
   refine mv ?_
   refine mv ?_
   refine sp (OpV.idxA rfl rfl se_23 ha5_2 ⟨(idx_some e5_2).1, (idx_some e5_2).2.1⟩) ?_
   refine sp (OpV.load1 rfl pt_3 (fun w hs => hs.cell (hd5_2 0 _ rfl))) ?_
   refine mv ?_
   refine sp (OpV.call (ec rfl (ec rfl e0)) ca_101 (fun w hs => w_cmp_Less_int e5_5)) ?_
   refine WL.nil (En.next ?_)
   refine WC.cond rfl ?_ ?_
   ·
    intro hc_2
    replace zh0 := ifO_t hc_2 zh0
    refine WC.region ?_
    refine mv ?_
    refine sp (OpV.addR rfl rfl) ?_
    refine ag ?_
    refine WL.nil (En.block_norm ?_)
    exact En.backP zb0 zh0 () (sc (sc (sc (sc (sc sn))))) (fun _ h => h)
   ·
    intro hc_2
    replace zh0 := ifO_f hc_2 zh0
    refine WC.region ?_
    refine mv ?_
    refine ag ?_
    refine WL.nil (En.block_norm ?_)
    exact En.backP zb0 zh0 () (sc (sc (sc (sc (sc sn))))) (fun _ h => h)
  ·
   intro hc_1
   replace zh0 := ifO_f hc_1 zh0
   refine WC.exit (En.then_exit (En.then_exit ?_))
   have hx := exitP ze0 zh0
   exact En.wk _ _ (sc (sc (sc (sc sn)))) (fun _ h => h) (zK0_0 (i_0, ()) hx.symm)

theorem w_impl_within {n_p0 : Int} {low_p1 : Int} {high_p2 : Int} {r : Bool}  (h : impl_within n_p0 low_p1 high_p2 = some r) {w : World}    :
    Calls Tryz.prog 67 #[.int .i64 n_p0, .int .i64 low_p1, .int .i64 high_p2] w (fun en w' => en = .returned (.bool r) ∧ Ext w w') := by
 unfold impl_within at h
 refine enter (vs := [_, _, _]) Tryz.func67 rfl rfl rfl rfl ?_
 refine WC.sr ?_
 refine ag ?_
 refine WL.nil (En.next (WC.sr ?_))
 refine mv ?_
 refine mv ?_
 refine sp (OpV.leq rfl rfl) ?_
 refine mv ?_
 refine Lt.ofWL.and 10 14 13 (p := ?pz1) (rest := ?qz1) (B := ?Bz1) rfl ?Tz1 ?Fz1 ?az1 ?bz1 ?cz1 ?dz1 ?ez1
 case Tz1 =>
  intro hcz1 hkz1
  refine mv ?_
  refine mv ?_
  refine sp (OpV.leq rfl rfl) ?_
  refine hkz1 _ ?_ ?_
  exact rfl
  repeat (first | exact Sub.refl _ | refine Sub.skip rfl ?_)
 case Fz1 =>
  intro hcz1 hkz1
  refine sk ?_
  refine sk ?_
  refine sk ?_
  refine hkz1 _ ?_
  repeat (first | exact Sub.refl _ | refine Sub.skip rfl ?_)
 case az1 => exact rfl
 case bz1 => exact rfl
 case cz1 => exact rfl
 case dz1 => exact rfl
 refine ag ?_
 refine WL.nil (En.next (WC.ret ?_))
 refine En.ret1 rfl (Res.tmp rfl) ?_
 obtain rfl := Option.some.inj h
 intro w' hs
 exact ⟨rfl, hs.below⟩

theorem w_impl_isSide {n_p0 : Int} {r : Bool}  (h : impl_isSide n_p0 = some r) {w : World}    :
    Calls Tryz.prog 149 #[.int .i64 n_p0] w (fun en w' => en = .returned (.bool r) ∧ Ext w w') := by
 unfold impl_isSide at h
 refine enter (vs := [_]) Tryz.func149 rfl rfl rfl rfl ?_
 refine WC.sr ?_
 refine ag ?_
 refine WL.nil (En.next (WC.seq ?_))
 obtain ⟨x1_1, e1_1, h⟩ := bnd h
 refine WC.region ?_
 refine mv ?_
 refine sp (OpV.call (ec rfl (ec rfl (ec rfl e0))) ca_67 (fun w hs => w_impl_within e1_1)) ?_
 refine ag ?_
 refine WL.nil (En.next (WC.ret ?_))
 refine En.ret1 rfl (Res.tmp rfl) ?_
 obtain rfl := Option.some.inj h
 intro w' hs
 exact ⟨rfl, hs.below⟩

theorem w_slices_Equal_S_int_int {s1_p0 : List Int} {s2_p1 : List Int} {r : Bool} {q0_0 : Option Addr} {l0_0 k0_0 : Nat} {q1_0 : Option Addr} {l1_0 k1_0 : Nat} (h : slices_Equal_S_int_int s1_p0 s2_p1 = some r) {w : World} (r0_0 : Rd tInt w q0_0 l0_0 k0_0 s1_p0) (r1_0 : Rd tInt w q1_0 l1_0 k1_0 s2_p1)   :
    Calls Tryz.prog 114 #[.slice q0_0 l0_0 k0_0, .slice q1_0 l1_0 k1_0] w (fun en w' => en = .returned (.bool r) ∧ Ext w w') := by
 obtain rfl := r0_0.1
 obtain rfl := r1_0.1
 unfold slices_Equal_S_int_int at h
 refine enter (vs := [_, _]) Tryz.func114 rfl rfl rfl rfl ?_
 refine WC.sr ?_
 refine ag ?_
 refine WL.nil (En.next (WC.seq (WC.sr ?_)))
 refine mv ?_
 refine sp (OpV.len rfl si_23 rfl) ?_
 refine mv ?_
 refine sp (OpV.len rfl si_23 rfl) ?_
 refine sp (OpV.neq rfl rfl) ?_
 refine WL.nil (En.next ?_)
 refine WC.cond rfl ?_ ?_
 ·
  intro hc_1
  replace h := ifO_t hc_1 h
  refine WC.sr ?_
  refine ag ?_
  refine WL.nil (En.next (WC.ret (En.then_ret ?_)))
  refine En.ret1 rfl (Res.tmp rfl) ?_
  obtain rfl := Option.some.inj h
  intro w' hs
  exact ⟨rfl, hs.below⟩
 ·
  intro hc_1
  replace h := ifO_f hc_1 h
  refine WC.skip (En.next (WC.seq (WC.sr ?_)))
  refine mv ?_
  refine sp (OpV.len rfl si_23 rfl) ?_
  refine mv ?_
  refine WL.nil (En.next (WC.block ?_))
  obtain ⟨zy0, ezy0, h⟩ := bnd h
  refine WC.cut (X := (Unit) × (Unit)) (.exit 0) (fun x => zy0 = .inl x.1) (fun x => match x with | ((), ()) => []) (fun x => match x with | ((), ()) => []) ?_ ?_
  ·
   rintro ⟨⟨⟩, ⟨⟩⟩ hx
   replace hx : .inl () = zy0 := hx.symm
   subst hx
   replace h := fork_l h
   show En _ _ _ _ [] []
   refine En.block_exit (En.next (WC.sr ?_))
   refine ag ?_
   refine WL.nil (En.next (WC.ret ?_))
   refine En.ret1 rfl (Res.tmp rfl) ?_
   obtain rfl := Option.some.inj h
   intro w' hs
   exact ⟨rfl, hs.below⟩
  ·
   intro zK0_0
   refine WC.loopP (G := Unit) (fun s g => match s, g with | v_0, () => [(0, .slice q0_0 s1_p0.length k0_0), (1, .slice q1_0 s2_p1.length k1_0), (12, .int .i64 (s1_p0.length : Int)), (13, .int .i64 v_0)]) (fun s g => match s, g with | v_0, () => []) 0 () ezy0 (by exact sc (sc (sc (sc sn)))) (by exact (fun _ h => h)) ?_
   rintro zm0 v_0 ⟨⟩ zo0 zf0 zb0 ze0
   have zh0 : slices_Equal_S_int_int_L0 s1_p0 s2_p1 v_0 = some zo0 := zf0
   unfold slices_Equal_S_int_int_L0 at zh0
   show WC _ _ _ _ _ [(0, .slice q0_0 s1_p0.length k0_0), (1, .slice q1_0 s2_p1.length k1_0), (12, .int .i64 (s1_p0.length : Int)), (13, .int .i64 v_0)] []
   refine WC.sr ?_
   refine sp (OpV.lss rfl rfl) ?_
   refine WL.nil (En.next (WC.seq ?_))
   refine WC.cond rfl ?_ ?_
   ·
    intro hc_2
    replace zh0 := ifO_t hc_2 zh0
    refine WC.skip (En.next (WC.seq (WC.block (WC.sr ?_))))
    refine mv ?_
    refine ag ?_
    refine WL.nil (En.next (WC.seq ?_))
    obtain ⟨x6_2, e6_2, zh0⟩ := bnd zh0
    obtain ⟨g6_2, o6_2, _, ha6_2, rfl, hd6_2⟩ := Rd.atIdx r0_0 e6_2
    replace hd6_2 : ∀ (j : Nat) v, ([.int .i64 x6_2] : List Value)[j]? = some v → w.cell? ⟨g6_2, o6_2 + v_0.toNat * 1 + j, .none⟩ = some v := hd6_2
    obtain ⟨x6_6, e6_6, zh0⟩ := bnd zh0
    obtain ⟨g6_6, o6_6, _, ha6_6, rfl, hd6_6⟩ := Rd.atIdx r1_0 e6_6
    replace hd6_6 : ∀ (j : Nat) v, ([.int .i64 x6_6] : List Value)[j]? = some v → w.cell? ⟨g6_6, o6_6 + v_0.toNat * 1 + j, .none⟩ = some v := hd6_6
    refine WC.drawn [(0, ?r6q3v0), (1, ?r6q3v1), (12, ?r6q3v12), (13, ?r6q3v13), (24, ?r6q3v24)] (by kernel_rfl) (by kernel_rfl) ?dH6q3 ?dK6q3
    case dH6q3 =>
     intro W hW hk
     refine hW.mv ?_
     refine hW.mv ?_
     refine hW.sp (OpV.idxA rfl rfl se_23 ha6_2 ⟨(idx_some e6_2).1, (idx_some e6_2).2.1⟩) ?_
     refine hW.sp (OpV.load1 rfl pt_3 (fun w hs => hs.cell (hd6_2 0 _ rfl))) ?_
     refine hW.mv ?_
     refine hW.mv ?_
     refine hW.sp (OpV.idxA rfl rfl se_23 ha6_6 ⟨(idx_some e6_6).1, (idx_some e6_6).2.1⟩) ?_
     refine hW.sp (OpV.load1 rfl pt_3 (fun w hs => hs.cell (hd6_6 0 _ rfl))) ?_
     refine hW.sp (OpV.neq rfl rfl) ?_
     refine hk _ ?_
     refine Sub.cons ?_ (Sub.cons ?_ (Sub.cons ?_ (Sub.cons ?_ (Sub.cons ?_ sn))))
     all_goals exact rfl
    refine En.next ?_
    refine WC.cond rfl ?_ ?_
    ·
     intro hc_3
     replace zh0 := ifO_t hc_3 zh0
     refine WC.sr ?_
     refine ag ?_
     refine WL.nil (En.next (WC.ret (En.block_ret (En.then_ret (En.then_ret (En.block_ret (En.then_ret ?_)))))))
     refine En.ret1 rfl (Res.tmp rfl) ?_
     have hx := exitP ze0 zh0
     subst hx
     replace h := fork_r h
     obtain rfl := Option.some.inj h
     intro w' hs
     exact ⟨rfl, hs.below⟩
    ·
     intro hc_3
     replace zh0 := ifO_f hc_3 zh0
     refine WC.skip (En.block_norm (En.next (WC.region ?_)))
     refine sp (OpV.addR rfl rfl) ?_
     refine mv ?_
     refine WL.nil ?_
     exact En.backP zb0 zh0 () (sc (sc (sc (sc sn)))) (fun _ h => h)
   ·
    intro hc_2
    replace zh0 := ifO_f hc_2 zh0
    refine WC.exit (En.then_exit (En.then_exit ?_))
    have hx := exitP ze0 zh0
    exact En.wk _ _ sn (fun _ h => h) (zK0_0 ((), ()) hx.symm)

theorem w_impl_samePlane {a_p0 : PlaneT} {a_p1 : PlaneT} {r : Bool} {q0_0 : Option Addr} {l0_0 k0_0 : Nat} {q1_0 : Option Addr} {l1_0 k1_0 : Nat} (h : impl_samePlane a_p0 a_p1 = some r) {w : World} (r0_0 : Rd tInt w q0_0 l0_0 k0_0 a_p0.Words) (r1_0 : Rd tInt w q1_0 l1_0 k1_0 a_p1.Words)   :
    Calls Tryz.prog 77 #[.agg #[.bool a_p0.On, .int .i64 a_p0.X, .int .i64 a_p0.Y, .int .i64 a_p0.W, .int .i64 a_p0.H, .int .i64 a_p0.Layout, .slice q0_0 l0_0 k0_0, .int .i64 a_p0.Alpha, .int .i64 a_p0.Orient, .int .i64 a_p0.ToW, .int .i64 a_p0.ToH], .agg #[.bool a_p1.On, .int .i64 a_p1.X, .int .i64 a_p1.Y, .int .i64 a_p1.W, .int .i64 a_p1.H, .int .i64 a_p1.Layout, .slice q1_0 l1_0 k1_0, .int .i64 a_p1.Alpha, .int .i64 a_p1.Orient, .int .i64 a_p1.ToW, .int .i64 a_p1.ToH]] w (fun en w' => en = .returned (.bool r) ∧ Ext w w') := by
 obtain rfl := r0_0.1
 obtain rfl := r1_0.1
 unfold impl_samePlane at h
 refine enter (vs := [_, _]) Tryz.func77 rfl rfl rfl rfl ?_
 refine WC.sr ?_
 refine WL.heavy rfl rfl rfl (OpH.box rfl rfl ?_)
 intro b0_0
 refine WL.heavy rfl rfl rfl (OpH.box rfl rfl ?_)
 intro b0_1
 refine ag ?_
 refine WL.nil (En.next (WC.seq ?_))
 obtain ⟨q1_74, e1_74, h⟩ := bnd h
 refine WC.region ?_
 refine sp (OpV.fieldAddr rfl fo_61_0) ?_
 refine sp (OpV.loadBox rfl pt_4 mq1 rfl) ?_
 refine sp (OpV.fieldAddr rfl fo_61_0) ?_
 refine sp (OpV.loadBox rfl pt_4 mq0 rfl) ?_
 refine sp (OpV.beql rfl rfl ub_4) ?_
 refine mv ?_
 refine Lt.ofWL.and 10 16 15 (p := ?pz1) (rest := ?qz1) (B := ?Bz1) rfl ?Tz1 ?Fz1 ?az1 ?bz1 ?cz1 ?dz1 ?ez1
 case Tz1 =>
  intro hcz1 hkz1
  refine sp (OpV.fieldAddr rfl fo_61_1) ?_
  refine sp (OpV.loadBox rfl pt_3 mq1 rfl) ?_
  refine sp (OpV.fieldAddr rfl fo_61_1) ?_
  refine sp (OpV.loadBox rfl pt_3 mq0 rfl) ?_
  refine sp (OpV.eql rfl rfl) ?_
  refine hkz1 _ ?_ ?_
  exact rfl
  repeat (first | exact Sub.refl _ | refine Sub.skip rfl ?_)
 case Fz1 =>
  intro hcz1 hkz1
  refine sk ?_
  refine sk ?_
  refine sk ?_
  refine sk ?_
  refine sk ?_
  refine hkz1 _ ?_
  repeat (first | exact Sub.refl _ | refine Sub.skip rfl ?_)
 case az1 => exact rfl
 case bz1 => exact rfl
 case cz1 => exact rfl
 case dz1 => exact rfl
 refine mv ?_
 refine Lt.ofWL.and 17 23 22 (p := ?pz2) (rest := ?qz2) (B := ?Bz2) rfl ?Tz2 ?Fz2 ?az2 ?bz2 ?cz2 ?dz2 ?ez2
 case Tz2 =>
  intro hcz2 hkz2
  refine sp (OpV.fieldAddr rfl fo_61_2) ?_
  refine sp (OpV.loadBox rfl pt_3 mq1 rfl) ?_
  refine sp (OpV.fieldAddr rfl fo_61_2) ?_
  refine sp (OpV.loadBox rfl pt_3 mq0 rfl) ?_
  refine sp (OpV.eql rfl rfl) ?_
  refine hkz2 _ ?_ ?_
  exact rfl
  repeat (first | exact Sub.refl _ | refine Sub.skip rfl ?_)
 case Fz2 =>
  intro hcz2 hkz2
  refine sk ?_
  refine sk ?_
  refine sk ?_
  refine sk ?_
  refine sk ?_
  refine hkz2 _ ?_
  repeat (first | exact Sub.refl _ | refine Sub.skip rfl ?_)
 case az2 => exact rfl
 case bz2 => exact rfl
 case cz2 => exact rfl
 case dz2 => exact rfl
 refine mv ?_
 refine Lt.ofWL.and 24 30 29 (p := ?pz3) (rest := ?qz3) (B := ?Bz3) rfl ?Tz3 ?Fz3 ?az3 ?bz3 ?cz3 ?dz3 ?ez3
 case Tz3 =>
  intro hcz3 hkz3
  refine sp (OpV.fieldAddr rfl fo_61_3) ?_
  refine sp (OpV.loadBox rfl pt_3 mq1 rfl) ?_
  refine sp (OpV.fieldAddr rfl fo_61_3) ?_
  refine sp (OpV.loadBox rfl pt_3 mq0 rfl) ?_
  refine sp (OpV.eql rfl rfl) ?_
  refine hkz3 _ ?_ ?_
  exact rfl
  repeat (first | exact Sub.refl _ | refine Sub.skip rfl ?_)
 case Fz3 =>
  intro hcz3 hkz3
  refine sk ?_
  refine sk ?_
  refine sk ?_
  refine sk ?_
  refine sk ?_
  refine hkz3 _ ?_
  repeat (first | exact Sub.refl _ | refine Sub.skip rfl ?_)
 case az3 => exact rfl
 case bz3 => exact rfl
 case cz3 => exact rfl
 case dz3 => exact rfl
 refine mv ?_
 refine Lt.ofWL.and 31 37 36 (p := ?pz4) (rest := ?qz4) (B := ?Bz4) rfl ?Tz4 ?Fz4 ?az4 ?bz4 ?cz4 ?dz4 ?ez4
 case Tz4 =>
  intro hcz4 hkz4
  refine sp (OpV.fieldAddr rfl fo_61_4) ?_
  refine sp (OpV.loadBox rfl pt_3 mq1 rfl) ?_
  refine sp (OpV.fieldAddr rfl fo_61_4) ?_
  refine sp (OpV.loadBox rfl pt_3 mq0 rfl) ?_
  refine sp (OpV.eql rfl rfl) ?_
  refine hkz4 _ ?_ ?_
  exact rfl
  repeat (first | exact Sub.refl _ | refine Sub.skip rfl ?_)
 case Fz4 =>
  intro hcz4 hkz4
  refine sk ?_
  refine sk ?_
  refine sk ?_
  refine sk ?_
  refine sk ?_
  refine hkz4 _ ?_
  repeat (first | exact Sub.refl _ | refine Sub.skip rfl ?_)
 case az4 => exact rfl
 case bz4 => exact rfl
 case cz4 => exact rfl
 case dz4 => exact rfl
 refine mv ?_
 refine Lt.ofWL.and 38 44 43 (p := ?pz5) (rest := ?qz5) (B := ?Bz5) rfl ?Tz5 ?Fz5 ?az5 ?bz5 ?cz5 ?dz5 ?ez5
 case Tz5 =>
  intro hcz5 hkz5
  refine sp (OpV.fieldAddr rfl fo_61_5) ?_
  refine sp (OpV.loadBox rfl pt_3 mq1 rfl) ?_
  refine sp (OpV.fieldAddr rfl fo_61_5) ?_
  refine sp (OpV.loadBox rfl pt_3 mq0 rfl) ?_
  refine sp (OpV.eql rfl rfl) ?_
  refine hkz5 _ ?_ ?_
  exact rfl
  repeat (first | exact Sub.refl _ | refine Sub.skip rfl ?_)
 case Fz5 =>
  intro hcz5 hkz5
  refine sk ?_
  refine sk ?_
  refine sk ?_
  refine sk ?_
  refine sk ?_
  refine hkz5 _ ?_
  repeat (first | exact Sub.refl _ | refine Sub.skip rfl ?_)
 case az5 => exact rfl
 case bz5 => exact rfl
 case cz5 => exact rfl
 case dz5 => exact rfl
 refine mv ?_
 refine Lt.ofWL.and 45 51 50 (p := ?pz6) (rest := ?qz6) (B := ?Bz6) rfl ?Tz6 ?Fz6 ?az6 ?bz6 ?cz6 ?dz6 ?ez6
 case Tz6 =>
  intro hcz6 hkz6
  refine sp (OpV.fieldAddr rfl fo_61_7) ?_
  refine sp (OpV.loadBox rfl pt_3 mq1 rfl) ?_
  refine sp (OpV.fieldAddr rfl fo_61_7) ?_
  refine sp (OpV.loadBox rfl pt_3 mq0 rfl) ?_
  refine sp (OpV.eql rfl rfl) ?_
  refine hkz6 _ ?_ ?_
  exact rfl
  repeat (first | exact Sub.refl _ | refine Sub.skip rfl ?_)
 case Fz6 =>
  intro hcz6 hkz6
  refine sk ?_
  refine sk ?_
  refine sk ?_
  refine sk ?_
  refine sk ?_
  refine hkz6 _ ?_
  repeat (first | exact Sub.refl _ | refine Sub.skip rfl ?_)
 case az6 => exact rfl
 case bz6 => exact rfl
 case cz6 => exact rfl
 case dz6 => exact rfl
 refine mv ?_
 refine Lt.ofWL.and 52 58 57 (p := ?pz7) (rest := ?qz7) (B := ?Bz7) rfl ?Tz7 ?Fz7 ?az7 ?bz7 ?cz7 ?dz7 ?ez7
 case Tz7 =>
  intro hcz7 hkz7
  refine sp (OpV.fieldAddr rfl fo_61_8) ?_
  refine sp (OpV.loadBox rfl pt_3 mq1 rfl) ?_
  refine sp (OpV.fieldAddr rfl fo_61_8) ?_
  refine sp (OpV.loadBox rfl pt_3 mq0 rfl) ?_
  refine sp (OpV.eql rfl rfl) ?_
  refine hkz7 _ ?_ ?_
  exact rfl
  repeat (first | exact Sub.refl _ | refine Sub.skip rfl ?_)
 case Fz7 =>
  intro hcz7 hkz7
  refine sk ?_
  refine sk ?_
  refine sk ?_
  refine sk ?_
  refine sk ?_
  refine hkz7 _ ?_
  repeat (first | exact Sub.refl _ | refine Sub.skip rfl ?_)
 case az7 => exact rfl
 case bz7 => exact rfl
 case cz7 => exact rfl
 case dz7 => exact rfl
 refine mv ?_
 refine Lt.ofWL.and 59 65 64 (p := ?pz8) (rest := ?qz8) (B := ?Bz8) rfl ?Tz8 ?Fz8 ?az8 ?bz8 ?cz8 ?dz8 ?ez8
 case Tz8 =>
  intro hcz8 hkz8
  refine sp (OpV.fieldAddr rfl fo_61_9) ?_
  refine sp (OpV.loadBox rfl pt_3 mq1 rfl) ?_
  refine sp (OpV.fieldAddr rfl fo_61_9) ?_
  refine sp (OpV.loadBox rfl pt_3 mq0 rfl) ?_
  refine sp (OpV.eql rfl rfl) ?_
  refine hkz8 _ ?_ ?_
  exact rfl
  repeat (first | exact Sub.refl _ | refine Sub.skip rfl ?_)
 case Fz8 =>
  intro hcz8 hkz8
  refine sk ?_
  refine sk ?_
  refine sk ?_
  refine sk ?_
  refine sk ?_
  refine hkz8 _ ?_
  repeat (first | exact Sub.refl _ | refine Sub.skip rfl ?_)
 case az8 => exact rfl
 case bz8 => exact rfl
 case cz8 => exact rfl
 case dz8 => exact rfl
 refine mv ?_
 refine Lt.ofWL.and 66 72 71 (p := ?pz9) (rest := ?qz9) (B := ?Bz9) rfl ?Tz9 ?Fz9 ?az9 ?bz9 ?cz9 ?dz9 ?ez9
 case Tz9 =>
  intro hcz9 hkz9
  refine sp (OpV.fieldAddr rfl fo_61_10) ?_
  refine sp (OpV.loadBox rfl pt_3 mq1 rfl) ?_
  refine sp (OpV.fieldAddr rfl fo_61_10) ?_
  refine sp (OpV.loadBox rfl pt_3 mq0 rfl) ?_
  refine sp (OpV.eql rfl rfl) ?_
  refine hkz9 _ ?_ ?_
  exact rfl
  repeat (first | exact Sub.refl _ | refine Sub.skip rfl ?_)
 case Fz9 =>
  intro hcz9 hkz9
  refine sk ?_
  refine sk ?_
  refine sk ?_
  refine sk ?_
  refine sk ?_
  refine hkz9 _ ?_
  repeat (first | exact Sub.refl _ | refine Sub.skip rfl ?_)
 case az9 => exact rfl
 case bz9 => exact rfl
 case cz9 => exact rfl
 case dz9 => exact rfl
 refine mv ?_
 refine Lt.ofWL.andQ 73 79 78 (p := ?pz10) (rest := ?qz10) (B := q1_74) rfl (fun hz => andO_f e1_74 hz) ?Tz10 ?Fz10 ?az10 ?bz10 ?cz10 ?dz10 ?ez10
 case Tz10 =>
  intro hcz10 hkz10
  have hqz10 := andO_t e1_74 hcz10
  obtain ⟨x1_73, e1_73, hqz10⟩ := bnd hqz10
  obtain rfl := Option.some.inj hqz10
  refine sp (OpV.fieldAddr rfl fo_61_6) ?_
  refine sp (OpV.loadBox rfl pt_23 mq1 rfl) ?_
  refine sp (OpV.fieldAddr rfl fo_61_6) ?_
  refine sp (OpV.loadBox rfl pt_23 mq0 rfl) ?_
  refine sp (OpV.call (ec rfl (ec rfl e0)) ca_114 (fun w hs => w_slices_Equal_S_int_int e1_73 (r0_0.ext hs.below) (r1_0.ext hs.below))) ?_
  refine hkz10 _ ?_ ?_
  exact rfl
  repeat (first | exact Sub.refl _ | refine Sub.skip rfl ?_)
 case Fz10 =>
  intro hcz10 hkz10
  refine sk ?_
  refine sk ?_
  refine sk ?_
  refine sk ?_
  refine sk ?_
  refine hkz10 _ ?_
  repeat (first | exact Sub.refl _ | refine Sub.skip rfl ?_)
 case az10 => exact rfl
 case bz10 => exact rfl
 case cz10 => exact rfl
 case dz10 => exact rfl
 refine ag ?_
 refine WL.nil (En.next (WC.ret ?_))
 refine En.ret1 rfl (Res.tmp rfl) ?_
 obtain rfl := Option.some.inj h
 intro w' hs
 exact ⟨rfl, hs.below⟩

theorem w_slices_Repeat_S_int_int {s_p0 : List Int} {c_p1 : Int} {r : List Int} {q0_0 : Option Addr} {n0_0 k0_0 : Nat} (h : slices_Repeat_S_int_int s_p0 c_p1 = some r) {w : World} (r0_0 : Rd tInt w q0_0 n0_0 k0_0 s_p0) :
    Calls Tryz.prog 167 #[.slice q0_0 n0_0 k0_0, .int .i64 c_p1] w (fun en w' => ∃ rv G, en = .returned rv ∧ (∃ (a0_0 : Option Addr) (n0_0 : Nat) (c0_0 : Nat) (f0_0 : List Nat), rv = .slice a0_0 n0_0 c0_0 ∧ G = [Chunk.own tInt f0_0 a0_0 n0_0 c0_0 r]) ∧ St w G w') := by
  unfold slices_Repeat_S_int_int at h
  split at h
  · obtain ⟨⟨h0, h1⟩, rfl⟩ := mkO_some h
    obtain ⟨N, rfl⟩ : ∃ N : Nat, c_p1 = N := ⟨c_p1.toNat, by omega⟩
    rw [Int.toNat_natCast]
    exact w_RepeatO (by omega) r0_0
  · cases h

theorem w_impl_isPixel {p_p0 : Int} {r : Bool}  (h : impl_isPixel p_p0 = some r) {w : World}    :
    Calls Tryz.prog 164 #[.int .i64 p_p0] w (fun en w' => en = .returned (.bool r) ∧ Ext w w') := by
 unfold impl_isPixel at h
 refine enter (vs := [_]) Tryz.func164 rfl rfl rfl rfl ?_
 refine WC.sr ?_
 refine ag ?_
 refine WL.nil (En.next (WC.seq ?_))
 obtain ⟨x1_1, e1_1, h⟩ := bnd h
 refine WC.region ?_
 refine mv ?_
 refine sp (OpV.call (ec rfl (ec rfl (ec rfl e0))) ca_67 (fun w hs => w_impl_within e1_1)) ?_
 refine ag ?_
 refine WL.nil (En.next (WC.ret ?_))
 refine En.ret1 rfl (Res.tmp rfl) ?_
 obtain rfl := Option.some.inj h
 intro w' hs
 exact ⟨rfl, hs.below⟩

theorem w_impl_ImageOk {i_p0 : ImageT} {r : Bool} {q0_0 : Option Addr} {l0_0 k0_0 : Nat} (h : impl_ImageOk i_p0 = some r) {w : World} (r0_0 : Rd tInt w q0_0 l0_0 k0_0 i_p0.Data)   :
    Calls Tryz.prog 161 #[.agg #[.int .i64 i_p0.W, .int .i64 i_p0.H, .slice q0_0 l0_0 k0_0]] w (fun en w' => en = .returned (.bool r) ∧ Ext w w') := by
 obtain rfl := r0_0.1
 unfold impl_ImageOk at h
 refine enter (vs := [_]) Tryz.func161 rfl rfl rfl rfl ?_
 refine WC.sr ?_
 refine WL.heavy rfl rfl rfl (OpH.box rfl rfl ?_)
 intro b0_0
 refine ag ?_
 refine WL.nil (En.next (WC.seq (WC.seq ?_)))
 obtain ⟨x1_2, e1_2, h⟩ := bnd h
 obtain ⟨q1_9, e1_9, h⟩ := bnd h
 refine WC.region ?_
 refine sp (OpV.fieldAddr rfl fo_107_0) ?_
 refine sp (OpV.loadBox rfl pt_3 mq0 rfl) ?_
 refine sp (OpV.call (ec rfl e0) ca_149 (fun w hs => w_impl_isSide e1_2)) ?_
 refine sp (OpV.not rfl) ?_
 refine mv ?_
 refine Lt.ofWL.orQ 9 14 13 (p := ?pz1) (rest := ?qz1) (B := q1_9) rfl (fun hz => orO_t e1_9 hz) ?Tz1 ?Fz1 ?az1 ?bz1 ?cz1 ?dz1 ?ez1
 case Tz1 =>
  intro hcz1 hkz1
  refine sk ?_
  refine sk ?_
  refine sk ?_
  refine sk ?_
  refine hkz1 _ ?_
  repeat (first | exact Sub.refl _ | refine Sub.skip rfl ?_)
 case Fz1 =>
  intro hcz1 hkz1
  have hqz1 := orO_f e1_9 hcz1
  obtain ⟨x1_7, e1_7, hqz1⟩ := bnd hqz1
  obtain rfl := Option.some.inj hqz1
  refine sp (OpV.fieldAddr rfl fo_107_1) ?_
  refine sp (OpV.loadBox rfl pt_3 mq0 rfl) ?_
  refine sp (OpV.call (ec rfl e0) ca_149 (fun w hs => w_impl_isSide e1_7)) ?_
  refine sp (OpV.not rfl) ?_
  refine hkz1 _ ?_ ?_
  exact rfl
  repeat (first | exact Sub.refl _ | refine Sub.skip rfl ?_)
 case az1 => exact rfl
 case bz1 => exact rfl
 case cz1 => exact rfl
 case dz1 => exact rfl
 refine mv ?_
 refine Lt.ofWL.or 15 25 24 (p := ?pz2) (rest := ?qz2) (B := ?Bz2) rfl ?Tz2 ?Fz2 ?az2 ?bz2 ?cz2 ?dz2 ?ez2
 case Tz2 =>
  intro hcz2 hkz2
  refine sk ?_
  refine sk ?_
  refine sk ?_
  refine sk ?_
  refine sk ?_
  refine sk ?_
  refine sk ?_
  refine sk ?_
  refine sk ?_
  refine hkz2 _ ?_
  repeat (first | exact Sub.refl _ | refine Sub.skip rfl ?_)
 case Fz2 =>
  intro hcz2 hkz2
  refine sp (OpV.fieldAddr rfl fo_107_2) ?_
  refine sp (OpV.loadBox rfl pt_23 mq0 rfl) ?_
  refine sp (OpV.len rfl si_23 rfl) ?_
  refine sp (OpV.fieldAddr rfl fo_107_0) ?_
  refine sp (OpV.loadBox rfl pt_3 mq0 rfl) ?_
  refine sp (OpV.fieldAddr rfl fo_107_1) ?_
  refine sp (OpV.loadBox rfl pt_3 mq0 rfl) ?_
  refine sp (OpV.mulR rfl rfl) ?_
  refine sp (OpV.neq rfl rfl) ?_
  refine hkz2 _ ?_ ?_
  exact rfl
  repeat (first | exact Sub.refl _ | refine Sub.skip rfl ?_)
 case az2 => exact rfl
 case bz2 => exact rfl
 case cz2 => exact rfl
 case dz2 => exact rfl
 refine WL.nil (En.next ?_)
 refine WC.cond rfl ?_ ?_
 ·
  intro hc_1
  replace h := ifO_t hc_1 h
  refine WC.sr ?_
  refine ag ?_
  refine WL.nil (En.next (WC.ret (En.then_ret ?_)))
  refine En.ret1 rfl (Res.tmp rfl) ?_
  obtain rfl := Option.some.inj h
  intro w' hs
  exact ⟨rfl, hs.below⟩
 ·
  intro hc_1
  replace h := ifO_f hc_1 h
  refine WC.skip (En.next (WC.seq (WC.sr ?_)))
  refine sp (OpV.fieldAddr rfl fo_107_2) ?_
  refine sp (OpV.loadBox rfl pt_23 mq0 rfl) ?_
  refine sp (OpV.len rfl si_23 rfl) ?_
  refine mv ?_
  refine WL.nil (En.next (WC.block ?_))
  obtain ⟨zy0, ezy0, h⟩ := bnd h
  refine WC.cut (X := (Unit) × (Unit)) (.exit 0) (fun x => zy0 = .inl x.1) (fun x => match x with | ((), ()) => []) (fun x => match x with | ((), ()) => []) ?_ ?_
  ·
   rintro ⟨⟨⟩, ⟨⟩⟩ hx
   replace hx : .inl () = zy0 := hx.symm
   subst hx
   replace h := fork_l h
   show En _ _ _ _ [] []
   refine En.block_exit (En.next (WC.sr ?_))
   refine ag ?_
   refine WL.nil (En.next (WC.ret ?_))
   refine En.ret1 rfl (Res.tmp rfl) ?_
   obtain rfl := Option.some.inj h
   intro w' hs
   exact ⟨rfl, hs.below⟩
  ·
   intro zK0_0
   refine WC.loopP (G := Unit) (fun s g => match s, g with | v_0, () => [(27, .slice q0_0 i_p0.Data.length k0_0), (28, .int .i64 (i_p0.Data.length : Int)), (29, .int .i64 v_0)]) (fun s g => match s, g with | v_0, () => []) 0 () ezy0 (by exact sc (sc (sc sn))) (by exact (fun _ h => (h).sub (.cons _ (.slnil)))) ?_
   rintro zm0 v_0 ⟨⟩ zo0 zf0 zb0 ze0
   have zh0 : impl_ImageOk_L0 i_p0 v_0 = some zo0 := zf0
   unfold impl_ImageOk_L0 at zh0
   show WC _ _ _ _ _ [(27, .slice q0_0 i_p0.Data.length k0_0), (28, .int .i64 (i_p0.Data.length : Int)), (29, .int .i64 v_0)] []
   refine WC.sr ?_
   refine sp (OpV.lss rfl rfl) ?_
   refine WL.nil (En.next (WC.seq ?_))
   refine WC.cond rfl ?_ ?_
   ·
    intro hc_2
    replace zh0 := ifO_t hc_2 zh0
    refine WC.skip (En.next (WC.seq (WC.block (WC.seq ?_))))
    obtain ⟨x5_0, e5_0, zh0⟩ := bnd zh0
    obtain ⟨g5_0, o5_0, _, ha5_0, rfl, hd5_0⟩ := Rd.atIdx r0_0 e5_0
    replace hd5_0 : ∀ (j : Nat) v, ([.int .i64 x5_0] : List Value)[j]? = some v → w.cell? ⟨g5_0, o5_0 + v_0.toNat * 1 + j, .none⟩ = some v := hd5_0
    refine WC.region ?_
    refine sp (OpV.idxA rfl rfl se_23 ha5_0 ⟨(idx_some e5_0).1, (idx_some e5_0).2.1⟩) ?_
    refine sp (OpV.load1 rfl pt_3 (fun w hs => hs.cell (hd5_0 0 _ rfl))) ?_
    refine ag ?_
    refine WL.nil (En.next (WC.seq ?_))
    obtain ⟨x6_1, e6_1, zh0⟩ := bnd zh0
    refine WC.region ?_
    refine mv ?_
    refine sp (OpV.call (ec rfl e0) ca_164 (fun w hs => w_impl_isPixel e6_1)) ?_
    refine sp (OpV.not rfl) ?_
    refine WL.nil (En.next ?_)
    refine WC.cond rfl ?_ ?_
    ·
     intro hc_3
     replace zh0 := ifO_t hc_3 zh0
     refine WC.sr ?_
     refine ag ?_
     refine WL.nil (En.next (WC.ret (En.block_ret (En.then_ret (En.then_ret (En.block_ret (En.then_ret ?_)))))))
     refine En.ret1 rfl (Res.tmp rfl) ?_
     have hx := exitP ze0 zh0
     subst hx
     replace h := fork_r h
     obtain rfl := Option.some.inj h
     intro w' hs
     exact ⟨rfl, hs.below⟩
    ·
     intro hc_3
     replace zh0 := ifO_f hc_3 zh0
     refine WC.skip (En.block_norm (En.next (WC.region ?_)))
     refine sp (OpV.addR rfl rfl) ?_
     refine mv ?_
     refine WL.nil ?_
     exact En.backP zb0 zh0 () (sc (sc (sc sn))) (fun _ h => h)
   ·
    intro hc_2
    replace zh0 := ifO_f hc_2 zh0
    refine WC.exit (En.then_exit (En.then_exit ?_))
    have hx := exitP ze0 zh0
    exact En.wk _ _ sn (fun _ h => h) (zK0_0 ((), ()) hx.symm)

theorem w_impl_runsOf {i_p0 : ImageT} {r : (List Int)} {q0_0 : Option Addr} {l0_0 k0_0 : Nat} (h : impl_runsOf i_p0 = some r) {w : World} (r0_0 : Rd tInt w q0_0 l0_0 k0_0 i_p0.Data)   :
    Calls Tryz.prog 181 #[.agg #[.int .i64 i_p0.W, .int .i64 i_p0.H, .slice q0_0 l0_0 k0_0]] w (fun en w' => ∃ rv G, en = .returned rv ∧ (∃ (a0_0 : Option Addr) (n0_0 : Nat) (c0_0 : Nat) (f0_0 : List Nat), rv = .slice a0_0 n0_0 c0_0 ∧ G = [Chunk.own tInt f0_0 a0_0 n0_0 c0_0 r]) ∧ St w G w') := by
 obtain rfl := r0_0.1
 unfold impl_runsOf at h
 refine enter (vs := [_]) Tryz.func181 rfl rfl rfl rfl ?_
 refine WC.sr ?_
 refine WL.heavy rfl rfl rfl (OpH.box rfl rfl ?_)
 intro b0_0
 refine ag ?_
 refine WL.nil (En.next (WC.sr ?_))
 refine WL.heavy rfl rfl rfl (OpH.lit0 (A := tInt) (evps.nil) bs_23_0_ ?_)
 intro b1_0
 refine ag ?_
 refine WL.nil (En.next (WC.seq (WC.sr ?_)))
 refine ag ?_
 refine WL.nil (En.next (WC.block ?_))
 obtain ⟨zy0, ezy0, h⟩ := bnd h
 refine WC.cut (X := ((List Int)) × ((Option Addr) × Nat × Nat × (List Nat))) (.exit 0) (fun x => zy0 = x.1) (fun x => match x with | (out_0e, (aout_0e, nout_0e, cout_0e, fout_0e)) => [(3, .slice aout_0e nout_0e cout_0e)]) (fun x => match x with | (out_0e, (aout_0e, nout_0e, cout_0e, fout_0e)) => [Chunk.own tInt fout_0e aout_0e nout_0e cout_0e out_0e]) ?_ ?_
 ·
  rintro ⟨out_0e, ⟨aout_0e, nout_0e, cout_0e, fout_0e⟩⟩ hx
  replace hx : out_0e = zy0 := hx.symm
  subst hx
  show En _ _ _ _ [(3, .slice aout_0e nout_0e cout_0e)] [Chunk.own tInt fout_0e aout_0e nout_0e cout_0e out_0e]
  refine En.block_exit (En.next (WC.sr ?_))
  refine mv ?_
  refine ag ?_
  refine WL.nil (En.next (WC.ret ?_))
  refine En.ret1 rfl (Res.tmp rfl) ?_
  obtain rfl := Option.some.inj h
  intro w' hs
  have hs := hs
  exact ⟨_, _, rfl, ⟨aout_0e, nout_0e, cout_0e, fout_0e, rfl, rfl⟩, hs⟩
 ·
  intro zK0_0
  refine WC.loopP (G := (Option Addr) × Nat × Nat × (List Nat)) (fun s g => match s, g with | (out_0, k_0), (aout_0, nout_0, cout_0, fout_0) => [(1, .pointer (some ⟨b0_0, 0, .none⟩)), (3, .slice aout_0 nout_0 cout_0), (4, .int .i64 k_0)]) (fun s g => match s, g with | (out_0, k_0), (aout_0, nout_0, cout_0, fout_0) => [Chunk.box b0_0 107 [.int .i64 i_p0.W, .int .i64 i_p0.H, .slice q0_0 i_p0.Data.length k0_0], Chunk.own tInt fout_0 aout_0 nout_0 cout_0 out_0]) (([] : List Int), 0) ((some ⟨b1_0, 0, .none⟩), 0, 0, [b1_0]) ezy0 (by exact sc (sc (sc sn))) (by exact (fun _ h => (h).pm 1)) ?_
  rintro zm0 ⟨out_0, k_0⟩ ⟨aout_0, nout_0, cout_0, fout_0⟩ zo0 zf0 zb0 ze0
  have zh0 : impl_runsOf_L0 i_p0 out_0 k_0 = some zo0 := zf0
  unfold impl_runsOf_L0 at zh0
  show WC _ _ _ _ _ [(1, .pointer (some ⟨b0_0, 0, .none⟩)), (3, .slice aout_0 nout_0 cout_0), (4, .int .i64 k_0)] [Chunk.box b0_0 107 [.int .i64 i_p0.W, .int .i64 i_p0.H, .slice q0_0 i_p0.Data.length k0_0], Chunk.own tInt fout_0 aout_0 nout_0 cout_0 out_0]
  refine WC.seq (WC.sr ?_)
  refine mv ?_
  refine sp (OpV.fieldAddr rfl fo_107_2) ?_
  refine sp (OpV.loadBox rfl pt_23 mq0 rfl) ?_
  refine sp (OpV.len rfl si_23 rfl) ?_
  refine sp (OpV.lss rfl rfl) ?_
  refine WL.nil (En.next ?_)
  refine WC.cond rfl ?_ ?_
  ·
   intro hc_1
   replace zh0 := ifO_t hc_1 zh0
   refine WC.skip (En.next (WC.block (WC.sr ?_)))
   refine mv ?_
   refine sp (OpV.addR rfl rfl) ?_
   refine ag ?_
   refine WL.nil (En.next (WC.seq (WC.block ?_)))
   obtain ⟨zy1, ezy1, zh0⟩ := bnd zh0
   refine WC.cut (X := (Int) × (Unit)) (.exit 2) (fun x => zy1 = x.1) (fun x => match x with | (end_1e, ()) => [(1, .pointer (some ⟨b0_0, 0, .none⟩)), (3, .slice aout_0 nout_0 cout_0), (4, .int .i64 k_0), (5, .int .i64 end_1e)]) (fun x => match x with | (end_1e, ()) => [Chunk.box b0_0 107 [.int .i64 i_p0.W, .int .i64 i_p0.H, .slice q0_0 i_p0.Data.length k0_0], Chunk.own tInt fout_0 aout_0 nout_0 cout_0 out_0]) ?_ ?_
   ·
    rintro ⟨end_1e, ⟨⟩⟩ hx
    replace hx : end_1e = zy1 := hx.symm
    subst hx
    show En _ _ _ _ [(1, .pointer (some ⟨b0_0, 0, .none⟩)), (3, .slice aout_0 nout_0 cout_0), (4, .int .i64 k_0), (5, .int .i64 end_1e)] [Chunk.box b0_0 107 [.int .i64 i_p0.W, .int .i64 i_p0.H, .slice q0_0 i_p0.Data.length k0_0], Chunk.own tInt fout_0 aout_0 nout_0 cout_0 out_0]
    refine En.block_exit (En.next (WC.seq ?_))
    obtain ⟨x7_7, e7_7, zh0⟩ := bnd zh0
    obtain ⟨g7_7, o7_7, _, ha7_7, rfl, hd7_7⟩ := Rd.atIdx r0_0 e7_7
    replace hd7_7 : ∀ (j : Nat) v, ([.int .i64 x7_7] : List Value)[j]? = some v → w.cell? ⟨g7_7, o7_7 + k_0.toNat * 1 + j, .none⟩ = some v := hd7_7
    obtain ⟨x7_10, e7_10, zh0⟩ := bnd zh0
    refine WC.region ?_
    refine mv ?_
    refine mv ?_
    refine mv ?_
    refine sp (OpV.subR rfl rfl) ?_
    refine sp (OpV.fieldAddr rfl fo_107_2) ?_
    refine sp (OpV.loadBox rfl pt_23 mq0 rfl) ?_
    refine mv ?_
    refine sp (OpV.idxA rfl rfl se_23 ha7_7 ⟨(idx_some e7_7).1, (idx_some e7_7).2.1⟩) ?_
    refine sp (OpV.load1 rfl pt_3 (fun w hs => hs.cell (hd7_7 0 _ rfl))) ?_
    refine WL.heavy rfl rfl rfl (OpH.litF (A := tInt) (xs := [(wr (end_1e - k_0)), x7_7]) tInt_flat (evps.cons rfl (evps.cons rfl (evps.nil))) (bs_23_2_0_1 _ _) rfl rfl (Nat.le_of_ble_eq_true rfl) ?_)
    intro b7_9
    refine WL.heavy rfl rfl rfl (OpH.appS (F := [_, _]) (A := tInt) tInt_flat rfl rfl rfl mi_23 rfl (by decide) (fun w hs => (Ow.rd (hs.mem mq0))) e7_10 ?_)
    intro f7_10 a7_10 c7_10
    refine ag ?_
    refine WL.nil (En.next (WC.region ?_))
    refine mv ?_
    refine ag ?_
    refine WL.nil (En.block_norm ?_)
    exact En.backP zb0 zh0 (a7_10, x7_10.length, c7_10, f7_10) (sc (sc (sc sn))) (fun _ h => (((h).pm 2).pm 2).sub (.cons_cons _ (.cons_cons _ (.cons _ (.slnil)))))
   ·
    intro zK1_0
    refine WC.loopP (G := Unit) (fun s g => match s, g with | end_1, () => [(1, .pointer (some ⟨b0_0, 0, .none⟩)), (3, .slice aout_0 nout_0 cout_0), (4, .int .i64 k_0), (5, .int .i64 end_1)]) (fun s g => match s, g with | end_1, () => [Chunk.box b0_0 107 [.int .i64 i_p0.W, .int .i64 i_p0.H, .slice q0_0 i_p0.Data.length k0_0], Chunk.own tInt fout_0 aout_0 nout_0 cout_0 out_0]) (wr (k_0 + 1)) () ezy1 (by exact sc (sc (sc (sc sn)))) (by exact (fun _ h => h)) ?_
    rintro zm1 end_1 ⟨⟩ zo1 zf1 zb1 ze1
    have zh1 : impl_runsOf_L1 i_p0 k_0 end_1 = some zo1 := zf1
    unfold impl_runsOf_L1 at zh1
    show WC _ _ _ _ _ [(1, .pointer (some ⟨b0_0, 0, .none⟩)), (3, .slice aout_0 nout_0 cout_0), (4, .int .i64 k_0), (5, .int .i64 end_1)] [Chunk.box b0_0 107 [.int .i64 i_p0.W, .int .i64 i_p0.H, .slice q0_0 i_p0.Data.length k0_0], Chunk.own tInt fout_0 aout_0 nout_0 cout_0 out_0]
    refine WC.seq (WC.seq ?_)
    obtain ⟨x5_3, e5_3, zh1⟩ := bnd zh1
    obtain ⟨q5_17, e5_17, zh1⟩ := bnd zh1
    refine WC.drawn [(1, ?r5q9v1), (3, ?r5q9v3), (4, ?r5q9v4), (5, ?r5q9v5), (31, ?r5q9v31)] (by kernel_rfl) (by kernel_rfl) ?dH5q9 ?dK5q9
    case dH5q9 =>
     intro W hW hk
     refine hW.mv ?_
     refine hW.sp (OpV.fieldAddr rfl fo_107_0) ?_
     refine hW.sp (OpV.loadBox rfl pt_3 mq0 rfl) ?_
     refine hW.sp (OpV.remR rfl rfl e5_3) ?_
     refine hW.sp (OpV.neq rfl rfl) ?_
     refine hW.mv ?_
     refine hW.andQ 19 31 30 (p := ?pz1) (rest := ?qz1) (B := q5_17) rfl (fun hz => andO_f e5_17 hz) ?Tz1 ?Fz1 ?az1 ?bz1 ?cz1 ?dz1 ?ez1
     case Tz1 =>
      intro hcz1 hkz1
      have hqz1 := andO_t e5_17 hcz1
      obtain ⟨x5_9, e5_9, hqz1⟩ := bnd hqz1
      obtain ⟨g5_9, o5_9, _, ha5_9, rfl, hd5_9⟩ := Rd.atIdx r0_0 e5_9
      replace hd5_9 : ∀ (j : Nat) v, ([.int .i64 x5_9] : List Value)[j]? = some v → w.cell? ⟨g5_9, o5_9 + end_1.toNat * 1 + j, .none⟩ = some v := hd5_9
      obtain ⟨x5_14, e5_14, hqz1⟩ := bnd hqz1
      obtain ⟨g5_14, o5_14, _, ha5_14, rfl, hd5_14⟩ := Rd.atIdx r0_0 e5_14
      replace hd5_14 : ∀ (j : Nat) v, ([.int .i64 x5_14] : List Value)[j]? = some v → w.cell? ⟨g5_14, o5_14 + k_0.toNat * 1 + j, .none⟩ = some v := hd5_14
      obtain rfl := Option.some.inj hqz1
      refine hW.sp (OpV.fieldAddr rfl fo_107_2) ?_
      refine hW.sp (OpV.loadBox rfl pt_23 mq0 rfl) ?_
      refine hW.mv ?_
      refine hW.sp (OpV.idxA rfl rfl se_23 ha5_9 ⟨(idx_some e5_9).1, (idx_some e5_9).2.1⟩) ?_
      refine hW.sp (OpV.load1 rfl pt_3 (fun w hs => hs.cell (hd5_9 0 _ rfl))) ?_
      refine hW.sp (OpV.fieldAddr rfl fo_107_2) ?_
      refine hW.sp (OpV.loadBox rfl pt_23 mq0 rfl) ?_
      refine hW.mv ?_
      refine hW.sp (OpV.idxA rfl rfl se_23 ha5_14 ⟨(idx_some e5_14).1, (idx_some e5_14).2.1⟩) ?_
      refine hW.sp (OpV.load1 rfl pt_3 (fun w hs => hs.cell (hd5_14 0 _ rfl))) ?_
      refine hW.sp (OpV.eql rfl rfl) ?_
      refine hkz1 _ ?_ ?_
      exact rfl
      repeat (first | exact Sub.refl _ | refine Sub.skip rfl ?_)
     case Fz1 =>
      intro hcz1 hkz1
      refine hW.sk ?_
      refine hW.sk ?_
      refine hW.sk ?_
      refine hW.sk ?_
      refine hW.sk ?_
      refine hW.sk ?_
      refine hW.sk ?_
      refine hW.sk ?_
      refine hW.sk ?_
      refine hW.sk ?_
      refine hW.sk ?_
      refine hkz1 _ ?_
      repeat (first | exact Sub.refl _ | refine Sub.skip rfl ?_)
     case az1 => exact rfl
     case bz1 => exact rfl
     case cz1 => exact rfl
     case dz1 => exact rfl
     refine hk _ ?_
     refine Sub.cons ?_ (Sub.cons ?_ (Sub.cons ?_ (Sub.cons ?_ (Sub.cons ?_ sn))))
     all_goals exact rfl
    refine En.next ?_
    refine WC.cond rfl ?_ ?_
    ·
     intro hc_2
     replace zh1 := ifO_t hc_2 zh1
     refine WC.skip (En.next (WC.block (WC.region ?_)))
     refine mv ?_
     refine sp (OpV.addR rfl rfl) ?_
     refine ag ?_
     refine WL.nil (En.block_norm ?_)
     exact En.backP zb1 zh1 () (sc (sc (sc (sc sn)))) (fun _ h => h)
    ·
     intro hc_2
     replace zh1 := ifO_f hc_2 zh1
     refine WC.exit (En.then_exit (En.then_exit ?_))
     have hx := exitP ze1 zh1
     exact En.wk _ _ (sc (sc (sc (sc sn)))) (fun _ h => h) (zK1_0 (end_1, ()) hx.symm)
  ·
   intro hc_1
   replace zh0 := ifO_f hc_1 zh0
   refine WC.exit (En.then_exit (En.then_exit ?_))
   have hx := exitP ze0 zh0
   exact En.wk _ _ (sc sn) (fun _ h => ((h).pm 1).sub (.cons_cons _ (.cons _ (.slnil)))) (zK0_0 (out_0, (aout_0, nout_0, cout_0, fout_0)) hx.symm)

theorem w_impl_tilesOf {n_p0 : Int} {r : Int}  (h : impl_tilesOf n_p0 = some r) {w : World}    :
    Calls Tryz.prog 180 #[.int .i64 n_p0] w (fun en w' => en = .returned (.int .i64 r) ∧ Ext w w') := by
 unfold impl_tilesOf at h
 refine enter (vs := [_]) Tryz.func180 rfl rfl rfl rfl ?_
 refine WC.sr ?_
 refine ag ?_
 refine WL.nil (En.next (WC.sr ?_))
 refine mv ?_
 refine sp (OpV.addR rfl rfl) ?_
 refine sp (OpV.subR rfl rfl) ?_
 refine sp (OpV.quoR rfl rfl rfl) ?_
 refine ag ?_
 refine WL.nil (En.next (WC.ret ?_))
 refine En.ret1 rfl (Res.tmp rfl) ?_
 obtain rfl := Option.some.inj h
 intro w' hs
 exact ⟨rfl, hs.below⟩

theorem w_impl_WordCount {w_p0 : Int} {h_p1 : Int} {layout_p2 : Int} {r : Int}  (h : impl_WordCount w_p0 h_p1 layout_p2 = some r) {w : World}    :
    Calls Tryz.prog 168 #[.int .i64 w_p0, .int .i64 h_p1, .int .i64 layout_p2] w (fun en w' => en = .returned (.int .i64 r) ∧ Ext w w') := by
 unfold impl_WordCount at h
 refine enter (vs := [_, _, _]) Tryz.func168 rfl rfl rfl rfl ?_
 refine WC.sr ?_
 refine ag ?_
 refine WL.nil (En.next (WC.seq (WC.seq ?_)))
 obtain ⟨x1_1, e1_1, h⟩ := bnd h
 obtain ⟨q1_7, e1_7, h⟩ := bnd h
 refine WC.region ?_
 refine mv ?_
 refine sp (OpV.call (ec rfl e0) ca_149 (fun w hs => w_impl_isSide e1_1)) ?_
 refine sp (OpV.not rfl) ?_
 refine mv ?_
 refine Lt.ofWL.orQ 10 14 13 (p := ?pz1) (rest := ?qz1) (B := q1_7) rfl (fun hz => orO_t e1_7 hz) ?Tz1 ?Fz1 ?az1 ?bz1 ?cz1 ?dz1 ?ez1
 case Tz1 =>
  intro hcz1 hkz1
  refine sk ?_
  refine sk ?_
  refine sk ?_
  refine hkz1 _ ?_
  repeat (first | exact Sub.refl _ | refine Sub.skip rfl ?_)
 case Fz1 =>
  intro hcz1 hkz1
  have hqz1 := orO_f e1_7 hcz1
  obtain ⟨x1_5, e1_5, hqz1⟩ := bnd hqz1
  obtain rfl := Option.some.inj hqz1
  refine mv ?_
  refine sp (OpV.call (ec rfl e0) ca_149 (fun w hs => w_impl_isSide e1_5)) ?_
  refine sp (OpV.not rfl) ?_
  refine hkz1 _ ?_ ?_
  exact rfl
  repeat (first | exact Sub.refl _ | refine Sub.skip rfl ?_)
 case az1 => exact rfl
 case bz1 => exact rfl
 case cz1 => exact rfl
 case dz1 => exact rfl
 refine WL.nil (En.next ?_)
 refine WC.cond rfl ?_ ?_
 ·
  intro hc_1
  replace h := ifO_t hc_1 h
  refine WC.sr ?_
  refine ag ?_
  refine WL.nil (En.next (WC.ret (En.then_ret ?_)))
  refine En.ret1 rfl (Res.tmp rfl) ?_
  obtain rfl := Option.some.inj h
  intro w' hs
  exact ⟨rfl, hs.below⟩
 ·
  intro hc_1
  replace h := ifO_f hc_1 h
  refine WC.skip (En.next (WC.seq (WC.sr ?_)))
  refine mv ?_
  refine WL.nil (En.next (WC.block (WC.sr ?_)))
  refine sp (OpV.eql rfl rfl) ?_
  refine ag ?_
  refine WL.nil (En.next ?_)
  refine WC.cond rfl ?_ ?_
  ·
   intro hc_2
   replace h := ifO_t hc_2 h
   refine WC.sr ?_
   refine mv ?_
   refine mv ?_
   refine sp (OpV.mulR rfl rfl) ?_
   refine ag ?_
   refine WL.nil (En.next (WC.ret (En.block_ret (En.then_ret ?_))))
   refine En.ret1 rfl (Res.tmp rfl) ?_
   obtain rfl := Option.some.inj h
   intro w' hs
   exact ⟨rfl, hs.below⟩
  ·
   intro hc_2
   replace h := ifO_f hc_2 h
   refine WC.sr ?_
   refine sp (OpV.eql rfl rfl) ?_
   refine ag ?_
   refine WL.nil (En.next ?_)
   refine WC.cond rfl ?_ ?_
   ·
    intro hc_3
    replace h := ifO_t hc_3 h
    refine WC.seq ?_
    obtain ⟨x7_1, e7_1, h⟩ := bnd h
    obtain ⟨x7_3, e7_3, h⟩ := bnd h
    refine WC.region ?_
    refine mv ?_
    refine sp (OpV.call (ec rfl e0) ca_180 (fun w hs => w_impl_tilesOf e7_1)) ?_
    refine mv ?_
    refine sp (OpV.call (ec rfl e0) ca_180 (fun w hs => w_impl_tilesOf e7_3)) ?_
    refine sp (OpV.mulR rfl rfl) ?_
    refine sp (OpV.mulR rfl rfl) ?_
    refine sp (OpV.mulR rfl rfl) ?_
    refine ag ?_
    refine WL.nil (En.next (WC.ret (En.block_ret (En.then_ret ?_))))
    refine En.ret1 rfl (Res.tmp rfl) ?_
    obtain rfl := Option.some.inj h
    intro w' hs
    exact ⟨rfl, hs.below⟩
   ·
    intro hc_3
    replace h := ifO_f hc_3 h
    refine WC.skip (En.block_norm (En.next (WC.sr ?_)))
    refine ag ?_
    refine WL.nil (En.next (WC.ret ?_))
    refine En.ret1 rfl (Res.tmp rfl) ?_
    obtain rfl := Option.some.inj h
    intro w' hs
    exact ⟨rfl, hs.below⟩

theorem w_impl_wordPlace {w_p0 : Int} {layout_p1 : Int} {x_p2 : Int} {y_p3 : Int} {r : Int}  (h : impl_wordPlace w_p0 layout_p1 x_p2 y_p3 = some r) {w : World}    :
    Calls Tryz.prog 171 #[.int .i64 w_p0, .int .i64 layout_p1, .int .i64 x_p2, .int .i64 y_p3] w (fun en w' => en = .returned (.int .i64 r) ∧ Ext w w') := by
 unfold impl_wordPlace at h
 refine enter (vs := [_, _, _, _]) Tryz.func171 rfl rfl rfl rfl ?_
 refine WC.sr ?_
 refine ag ?_
 refine WL.nil (En.next (WC.seq (WC.sr ?_)))
 refine mv ?_
 refine sp (OpV.eql rfl rfl) ?_
 refine WL.nil (En.next ?_)
 refine WC.cond rfl ?_ ?_
 ·
  intro hc_1
  replace h := ifO_t hc_1 h
  refine WC.sr ?_
  refine mv ?_
  refine mv ?_
  refine sp (OpV.mulR rfl rfl) ?_
  refine mv ?_
  refine sp (OpV.addR rfl rfl) ?_
  refine ag ?_
  refine WL.nil (En.next (WC.ret (En.then_ret ?_)))
  refine En.ret1 rfl (Res.tmp rfl) ?_
  obtain rfl := Option.some.inj h
  intro w' hs
  exact ⟨rfl, hs.below⟩
 ·
  intro hc_1
  replace h := ifO_f hc_1 h
  refine WC.skip (En.next (WC.seq ?_))
  obtain ⟨x3_3, e3_3, h⟩ := bnd h
  refine WC.region ?_
  refine mv ?_
  refine sp (OpV.quoR rfl rfl rfl) ?_
  refine mv ?_
  refine sp (OpV.call (ec rfl e0) ca_180 (fun w hs => w_impl_tilesOf e3_3)) ?_
  refine sp (OpV.mulR rfl rfl) ?_
  refine mv ?_
  refine sp (OpV.quoR rfl rfl rfl) ?_
  refine sp (OpV.addR rfl rfl) ?_
  refine ag ?_
  refine WL.nil (En.next (WC.sr ?_))
  refine mv ?_
  refine sp (OpV.mulR rfl rfl) ?_
  refine sp (OpV.mulR rfl rfl) ?_
  refine mv ?_
  refine sp (OpV.remR rfl rfl rfl) ?_
  refine sp (OpV.mulR rfl rfl) ?_
  refine sp (OpV.addR rfl rfl) ?_
  refine mv ?_
  refine sp (OpV.remR rfl rfl rfl) ?_
  refine sp (OpV.addR rfl rfl) ?_
  refine ag ?_
  refine WL.nil (En.next (WC.ret ?_))
  refine En.ret1 rfl (Res.tmp rfl) ?_
  obtain rfl := Option.some.inj h
  intro w' hs
  exact ⟨rfl, hs.below⟩

theorem w_impl_StoreImage {i_p0 : ImageT} {layout_p1 : Int} {r : (List Int) × Bool} {q0_0 : Option Addr} {l0_0 k0_0 : Nat} (h : impl_StoreImage i_p0 layout_p1 = some r) {w : World} (r0_0 : Rd tInt w q0_0 l0_0 k0_0 i_p0.Data)   :
    Calls Tryz.prog 172 #[.agg #[.int .i64 i_p0.W, .int .i64 i_p0.H, .slice q0_0 l0_0 k0_0], .int .i64 layout_p1] w (fun en w' => ∃ rv G, en = .returned rv ∧ (∃ (a0_0 : Option Addr) (n0_0 : Nat) (c0_0 : Nat) (f0_0 : List Nat), rv = .tuple #[.slice a0_0 n0_0 c0_0, .bool r.2] ∧ G = [Chunk.own tInt f0_0 a0_0 n0_0 c0_0 r.1]) ∧ St w G w') := by
 obtain rfl := r0_0.1
 unfold impl_StoreImage at h
 refine enter (vs := [_, _]) Tryz.func172 rfl rfl rfl rfl ?_
 refine WC.sr ?_
 refine WL.heavy rfl rfl rfl (OpH.box rfl rfl ?_)
 intro b0_0
 refine ag ?_
 refine ag ?_
 refine WL.nil (En.next (WC.seq (WC.seq ?_)))
 obtain ⟨x1_1, e1_1, h⟩ := bnd h
 obtain ⟨q1_7, e1_7, h⟩ := bnd h
 refine WC.region ?_
 refine sp (OpV.loadAll rfl mq0 ag_107) ?_
 refine sp (OpV.call (ec rfl e0) ca_161 (fun w hs => w_impl_ImageOk e1_1 (r0_0.ext hs.below))) ?_
 refine sp (OpV.not rfl) ?_
 refine mv ?_
 refine Lt.ofWL.orQ 12 16 15 (p := ?pz1) (rest := ?qz1) (B := q1_7) rfl (fun hz => orO_t e1_7 hz) ?Tz1 ?Fz1 ?az1 ?bz1 ?cz1 ?dz1 ?ez1
 case Tz1 =>
  intro hcz1 hkz1
  refine sk ?_
  refine sk ?_
  refine sk ?_
  refine hkz1 _ ?_
  repeat (first | exact Sub.refl _ | refine Sub.skip rfl ?_)
 case Fz1 =>
  intro hcz1 hkz1
  have hqz1 := orO_f e1_7 hcz1
  obtain ⟨x1_5, e1_5, hqz1⟩ := bnd hqz1
  obtain rfl := Option.some.inj hqz1
  refine mv ?_
  refine sp (OpV.call (ec rfl (ec rfl (ec rfl e0))) ca_67 (fun w hs => w_impl_within e1_5)) ?_
  refine sp (OpV.not rfl) ?_
  refine hkz1 _ ?_ ?_
  exact rfl
  repeat (first | exact Sub.refl _ | refine Sub.skip rfl ?_)
 case az1 => exact rfl
 case bz1 => exact rfl
 case cz1 => exact rfl
 case dz1 => exact rfl
 refine WL.nil (En.next ?_)
 refine WC.cond rfl ?_ ?_
 ·
  intro hc_1
  replace h := ifO_t hc_1 h
  refine WC.sr ?_
  refine ag ?_
  refine ag ?_
  refine WL.nil (En.next (WC.ret (En.then_ret ?_)))
  refine En.ret2 rfl (Res.tmp rfl) (Res.tmp rfl) ?_
  obtain rfl := Option.some.inj h
  intro w' hs
  have hs := ((hs).ownNil (A := tInt)).sub (.cons_cons _ (.cons _ (.slnil)))
  exact ⟨_, _, rfl, ⟨.none, 0, 0, [], rfl, rfl⟩, hs⟩
 ·
  intro hc_1
  replace h := ifO_f hc_1 h
  refine WC.skip (En.next (WC.seq (WC.sr ?_)))
  refine mv ?_
  refine sp (OpV.eql rfl rfl) ?_
  refine WL.nil (En.next ?_)
  refine WC.cond rfl ?_ ?_
  ·
   intro hc_2
   replace h := ifO_t hc_2 h
   refine WC.seq ?_
   obtain ⟨x4_1, e4_1, h⟩ := bnd h
   refine WC.region ?_
   refine sp (OpV.loadAll rfl mq0 ag_107) ?_
   refine WL.heavy rfl rfl rfl (OpH.callR (ec rfl e0) ca_181 (fun w hs => w_impl_runsOf e4_1 (r0_0.ext hs.below)) ?_)
   rintro _ _ ⟨a4_100, n4_100, c4_100, f4_100, rfl, rfl⟩
   refine ag ?_
   refine ag ?_
   refine WL.nil (En.next (WC.ret (En.then_ret ?_)))
   refine En.ret2 rfl (Res.tmp rfl) (Res.tmp rfl) ?_
   obtain rfl := Option.some.inj h
   intro w' hs
   have hs := (hs).sub (.cons_cons _ (.cons _ (.slnil)))
   exact ⟨_, _, rfl, ⟨a4_100, n4_100, c4_100, f4_100, rfl, rfl⟩, hs⟩
  ·
   intro hc_2
   replace h := ifO_f hc_2 h
   refine WC.skip (En.next (WC.seq ?_))
   obtain ⟨x5_5, e5_5, h⟩ := bnd h
   obtain ⟨x5_6, e5_6, h⟩ := bnd h
   refine WC.region ?_
   refine sp (OpV.fieldAddr rfl fo_107_0) ?_
   refine sp (OpV.loadBox rfl pt_3 mq0 rfl) ?_
   refine sp (OpV.fieldAddr rfl fo_107_1) ?_
   refine sp (OpV.loadBox rfl pt_3 mq0 rfl) ?_
   refine mv ?_
   refine sp (OpV.call (ec rfl (ec rfl (ec rfl e0))) ca_168 (fun w hs => w_impl_WordCount e5_5)) ?_
   refine WL.heavy rfl rfl rfl (OpH.makeO (A := tInt) rfl rfl mi_23 (fun w => tInt_flat.ow w 0) (by decide) e5_6 ⟨Int.le_refl _, (mkO_some e5_6).1.2⟩ ?_)
   intro b5_6
   refine ag ?_
   refine WL.nil (En.next (WC.seq (WC.sr ?_)))
   refine sp (OpV.fieldAddr rfl fo_107_2) ?_
   refine sp (OpV.loadBox rfl pt_23 mq1 rfl) ?_
   refine sp (OpV.len rfl si_23 rfl) ?_
   refine mv ?_
   refine WL.nil (En.next (WC.block ?_))
   obtain ⟨zy0, ezy0, h⟩ := bnd h
   refine WC.cut (X := ((List Int)) × ((List Nat))) (.exit 0) (fun x => zy0 = x.1) (fun x => match x with | (out_0e, fout_0e) => [(6, .slice (some ⟨b5_6, 0, .none⟩) x5_6.length x5_5.toNat)]) (fun x => match x with | (out_0e, fout_0e) => [Chunk.own tInt fout_0e (some ⟨b5_6, 0, .none⟩) x5_6.length x5_5.toNat out_0e]) ?_ ?_
   ·
    rintro ⟨out_0e, fout_0e⟩ hx
    replace hx : out_0e = zy0 := hx.symm
    subst hx
    show En _ _ _ _ [(6, .slice (some ⟨b5_6, 0, .none⟩) x5_6.length x5_5.toNat)] [Chunk.own tInt fout_0e (some ⟨b5_6, 0, .none⟩) x5_6.length x5_5.toNat out_0e]
    refine En.block_exit (En.next (WC.sr ?_))
    refine mv ?_
    refine ag ?_
    refine ag ?_
    refine WL.nil (En.next (WC.ret ?_))
    refine En.ret2 rfl (Res.tmp rfl) (Res.tmp rfl) ?_
    obtain rfl := Option.some.inj h
    intro w' hs
    have hs := hs
    exact ⟨_, _, rfl, ⟨(some ⟨b5_6, 0, .none⟩), x5_6.length, x5_5.toNat, fout_0e, rfl, rfl⟩, hs⟩
   ·
    intro zK0_0
    refine WC.loopP (G := (List Nat)) (fun s g => match s, g with | (out_0, v_0), fout_0 => [(1, .int .i64 layout_p1), (2, .pointer (some ⟨b0_0, 0, .none⟩)), (6, .slice (some ⟨b5_6, 0, .none⟩) x5_6.length x5_5.toNat), (29, .slice q0_0 i_p0.Data.length k0_0), (30, .int .i64 (i_p0.Data.length : Int)), (31, .int .i64 v_0)]) (fun s g => match s, g with | (out_0, v_0), fout_0 => [Chunk.box b0_0 107 [.int .i64 i_p0.W, .int .i64 i_p0.H, .slice q0_0 i_p0.Data.length k0_0], Chunk.own tInt fout_0 (some ⟨b5_6, 0, .none⟩) x5_6.length x5_5.toNat out_0]) (x5_6, 0) [b5_6] ezy0 (by exact sc (sc (sc (sc (sc (sc sn)))))) (by exact (fun _ h => (h).pm 1)) ?_
    rintro zm0 ⟨out_0, v_0⟩ fout_0 zo0 zf0 zb0 ze0
    have zh0 : impl_StoreImage_L0 i_p0 layout_p1 out_0 v_0 = some zo0 := zf0
    unfold impl_StoreImage_L0 at zh0
    show WC _ _ _ _ _ [(1, .int .i64 layout_p1), (2, .pointer (some ⟨b0_0, 0, .none⟩)), (6, .slice (some ⟨b5_6, 0, .none⟩) x5_6.length x5_5.toNat), (29, .slice q0_0 i_p0.Data.length k0_0), (30, .int .i64 (i_p0.Data.length : Int)), (31, .int .i64 v_0)] [Chunk.box b0_0 107 [.int .i64 i_p0.W, .int .i64 i_p0.H, .slice q0_0 i_p0.Data.length k0_0], Chunk.own tInt fout_0 (some ⟨b5_6, 0, .none⟩) x5_6.length x5_5.toNat out_0]
    refine WC.sr ?_
    refine sp (OpV.lss rfl rfl) ?_
    refine WL.nil (En.next (WC.seq ?_))
    refine WC.cond rfl ?_ ?_
    ·
     intro hc_3
     replace zh0 := ifO_t hc_3 zh0
     refine WC.skip (En.next (WC.seq (WC.block (WC.seq ?_))))
     obtain ⟨x8_1, e8_1, zh0⟩ := bnd zh0
     obtain ⟨g8_1, o8_1, _, ha8_1, rfl, hd8_1⟩ := Rd.atIdx r0_0 e8_1
     replace hd8_1 : ∀ (j : Nat) v, ([.int .i64 x8_1] : List Value)[j]? = some v → w.cell? ⟨g8_1, o8_1 + v_0.toNat * 1 + j, .none⟩ = some v := hd8_1
     refine WC.region ?_
     refine mv ?_
     refine sp (OpV.idxA rfl rfl se_23 ha8_1 ⟨(idx_some e8_1).1, (idx_some e8_1).2.1⟩) ?_
     refine sp (OpV.load1 rfl pt_3 (fun w hs => hs.cell (hd8_1 0 _ rfl))) ?_
     refine ag ?_
     refine ag ?_
     refine WL.nil (En.next ?_)
     refine WC.inh fun hin9 => ?_
     obtain ⟨x9_7, e9_7, zh0⟩ := bnd zh0
     obtain ⟨x9_11, e9_11, zh0⟩ := bnd zh0
     obtain ⟨x9_12, e9_12, zh0⟩ := bnd zh0
     have hn9_14 := ownLen hin9 mq1
     obtain ⟨x9_15, e9_15, zh0⟩ := bnd zh0
     obtain ⟨g9_14, o9_14, ha9_14⟩ := ownAddrU hin9 mq1 e9_15
     refine WC.wkF (fun _ h => h.pm 1) ?_
     refine WC.drawnH [_] ([_]) (fun _ h => h) (by kernel_rfl) ?_
     refine tk 0 rfl (OpV.move rfl) ?_
     refine tk 1 rfl (OpV.fieldAddr rfl fo_107_0) ?_
     refine tk 2 rfl (OpV.loadBox rfl pt_3 mq0 rfl) ?_
     refine tk 3 rfl (OpV.move rfl) ?_
     refine tk 4 rfl (OpV.move rfl) ?_
     refine tk 5 rfl (OpV.fieldAddr rfl fo_107_0) ?_
     refine tk 6 rfl (OpV.loadBox rfl pt_3 mq0 rfl) ?_
     refine tk 7 rfl (OpV.remR rfl rfl e9_7) ?_
     refine tk 8 rfl (OpV.move rfl) ?_
     refine tk 9 rfl (OpV.fieldAddr rfl fo_107_0) ?_
     refine tk 10 rfl (OpV.loadBox rfl pt_3 mq0 rfl) ?_
     refine tk 11 rfl (OpV.quoR rfl rfl e9_11) ?_
     refine tk 12 rfl (OpV.call (ec rfl (ec rfl (ec rfl (ec rfl e0)))) ca_171 (fun w hs => w_impl_wordPlace e9_12)) ?_
     refine tk 13 rfl (OpV.move rfl) ?_
     refine tk 14 rfl (OpV.idxA rfl rfl se_23 ha9_14 ⟨(upd_some e9_15).1.1, by rw [hn9_14]; exact (upd_some e9_15).1.2⟩) ?_
     refine al0 15 rfl ?_
     refine OpH.wkF (fun _ h => St.elFlat tInt_flat x8_1 h) ?_
     refine OpH.setEl (A := tInt) ha9_14 rfl rfl rfl ts_3 e9_15 ?_
     intro f9_15
     refine ⟨[_], rfl, ?_⟩
     refine WAE.rebase (H := []) ?_
     refine WAE.done (by kernel_rfl) ?_ _
     refine En.block_norm (En.next (WC.region ?_))
     refine sp (OpV.addR rfl rfl) ?_
     refine mv ?_
     refine WL.nil ?_
     exact En.backP zb0 zh0 f9_15 (sc (sc (sc (sc (sc (sc sn)))))) (fun _ h => (h).pm 1)
    ·
     intro hc_3
     replace zh0 := ifO_f hc_3 zh0
     refine WC.exit (En.then_exit (En.then_exit ?_))
     have hx := exitP ze0 zh0
     exact En.wk _ _ (sc sn) (fun _ h => ((h).pm 1).sub (.cons_cons _ (.cons _ (.slnil)))) (zK0_0 (out_0, fout_0) hx.symm)

theorem w_impl_mapImage {w_p0 : Int} {h_p1 : Int} {f_p2 : Int → Int → Option Int} {r : ImageT} {fv2 : Value} (h : impl_mapImage w_p0 h_p1 f_p2 = some r) {w : World}   (hF2 : ∀ {y0 : Int} {y1 : Int} {r1 : Int}  {w1 : World}, Ext w w1 → f_p2 y0 y1 = some r1 → CallsV Tryz.prog fv2 [.int .i64 y0, .int .i64 y1] w1 (fun en w2 => en = .returned (.int .i64 r1) ∧ Ext w1 w2)) :
    Calls Tryz.prog 169 #[.int .i64 w_p0, .int .i64 h_p1, fv2] w (fun en w' => ∃ rv G, en = .returned rv ∧ (∃ (a0_0 : Option Addr) (n0_0 : Nat) (c0_0 : Nat) (f0_0 : List Nat), rv = .agg #[.int .i64 r.W, .int .i64 r.H, .slice a0_0 n0_0 c0_0] ∧ G = [Chunk.own tInt f0_0 a0_0 n0_0 c0_0 r.Data]) ∧ St w G w') := by
 unfold impl_mapImage at h
 refine enter (vs := [_, _, _]) Tryz.func169 rfl rfl rfl rfl ?_
 refine WC.sr ?_
 refine WL.heavy rfl rfl rfl (OpH.alloc zc_107 ?_)
 intro b0_0
 refine WL.nil (En.next (WC.seq ?_))
 obtain ⟨x1_5, e1_5, h⟩ := bnd h
 obtain ⟨n1_5, h⟩ := need_some h
 refine WC.region ?_
 refine mv ?_
 refine mv ?_
 refine mv ?_
 refine mv ?_
 refine sp (OpV.mulR rfl rfl) ?_
 refine WL.heavy rfl rfl rfl (OpH.makeO (A := tInt) rfl rfl mi_23 (fun w => tInt_flat.ow w 0) (by decide) e1_5 n1_5 ?_)
 intro b1_5
 refine sp (OpV.build (evps.cons rfl (evps.cons rfl (evps.cons rfl (evps.nil)))) (bd_107_0_1_2 _ _ _ _ _)) ?_
 refine WL.heavy rfl rfl rfl (OpH.alloc zc_107 ?_)
 intro b1_7
 refine WL.heavy0 rfl rfl (OpH.storeTo (A := []) [_, _, _] rfl rfl rfl ts_107 rfl rfl rfl ?_)
 refine WL.nil (En.next (WC.seq (WC.sr ?_)))
 refine mv ?_
 refine mv ?_
 refine WL.nil (En.next (WC.block ?_))
 obtain ⟨zy0, ezy0, h⟩ := bnd h
 refine WC.cut (X := ((List Int)) × ((Option Addr) × Nat × Nat × (List Nat))) (.exit 0) (fun x => zy0 = x.1) (fun x => match x with | (out_0e, (aout_0e, nout_0e, cout_0e, fout_0e)) => [(6, .pointer (some ⟨b0_0, 0, .none⟩)), (7, .pointer (some ⟨b1_7, 0, .none⟩))]) (fun x => match x with | (out_0e, (aout_0e, nout_0e, cout_0e, fout_0e)) => [Chunk.box b0_0 107 [.int .i64 0, .int .i64 0, .slice .none 0 0], Chunk.box b1_7 107 [.int .i64 w_p0, .int .i64 h_p1, .slice aout_0e nout_0e cout_0e], Chunk.own tInt fout_0e aout_0e nout_0e cout_0e out_0e]) ?_ ?_
 ·
  rintro ⟨out_0e, ⟨aout_0e, nout_0e, cout_0e, fout_0e⟩⟩ hx
  replace hx : out_0e = zy0 := hx.symm
  subst hx
  show En _ _ _ _ [(6, .pointer (some ⟨b0_0, 0, .none⟩)), (7, .pointer (some ⟨b1_7, 0, .none⟩))] [Chunk.box b0_0 107 [.int .i64 0, .int .i64 0, .slice .none 0 0], Chunk.box b1_7 107 [.int .i64 w_p0, .int .i64 h_p1, .slice aout_0e nout_0e cout_0e], Chunk.own tInt fout_0e aout_0e nout_0e cout_0e out_0e]
  refine En.block_exit (En.next (WC.sr ?_))
  refine sp (OpV.loadAll rfl mq1 ag_107) ?_
  refine WL.heavy0 rfl rfl (OpH.storeTo (A := []) [_, _, _] rfl rfl rfl ts_107 rfl rfl rfl ?_)
  refine WL.nil (En.next (WC.ret ?_))
  refine En.ret1 rfl (Res.cell rfl mq0 ag_107) ?_
  obtain rfl := Option.some.inj h
  intro w' hs
  have hs := ((hs).pm 2).sub (.cons_cons _ (.cons _ (.cons _ (.slnil))))
  exact ⟨_, _, rfl, ⟨aout_0e, nout_0e, cout_0e, fout_0e, rfl, rfl⟩, hs⟩
 ·
  intro zK0_0
  refine WC.loopP (G := (Option Addr) × Nat × Nat × (List Nat)) (fun s g => match s, g with | (out_0, v_0), (aout_0, nout_0, cout_0, fout_0) => [(0, .int .i64 w_p0), (2, fv2), (6, .pointer (some ⟨b0_0, 0, .none⟩)), (7, .pointer (some ⟨b1_7, 0, .none⟩)), (17, .int .i64 h_p1), (18, .int .i64 v_0)]) (fun s g => match s, g with | (out_0, v_0), (aout_0, nout_0, cout_0, fout_0) => [Chunk.box b0_0 107 [.int .i64 0, .int .i64 0, .slice .none 0 0], Chunk.box b1_7 107 [.int .i64 w_p0, .int .i64 h_p1, .slice aout_0 nout_0 cout_0], Chunk.own tInt fout_0 aout_0 nout_0 cout_0 out_0]) (x1_5, 0) ((some ⟨b1_5, 0, .none⟩), x1_5.length, (wr (w_p0 * h_p1)).toNat, [b1_5]) ezy0 (by exact sc (sc (sc (sc (sc (sc sn)))))) (by exact (fun _ h => (((h).pm 1).pm 1).pm 2)) ?_
  rintro zm0 ⟨out_0, v_0⟩ ⟨aout_0, nout_0, cout_0, fout_0⟩ zo0 zf0 zb0 ze0
  have zh0 : impl_mapImage_L0 w_p0 h_p1 f_p2 out_0 v_0 = some zo0 := zf0
  unfold impl_mapImage_L0 at zh0
  show WC _ _ _ _ _ [(0, .int .i64 w_p0), (2, fv2), (6, .pointer (some ⟨b0_0, 0, .none⟩)), (7, .pointer (some ⟨b1_7, 0, .none⟩)), (17, .int .i64 h_p1), (18, .int .i64 v_0)] [Chunk.box b0_0 107 [.int .i64 0, .int .i64 0, .slice .none 0 0], Chunk.box b1_7 107 [.int .i64 w_p0, .int .i64 h_p1, .slice aout_0 nout_0 cout_0], Chunk.own tInt fout_0 aout_0 nout_0 cout_0 out_0]
  refine WC.sr ?_
  refine sp (OpV.lss rfl rfl) ?_
  refine WL.nil (En.next (WC.seq ?_))
  refine WC.cond rfl ?_ ?_
  ·
   intro hc_1
   replace zh0 := ifO_t hc_1 zh0
   refine WC.skip (En.next (WC.seq (WC.block (WC.sr ?_))))
   refine mv ?_
   refine ag ?_
   refine WL.nil (En.next (WC.sr ?_))
   refine mv ?_
   refine mv ?_
   refine WL.nil (En.next (WC.block ?_))
   obtain ⟨zy1, ezy1, zh0⟩ := bnd zh0
   refine WC.cut (X := ((List Int)) × ((Option Addr) × Nat × Nat × (List Nat))) (.exit 2) (fun x => zy1 = x.1) (fun x => match x with | (out_1e, (aout_1e, nout_1e, cout_1e, fout_1e)) => [(0, .int .i64 w_p0), (2, fv2), (6, .pointer (some ⟨b0_0, 0, .none⟩)), (7, .pointer (some ⟨b1_7, 0, .none⟩)), (17, .int .i64 h_p1), (18, .int .i64 v_0)]) (fun x => match x with | (out_1e, (aout_1e, nout_1e, cout_1e, fout_1e)) => [Chunk.box b0_0 107 [.int .i64 0, .int .i64 0, .slice .none 0 0], Chunk.box b1_7 107 [.int .i64 w_p0, .int .i64 h_p1, .slice aout_1e nout_1e cout_1e], Chunk.own tInt fout_1e aout_1e nout_1e cout_1e out_1e]) ?_ ?_
   ·
    rintro ⟨out_1e, ⟨aout_1e, nout_1e, cout_1e, fout_1e⟩⟩ hx
    replace hx : out_1e = zy1 := hx.symm
    subst hx
    show En _ _ _ _ [(0, .int .i64 w_p0), (2, fv2), (6, .pointer (some ⟨b0_0, 0, .none⟩)), (7, .pointer (some ⟨b1_7, 0, .none⟩)), (17, .int .i64 h_p1), (18, .int .i64 v_0)] [Chunk.box b0_0 107 [.int .i64 0, .int .i64 0, .slice .none 0 0], Chunk.box b1_7 107 [.int .i64 w_p0, .int .i64 h_p1, .slice aout_1e nout_1e cout_1e], Chunk.own tInt fout_1e aout_1e nout_1e cout_1e out_1e]
    refine En.block_exit (En.block_norm (En.next (WC.region ?_)))
    refine sp (OpV.addR rfl rfl) ?_
    refine mv ?_
    refine WL.nil ?_
    exact En.backP zb0 zh0 (aout_1e, nout_1e, cout_1e, fout_1e) (sc (sc (sc (sc (sc (sc sn)))))) (fun _ h => h)
   ·
    intro zK1_0
    refine WC.loopP (G := (Option Addr) × Nat × Nat × (List Nat)) (fun s g => match s, g with | (out_1, v_1), (aout_1, nout_1, cout_1, fout_1) => [(0, .int .i64 w_p0), (2, fv2), (6, .pointer (some ⟨b0_0, 0, .none⟩)), (7, .pointer (some ⟨b1_7, 0, .none⟩)), (8, .int .i64 v_0), (17, .int .i64 h_p1), (18, .int .i64 v_0), (21, .int .i64 w_p0), (22, .int .i64 v_1)]) (fun s g => match s, g with | (out_1, v_1), (aout_1, nout_1, cout_1, fout_1) => [Chunk.box b0_0 107 [.int .i64 0, .int .i64 0, .slice .none 0 0], Chunk.box b1_7 107 [.int .i64 w_p0, .int .i64 h_p1, .slice aout_1 nout_1 cout_1], Chunk.own tInt fout_1 aout_1 nout_1 cout_1 out_1]) (out_0, 0) (aout_0, nout_0, cout_0, fout_0) ezy1 (by exact sc (sc (sc (sc (sc (sc (sc (sc (sc sn))))))))) (by exact (fun _ h => h)) ?_
    rintro zm1 ⟨out_1, v_1⟩ ⟨aout_1, nout_1, cout_1, fout_1⟩ zo1 zf1 zb1 ze1
    have zh1 : impl_mapImage_L1 w_p0 f_p2 v_0 out_1 v_1 = some zo1 := zf1
    unfold impl_mapImage_L1 at zh1
    show WC _ _ _ _ _ [(0, .int .i64 w_p0), (2, fv2), (6, .pointer (some ⟨b0_0, 0, .none⟩)), (7, .pointer (some ⟨b1_7, 0, .none⟩)), (8, .int .i64 v_0), (17, .int .i64 h_p1), (18, .int .i64 v_0), (21, .int .i64 w_p0), (22, .int .i64 v_1)] [Chunk.box b0_0 107 [.int .i64 0, .int .i64 0, .slice .none 0 0], Chunk.box b1_7 107 [.int .i64 w_p0, .int .i64 h_p1, .slice aout_1 nout_1 cout_1], Chunk.own tInt fout_1 aout_1 nout_1 cout_1 out_1]
    refine WC.sr ?_
    refine sp (OpV.lss rfl rfl) ?_
    refine WL.nil (En.next (WC.seq ?_))
    refine WC.cond rfl ?_ ?_
    ·
     intro hc_2
     replace zh1 := ifO_t hc_2 zh1
     refine WC.skip (En.next (WC.seq (WC.block (WC.sr ?_))))
     refine mv ?_
     refine ag ?_
     refine WL.nil (En.next ?_)
     obtain ⟨x8_5, e8_5, zh1⟩ := bnd zh1
     obtain ⟨x8_7, e8_7, zh1⟩ := bnd zh1
     refine WC.wkF (fun _ h => h.pm 2) ?_
     refine WC.wkF (fun _ h => h.pm 2) ?_
     refine WC.drawnH [_, _] ([_]) (fun _ h => h) (by kernel_rfl) ?_
     refine tk 0 rfl (OpV.fieldAddr rfl fo_107_2) ?_
     refine tk 2 rfl (OpV.move rfl) ?_
     refine tk 3 rfl (OpV.move rfl) ?_
     refine tk 4 rfl (OpV.move rfl) ?_
     refine tk 5 rfl (OpV.callV rfl (ec rfl (ec rfl e0)) (fun w hs => hF2 hs.below e8_5)) ?_
     refine WAE.all (rs := [1, 6]) (by kernel_rfl) rfl (AllR.cons rfl rfl rfl rfl ?_ (AllR.cons rfl rfl rfl rfl ?_ AllR.nil))
     ·
      refine OpH.light (OpV.loadBox rfl pt_23 mq0 rfl) ?_
      refine ⟨[_, _], rfl, ?_⟩
      refine al1 6 rfl ?_
      refine OpH.litF (A := tInt) (xs := [x8_5]) tInt_flat (evps.cons rfl (evps.nil)) (bs_23_1_0 _) rfl rfl (Nat.le_of_ble_eq_true rfl) ?_
      intro b8_6
      refine ⟨[_, _, _], rfl, ?_⟩
      refine al1 7 rfl ?_
      refine OpH.appS (F := [_, _]) (A := tInt) tInt_flat rfl rfl rfl mi_23 rfl (by decide) (fun w hs => (Ow.rd (hs.mem mq0))) e8_7 ?_
      intro f8_7 a8_7 c8_7
      refine ⟨[_, _, _], rfl, ?_⟩
      refine tk 8 rfl (OpV.fieldAddr rfl fo_107_2) ?_
      refine al0 9 rfl ?_
      refine OpH.storeTo (A := [_]) [_, _, _] rfl rfl rfl ts_23 rfl rfl rfl ?_
      refine ⟨[_, _, _], rfl, ?_⟩
      refine WAE.rebase (H := []) ?_
      refine WAE.done (by kernel_rfl) ?_ _
      refine En.block_norm (En.next (WC.region ?_))
      refine sp (OpV.addR rfl rfl) ?_
      refine mv ?_
      refine WL.nil ?_
      exact En.backP zb1 zh1 (a8_7, x8_7.length, c8_7, f8_7) (sc (sc (sc (sc (sc (sc (sc (sc (sc sn))))))))) (fun _ h => ((((h).pm 2).pm 2).pm 3).sub (.cons_cons _ (.cons_cons _ (.cons_cons _ (.cons _ (.slnil))))))
     ·
      refine OpH.litF (A := tInt) (xs := [x8_5]) tInt_flat (evps.cons rfl (evps.nil)) (bs_23_1_0 _) rfl rfl (Nat.le_of_ble_eq_true rfl) ?_
      intro b8_6
      refine ⟨[_, _, _], rfl, ?_⟩
      refine al1 1 rfl ?_
      refine OpH.light (OpV.loadBox rfl pt_23 mq1 rfl) ?_
      refine ⟨[_, _, _], rfl, ?_⟩
      refine al1 7 rfl ?_
      refine OpH.appS (F := [_, _]) (A := tInt) tInt_flat rfl rfl rfl mi_23 rfl (by decide) (fun w hs => (Ow.rd (hs.mem mq0))) e8_7 ?_
      intro f8_7 a8_7 c8_7
      refine ⟨[_, _, _], rfl, ?_⟩
      refine tk 8 rfl (OpV.fieldAddr rfl fo_107_2) ?_
      refine al0 9 rfl ?_
      refine OpH.storeTo (A := [_]) [_, _, _] rfl rfl rfl ts_23 rfl rfl rfl ?_
      refine ⟨[_, _, _], rfl, ?_⟩
      refine WAE.rebase (H := []) ?_
      refine WAE.done (by kernel_rfl) ?_ _
      refine En.block_norm (En.next (WC.region ?_))
      refine sp (OpV.addR rfl rfl) ?_
      refine mv ?_
      refine WL.nil ?_
      exact En.backP zb1 zh1 (a8_7, x8_7.length, c8_7, f8_7) (sc (sc (sc (sc (sc (sc (sc (sc (sc sn))))))))) (fun _ h => ((((h).pm 2).pm 2).pm 3).sub (.cons_cons _ (.cons_cons _ (.cons_cons _ (.cons _ (.slnil))))))
    ·
     intro hc_2
     replace zh1 := ifO_f hc_2 zh1
     refine WC.exit (En.then_exit (En.then_exit ?_))
     have hx := exitP ze1 zh1
     exact En.wk _ _ (sc (sc (sc (sc (sc (sc sn)))))) (fun _ h => h) (zK1_0 (out_1, (aout_1, nout_1, cout_1, fout_1)) hx.symm)
  ·
   intro hc_1
   replace zh0 := ifO_f hc_1 zh0
   refine WC.exit (En.then_exit (En.then_exit ?_))
   have hx := exitP ze0 zh0
   exact En.wk _ _ (sc (sc sn)) (fun _ h => h) (zK0_0 (out_0, (aout_0, nout_0, cout_0, fout_0)) hx.symm)

theorem w_impl_LoadImage_1 {x_p0 : Int} {y_p1 : Int} {c_p2 : List Int} {c_p3 : Int} {c_p4 : Int} {r : Int} {b2 : Nat} {q2_0 : Option Addr} {l2_0 k2_0 : Nat} {b3 : Nat} {b4 : Nat} (h : impl_LoadImage_1 x_p0 y_p1 c_p2 c_p3 c_p4 = some r) {w : World} (r2_0 : Rd tInt w q2_0 l2_0 k2_0 c_p2) (hbb2 : w.heap[b2]? = some (.cells #[.slice q2_0 l2_0 k2_0] 23 (0, 0))) (hbb3 : w.heap[b3]? = some (.cells #[.int .i64 c_p3] 3 (0, 0))) (hbb4 : w.heap[b4]? = some (.cells #[.int .i64 c_p4] 3 (0, 0)))  :
    Calls Tryz.prog 170 #[.int .i64 x_p0, .int .i64 y_p1, .pointer (some ⟨b2, 0, .none⟩), .pointer (some ⟨b3, 0, .none⟩), .pointer (some ⟨b4, 0, .none⟩)] w (fun en w' => en = .returned (.int .i64 r) ∧ Ext w w') := by
 obtain rfl := r2_0.1
 unfold impl_LoadImage_1 at h
 refine enter (vs := [_, _, _, _, _]) Tryz.func170 rfl rfl rfl rfl ?_
 refine WC.sr ?_
 refine ag ?_
 refine WL.nil (En.next (WC.seq ?_))
 obtain ⟨x1_5, e1_5, h⟩ := bnd h
 obtain ⟨x1_6, e1_6, h⟩ := bnd h
 obtain ⟨g1_6, o1_6, _, ha1_6, rfl, hd1_6⟩ := Rd.atIdx r2_0 e1_6
 replace hd1_6 : ∀ (j : Nat) v, ([.int .i64 x1_6] : List Value)[j]? = some v → w.cell? ⟨g1_6, o1_6 + x1_5.toNat * 1 + j, .none⟩ = some v := hd1_6
 refine WC.drawn [(7, ?r1v7)] (by kernel_rfl) (by kernel_rfl) ?dH1 ?dK1
 case dH1 =>
  intro W hW hk
  refine hW.sp (OpV.loadCap rfl pt_23 hbb2 rfl) ?_
  refine hW.sp (OpV.loadCap rfl pt_3 hbb3 rfl) ?_
  refine hW.sp (OpV.loadCap rfl pt_3 hbb4 rfl) ?_
  refine hW.mv ?_
  refine hW.mv ?_
  refine hW.sp (OpV.call (ec rfl (ec rfl (ec rfl (ec rfl e0)))) ca_171 (fun w hs => w_impl_wordPlace e1_5)) ?_
  refine hW.sp (OpV.idxA rfl rfl se_23 ha1_6 ⟨(idx_some e1_6).1, (idx_some e1_6).2.1⟩) ?_
  refine hW.sp (OpV.load1 rfl pt_3 (fun w hs => hs.cell (hd1_6 0 _ rfl))) ?_
  refine hW.sp (OpV.assign rfl) ?_
  refine hk _ ?_
  refine Sub.cons ?_ sn
  all_goals exact rfl
 refine En.next (WC.ret ?_)
 refine En.ret1 rfl (Res.tmp rfl) ?_
 obtain rfl := Option.some.inj h
 intro w' hs
 exact ⟨rfl, hs.below⟩

theorem w_impl_LoadImage {a_p0 : List Int} {a_p1 : Int} {a_p2 : Int} {a_p3 : Int} {r : ImageT × Bool} {q0_0 : Option Addr} {l0_0 k0_0 : Nat} (h : impl_LoadImage a_p0 a_p1 a_p2 a_p3 = some r) {w : World} (r0_0 : Rd tInt w q0_0 l0_0 k0_0 a_p0)   :
    Calls Tryz.prog 158 #[.slice q0_0 l0_0 k0_0, .int .i64 a_p1, .int .i64 a_p2, .int .i64 a_p3] w (fun en w' => ∃ rv G, en = .returned rv ∧ (∃ (a0_0 : Option Addr) (n0_0 : Nat) (c0_0 : Nat) (f0_0 : List Nat), rv = .tuple #[.agg #[.int .i64 r.1.W, .int .i64 r.1.H, .slice a0_0 n0_0 c0_0], .bool r.2] ∧ G = [Chunk.own tInt f0_0 a0_0 n0_0 c0_0 r.1.Data]) ∧ St w G w') := by
 obtain rfl := r0_0.1
 unfold impl_LoadImage at h
 refine enter (vs := [_, _, _, _]) Tryz.func158 rfl rfl rfl rfl ?_
 refine WC.sr ?_
 refine WL.heavy rfl rfl rfl (OpH.box rfl rfl ?_)
 intro b0_0
 refine WL.heavy rfl rfl rfl (OpH.box rfl rfl ?_)
 intro b0_1
 refine WL.heavy rfl rfl rfl (OpH.box rfl rfl ?_)
 intro b0_2
 refine WL.heavy rfl rfl rfl (OpH.alloc zc_107 ?_)
 intro b0_3
 refine ag ?_
 refine WL.nil (En.next (WC.seq (WC.seq ?_)))
 obtain ⟨x1_1, e1_1, h⟩ := bnd h
 obtain ⟨q1_7, e1_7, h⟩ := bnd h
 obtain ⟨q1_12, e1_12, h⟩ := bnd h
 refine WC.region ?_
 refine sp (OpV.loadBox rfl pt_3 mq2 rfl) ?_
 refine sp (OpV.call (ec rfl e0) ca_149 (fun w hs => w_impl_isSide e1_1)) ?_
 refine sp (OpV.not rfl) ?_
 refine mv ?_
 refine Lt.ofWL.orQ 17 21 20 (p := ?pz1) (rest := ?qz1) (B := q1_7) rfl (fun hz => orO_t e1_7 hz) ?Tz1 ?Fz1 ?az1 ?bz1 ?cz1 ?dz1 ?ez1
 case Tz1 =>
  intro hcz1 hkz1
  refine sk ?_
  refine sk ?_
  refine sk ?_
  refine hkz1 _ ?_
  repeat (first | exact Sub.refl _ | refine Sub.skip rfl ?_)
 case Fz1 =>
  intro hcz1 hkz1
  have hqz1 := orO_f e1_7 hcz1
  obtain ⟨x1_5, e1_5, hqz1⟩ := bnd hqz1
  obtain rfl := Option.some.inj hqz1
  refine mv ?_
  refine sp (OpV.call (ec rfl e0) ca_149 (fun w hs => w_impl_isSide e1_5)) ?_
  refine sp (OpV.not rfl) ?_
  refine hkz1 _ ?_ ?_
  exact rfl
  repeat (first | exact Sub.refl _ | refine Sub.skip rfl ?_)
 case az1 => exact rfl
 case bz1 => exact rfl
 case cz1 => exact rfl
 case dz1 => exact rfl
 refine mv ?_
 refine Lt.ofWL.orQ 22 26 25 (p := ?pz2) (rest := ?qz2) (B := q1_12) rfl (fun hz => orO_t e1_12 hz) ?Tz2 ?Fz2 ?az2 ?bz2 ?cz2 ?dz2 ?ez2
 case Tz2 =>
  intro hcz2 hkz2
  refine sk ?_
  refine sk ?_
  refine sk ?_
  refine hkz2 _ ?_
  repeat (first | exact Sub.refl _ | refine Sub.skip rfl ?_)
 case Fz2 =>
  intro hcz2 hkz2
  have hqz2 := orO_f e1_12 hcz2
  obtain ⟨x1_10, e1_10, hqz2⟩ := bnd hqz2
  obtain rfl := Option.some.inj hqz2
  refine sp (OpV.loadBox rfl pt_3 mq1 rfl) ?_
  refine sp (OpV.call (ec rfl (ec rfl (ec rfl e0))) ca_67 (fun w hs => w_impl_within e1_10)) ?_
  refine sp (OpV.not rfl) ?_
  refine hkz2 _ ?_ ?_
  exact rfl
  repeat (first | exact Sub.refl _ | refine Sub.skip rfl ?_)
 case az2 => exact rfl
 case bz2 => exact rfl
 case cz2 => exact rfl
 case dz2 => exact rfl
 refine WL.nil (En.next ?_)
 refine WC.cond rfl ?_ ?_
 ·
  intro hc_1
  replace h := ifO_t hc_1 h
  refine WC.sr ?_
  refine sp (OpV.build (evps.nil) bd_107_) ?_
  refine WL.heavy0 rfl rfl (OpH.storeTo (A := []) [_, _, _] rfl rfl rfl ts_107 rfl rfl rfl ?_)
  refine ag ?_
  refine WL.nil (En.next (WC.ret (En.then_ret ?_)))
  refine En.ret2 rfl (Res.cell rfl mq0 ag_107) (Res.tmp rfl) ?_
  obtain rfl := Option.some.inj h
  intro w' hs
  have hs := ((hs).ownNil (A := tInt)).sub (.cons_cons _ (.cons _ (.cons _ (.cons _ (.cons _ (.slnil))))))
  exact ⟨_, _, rfl, ⟨.none, 0, 0, [], rfl, rfl⟩, hs⟩
 ·
  intro hc_1
  replace h := ifO_f hc_1 h
  refine WC.skip (En.next (WC.sr ?_))
  refine sp (OpV.loadBox rfl pt_3 mq2 rfl) ?_
  refine mv ?_
  refine sp (OpV.build (evps.cons rfl (evps.cons rfl (evps.nil))) (bd_107_0_1 _ _)) ?_
  refine WL.heavy rfl rfl rfl (OpH.alloc zc_107 ?_)
  intro b3_3
  refine WL.heavy0 rfl rfl (OpH.storeTo (A := []) [_, _, _] rfl rfl rfl ts_107 rfl rfl rfl ?_)
  refine WL.nil (En.next (WC.seq (WC.block (WC.sr ?_))))
  refine sp (OpV.loadBox rfl pt_3 mq2 rfl) ?_
  refine sp (OpV.eql rfl rfl) ?_
  refine ag ?_
  refine WL.nil (En.next ?_)
  refine WC.cond rfl ?_ ?_
  ·
   intro hc_2
   replace h := ifO_t hc_2 h
   refine WC.sr ?_
   refine ag ?_
   refine WL.nil (En.next (WC.block ?_))
   obtain ⟨zy0, ezy0, h⟩ := bnd h
   refine WC.cut (X := ((List Int)) × ((Option Addr) × Nat × Nat × (List Nat))) (.exit 1) (fun x => zy0 = .inl x.1) (fun x => match x with | (x_0e, (ax_0e, nx_0e, cx_0e, fx_0e)) => [(4, .pointer (some ⟨b0_0, 0, .none⟩)), (7, .pointer (some ⟨b0_2, 0, .none⟩)), (8, .pointer (some ⟨b0_3, 0, .none⟩)), (10, .pointer (some ⟨b3_3, 0, .none⟩))]) (fun x => match x with | (x_0e, (ax_0e, nx_0e, cx_0e, fx_0e)) => [Chunk.box b0_0 23 [.slice q0_0 a_p0.length k0_0], Chunk.box b0_2 3 [.int .i64 a_p3], Chunk.box b0_3 107 [.int .i64 0, .int .i64 0, .slice .none 0 0], Chunk.box b3_3 107 [.int .i64 a_p1, .int .i64 a_p2, .slice ax_0e nx_0e cx_0e], Chunk.own tInt fx_0e ax_0e nx_0e cx_0e x_0e]) ?_ ?_
   ·
    rintro ⟨x_0e, ⟨ax_0e, nx_0e, cx_0e, fx_0e⟩⟩ hx
    replace hx : .inl x_0e = zy0 := hx.symm
    subst hx
    replace h := fork_l h
    show En _ _ _ _ [(4, .pointer (some ⟨b0_0, 0, .none⟩)), (7, .pointer (some ⟨b0_2, 0, .none⟩)), (8, .pointer (some ⟨b0_3, 0, .none⟩)), (10, .pointer (some ⟨b3_3, 0, .none⟩))] [Chunk.box b0_0 23 [.slice q0_0 a_p0.length k0_0], Chunk.box b0_2 3 [.int .i64 a_p3], Chunk.box b0_3 107 [.int .i64 0, .int .i64 0, .slice .none 0 0], Chunk.box b3_3 107 [.int .i64 a_p1, .int .i64 a_p2, .slice ax_0e nx_0e cx_0e], Chunk.own tInt fx_0e ax_0e nx_0e cx_0e x_0e]
    refine En.block_exit (En.block_norm (En.next (WC.seq ?_)))
    obtain ⟨⟨x13_2a, x13_2b⟩, e13_2, h⟩ := bnd h
    refine WC.region ?_
    refine sp (OpV.loadAll rfl mq3 ag_107) ?_
    refine sp (OpV.loadBox rfl pt_3 mq1 rfl) ?_
    refine WL.heavy rfl rfl rfl (OpH.callR (ec rfl (ec rfl e0)) ca_172 (fun w hs => w_impl_StoreImage e13_2 (Ow.rd (hs.mem mq4))) ?_)
    rintro _ _ ⟨a13_200, n13_200, c13_200, f13_200, rfl, rfl⟩
    refine mv ?_
    refine sp (OpV.extract rfl rfl) ?_
    refine sp (OpV.extract rfl rfl) ?_
    refine ag ?_
    refine ag ?_
    refine WL.nil (En.next (WC.seq (WC.seq ?_)))
    obtain ⟨q14_7, e14_7, h⟩ := bnd h
    refine WC.region ?_
    refine mv ?_
    refine sp (OpV.not rfl) ?_
    refine mv ?_
    refine Lt.ofWL.orQ 90 95 94 (p := ?pz3) (rest := ?qz3) (B := q14_7) rfl (fun hz => orO_t e14_7 hz) ?Tz3 ?Fz3 ?az3 ?bz3 ?cz3 ?dz3 ?ez3
    case Tz3 =>
     intro hcz3 hkz3
     refine sk ?_
     refine sk ?_
     refine sk ?_
     refine sk ?_
     refine hkz3 _ ?_
     repeat (first | exact Sub.refl _ | refine Sub.skip rfl ?_)
    case Fz3 =>
     intro hcz3 hkz3
     have hqz3 := orO_f e14_7 hcz3
     obtain ⟨x14_5, e14_5, hqz3⟩ := bnd hqz3
     obtain rfl := Option.some.inj hqz3
     refine mv ?_
     refine sp (OpV.loadBox rfl pt_23 mq1 rfl) ?_
     refine sp (OpV.call (ec rfl (ec rfl e0)) ca_114 (fun w hs => w_slices_Equal_S_int_int e14_5 (Ow.rd (hs.mem mq0)) (r0_0.ext hs.below))) ?_
     refine sp (OpV.not rfl) ?_
     refine hkz3 _ ?_ ?_
     exact rfl
     repeat (first | exact Sub.refl _ | refine Sub.skip rfl ?_)
    case az3 => exact rfl
    case bz3 => exact rfl
    case cz3 => exact rfl
    case dz3 => exact rfl
    refine WL.nil (En.next ?_)
    refine WC.cond rfl ?_ ?_
    ·
     intro hc_3
     replace h := ifO_t hc_3 h
     refine WC.sr ?_
     refine sp (OpV.build (evps.nil) bd_107_) ?_
     refine WL.heavy0 rfl rfl (OpH.storeTo (A := [_, _, _]) [_, _, _] rfl rfl rfl ts_107 rfl rfl rfl ?_)
     refine ag ?_
     refine WL.nil (En.next (WC.ret (En.then_ret ?_)))
     refine En.ret2 rfl (Res.cell rfl mq3 ag_107) (Res.tmp rfl) ?_
     obtain rfl := Option.some.inj h
     intro w' hs
     have hs := ((hs).ownNil (A := tInt)).sub (.cons_cons _ (.cons _ (.cons _ (.cons _ (.cons _ (.cons _ (.cons _ (.slnil))))))))
     exact ⟨_, _, rfl, ⟨.none, 0, 0, [], rfl, rfl⟩, hs⟩
    ·
     intro hc_3
     replace h := ifO_f hc_3 h
     refine WC.skip (En.next (WC.sr ?_))
     refine sp (OpV.loadAll rfl mq4 ag_107) ?_
     refine WL.heavy0 rfl rfl (OpH.storeTo (A := [_, _, _]) [_, _, _] rfl rfl rfl ts_107 rfl rfl rfl ?_)
     refine ag ?_
     refine WL.nil (En.next (WC.ret ?_))
     refine En.ret2 rfl (Res.cell rfl mq3 ag_107) (Res.tmp rfl) ?_
     obtain rfl := Option.some.inj h
     intro w' hs
     have hs := ((hs).pm 5).sub (.cons_cons _ (.cons _ (.cons _ (.cons _ (.cons _ (.cons _ (.slnil)))))))
     exact ⟨_, _, rfl, ⟨ax_0e, nx_0e, cx_0e, fx_0e, rfl, rfl⟩, hs⟩
   ·
    intro zK0_0
    refine WC.loopP (G := (Option Addr) × Nat × Nat × (List Nat)) (fun s g => match s, g with | (x_0, v_0), (ax_0, nx_0, cx_0, fx_0) => [(2, .int .i64 a_p2), (4, .pointer (some ⟨b0_0, 0, .none⟩)), (5, .pointer (some ⟨b0_1, 0, .none⟩)), (7, .pointer (some ⟨b0_2, 0, .none⟩)), (8, .pointer (some ⟨b0_3, 0, .none⟩)), (10, .pointer (some ⟨b3_3, 0, .none⟩)), (11, .int .i64 v_0)]) (fun s g => match s, g with | (x_0, v_0), (ax_0, nx_0, cx_0, fx_0) => [Chunk.box b0_0 23 [.slice q0_0 a_p0.length k0_0], Chunk.box b0_1 3 [.int .i64 a_p1], Chunk.box b0_2 3 [.int .i64 a_p3], Chunk.box b0_3 107 [.int .i64 0, .int .i64 0, .slice .none 0 0], Chunk.box b3_3 107 [.int .i64 a_p1, .int .i64 a_p2, .slice ax_0 nx_0 cx_0], Chunk.own tInt fx_0 ax_0 nx_0 cx_0 x_0]) ([], 0) (.none, 0, 0, []) ezy0 (by exact sc (sc (sc (sc (sc (sc (sc sn))))))) (by exact (fun _ h => ((((((h).ownNil (A := tInt)).pm 1).pm 2).pm 3).pm 4).pm 5)) ?_
    rintro zm0 ⟨x_0, v_0⟩ ⟨ax_0, nx_0, cx_0, fx_0⟩ zo0 zf0 zb0 ze0
    have zh0 : impl_LoadImage_L0 a_p0 a_p1 a_p2 x_0 v_0 = some zo0 := zf0
    unfold impl_LoadImage_L0 at zh0
    show WC _ _ _ _ _ [(2, .int .i64 a_p2), (4, .pointer (some ⟨b0_0, 0, .none⟩)), (5, .pointer (some ⟨b0_1, 0, .none⟩)), (7, .pointer (some ⟨b0_2, 0, .none⟩)), (8, .pointer (some ⟨b0_3, 0, .none⟩)), (10, .pointer (some ⟨b3_3, 0, .none⟩)), (11, .int .i64 v_0)] [Chunk.box b0_0 23 [.slice q0_0 a_p0.length k0_0], Chunk.box b0_1 3 [.int .i64 a_p1], Chunk.box b0_2 3 [.int .i64 a_p3], Chunk.box b0_3 107 [.int .i64 0, .int .i64 0, .slice .none 0 0], Chunk.box b3_3 107 [.int .i64 a_p1, .int .i64 a_p2, .slice ax_0 nx_0 cx_0], Chunk.own tInt fx_0 ax_0 nx_0 cx_0 x_0]
    refine WC.seq (WC.sr ?_)
    refine mv ?_
    refine sp (OpV.addR rfl rfl) ?_
    refine sp (OpV.loadBox rfl pt_23 mq0 rfl) ?_
    refine sp (OpV.len rfl si_23 rfl) ?_
    refine sp (OpV.lss rfl rfl) ?_
    refine WL.nil (En.next ?_)
    refine WC.cond rfl ?_ ?_
    ·
     intro hc_4
     replace zh0 := ifO_t hc_4 zh0
     refine WC.skip (En.next (WC.seq (WC.block (WC.seq (WC.seq ?_)))))
     obtain ⟨x8_2, e8_2, zh0⟩ := bnd zh0
     obtain ⟨g8_2, o8_2, _, ha8_2, rfl, hd8_2⟩ := Rd.atIdx r0_0 e8_2
     replace hd8_2 : ∀ (j : Nat) v, ([.int .i64 x8_2] : List Value)[j]? = some v → w.cell? ⟨g8_2, o8_2 + v_0.toNat * 1 + j, .none⟩ = some v := hd8_2
     obtain ⟨x8_11, e8_11, zh0⟩ := bnd zh0
     refine WC.drawn [(2, ?r8q3v2), (4, ?r8q3v4), (5, ?r8q3v5), (7, ?r8q3v7), (8, ?r8q3v8), (10, ?r8q3v10), (11, ?r8q3v11), (53, ?r8q3v53)] (by kernel_rfl) (by kernel_rfl) ?dH8q3 ?dK8q3
     case dH8q3 =>
      intro W hW hk
      refine hW.sp (OpV.loadBox rfl pt_23 mq0 rfl) ?_
      refine hW.mv ?_
      refine hW.sp (OpV.idxA rfl rfl se_23 ha8_2 ⟨(idx_some e8_2).1, (idx_some e8_2).2.1⟩) ?_
      refine hW.sp (OpV.load1 rfl pt_3 (fun w hs => hs.cell (hd8_2 0 _ rfl))) ?_
      refine hW.sp (OpV.loadBox rfl pt_3 mq1 rfl) ?_
      refine hW.mv ?_
      refine hW.sp (OpV.mulR rfl rfl) ?_
      refine hW.sp (OpV.fieldAddr rfl fo_107_2) ?_
      refine hW.sp (OpV.loadBox rfl pt_23 mq4 rfl) ?_
      refine hW.sp (OpV.inhF fun hin => OpV.lenO (xs := x_0) rfl si_23 rfl (ownLen hin mq5)) ?_
      refine hW.sp (OpV.subR rfl rfl) ?_
      refine hW.sp (OpV.call (ec rfl (ec rfl (ec rfl e0))) ca_67 (fun w hs => w_impl_within e8_11)) ?_
      refine hW.sp (OpV.not rfl) ?_
      refine hk _ ?_
      refine Sub.cons ?_ (Sub.cons ?_ (Sub.cons ?_ (Sub.cons ?_ (Sub.cons ?_ (Sub.cons ?_ (Sub.cons ?_ (Sub.cons ?_ sn)))))))
      all_goals exact rfl
     refine En.next ?_
     refine WC.cond rfl ?_ ?_
     ·
      intro hc_5
      replace zh0 := ifO_t hc_5 zh0
      refine WC.sr ?_
      refine sp (OpV.build (evps.nil) bd_107_) ?_
      refine WL.heavy0 rfl rfl (OpH.storeTo (A := [_, _, _]) [_, _, _] rfl rfl rfl ts_107 rfl rfl rfl ?_)
      refine ag ?_
      refine WL.nil (En.next (WC.ret (En.then_ret (En.block_ret (En.then_ret (En.then_ret (En.block_ret (En.block_ret (En.then_ret ?_)))))))))
      refine En.ret2 rfl (Res.cell rfl mq3 ag_107) (Res.tmp rfl) ?_
      have hx := exitP ze0 zh0
      subst hx
      replace h := fork_r h
      obtain rfl := Option.some.inj h
      intro w' hs
      have hs := ((hs).ownNil (A := tInt)).sub (.cons_cons _ (.cons _ (.cons _ (.cons _ (.cons _ (.cons _ (.cons _ (.slnil))))))))
      exact ⟨_, _, rfl, ⟨.none, 0, 0, [], rfl, rfl⟩, hs⟩
     ·
      intro hc_5
      replace zh0 := ifO_f hc_5 zh0
      refine WC.skip (En.next ?_)
      obtain ⟨x10_5, e10_5, zh0⟩ := bnd zh0
      obtain ⟨g10_5, o10_5, _, ha10_5, rfl, hd10_5⟩ := Rd.atIdx r0_0 e10_5
      replace hd10_5 : ∀ (j : Nat) v, ([.int .i64 x10_5] : List Value)[j]? = some v → w.cell? ⟨g10_5, o10_5 + (wr (v_0 + 1)).toNat * 1 + j, .none⟩ = some v := hd10_5
      obtain ⟨x10_10, e10_10, zh0⟩ := bnd zh0
      obtain ⟨g10_10, o10_10, _, ha10_10, rfl, hd10_10⟩ := Rd.atIdx r0_0 e10_10
      replace hd10_10 : ∀ (j : Nat) v, ([.int .i64 x10_10] : List Value)[j]? = some v → w.cell? ⟨g10_10, o10_10 + v_0.toNat * 1 + j, .none⟩ = some v := hd10_10
      obtain ⟨x10_12, e10_12, zh0⟩ := bnd zh0
      obtain ⟨x10_13, e10_13, zh0⟩ := bnd zh0
      refine WC.wkF (fun _ h => h.pm 5) ?_
      refine WC.wkF (fun _ h => h.pm 5) ?_
      refine WC.drawnH [_, _] ([_, _, _, _]) (fun _ h => h) (by kernel_rfl) ?_
      refine tk 0 rfl (OpV.fieldAddr rfl fo_107_2) ?_
      refine tk 2 rfl (OpV.loadBox rfl pt_23 mq0 rfl) ?_
      refine tk 3 rfl (OpV.move rfl) ?_
      refine tk 4 rfl (OpV.addR rfl rfl) ?_
      refine tk 5 rfl (OpV.idxA rfl rfl se_23 ha10_5 ⟨(idx_some e10_5).1, (idx_some e10_5).2.1⟩) ?_
      refine tk 6 rfl (OpV.load1 rfl pt_3 (fun w hs => hs.cell (hd10_5 0 _ rfl))) ?_
      refine tk 8 rfl (OpV.loadBox rfl pt_23 mq0 rfl) ?_
      refine tk 9 rfl (OpV.move rfl) ?_
      refine tk 10 rfl (OpV.idxA rfl rfl se_23 ha10_10 ⟨(idx_some e10_10).1, (idx_some e10_10).2.1⟩) ?_
      refine tk 11 rfl (OpV.load1 rfl pt_3 (fun w hs => hs.cell (hd10_10 0 _ rfl))) ?_
      refine WAE.all (rs := [1, 7]) (by kernel_rfl) rfl (AllR.cons rfl rfl rfl rfl ?_ (AllR.cons rfl rfl rfl rfl ?_ AllR.nil))
      ·
       refine OpH.light (OpV.loadBox rfl pt_23 mq0 rfl) ?_
       refine ⟨[_, _], rfl, ?_⟩
       refine al1 7 rfl ?_
       refine OpH.litF (A := tInt) (xs := [x10_5]) tInt_flat (evps.cons rfl (evps.nil)) (bs_23_1_0 _) rfl rfl (Nat.le_of_ble_eq_true rfl) ?_
       intro b10_7
       refine ⟨[_, _, _], rfl, ?_⟩
       refine al1 12 rfl ?_
       refine OpH.callR (ec rfl (ec rfl e0)) ca_167 (fun w hs => w_slices_Repeat_S_int_int e10_12 (Ow.rd (hs.mem mq0))) ?_
       rintro _ _ ⟨a10_1200, n10_1200, c10_1200, f10_1200, rfl, rfl⟩
       refine ⟨[_, _, _, _], rfl, ?_⟩
       refine al1 13 rfl ?_
       refine OpH.appS (F := [_, _, _]) (A := tInt) tInt_flat rfl rfl rfl mi_23 rfl (by decide) (fun w hs => (Ow.rd (hs.mem mq0))) e10_13 ?_
       intro f10_13 a10_13 c10_13
       refine ⟨[_, _, _, _], rfl, ?_⟩
       refine tk 14 rfl (OpV.fieldAddr rfl fo_107_2) ?_
       refine al0 15 rfl ?_
       refine OpH.storeTo (A := [_, _]) [_, _, _] rfl rfl rfl ts_23 rfl rfl rfl ?_
       refine ⟨[_, _, _, _], rfl, ?_⟩
       refine WAE.rebase (H := []) ?_
       refine WAE.done (by kernel_rfl) ?_ _
       refine En.block_norm (En.next (WC.region ?_))
       refine mv ?_
       refine sp (OpV.addR rfl rfl) ?_
       refine ag ?_
       refine WL.nil ?_
       exact En.backP zb0 zh0 (a10_13, x10_13.length, c10_13, f10_13) (sc (sc (sc (sc (sc (sc (sc sn))))))) (fun _ h => (((((((h).pm 3).pm 3).pm 7).pm 7).pm 7).pm 7).sub (.cons_cons _ (.cons_cons _ (.cons_cons _ (.cons_cons _ (.cons_cons _ (.cons_cons _ (.cons _ (.cons _ (.slnil))))))))))
      ·
       refine OpH.litF (A := tInt) (xs := [x10_5]) tInt_flat (evps.cons rfl (evps.nil)) (bs_23_1_0 _) rfl rfl (Nat.le_of_ble_eq_true rfl) ?_
       intro b10_7
       refine ⟨[_, _, _], rfl, ?_⟩
       refine WAE.all (rs := [1, 12]) (by kernel_rfl) rfl (AllR.cons rfl rfl rfl rfl ?_ (AllR.cons rfl rfl rfl rfl ?_ AllR.nil))
       ·
        refine OpH.light (OpV.loadBox rfl pt_23 mq1 rfl) ?_
        refine ⟨[_, _, _], rfl, ?_⟩
        refine al1 12 rfl ?_
        refine OpH.callR (ec rfl (ec rfl e0)) ca_167 (fun w hs => w_slices_Repeat_S_int_int e10_12 (Ow.rd (hs.mem mq0))) ?_
        rintro _ _ ⟨a10_1200, n10_1200, c10_1200, f10_1200, rfl, rfl⟩
        refine ⟨[_, _, _, _], rfl, ?_⟩
        refine al1 13 rfl ?_
        refine OpH.appS (F := [_, _, _]) (A := tInt) tInt_flat rfl rfl rfl mi_23 rfl (by decide) (fun w hs => (Ow.rd (hs.mem mq0))) e10_13 ?_
        intro f10_13 a10_13 c10_13
        refine ⟨[_, _, _, _], rfl, ?_⟩
        refine tk 14 rfl (OpV.fieldAddr rfl fo_107_2) ?_
        refine al0 15 rfl ?_
        refine OpH.storeTo (A := [_, _]) [_, _, _] rfl rfl rfl ts_23 rfl rfl rfl ?_
        refine ⟨[_, _, _, _], rfl, ?_⟩
        refine WAE.rebase (H := []) ?_
        refine WAE.done (by kernel_rfl) ?_ _
        refine En.block_norm (En.next (WC.region ?_))
        refine mv ?_
        refine sp (OpV.addR rfl rfl) ?_
        refine ag ?_
        refine WL.nil ?_
        exact En.backP zb0 zh0 (a10_13, x10_13.length, c10_13, f10_13) (sc (sc (sc (sc (sc (sc (sc sn))))))) (fun _ h => (((((((h).pm 3).pm 3).pm 7).pm 7).pm 7).pm 7).sub (.cons_cons _ (.cons_cons _ (.cons_cons _ (.cons_cons _ (.cons_cons _ (.cons_cons _ (.cons _ (.cons _ (.slnil))))))))))
       ·
        refine OpH.callR (ec rfl (ec rfl e0)) ca_167 (fun w hs => w_slices_Repeat_S_int_int e10_12 (Ow.rd (hs.mem mq0))) ?_
        rintro _ _ ⟨a10_1200, n10_1200, c10_1200, f10_1200, rfl, rfl⟩
        refine ⟨[_, _, _, _], rfl, ?_⟩
        refine al1 1 rfl ?_
        refine OpH.light (OpV.loadBox rfl pt_23 mq2 rfl) ?_
        refine ⟨[_, _, _, _], rfl, ?_⟩
        refine al1 13 rfl ?_
        refine OpH.appS (F := [_, _, _]) (A := tInt) tInt_flat rfl rfl rfl mi_23 rfl (by decide) (fun w hs => (Ow.rd (hs.mem mq0))) e10_13 ?_
        intro f10_13 a10_13 c10_13
        refine ⟨[_, _, _, _], rfl, ?_⟩
        refine tk 14 rfl (OpV.fieldAddr rfl fo_107_2) ?_
        refine al0 15 rfl ?_
        refine OpH.storeTo (A := [_, _]) [_, _, _] rfl rfl rfl ts_23 rfl rfl rfl ?_
        refine ⟨[_, _, _, _], rfl, ?_⟩
        refine WAE.rebase (H := []) ?_
        refine WAE.done (by kernel_rfl) ?_ _
        refine En.block_norm (En.next (WC.region ?_))
        refine mv ?_
        refine sp (OpV.addR rfl rfl) ?_
        refine ag ?_
        refine WL.nil ?_
        exact En.backP zb0 zh0 (a10_13, x10_13.length, c10_13, f10_13) (sc (sc (sc (sc (sc (sc (sc sn))))))) (fun _ h => (((((((h).pm 3).pm 3).pm 7).pm 7).pm 7).pm 7).sub (.cons_cons _ (.cons_cons _ (.cons_cons _ (.cons_cons _ (.cons_cons _ (.cons_cons _ (.cons _ (.cons _ (.slnil))))))))))
    ·
     intro hc_4
     replace zh0 := ifO_f hc_4 zh0
     refine WC.exit (En.then_exit (En.then_exit ?_))
     have hx := exitP ze0 zh0
     exact En.wk _ _ (sc (sc (sc (sc sn)))) (fun _ h => ((((((h).pm 5).pm 5).pm 5).pm 5).pm 4).sub (.cons_cons _ (.cons_cons _ (.cons_cons _ (.cons_cons _ (.cons_cons _ (.cons _ (.slnil)))))))) (zK0_0 (x_0, (ax_0, nx_0, cx_0, fx_0)) hx.symm)
  ·
   intro hc_2
   replace h := ifO_f hc_2 h
   refine WC.seq ?_
   obtain ⟨x11_5, e11_5, h⟩ := bnd h
   refine WC.drawn [(2, ?r11v2), (4, ?r11v4), (5, ?r11v5), (7, ?r11v7), (8, ?r11v8), (10, ?r11v10), (70, ?r11v70)] (by kernel_rfl) (by kernel_rfl) ?dH11 ?dK11
   case dH11 =>
    intro W hW hk
    refine hW.sp (OpV.loadBox rfl pt_23 mq4 rfl) ?_
    refine hW.sp (OpV.len rfl si_23 rfl) ?_
    refine hW.sp (OpV.loadBox rfl pt_3 mq3 rfl) ?_
    refine hW.mv ?_
    refine hW.sp (OpV.loadBox rfl pt_3 mq2 rfl) ?_
    refine hW.sp (OpV.call (ec rfl (ec rfl (ec rfl e0))) ca_168 (fun w hs => w_impl_WordCount e11_5)) ?_
    refine hW.sp (OpV.eql rfl rfl) ?_
    refine hW.sp (OpV.assign rfl) ?_
    refine hk _ ?_
    refine Sub.cons ?_ (Sub.cons ?_ (Sub.cons ?_ (Sub.cons ?_ (Sub.cons ?_ (Sub.cons ?_ (Sub.cons ?_ sn))))))
    all_goals exact rfl
   refine En.next ?_
   refine WC.cond rfl ?_ ?_
   ·
    intro hc_6
    replace h := ifO_t hc_6 h
    obtain ⟨x12_3, e12_3, h⟩ := bnd h
    refine WC.region ?_
    refine sp (OpV.loadBox rfl pt_3 mq3 rfl) ?_
    refine mv ?_
    refine sp (OpV.makeFunc (ec rfl (ec rfl (ec rfl e0)))) ?_
    refine WL.heavy rfl rfl rfl (OpH.callR (ec rfl (ec rfl (ec rfl e0))) ca_169 (fun w hs => w_impl_mapImage e12_3 (fun hx he => CallsV.cap ca_170 (w_impl_LoadImage_1 he ((r0_0.ext hs.below).ext hx) (Ext.blk hx (hs.mem mq4)) (Ext.blk hx (hs.mem mq3)) (Ext.blk hx (hs.mem mq2))))) ?_)
    rintro _ _ ⟨a12_300, n12_300, c12_300, f12_300, rfl, rfl⟩
    refine WL.heavy0 rfl rfl (OpH.storeTo (A := [_]) [_, _, _] rfl rfl rfl ts_107 rfl rfl rfl ?_)
    refine WL.nil (En.block_norm (En.next (WC.seq ?_)))
    obtain ⟨⟨x13_2a, x13_2b⟩, e13_2, h⟩ := bnd h
    refine WC.region ?_
    refine sp (OpV.loadAll rfl mq1 ag_107) ?_
    refine sp (OpV.loadBox rfl pt_3 mq3 rfl) ?_
    refine WL.heavy rfl rfl rfl (OpH.callR (ec rfl (ec rfl e0)) ca_172 (fun w hs => w_impl_StoreImage e13_2 (Ow.rd (hs.mem mq0))) ?_)
    rintro _ _ ⟨a13_200, n13_200, c13_200, f13_200, rfl, rfl⟩
    refine mv ?_
    refine sp (OpV.extract rfl rfl) ?_
    refine sp (OpV.extract rfl rfl) ?_
    refine ag ?_
    refine ag ?_
    refine WL.nil (En.next (WC.seq (WC.seq ?_)))
    obtain ⟨q14_7, e14_7, h⟩ := bnd h
    refine WC.region ?_
    refine mv ?_
    refine sp (OpV.not rfl) ?_
    refine mv ?_
    refine Lt.ofWL.orQ 90 95 94 (p := ?pz4) (rest := ?qz4) (B := q14_7) rfl (fun hz => orO_t e14_7 hz) ?Tz4 ?Fz4 ?az4 ?bz4 ?cz4 ?dz4 ?ez4
    case Tz4 =>
     intro hcz4 hkz4
     refine sk ?_
     refine sk ?_
     refine sk ?_
     refine sk ?_
     refine hkz4 _ ?_
     repeat (first | exact Sub.refl _ | refine Sub.skip rfl ?_)
    case Fz4 =>
     intro hcz4 hkz4
     have hqz4 := orO_f e14_7 hcz4
     obtain ⟨x14_5, e14_5, hqz4⟩ := bnd hqz4
     obtain rfl := Option.some.inj hqz4
     refine mv ?_
     refine sp (OpV.loadBox rfl pt_23 mq6 rfl) ?_
     refine sp (OpV.call (ec rfl (ec rfl e0)) ca_114 (fun w hs => w_slices_Equal_S_int_int e14_5 (Ow.rd (hs.mem mq0)) (r0_0.ext hs.below))) ?_
     refine sp (OpV.not rfl) ?_
     refine hkz4 _ ?_ ?_
     exact rfl
     repeat (first | exact Sub.refl _ | refine Sub.skip rfl ?_)
    case az4 => exact rfl
    case bz4 => exact rfl
    case cz4 => exact rfl
    case dz4 => exact rfl
    refine WL.nil (En.next ?_)
    refine WC.cond rfl ?_ ?_
    ·
     intro hc_7
     replace h := ifO_t hc_7 h
     refine WC.sr ?_
     refine sp (OpV.build (evps.nil) bd_107_) ?_
     refine WL.heavy0 rfl rfl (OpH.storeTo (A := [_, _, _]) [_, _, _] rfl rfl rfl ts_107 rfl rfl rfl ?_)
     refine ag ?_
     refine WL.nil (En.next (WC.ret (En.then_ret ?_)))
     refine En.ret2 rfl (Res.cell rfl mq3 ag_107) (Res.tmp rfl) ?_
     obtain rfl := Option.some.inj h
     intro w' hs
     have hs := ((hs).ownNil (A := tInt)).sub (.cons_cons _ (.cons _ (.cons _ (.cons _ (.cons _ (.cons _ (.cons _ (.cons _ (.slnil)))))))))
     exact ⟨_, _, rfl, ⟨.none, 0, 0, [], rfl, rfl⟩, hs⟩
    ·
     intro hc_7
     replace h := ifO_f hc_7 h
     refine WC.skip (En.next (WC.sr ?_))
     refine sp (OpV.loadAll rfl mq2 ag_107) ?_
     refine WL.heavy0 rfl rfl (OpH.storeTo (A := [_, _, _]) [_, _, _] rfl rfl rfl ts_107 rfl rfl rfl ?_)
     refine ag ?_
     refine WL.nil (En.next (WC.ret ?_))
     refine En.ret2 rfl (Res.cell rfl mq3 ag_107) (Res.tmp rfl) ?_
     obtain rfl := Option.some.inj h
     intro w' hs
     have hs := ((hs).pm 1).sub (.cons_cons _ (.cons _ (.cons _ (.cons _ (.cons _ (.cons _ (.cons _ (.slnil))))))))
     exact ⟨_, _, rfl, ⟨a12_300, n12_300, c12_300, f12_300, rfl, rfl⟩, hs⟩
   ·
    intro hc_6
    replace h := ifO_f hc_6 h
    refine WC.skip (En.block_norm (En.next (WC.seq ?_)))
    obtain ⟨⟨x13_2a, x13_2b⟩, e13_2, h⟩ := bnd h
    refine WC.region ?_
    refine sp (OpV.loadAll rfl mq0 ag_107) ?_
    refine sp (OpV.loadBox rfl pt_3 mq2 rfl) ?_
    refine WL.heavy rfl rfl rfl (OpH.callR (ec rfl (ec rfl e0)) ca_172 (fun w hs => w_impl_StoreImage e13_2 (Rd.nil _)) ?_)
    rintro _ _ ⟨a13_200, n13_200, c13_200, f13_200, rfl, rfl⟩
    refine mv ?_
    refine sp (OpV.extract rfl rfl) ?_
    refine sp (OpV.extract rfl rfl) ?_
    refine ag ?_
    refine ag ?_
    refine WL.nil (En.next (WC.seq (WC.seq ?_)))
    obtain ⟨q14_7, e14_7, h⟩ := bnd h
    refine WC.region ?_
    refine mv ?_
    refine sp (OpV.not rfl) ?_
    refine mv ?_
    refine Lt.ofWL.orQ 90 95 94 (p := ?pz5) (rest := ?qz5) (B := q14_7) rfl (fun hz => orO_t e14_7 hz) ?Tz5 ?Fz5 ?az5 ?bz5 ?cz5 ?dz5 ?ez5
    case Tz5 =>
     intro hcz5 hkz5
     refine sk ?_
     refine sk ?_
     refine sk ?_
     refine sk ?_
     refine hkz5 _ ?_
     repeat (first | exact Sub.refl _ | refine Sub.skip rfl ?_)
    case Fz5 =>
     intro hcz5 hkz5
     have hqz5 := orO_f e14_7 hcz5
     obtain ⟨x14_5, e14_5, hqz5⟩ := bnd hqz5
     obtain rfl := Option.some.inj hqz5
     refine mv ?_
     refine sp (OpV.loadBox rfl pt_23 mq5 rfl) ?_
     refine sp (OpV.call (ec rfl (ec rfl e0)) ca_114 (fun w hs => w_slices_Equal_S_int_int e14_5 (Ow.rd (hs.mem mq0)) (r0_0.ext hs.below))) ?_
     refine sp (OpV.not rfl) ?_
     refine hkz5 _ ?_ ?_
     exact rfl
     repeat (first | exact Sub.refl _ | refine Sub.skip rfl ?_)
    case az5 => exact rfl
    case bz5 => exact rfl
    case cz5 => exact rfl
    case dz5 => exact rfl
    refine WL.nil (En.next ?_)
    refine WC.cond rfl ?_ ?_
    ·
     intro hc_8
     replace h := ifO_t hc_8 h
     refine WC.sr ?_
     refine sp (OpV.build (evps.nil) bd_107_) ?_
     refine WL.heavy0 rfl rfl (OpH.storeTo (A := [_, _]) [_, _, _] rfl rfl rfl ts_107 rfl rfl rfl ?_)
     refine ag ?_
     refine WL.nil (En.next (WC.ret (En.then_ret ?_)))
     refine En.ret2 rfl (Res.cell rfl mq2 ag_107) (Res.tmp rfl) ?_
     obtain rfl := Option.some.inj h
     intro w' hs
     have hs := ((hs).ownNil (A := tInt)).sub (.cons_cons _ (.cons _ (.cons _ (.cons _ (.cons _ (.cons _ (.cons _ (.slnil))))))))
     exact ⟨_, _, rfl, ⟨.none, 0, 0, [], rfl, rfl⟩, hs⟩
    ·
     intro hc_8
     replace h := ifO_f hc_8 h
     refine WC.skip (En.next (WC.sr ?_))
     refine sp (OpV.loadAll rfl mq1 ag_107) ?_
     refine WL.heavy0 rfl rfl (OpH.storeTo (A := [_, _]) [_, _, _] rfl rfl rfl ts_107 rfl rfl rfl ?_)
     refine ag ?_
     refine WL.nil (En.next (WC.ret ?_))
     refine En.ret2 rfl (Res.cell rfl mq2 ag_107) (Res.tmp rfl) ?_
     obtain rfl := Option.some.inj h
     intro w' hs
     have hs := ((hs).ownNil (A := tInt)).sub (.cons_cons _ (.cons _ (.cons _ (.cons _ (.cons _ (.cons _ (.cons _ (.slnil))))))))
     exact ⟨_, _, rfl, ⟨.none, 0, 0, [], rfl, rfl⟩, hs⟩

theorem w_impl_isOrient {o_p0 : Int} {r : Bool}  (h : impl_isOrient o_p0 = some r) {w : World}    :
    Calls Tryz.prog 173 #[.int .i64 o_p0] w (fun en w' => en = .returned (.bool r) ∧ Ext w w') := by
 unfold impl_isOrient at h
 refine enter (vs := [_]) Tryz.func173 rfl rfl rfl rfl ?_
 refine WC.sr ?_
 refine ag ?_
 refine WL.nil (En.next (WC.seq ?_))
 obtain ⟨x1_1, e1_1, h⟩ := bnd h
 refine WC.region ?_
 refine mv ?_
 refine sp (OpV.call (ec rfl (ec rfl (ec rfl e0))) ca_67 (fun w hs => w_impl_within e1_1)) ?_
 refine ag ?_
 refine WL.nil (En.next (WC.ret ?_))
 refine En.ret1 rfl (Res.tmp rfl) ?_
 obtain rfl := Option.some.inj h
 intro w' hs
 exact ⟨rfl, hs.below⟩

theorem w_impl_OrientSize {w_p0 : Int} {h_p1 : Int} {o_p2 : Int} {r : Int × Int}  (h : impl_OrientSize w_p0 h_p1 o_p2 = some r) {w : World}    :
    Calls Tryz.prog 174 #[.int .i64 w_p0, .int .i64 h_p1, .int .i64 o_p2] w (fun en w' => en = .returned (.tuple #[.int .i64 r.1, .int .i64 r.2]) ∧ Ext w w') := by
 unfold impl_OrientSize at h
 refine enter (vs := [_, _, _]) Tryz.func174 rfl rfl rfl rfl ?_
 refine WC.sr ?_
 refine ag ?_
 refine ag ?_
 refine WL.nil (En.next (WC.seq (WC.seq ?_)))
 obtain ⟨x1_1, e1_1, h⟩ := bnd h
 obtain ⟨q1_7, e1_7, h⟩ := bnd h
 obtain ⟨q1_12, e1_12, h⟩ := bnd h
 refine WC.region ?_
 refine mv ?_
 refine sp (OpV.call (ec rfl e0) ca_149 (fun w hs => w_impl_isSide e1_1)) ?_
 refine sp (OpV.not rfl) ?_
 refine mv ?_
 refine Lt.ofWL.orQ 11 15 14 (p := ?pz1) (rest := ?qz1) (B := q1_7) rfl (fun hz => orO_t e1_7 hz) ?Tz1 ?Fz1 ?az1 ?bz1 ?cz1 ?dz1 ?ez1
 case Tz1 =>
  intro hcz1 hkz1
  refine sk ?_
  refine sk ?_
  refine sk ?_
  refine hkz1 _ ?_
  repeat (first | exact Sub.refl _ | refine Sub.skip rfl ?_)
 case Fz1 =>
  intro hcz1 hkz1
  have hqz1 := orO_f e1_7 hcz1
  obtain ⟨x1_5, e1_5, hqz1⟩ := bnd hqz1
  obtain rfl := Option.some.inj hqz1
  refine mv ?_
  refine sp (OpV.call (ec rfl e0) ca_149 (fun w hs => w_impl_isSide e1_5)) ?_
  refine sp (OpV.not rfl) ?_
  refine hkz1 _ ?_ ?_
  exact rfl
  repeat (first | exact Sub.refl _ | refine Sub.skip rfl ?_)
 case az1 => exact rfl
 case bz1 => exact rfl
 case cz1 => exact rfl
 case dz1 => exact rfl
 refine mv ?_
 refine Lt.ofWL.orQ 16 20 19 (p := ?pz2) (rest := ?qz2) (B := q1_12) rfl (fun hz => orO_t e1_12 hz) ?Tz2 ?Fz2 ?az2 ?bz2 ?cz2 ?dz2 ?ez2
 case Tz2 =>
  intro hcz2 hkz2
  refine sk ?_
  refine sk ?_
  refine sk ?_
  refine hkz2 _ ?_
  repeat (first | exact Sub.refl _ | refine Sub.skip rfl ?_)
 case Fz2 =>
  intro hcz2 hkz2
  have hqz2 := orO_f e1_12 hcz2
  obtain ⟨x1_10, e1_10, hqz2⟩ := bnd hqz2
  obtain rfl := Option.some.inj hqz2
  refine mv ?_
  refine sp (OpV.call (ec rfl e0) ca_173 (fun w hs => w_impl_isOrient e1_10)) ?_
  refine sp (OpV.not rfl) ?_
  refine hkz2 _ ?_ ?_
  exact rfl
  repeat (first | exact Sub.refl _ | refine Sub.skip rfl ?_)
 case az2 => exact rfl
 case bz2 => exact rfl
 case cz2 => exact rfl
 case dz2 => exact rfl
 refine WL.nil (En.next ?_)
 refine WC.cond rfl ?_ ?_
 ·
  intro hc_1
  replace h := ifO_t hc_1 h
  refine WC.sr ?_
  refine ag ?_
  refine ag ?_
  refine WL.nil (En.next (WC.ret (En.then_ret ?_)))
  refine En.ret2 rfl (Res.tmp rfl) (Res.tmp rfl) ?_
  obtain rfl := Option.some.inj h
  intro w' hs
  exact ⟨rfl, hs.below⟩
 ·
  intro hc_1
  replace h := ifO_f hc_1 h
  refine WC.skip (En.next (WC.seq (WC.sr ?_)))
  refine mv ?_
  refine sp (OpV.remR rfl rfl rfl) ?_
  refine sp (OpV.eql rfl rfl) ?_
  refine WL.nil (En.next ?_)
  refine WC.cond rfl ?_ ?_
  ·
   intro hc_2
   replace h := ifO_t hc_2 h
   refine WC.sr ?_
   refine mv ?_
   refine mv ?_
   refine ag ?_
   refine ag ?_
   refine WL.nil (En.next (WC.ret (En.then_ret ?_)))
   refine En.ret2 rfl (Res.tmp rfl) (Res.tmp rfl) ?_
   obtain rfl := Option.some.inj h
   intro w' hs
   exact ⟨rfl, hs.below⟩
  ·
   intro hc_2
   replace h := ifO_f hc_2 h
   refine WC.skip (En.next (WC.sr ?_))
   refine mv ?_
   refine mv ?_
   refine ag ?_
   refine ag ?_
   refine WL.nil (En.next (WC.ret ?_))
   refine En.ret2 rfl (Res.tmp rfl) (Res.tmp rfl) ?_
   obtain rfl := Option.some.inj h
   intro w' hs
   exact ⟨rfl, hs.below⟩

theorem w_impl_OrientPoint {w_p0 : Int} {h_p1 : Int} {o_p2 : Int} {x_p3 : Int} {y_p4 : Int} {r : Int × Int}  (h : impl_OrientPoint w_p0 h_p1 o_p2 x_p3 y_p4 = some r) {w : World}    :
    Calls Tryz.prog 175 #[.int .i64 w_p0, .int .i64 h_p1, .int .i64 o_p2, .int .i64 x_p3, .int .i64 y_p4] w (fun en w' => en = .returned (.tuple #[.int .i64 r.1, .int .i64 r.2]) ∧ Ext w w') := by
 unfold impl_OrientPoint at h
 refine enter (vs := [_, _, _, _, _]) Tryz.func175 rfl rfl rfl rfl ?_
 refine WC.sr ?_
 refine ag ?_
 refine ag ?_
 refine WL.nil (En.next (WC.seq (WC.seq ?_)))
 obtain ⟨x1_1, e1_1, h⟩ := bnd h
 obtain ⟨q1_7, e1_7, h⟩ := bnd h
 obtain ⟨q1_12, e1_12, h⟩ := bnd h
 obtain ⟨q1_19, e1_19, h⟩ := bnd h
 obtain ⟨q1_26, e1_26, h⟩ := bnd h
 refine WC.region ?_
 refine mv ?_
 refine sp (OpV.call (ec rfl e0) ca_149 (fun w hs => w_impl_isSide e1_1)) ?_
 refine sp (OpV.not rfl) ?_
 refine mv ?_
 refine Lt.ofWL.orQ 15 19 18 (p := ?pz1) (rest := ?qz1) (B := q1_7) rfl (fun hz => orO_t e1_7 hz) ?Tz1 ?Fz1 ?az1 ?bz1 ?cz1 ?dz1 ?ez1
 case Tz1 =>
  intro hcz1 hkz1
  refine sk ?_
  refine sk ?_
  refine sk ?_
  refine hkz1 _ ?_
  repeat (first | exact Sub.refl _ | refine Sub.skip rfl ?_)
 case Fz1 =>
  intro hcz1 hkz1
  have hqz1 := orO_f e1_7 hcz1
  obtain ⟨x1_5, e1_5, hqz1⟩ := bnd hqz1
  obtain rfl := Option.some.inj hqz1
  refine mv ?_
  refine sp (OpV.call (ec rfl e0) ca_149 (fun w hs => w_impl_isSide e1_5)) ?_
  refine sp (OpV.not rfl) ?_
  refine hkz1 _ ?_ ?_
  exact rfl
  repeat (first | exact Sub.refl _ | refine Sub.skip rfl ?_)
 case az1 => exact rfl
 case bz1 => exact rfl
 case cz1 => exact rfl
 case dz1 => exact rfl
 refine mv ?_
 refine Lt.ofWL.orQ 20 24 23 (p := ?pz2) (rest := ?qz2) (B := q1_12) rfl (fun hz => orO_t e1_12 hz) ?Tz2 ?Fz2 ?az2 ?bz2 ?cz2 ?dz2 ?ez2
 case Tz2 =>
  intro hcz2 hkz2
  refine sk ?_
  refine sk ?_
  refine sk ?_
  refine hkz2 _ ?_
  repeat (first | exact Sub.refl _ | refine Sub.skip rfl ?_)
 case Fz2 =>
  intro hcz2 hkz2
  have hqz2 := orO_f e1_12 hcz2
  obtain ⟨x1_10, e1_10, hqz2⟩ := bnd hqz2
  obtain rfl := Option.some.inj hqz2
  refine mv ?_
  refine sp (OpV.call (ec rfl e0) ca_173 (fun w hs => w_impl_isOrient e1_10)) ?_
  refine sp (OpV.not rfl) ?_
  refine hkz2 _ ?_ ?_
  exact rfl
  repeat (first | exact Sub.refl _ | refine Sub.skip rfl ?_)
 case az2 => exact rfl
 case bz2 => exact rfl
 case cz2 => exact rfl
 case dz2 => exact rfl
 refine mv ?_
 refine Lt.ofWL.orQ 25 31 30 (p := ?pz3) (rest := ?qz3) (B := q1_19) rfl (fun hz => orO_t e1_19 hz) ?Tz3 ?Fz3 ?az3 ?bz3 ?cz3 ?dz3 ?ez3
 case Tz3 =>
  intro hcz3 hkz3
  refine sk ?_
  refine sk ?_
  refine sk ?_
  refine sk ?_
  refine sk ?_
  refine hkz3 _ ?_
  repeat (first | exact Sub.refl _ | refine Sub.skip rfl ?_)
 case Fz3 =>
  intro hcz3 hkz3
  have hqz3 := orO_f e1_19 hcz3
  obtain ⟨x1_17, e1_17, hqz3⟩ := bnd hqz3
  obtain rfl := Option.some.inj hqz3
  refine mv ?_
  refine mv ?_
  refine sp (OpV.subR rfl rfl) ?_
  refine sp (OpV.call (ec rfl (ec rfl (ec rfl e0))) ca_67 (fun w hs => w_impl_within e1_17)) ?_
  refine sp (OpV.not rfl) ?_
  refine hkz3 _ ?_ ?_
  exact rfl
  repeat (first | exact Sub.refl _ | refine Sub.skip rfl ?_)
 case az3 => exact rfl
 case bz3 => exact rfl
 case cz3 => exact rfl
 case dz3 => exact rfl
 refine mv ?_
 refine Lt.ofWL.orQ 32 38 37 (p := ?pz4) (rest := ?qz4) (B := q1_26) rfl (fun hz => orO_t e1_26 hz) ?Tz4 ?Fz4 ?az4 ?bz4 ?cz4 ?dz4 ?ez4
 case Tz4 =>
  intro hcz4 hkz4
  refine sk ?_
  refine sk ?_
  refine sk ?_
  refine sk ?_
  refine sk ?_
  refine hkz4 _ ?_
  repeat (first | exact Sub.refl _ | refine Sub.skip rfl ?_)
 case Fz4 =>
  intro hcz4 hkz4
  have hqz4 := orO_f e1_26 hcz4
  obtain ⟨x1_24, e1_24, hqz4⟩ := bnd hqz4
  obtain rfl := Option.some.inj hqz4
  refine mv ?_
  refine mv ?_
  refine sp (OpV.subR rfl rfl) ?_
  refine sp (OpV.call (ec rfl (ec rfl (ec rfl e0))) ca_67 (fun w hs => w_impl_within e1_24)) ?_
  refine sp (OpV.not rfl) ?_
  refine hkz4 _ ?_ ?_
  exact rfl
  repeat (first | exact Sub.refl _ | refine Sub.skip rfl ?_)
 case az4 => exact rfl
 case bz4 => exact rfl
 case cz4 => exact rfl
 case dz4 => exact rfl
 refine WL.nil (En.next ?_)
 refine WC.cond rfl ?_ ?_
 ·
  intro hc_1
  replace h := ifO_t hc_1 h
  refine WC.sr ?_
  refine ag ?_
  refine ag ?_
  refine WL.nil (En.next (WC.ret (En.then_ret ?_)))
  refine En.ret2 rfl (Res.tmp rfl) (Res.tmp rfl) ?_
  obtain rfl := Option.some.inj h
  intro w' hs
  exact ⟨rfl, hs.below⟩
 ·
  intro hc_1
  replace h := ifO_f hc_1 h
  refine WC.skip (En.next (WC.seq (WC.sr ?_)))
  refine mv ?_
  refine sp (OpV.geq rfl rfl) ?_
  refine WL.nil (En.next ?_)
  refine WC.cond rfl ?_ ?_
  ·
   intro hc_2
   replace h := ifO_t hc_2 h
   refine WC.region ?_
   refine mv ?_
   refine sp (OpV.subR rfl rfl) ?_
   refine mv ?_
   refine sp (OpV.subR rfl rfl) ?_
   refine ag ?_
   refine WL.nil (En.next (WC.seq (WC.sr ?_)))
   refine mv ?_
   refine sp (OpV.remR rfl rfl rfl) ?_
   refine mv ?_
   refine WL.nil (En.next (WC.block ?_))
   obtain ⟨zy0, ezy0, h⟩ := bnd h
   refine WC.cut (X := (Int × Int) × (Unit)) (.exit 0) (fun x => zy0 = x.1) (fun x => match x with | ((x_0e, y_0e), ()) => [(3, .int .i64 x_0e), (4, .int .i64 y_0e)]) (fun x => match x with | ((x_0e, y_0e), ()) => []) ?_ ?_
   ·
    rintro ⟨⟨x_0e, y_0e⟩, ⟨⟩⟩ hx
    replace hx : (x_0e, y_0e) = zy0 := hx.symm
    subst hx
    show En _ _ _ _ [(3, .int .i64 x_0e), (4, .int .i64 y_0e)] []
    refine En.block_exit (En.next (WC.sr ?_))
    refine mv ?_
    refine mv ?_
    refine ag ?_
    refine ag ?_
    refine WL.nil (En.next (WC.ret ?_))
    refine En.ret2 rfl (Res.tmp rfl) (Res.tmp rfl) ?_
    obtain rfl := Option.some.inj h
    intro w' hs
    exact ⟨rfl, hs.below⟩
   ·
    intro zK0_0
    refine WC.loopP (G := Unit) (fun s g => match s, g with | (w_0, h_0, x_0, y_0, v_0), () => [(0, .int .i64 w_0), (1, .int .i64 h_0), (3, .int .i64 x_0), (4, .int .i64 y_0), (46, .int .i64 (Int.tmod o_p2 4)), (47, .int .i64 v_0)]) (fun s g => match s, g with | (w_0, h_0, x_0, y_0, v_0), () => []) (w_p0, h_p1, (wr ((wr (w_p0 - 1)) - x_p3)), y_p4, 0) () ezy0 (by exact sc (sc (sc (sc (sc (sc sn)))))) (by exact (fun _ h => h)) ?_
    rintro zm0 ⟨w_0, h_0, x_0, y_0, v_0⟩ ⟨⟩ zo0 zf0 zb0 ze0
    have zh0 : impl_OrientPoint_L0 o_p2 w_0 h_0 x_0 y_0 v_0 = some zo0 := zf0
    unfold impl_OrientPoint_L0 at zh0
    show WC _ _ _ _ _ [(0, .int .i64 w_0), (1, .int .i64 h_0), (3, .int .i64 x_0), (4, .int .i64 y_0), (46, .int .i64 (Int.tmod o_p2 4)), (47, .int .i64 v_0)] []
    refine WC.sr ?_
    refine sp (OpV.lss rfl rfl) ?_
    refine WL.nil (En.next (WC.seq ?_))
    refine WC.cond rfl ?_ ?_
    ·
     intro hc_3
     replace zh0 := ifO_t hc_3 zh0
     refine WC.skip (En.next (WC.seq (WC.block (WC.sr ?_))))
     refine mv ?_
     refine sp (OpV.subR rfl rfl) ?_
     refine mv ?_
     refine sp (OpV.subR rfl rfl) ?_
     refine mv ?_
     refine ag ?_
     refine ag ?_
     refine WL.nil (En.next (WC.region ?_))
     refine mv ?_
     refine mv ?_
     refine ag ?_
     refine ag ?_
     refine WL.nil (En.block_norm (En.next (WC.region ?_)))
     refine sp (OpV.addR rfl rfl) ?_
     refine mv ?_
     refine WL.nil ?_
     exact En.backP zb0 zh0 () (sc (sc (sc (sc (sc (sc sn)))))) (fun _ h => h)
    ·
     intro hc_3
     replace zh0 := ifO_f hc_3 zh0
     refine WC.exit (En.then_exit (En.then_exit ?_))
     have hx := exitP ze0 zh0
     exact En.wk _ _ (sc (sc sn)) (fun _ h => h) (zK0_0 ((x_0, y_0), ()) hx.symm)
  ·
   intro hc_2
   replace h := ifO_f hc_2 h
   refine WC.skip (En.next (WC.seq (WC.sr ?_)))
   refine mv ?_
   refine sp (OpV.remR rfl rfl rfl) ?_
   refine mv ?_
   refine WL.nil (En.next (WC.block ?_))
   obtain ⟨zy1, ezy1, h⟩ := bnd h
   refine WC.cut (X := (Int × Int) × (Unit)) (.exit 0) (fun x => zy1 = x.1) (fun x => match x with | ((x_1e, y_1e), ()) => [(3, .int .i64 x_1e), (4, .int .i64 y_1e)]) (fun x => match x with | ((x_1e, y_1e), ()) => []) ?_ ?_
   ·
    rintro ⟨⟨x_1e, y_1e⟩, ⟨⟩⟩ hx
    replace hx : (x_1e, y_1e) = zy1 := hx.symm
    subst hx
    show En _ _ _ _ [(3, .int .i64 x_1e), (4, .int .i64 y_1e)] []
    refine En.block_exit (En.next (WC.sr ?_))
    refine mv ?_
    refine mv ?_
    refine ag ?_
    refine ag ?_
    refine WL.nil (En.next (WC.ret ?_))
    refine En.ret2 rfl (Res.tmp rfl) (Res.tmp rfl) ?_
    obtain rfl := Option.some.inj h
    intro w' hs
    exact ⟨rfl, hs.below⟩
   ·
    intro zK1_0
    refine WC.loopP (G := Unit) (fun s g => match s, g with | (w_1, h_1, x_1, y_1, v_1), () => [(0, .int .i64 w_1), (1, .int .i64 h_1), (3, .int .i64 x_1), (4, .int .i64 y_1), (46, .int .i64 (Int.tmod o_p2 4)), (47, .int .i64 v_1)]) (fun s g => match s, g with | (w_1, h_1, x_1, y_1, v_1), () => []) (w_p0, h_p1, x_p3, y_p4, 0) () ezy1 (by exact sc (sc (sc (sc (sc (sc sn)))))) (by exact (fun _ h => h)) ?_
    rintro zm1 ⟨w_1, h_1, x_1, y_1, v_1⟩ ⟨⟩ zo1 zf1 zb1 ze1
    have zh1 : impl_OrientPoint_L1 o_p2 w_1 h_1 x_1 y_1 v_1 = some zo1 := zf1
    unfold impl_OrientPoint_L1 at zh1
    show WC _ _ _ _ _ [(0, .int .i64 w_1), (1, .int .i64 h_1), (3, .int .i64 x_1), (4, .int .i64 y_1), (46, .int .i64 (Int.tmod o_p2 4)), (47, .int .i64 v_1)] []
    refine WC.sr ?_
    refine sp (OpV.lss rfl rfl) ?_
    refine WL.nil (En.next (WC.seq ?_))
    refine WC.cond rfl ?_ ?_
    ·
     intro hc_4
     replace zh1 := ifO_t hc_4 zh1
     refine WC.skip (En.next (WC.seq (WC.block (WC.sr ?_))))
     refine mv ?_
     refine sp (OpV.subR rfl rfl) ?_
     refine mv ?_
     refine sp (OpV.subR rfl rfl) ?_
     refine mv ?_
     refine ag ?_
     refine ag ?_
     refine WL.nil (En.next (WC.region ?_))
     refine mv ?_
     refine mv ?_
     refine ag ?_
     refine ag ?_
     refine WL.nil (En.block_norm (En.next (WC.region ?_)))
     refine sp (OpV.addR rfl rfl) ?_
     refine mv ?_
     refine WL.nil ?_
     exact En.backP zb1 zh1 () (sc (sc (sc (sc (sc (sc sn)))))) (fun _ h => h)
    ·
     intro hc_4
     replace zh1 := ifO_f hc_4 zh1
     refine WC.exit (En.then_exit (En.then_exit ?_))
     have hx := exitP ze1 zh1
     exact En.wk _ _ (sc (sc sn)) (fun _ h => h) (zK1_0 ((x_1, y_1), ()) hx.symm)

theorem w_impl_Oriented {a_p0 : ImageT} {a_p1 : Int} {r : ImageT} {q0_0 : Option Addr} {l0_0 k0_0 : Nat} (h : impl_Oriented a_p0 a_p1 = some r) {w : World} (r0_0 : Rd tInt w q0_0 l0_0 k0_0 a_p0.Data)   :
    Calls Tryz.prog 159 #[.agg #[.int .i64 a_p0.W, .int .i64 a_p0.H, .slice q0_0 l0_0 k0_0], .int .i64 a_p1] w (fun en w' => ∃ rv G, en = .returned rv ∧ (∃ (a0_0 : Option Addr) (n0_0 : Nat) (c0_0 : Nat) (f0_0 : List Nat), rv = .agg #[.int .i64 r.W, .int .i64 r.H, .slice a0_0 n0_0 c0_0] ∧ G = [Chunk.own tInt f0_0 a0_0 n0_0 c0_0 r.Data]) ∧ St w G w') := by
 obtain rfl := r0_0.1
 unfold impl_Oriented at h
 refine enter (vs := [_, _]) Tryz.func159 rfl rfl rfl rfl ?_
 refine WC.sr ?_
 refine WL.heavy rfl rfl rfl (OpH.box rfl rfl ?_)
 intro b0_0
 refine WL.heavy rfl rfl rfl (OpH.alloc zc_107 ?_)
 intro b0_1
 refine WL.nil (En.next (WC.seq (WC.seq ?_)))
 obtain ⟨x1_1, e1_1, h⟩ := bnd h
 obtain ⟨q1_7, e1_7, h⟩ := bnd h
 refine WC.region ?_
 refine sp (OpV.loadAll rfl mq1 ag_107) ?_
 refine sp (OpV.call (ec rfl e0) ca_161 (fun w hs => w_impl_ImageOk e1_1 (r0_0.ext hs.below))) ?_
 refine sp (OpV.not rfl) ?_
 refine mv ?_
 refine Lt.ofWL.orQ 15 19 18 (p := ?pz1) (rest := ?qz1) (B := q1_7) rfl (fun hz => orO_t e1_7 hz) ?Tz1 ?Fz1 ?az1 ?bz1 ?cz1 ?dz1 ?ez1
 case Tz1 =>
  intro hcz1 hkz1
  refine sk ?_
  refine sk ?_
  refine sk ?_
  refine hkz1 _ ?_
  repeat (first | exact Sub.refl _ | refine Sub.skip rfl ?_)
 case Fz1 =>
  intro hcz1 hkz1
  have hqz1 := orO_f e1_7 hcz1
  obtain ⟨x1_5, e1_5, hqz1⟩ := bnd hqz1
  obtain rfl := Option.some.inj hqz1
  refine mv ?_
  refine sp (OpV.call (ec rfl e0) ca_173 (fun w hs => w_impl_isOrient e1_5)) ?_
  refine sp (OpV.not rfl) ?_
  refine hkz1 _ ?_ ?_
  exact rfl
  repeat (first | exact Sub.refl _ | refine Sub.skip rfl ?_)
 case az1 => exact rfl
 case bz1 => exact rfl
 case cz1 => exact rfl
 case dz1 => exact rfl
 refine WL.nil (En.next ?_)
 refine WC.cond rfl ?_ ?_
 ·
  intro hc_1
  replace h := ifO_t hc_1 h
  refine WC.sr ?_
  refine sp (OpV.build (evps.nil) bd_107_) ?_
  refine WL.heavy0 rfl rfl (OpH.storeTo (A := []) [_, _, _] rfl rfl rfl ts_107 rfl rfl rfl ?_)
  refine WL.nil (En.next (WC.ret (En.then_ret ?_)))
  refine En.ret1 rfl (Res.cell rfl mq0 ag_107) ?_
  obtain rfl := Option.some.inj h
  intro w' hs
  have hs := ((hs).ownNil (A := tInt)).sub (.cons_cons _ (.cons _ (.cons _ (.slnil))))
  exact ⟨_, _, rfl, ⟨.none, 0, 0, [], rfl, rfl⟩, hs⟩
 ·
  intro hc_1
  replace h := ifO_f hc_1 h
  refine WC.skip (En.next (WC.seq ?_))
  obtain ⟨⟨x3_5a, x3_5b⟩, e3_5, h⟩ := bnd h
  refine WC.region ?_
  refine sp (OpV.fieldAddr rfl fo_107_0) ?_
  refine sp (OpV.loadBox rfl pt_3 mq1 rfl) ?_
  refine sp (OpV.fieldAddr rfl fo_107_1) ?_
  refine sp (OpV.loadBox rfl pt_3 mq1 rfl) ?_
  refine mv ?_
  refine sp (OpV.call (ec rfl (ec rfl (ec rfl e0))) ca_174 (fun w hs => w_impl_OrientSize e3_5)) ?_
  refine mv ?_
  refine sp (OpV.extract rfl rfl) ?_
  refine sp (OpV.extract rfl rfl) ?_
  refine ag ?_
  refine ag ?_
  refine WL.nil (En.next (WC.seq ?_))
  obtain ⟨x4_5, e4_5, h⟩ := bnd h
  refine WC.region ?_
  refine mv ?_
  refine mv ?_
  refine mv ?_
  refine mv ?_
  refine sp (OpV.mulR rfl rfl) ?_
  refine WL.heavy rfl rfl rfl (OpH.makeO (A := tInt) rfl rfl mi_23 (fun w => tInt_flat.ow w 0) (by decide) e4_5 ⟨Int.le_refl _, (mkO_some e4_5).1.2⟩ ?_)
  intro b4_5
  refine sp (OpV.build (evps.cons rfl (evps.cons rfl (evps.cons rfl (evps.nil)))) (bd_107_0_1_2 _ _ _ _ _)) ?_
  refine WL.heavy rfl rfl rfl (OpH.alloc zc_107 ?_)
  intro b4_7
  refine WL.heavy0 rfl rfl (OpH.storeTo (A := []) [_, _, _] rfl rfl rfl ts_107 rfl rfl rfl ?_)
  refine WL.nil (En.next (WC.seq (WC.sr ?_)))
  refine sp (OpV.fieldAddr rfl fo_107_2) ?_
  refine sp (OpV.loadBox rfl pt_23 mq3 rfl) ?_
  refine sp (OpV.len rfl si_23 rfl) ?_
  refine mv ?_
  refine WL.nil (En.next (WC.block ?_))
  obtain ⟨zy0, ezy0, h⟩ := bnd h
  refine WC.cut (X := ((List Int)) × ((List Nat))) (.exit 0) (fun x => zy0 = x.1) (fun x => match x with | (x_0e, fx_0e) => [(4, .pointer (some ⟨b0_1, 0, .none⟩)), (7, .pointer (some ⟨b4_7, 0, .none⟩))]) (fun x => match x with | (x_0e, fx_0e) => [Chunk.box b0_1 107 [.int .i64 0, .int .i64 0, .slice .none 0 0], Chunk.box b4_7 107 [.int .i64 x3_5a, .int .i64 x3_5b, .slice (some ⟨b4_5, 0, .none⟩) x4_5.length ((wr (x3_5a * x3_5b)).toNat)], Chunk.own tInt fx_0e (some ⟨b4_5, 0, .none⟩) x4_5.length ((wr (x3_5a * x3_5b)).toNat) x_0e]) ?_ ?_
  ·
   rintro ⟨x_0e, fx_0e⟩ hx
   replace hx : x_0e = zy0 := hx.symm
   subst hx
   show En _ _ _ _ [(4, .pointer (some ⟨b0_1, 0, .none⟩)), (7, .pointer (some ⟨b4_7, 0, .none⟩))] [Chunk.box b0_1 107 [.int .i64 0, .int .i64 0, .slice .none 0 0], Chunk.box b4_7 107 [.int .i64 x3_5a, .int .i64 x3_5b, .slice (some ⟨b4_5, 0, .none⟩) x4_5.length ((wr (x3_5a * x3_5b)).toNat)], Chunk.own tInt fx_0e (some ⟨b4_5, 0, .none⟩) x4_5.length ((wr (x3_5a * x3_5b)).toNat) x_0e]
   refine En.block_exit (En.next (WC.sr ?_))
   refine sp (OpV.loadAll rfl mq1 ag_107) ?_
   refine WL.heavy0 rfl rfl (OpH.storeTo (A := []) [_, _, _] rfl rfl rfl ts_107 rfl rfl rfl ?_)
   refine WL.nil (En.next (WC.ret ?_))
   refine En.ret1 rfl (Res.cell rfl mq0 ag_107) ?_
   obtain rfl := Option.some.inj h
   intro w' hs
   have hs := ((hs).pm 2).sub (.cons_cons _ (.cons _ (.cons _ (.slnil))))
   exact ⟨_, _, rfl, ⟨(some ⟨b4_5, 0, .none⟩), x4_5.length, ((wr (x3_5a * x3_5b)).toNat), fx_0e, rfl, rfl⟩, hs⟩
  ·
   intro zK0_0
   refine WC.loopP (G := (List Nat)) (fun s g => match s, g with | (x_0, v_0), fx_0 => [(1, .int .i64 a_p1), (2, .pointer (some ⟨b0_0, 0, .none⟩)), (4, .pointer (some ⟨b0_1, 0, .none⟩)), (5, .int .i64 x3_5a), (7, .pointer (some ⟨b4_7, 0, .none⟩)), (38, .slice q0_0 a_p0.Data.length k0_0), (39, .int .i64 (a_p0.Data.length : Int)), (40, .int .i64 v_0)]) (fun s g => match s, g with | (x_0, v_0), fx_0 => [Chunk.box b0_0 107 [.int .i64 a_p0.W, .int .i64 a_p0.H, .slice q0_0 a_p0.Data.length k0_0], Chunk.box b0_1 107 [.int .i64 0, .int .i64 0, .slice .none 0 0], Chunk.box b4_7 107 [.int .i64 x3_5a, .int .i64 x3_5b, .slice (some ⟨b4_5, 0, .none⟩) x4_5.length ((wr (x3_5a * x3_5b)).toNat)], Chunk.own tInt fx_0 (some ⟨b4_5, 0, .none⟩) x4_5.length ((wr (x3_5a * x3_5b)).toNat) x_0]) (x4_5, 0) [b4_5] ezy0 (by exact sc (sc (sc (sc (sc (sc (sc (sc sn)))))))) (by exact (fun _ h => ((((h).pm 1).pm 1).pm 2).pm 3)) ?_
   rintro zm0 ⟨x_0, v_0⟩ fx_0 zo0 zf0 zb0 ze0
   have zh0 : impl_Oriented_L0 a_p0 a_p1 x3_5a x_0 v_0 = some zo0 := zf0
   unfold impl_Oriented_L0 at zh0
   show WC _ _ _ _ _ [(1, .int .i64 a_p1), (2, .pointer (some ⟨b0_0, 0, .none⟩)), (4, .pointer (some ⟨b0_1, 0, .none⟩)), (5, .int .i64 x3_5a), (7, .pointer (some ⟨b4_7, 0, .none⟩)), (38, .slice q0_0 a_p0.Data.length k0_0), (39, .int .i64 (a_p0.Data.length : Int)), (40, .int .i64 v_0)] [Chunk.box b0_0 107 [.int .i64 a_p0.W, .int .i64 a_p0.H, .slice q0_0 a_p0.Data.length k0_0], Chunk.box b0_1 107 [.int .i64 0, .int .i64 0, .slice .none 0 0], Chunk.box b4_7 107 [.int .i64 x3_5a, .int .i64 x3_5b, .slice (some ⟨b4_5, 0, .none⟩) x4_5.length ((wr (x3_5a * x3_5b)).toNat)], Chunk.own tInt fx_0 (some ⟨b4_5, 0, .none⟩) x4_5.length ((wr (x3_5a * x3_5b)).toNat) x_0]
   refine WC.sr ?_
   refine sp (OpV.lss rfl rfl) ?_
   refine WL.nil (En.next (WC.seq ?_))
   refine WC.cond rfl ?_ ?_
   ·
    intro hc_2
    replace zh0 := ifO_t hc_2 zh0
    refine WC.skip (En.next (WC.seq (WC.block (WC.seq ?_))))
    obtain ⟨x7_1, e7_1, zh0⟩ := bnd zh0
    obtain ⟨g7_1, o7_1, _, ha7_1, rfl, hd7_1⟩ := Rd.atIdx r0_0 e7_1
    replace hd7_1 : ∀ (j : Nat) v, ([.int .i64 x7_1] : List Value)[j]? = some v → w.cell? ⟨g7_1, o7_1 + v_0.toNat * 1 + j, .none⟩ = some v := hd7_1
    refine WC.region ?_
    refine mv ?_
    refine sp (OpV.idxA rfl rfl se_23 ha7_1 ⟨(idx_some e7_1).1, (idx_some e7_1).2.1⟩) ?_
    refine sp (OpV.load1 rfl pt_3 (fun w hs => hs.cell (hd7_1 0 _ rfl))) ?_
    refine ag ?_
    refine ag ?_
    refine WL.nil (En.next (WC.seq ?_))
    obtain ⟨x8_8, e8_8, zh0⟩ := bnd zh0
    obtain ⟨x8_12, e8_12, zh0⟩ := bnd zh0
    obtain ⟨⟨x8_13a, x8_13b⟩, e8_13, zh0⟩ := bnd zh0
    refine WC.drawn [(1, ?r8q3v1), (2, ?r8q3v2), (4, ?r8q3v4), (5, ?r8q3v5), (7, ?r8q3v7), (9, ?r8q3v9), (10, ?r8q3v10), (11, ?r8q3v11), (38, ?r8q3v38), (39, ?r8q3v39), (40, ?r8q3v40)] (by kernel_rfl) (by kernel_rfl) ?dH8q3 ?dK8q3
    case dH8q3 =>
     intro W hW hk
     refine hW.sp (OpV.fieldAddr rfl fo_107_0) ?_
     refine hW.sp (OpV.loadBox rfl pt_3 mq0 rfl) ?_
     refine hW.sp (OpV.fieldAddr rfl fo_107_1) ?_
     refine hW.sp (OpV.loadBox rfl pt_3 mq0 rfl) ?_
     refine hW.mv ?_
     refine hW.mv ?_
     refine hW.sp (OpV.fieldAddr rfl fo_107_0) ?_
     refine hW.sp (OpV.loadBox rfl pt_3 mq0 rfl) ?_
     refine hW.sp (OpV.remR rfl rfl e8_8) ?_
     refine hW.mv ?_
     refine hW.sp (OpV.fieldAddr rfl fo_107_0) ?_
     refine hW.sp (OpV.loadBox rfl pt_3 mq0 rfl) ?_
     refine hW.sp (OpV.quoR rfl rfl e8_12) ?_
     refine hW.sp (OpV.call (ec rfl (ec rfl (ec rfl (ec rfl (ec rfl e0))))) ca_175 (fun w hs => w_impl_OrientPoint e8_13)) ?_
     refine hW.mv ?_
     refine hW.sp (OpV.extract rfl rfl) ?_
     refine hW.sp (OpV.extract rfl rfl) ?_
     refine hW.sp (OpV.assign rfl) ?_
     refine hW.sp (OpV.assign rfl) ?_
     refine hk _ ?_
     refine Sub.cons ?_ (Sub.cons ?_ (Sub.cons ?_ (Sub.cons ?_ (Sub.cons ?_ (Sub.cons ?_ (Sub.cons ?_ (Sub.cons ?_ (Sub.cons ?_ (Sub.cons ?_ (Sub.cons ?_ sn))))))))))
     all_goals exact rfl
    refine En.next ?_
    refine WC.inh fun hin9 => ?_
    have hn9_8 := ownLen hin9 mq3
    obtain ⟨x9_9, e9_9, zh0⟩ := bnd zh0
    obtain ⟨g9_8, o9_8, ha9_8⟩ := ownAddrU hin9 mq3 e9_9
    refine WC.region ?_
    refine sp (OpV.fieldAddr rfl fo_107_2) ?_
    refine sp (OpV.loadBox rfl pt_23 mq2 rfl) ?_
    refine mv ?_
    refine mv ?_
    refine sp (OpV.mulR rfl rfl) ?_
    refine mv ?_
    refine sp (OpV.addR rfl rfl) ?_
    refine mv ?_
    refine sp (OpV.idxA rfl rfl se_23 ha9_8 ⟨(upd_some e9_9).1.1, by rw [hn9_8]; exact (upd_some e9_9).1.2⟩) ?_
    refine WL.wkF (fun _ h => St.elFlat tInt_flat x7_1 h) ?_
    refine WL.wkF (fun _ h => h.pm 4) ?_
    refine WL.wkF (fun _ h => h.pm 1) ?_
    refine WL.heavy0 rfl rfl (OpH.setEl (A := tInt) ha9_8 rfl rfl rfl ts_3 e9_9 ?_)
    intro f9_9
    refine WL.nil (En.block_norm (En.next (WC.region ?_)))
    refine sp (OpV.addR rfl rfl) ?_
    refine mv ?_
    refine WL.nil ?_
    exact En.backP zb0 zh0 f9_9 (sc (sc (sc (sc (sc (sc (sc (sc sn)))))))) (fun _ h => (((h).pm 3).pm 3).pm 3)
   ·
    intro hc_2
    replace zh0 := ifO_f hc_2 zh0
    refine WC.exit (En.then_exit (En.then_exit ?_))
    have hx := exitP ze0 zh0
    exact En.wk _ _ (sc (sc sn)) (fun _ h => ((((h).pm 3).pm 3).pm 3).sub (.cons_cons _ (.cons_cons _ (.cons_cons _ (.cons _ (.slnil)))))) (zK0_0 (x_0, fx_0) hx.symm)

theorem w_impl_ScalePoint {from_p0 : Int} {to_p1 : Int} {k_p2 : Int} {r : Int}  (h : impl_ScalePoint from_p0 to_p1 k_p2 = some r) {w : World}    :
    Calls Tryz.prog 177 #[.int .i64 from_p0, .int .i64 to_p1, .int .i64 k_p2] w (fun en w' => en = .returned (.int .i64 r) ∧ Ext w w') := by
 unfold impl_ScalePoint at h
 refine enter (vs := [_, _, _]) Tryz.func177 rfl rfl rfl rfl ?_
 refine WC.sr ?_
 refine ag ?_
 refine WL.nil (En.next (WC.seq (WC.seq ?_)))
 obtain ⟨x1_1, e1_1, h⟩ := bnd h
 obtain ⟨q1_7, e1_7, h⟩ := bnd h
 obtain ⟨q1_14, e1_14, h⟩ := bnd h
 refine WC.region ?_
 refine mv ?_
 refine sp (OpV.call (ec rfl e0) ca_149 (fun w hs => w_impl_isSide e1_1)) ?_
 refine sp (OpV.not rfl) ?_
 refine mv ?_
 refine Lt.ofWL.orQ 10 14 13 (p := ?pz1) (rest := ?qz1) (B := q1_7) rfl (fun hz => orO_t e1_7 hz) ?Tz1 ?Fz1 ?az1 ?bz1 ?cz1 ?dz1 ?ez1
 case Tz1 =>
  intro hcz1 hkz1
  refine sk ?_
  refine sk ?_
  refine sk ?_
  refine hkz1 _ ?_
  repeat (first | exact Sub.refl _ | refine Sub.skip rfl ?_)
 case Fz1 =>
  intro hcz1 hkz1
  have hqz1 := orO_f e1_7 hcz1
  obtain ⟨x1_5, e1_5, hqz1⟩ := bnd hqz1
  obtain rfl := Option.some.inj hqz1
  refine mv ?_
  refine sp (OpV.call (ec rfl e0) ca_149 (fun w hs => w_impl_isSide e1_5)) ?_
  refine sp (OpV.not rfl) ?_
  refine hkz1 _ ?_ ?_
  exact rfl
  repeat (first | exact Sub.refl _ | refine Sub.skip rfl ?_)
 case az1 => exact rfl
 case bz1 => exact rfl
 case cz1 => exact rfl
 case dz1 => exact rfl
 refine mv ?_
 refine Lt.ofWL.orQ 15 21 20 (p := ?pz2) (rest := ?qz2) (B := q1_14) rfl (fun hz => orO_t e1_14 hz) ?Tz2 ?Fz2 ?az2 ?bz2 ?cz2 ?dz2 ?ez2
 case Tz2 =>
  intro hcz2 hkz2
  refine sk ?_
  refine sk ?_
  refine sk ?_
  refine sk ?_
  refine sk ?_
  refine hkz2 _ ?_
  repeat (first | exact Sub.refl _ | refine Sub.skip rfl ?_)
 case Fz2 =>
  intro hcz2 hkz2
  have hqz2 := orO_f e1_14 hcz2
  obtain ⟨x1_12, e1_12, hqz2⟩ := bnd hqz2
  obtain rfl := Option.some.inj hqz2
  refine mv ?_
  refine mv ?_
  refine sp (OpV.subR rfl rfl) ?_
  refine sp (OpV.call (ec rfl (ec rfl (ec rfl e0))) ca_67 (fun w hs => w_impl_within e1_12)) ?_
  refine sp (OpV.not rfl) ?_
  refine hkz2 _ ?_ ?_
  exact rfl
  repeat (first | exact Sub.refl _ | refine Sub.skip rfl ?_)
 case az2 => exact rfl
 case bz2 => exact rfl
 case cz2 => exact rfl
 case dz2 => exact rfl
 refine WL.nil (En.next ?_)
 refine WC.cond rfl ?_ ?_
 ·
  intro hc_1
  replace h := ifO_t hc_1 h
  refine WC.sr ?_
  refine ag ?_
  refine WL.nil (En.next (WC.ret (En.then_ret ?_)))
  refine En.ret1 rfl (Res.tmp rfl) ?_
  obtain rfl := Option.some.inj h
  intro w' hs
  exact ⟨rfl, hs.below⟩
 ·
  intro hc_1
  replace h := ifO_f hc_1 h
  refine WC.skip (En.next (WC.seq ?_))
  obtain ⟨x3_4, e3_4, h⟩ := bnd h
  refine WC.region ?_
  refine mv ?_
  refine mv ?_
  refine sp (OpV.mulR rfl rfl) ?_
  refine mv ?_
  refine sp (OpV.quoR rfl rfl e3_4) ?_
  refine ag ?_
  refine WL.nil (En.next (WC.ret ?_))
  refine En.ret1 rfl (Res.tmp rfl) ?_
  obtain rfl := Option.some.inj h
  intro w' hs
  exact ⟨rfl, hs.below⟩

theorem w_impl_Scaled_1 {x_p0 : Int} {y_p1 : Int} {c_p2 : ImageT} {c_p3 : Int} {c_p4 : Int} {r : Int} {b2 : Nat} {q2_0 : Option Addr} {l2_0 k2_0 : Nat} {b3 : Nat} {b4 : Nat} (h : impl_Scaled_1 x_p0 y_p1 c_p2 c_p3 c_p4 = some r) {w : World} (r2_0 : Rd tInt w q2_0 l2_0 k2_0 c_p2.Data) (hbb2 : w.heap[b2]? = some (.cells #[.int .i64 c_p2.W, .int .i64 c_p2.H, .slice q2_0 l2_0 k2_0] 107 (0, 0))) (hbb3 : w.heap[b3]? = some (.cells #[.int .i64 c_p3] 3 (0, 0))) (hbb4 : w.heap[b4]? = some (.cells #[.int .i64 c_p4] 3 (0, 0)))  :
    Calls Tryz.prog 176 #[.int .i64 x_p0, .int .i64 y_p1, .pointer (some ⟨b2, 0, .none⟩), .pointer (some ⟨b3, 0, .none⟩), .pointer (some ⟨b4, 0, .none⟩)] w (fun en w' => en = .returned (.int .i64 r) ∧ Ext w w') := by
 obtain rfl := r2_0.1
 unfold impl_Scaled_1 at h
 refine enter (vs := [_, _, _, _, _]) Tryz.func176 rfl rfl rfl rfl ?_
 refine WC.sr ?_
 refine ag ?_
 refine WL.nil (En.next (WC.seq ?_))
 obtain ⟨x1_6, e1_6, h⟩ := bnd h
 obtain ⟨x1_14, e1_14, h⟩ := bnd h
 obtain ⟨x1_16, e1_16, h⟩ := bnd h
 obtain ⟨g1_16, o1_16, _, ha1_16, rfl, hd1_16⟩ := Rd.atIdx r2_0 e1_16
 replace hd1_16 : ∀ (j : Nat) v, ([.int .i64 x1_16] : List Value)[j]? = some v → w.cell? ⟨g1_16, o1_16 + (wr ((wr (x1_6 * c_p2.W)) + x1_14)).toNat * 1 + j, .none⟩ = some v := hd1_16
 refine WC.drawn [(7, ?r1v7)] (by kernel_rfl) (by kernel_rfl) ?dH1 ?dK1
 case dH1 =>
  intro W hW hk
  refine hW.sp (OpV.fieldAddr rfl fo_107_2) ?_
  refine hW.sp (OpV.loadCap rfl pt_23 hbb2 rfl) ?_
  refine hW.sp (OpV.fieldAddr rfl fo_107_1) ?_
  refine hW.sp (OpV.loadCap rfl pt_3 hbb2 rfl) ?_
  refine hW.sp (OpV.loadCap rfl pt_3 hbb3 rfl) ?_
  refine hW.mv ?_
  refine hW.sp (OpV.call (ec rfl (ec rfl (ec rfl e0))) ca_177 (fun w hs => w_impl_ScalePoint e1_6)) ?_
  refine hW.sp (OpV.fieldAddr rfl fo_107_0) ?_
  refine hW.sp (OpV.loadCap rfl pt_3 hbb2 rfl) ?_
  refine hW.sp (OpV.mulR rfl rfl) ?_
  refine hW.sp (OpV.fieldAddr rfl fo_107_0) ?_
  refine hW.sp (OpV.loadCap rfl pt_3 hbb2 rfl) ?_
  refine hW.sp (OpV.loadCap rfl pt_3 hbb4 rfl) ?_
  refine hW.mv ?_
  refine hW.sp (OpV.call (ec rfl (ec rfl (ec rfl e0))) ca_177 (fun w hs => w_impl_ScalePoint e1_14)) ?_
  refine hW.sp (OpV.addR rfl rfl) ?_
  refine hW.sp (OpV.idxA rfl rfl se_23 ha1_16 ⟨(idx_some e1_16).1, (idx_some e1_16).2.1⟩) ?_
  refine hW.sp (OpV.load1 rfl pt_3 (fun w hs => hs.cell (hd1_16 0 _ rfl))) ?_
  refine hW.sp (OpV.assign rfl) ?_
  refine hk _ ?_
  refine Sub.cons ?_ sn
  all_goals exact rfl
 refine En.next (WC.ret ?_)
 refine En.ret1 rfl (Res.tmp rfl) ?_
 obtain rfl := Option.some.inj h
 intro w' hs
 exact ⟨rfl, hs.below⟩

theorem w_impl_Scaled {i_p0 : ImageT} {w_p1 : Int} {h_p2 : Int} {r : ImageT} {q0_0 : Option Addr} {l0_0 k0_0 : Nat} (h : impl_Scaled i_p0 w_p1 h_p2 = some r) {w : World} (r0_0 : Rd tInt w q0_0 l0_0 k0_0 i_p0.Data)   :
    Calls Tryz.prog 160 #[.agg #[.int .i64 i_p0.W, .int .i64 i_p0.H, .slice q0_0 l0_0 k0_0], .int .i64 w_p1, .int .i64 h_p2] w (fun en w' => ∃ rv G, en = .returned rv ∧ (∃ (a0_0 : Option Addr) (n0_0 : Nat) (c0_0 : Nat) (f0_0 : List Nat), rv = .agg #[.int .i64 r.W, .int .i64 r.H, .slice a0_0 n0_0 c0_0] ∧ G = [Chunk.own tInt f0_0 a0_0 n0_0 c0_0 r.Data]) ∧ St w G w') := by
 obtain rfl := r0_0.1
 unfold impl_Scaled at h
 refine enter (vs := [_, _, _]) Tryz.func160 rfl rfl rfl rfl ?_
 refine WC.sr ?_
 refine WL.heavy rfl rfl rfl (OpH.box rfl rfl ?_)
 intro b0_0
 refine WL.heavy rfl rfl rfl (OpH.box rfl rfl ?_)
 intro b0_1
 refine WL.heavy rfl rfl rfl (OpH.box rfl rfl ?_)
 intro b0_2
 refine WL.heavy rfl rfl rfl (OpH.alloc zc_107 ?_)
 intro b0_3
 refine WL.nil (En.next (WC.seq (WC.seq ?_)))
 obtain ⟨x1_1, e1_1, h⟩ := bnd h
 obtain ⟨q1_7, e1_7, h⟩ := bnd h
 obtain ⟨q1_12, e1_12, h⟩ := bnd h
 refine WC.region ?_
 refine sp (OpV.loadAll rfl mq3 ag_107) ?_
 refine sp (OpV.call (ec rfl e0) ca_161 (fun w hs => w_impl_ImageOk e1_1 (r0_0.ext hs.below))) ?_
 refine sp (OpV.not rfl) ?_
 refine mv ?_
 refine Lt.ofWL.orQ 10 14 13 (p := ?pz1) (rest := ?qz1) (B := q1_7) rfl (fun hz => orO_t e1_7 hz) ?Tz1 ?Fz1 ?az1 ?bz1 ?cz1 ?dz1 ?ez1
 case Tz1 =>
  intro hcz1 hkz1
  refine sk ?_
  refine sk ?_
  refine sk ?_
  refine hkz1 _ ?_
  repeat (first | exact Sub.refl _ | refine Sub.skip rfl ?_)
 case Fz1 =>
  intro hcz1 hkz1
  have hqz1 := orO_f e1_7 hcz1
  obtain ⟨x1_5, e1_5, hqz1⟩ := bnd hqz1
  obtain rfl := Option.some.inj hqz1
  refine sp (OpV.loadBox rfl pt_3 mq2 rfl) ?_
  refine sp (OpV.call (ec rfl e0) ca_149 (fun w hs => w_impl_isSide e1_5)) ?_
  refine sp (OpV.not rfl) ?_
  refine hkz1 _ ?_ ?_
  exact rfl
  repeat (first | exact Sub.refl _ | refine Sub.skip rfl ?_)
 case az1 => exact rfl
 case bz1 => exact rfl
 case cz1 => exact rfl
 case dz1 => exact rfl
 refine mv ?_
 refine Lt.ofWL.orQ 15 19 18 (p := ?pz2) (rest := ?qz2) (B := q1_12) rfl (fun hz => orO_t e1_12 hz) ?Tz2 ?Fz2 ?az2 ?bz2 ?cz2 ?dz2 ?ez2
 case Tz2 =>
  intro hcz2 hkz2
  refine sk ?_
  refine sk ?_
  refine sk ?_
  refine hkz2 _ ?_
  repeat (first | exact Sub.refl _ | refine Sub.skip rfl ?_)
 case Fz2 =>
  intro hcz2 hkz2
  have hqz2 := orO_f e1_12 hcz2
  obtain ⟨x1_10, e1_10, hqz2⟩ := bnd hqz2
  obtain rfl := Option.some.inj hqz2
  refine sp (OpV.loadBox rfl pt_3 mq1 rfl) ?_
  refine sp (OpV.call (ec rfl e0) ca_149 (fun w hs => w_impl_isSide e1_10)) ?_
  refine sp (OpV.not rfl) ?_
  refine hkz2 _ ?_ ?_
  exact rfl
  repeat (first | exact Sub.refl _ | refine Sub.skip rfl ?_)
 case az2 => exact rfl
 case bz2 => exact rfl
 case cz2 => exact rfl
 case dz2 => exact rfl
 refine WL.nil (En.next ?_)
 refine WC.cond rfl ?_ ?_
 ·
  intro hc_1
  replace h := ifO_t hc_1 h
  refine WC.sr ?_
  refine sp (OpV.build (evps.nil) bd_107_) ?_
  refine WL.heavy0 rfl rfl (OpH.storeTo (A := []) [_, _, _] rfl rfl rfl ts_107 rfl rfl rfl ?_)
  refine WL.nil (En.next (WC.ret (En.then_ret ?_)))
  refine En.ret1 rfl (Res.cell rfl mq0 ag_107) ?_
  obtain rfl := Option.some.inj h
  intro w' hs
  have hs := ((hs).ownNil (A := tInt)).sub (.cons_cons _ (.cons _ (.cons _ (.cons _ (.cons _ (.slnil))))))
  exact ⟨_, _, rfl, ⟨.none, 0, 0, [], rfl, rfl⟩, hs⟩
 ·
  intro hc_1
  replace h := ifO_f hc_1 h
  refine WC.skip (En.next (WC.seq ?_))
  obtain ⟨x3_3, e3_3, h⟩ := bnd h
  refine WC.region ?_
  refine sp (OpV.loadBox rfl pt_3 mq2 rfl) ?_
  refine sp (OpV.loadBox rfl pt_3 mq1 rfl) ?_
  refine sp (OpV.makeFunc (ec rfl (ec rfl (ec rfl e0)))) ?_
  refine WL.heavy rfl rfl rfl (OpH.callR (ec rfl (ec rfl (ec rfl e0))) ca_169 (fun w hs => w_impl_mapImage e3_3 (fun hx he => CallsV.cap ca_176 (w_impl_Scaled_1 he ((r0_0.ext hs.below).ext hx) (Ext.blk hx (hs.mem mq3)) (Ext.blk hx (hs.mem mq1)) (Ext.blk hx (hs.mem mq2))))) ?_)
  rintro _ _ ⟨a3_300, n3_300, c3_300, f3_300, rfl, rfl⟩
  refine WL.heavy0 rfl rfl (OpH.storeTo (A := [_]) [_, _, _] rfl rfl rfl ts_107 rfl rfl rfl ?_)
  refine WL.nil (En.next (WC.ret ?_))
  refine En.ret1 rfl (Res.cell rfl mq1 ag_107) ?_
  obtain rfl := Option.some.inj h
  intro w' hs
  have hs := (hs).sub (.cons_cons _ (.cons _ (.cons _ (.cons _ (.cons _ (.slnil))))))
  exact ⟨_, _, rfl, ⟨a3_300, n3_300, c3_300, f3_300, rfl, rfl⟩, hs⟩

theorem w_impl_channel {p_p0 : Int} {k_p1 : Int} {r : Int}  (h : impl_channel p_p0 k_p1 = some r) {w : World}    :
    Calls Tryz.prog 165 #[.int .i64 p_p0, .int .i64 k_p1] w (fun en w' => en = .returned (.int .i64 r) ∧ Ext w w') := by
 unfold impl_channel at h
 refine enter (vs := [_, _]) Tryz.func165 rfl rfl rfl rfl ?_
 refine WC.sr ?_
 refine ag ?_
 refine WL.nil (En.next (WC.seq ?_))
 obtain ⟨x1_4, e1_4, h⟩ := bnd h
 refine WC.region ?_
 refine mv ?_
 refine mv ?_
 refine sp (OpV.mulR rfl rfl) ?_
 refine sp (OpV.subR rfl rfl) ?_
 refine sp (OpV.shrR rfl rfl e1_4) ?_
 refine sp (OpV.andR rfl rfl) ?_
 refine ag ?_
 refine WL.nil (En.next (WC.ret ?_))
 refine En.ret1 rfl (Res.tmp rfl) ?_
 obtain rfl := Option.some.inj h
 intro w' hs
 exact ⟨rfl, hs.below⟩

theorem w_impl_Part {a_p0 : Int} {b_p1 : Int} {r : Int}  (h : impl_Part a_p0 b_p1 = some r) {w : World}    :
    Calls Tryz.prog 182 #[.int .i64 a_p0, .int .i64 b_p1] w (fun en w' => en = .returned (.int .i64 r) ∧ Ext w w') := by
 unfold impl_Part at h
 refine enter (vs := [_, _]) Tryz.func182 rfl rfl rfl rfl ?_
 refine WC.sr ?_
 refine ag ?_
 refine WL.nil (En.next (WC.seq (WC.seq ?_)))
 obtain ⟨x1_1, e1_1, h⟩ := bnd h
 obtain ⟨q1_7, e1_7, h⟩ := bnd h
 refine WC.region ?_
 refine mv ?_
 refine sp (OpV.call (ec rfl (ec rfl (ec rfl e0))) ca_67 (fun w hs => w_impl_within e1_1)) ?_
 refine sp (OpV.not rfl) ?_
 refine mv ?_
 refine Lt.ofWL.orQ 8 12 11 (p := ?pz1) (rest := ?qz1) (B := q1_7) rfl (fun hz => orO_t e1_7 hz) ?Tz1 ?Fz1 ?az1 ?bz1 ?cz1 ?dz1 ?ez1
 case Tz1 =>
  intro hcz1 hkz1
  refine sk ?_
  refine sk ?_
  refine sk ?_
  refine hkz1 _ ?_
  repeat (first | exact Sub.refl _ | refine Sub.skip rfl ?_)
 case Fz1 =>
  intro hcz1 hkz1
  have hqz1 := orO_f e1_7 hcz1
  obtain ⟨x1_5, e1_5, hqz1⟩ := bnd hqz1
  obtain rfl := Option.some.inj hqz1
  refine mv ?_
  refine sp (OpV.call (ec rfl (ec rfl (ec rfl e0))) ca_67 (fun w hs => w_impl_within e1_5)) ?_
  refine sp (OpV.not rfl) ?_
  refine hkz1 _ ?_ ?_
  exact rfl
  repeat (first | exact Sub.refl _ | refine Sub.skip rfl ?_)
 case az1 => exact rfl
 case bz1 => exact rfl
 case cz1 => exact rfl
 case dz1 => exact rfl
 refine WL.nil (En.next ?_)
 refine WC.cond rfl ?_ ?_
 ·
  intro hc_1
  replace h := ifO_t hc_1 h
  refine WC.sr ?_
  refine ag ?_
  refine WL.nil (En.next (WC.ret (En.then_ret ?_)))
  refine En.ret1 rfl (Res.tmp rfl) ?_
  obtain rfl := Option.some.inj h
  intro w' hs
  exact ⟨rfl, hs.below⟩
 ·
  intro hc_1
  replace h := ifO_f hc_1 h
  refine WC.skip (En.next (WC.sr ?_))
  refine mv ?_
  refine mv ?_
  refine sp (OpV.mulR rfl rfl) ?_
  refine sp (OpV.addR rfl rfl) ?_
  refine sp (OpV.quoR rfl rfl rfl) ?_
  refine ag ?_
  refine WL.nil (En.next (WC.ret ?_))
  refine En.ret1 rfl (Res.tmp rfl) ?_
  obtain rfl := Option.some.inj h
  intro w' hs
  exact ⟨rfl, hs.below⟩

theorem w_impl_Fade {p_p0 : Int} {alpha_p1 : Int} {r : Int}  (h : impl_Fade p_p0 alpha_p1 = some r) {w : World}    :
    Calls Tryz.prog 178 #[.int .i64 p_p0, .int .i64 alpha_p1] w (fun en w' => en = .returned (.int .i64 r) ∧ Ext w w') := by
 unfold impl_Fade at h
 refine enter (vs := [_, _]) Tryz.func178 rfl rfl rfl rfl ?_
 refine WC.sr ?_
 refine ag ?_
 refine WL.nil (En.next (WC.seq (WC.seq ?_)))
 obtain ⟨x1_1, e1_1, h⟩ := bnd h
 obtain ⟨q1_7, e1_7, h⟩ := bnd h
 refine WC.region ?_
 refine mv ?_
 refine sp (OpV.call (ec rfl e0) ca_164 (fun w hs => w_impl_isPixel e1_1)) ?_
 refine sp (OpV.not rfl) ?_
 refine mv ?_
 refine Lt.ofWL.orQ 8 12 11 (p := ?pz1) (rest := ?qz1) (B := q1_7) rfl (fun hz => orO_t e1_7 hz) ?Tz1 ?Fz1 ?az1 ?bz1 ?cz1 ?dz1 ?ez1
 case Tz1 =>
  intro hcz1 hkz1
  refine sk ?_
  refine sk ?_
  refine sk ?_
  refine hkz1 _ ?_
  repeat (first | exact Sub.refl _ | refine Sub.skip rfl ?_)
 case Fz1 =>
  intro hcz1 hkz1
  have hqz1 := orO_f e1_7 hcz1
  obtain ⟨x1_5, e1_5, hqz1⟩ := bnd hqz1
  obtain rfl := Option.some.inj hqz1
  refine mv ?_
  refine sp (OpV.call (ec rfl (ec rfl (ec rfl e0))) ca_67 (fun w hs => w_impl_within e1_5)) ?_
  refine sp (OpV.not rfl) ?_
  refine hkz1 _ ?_ ?_
  exact rfl
  repeat (first | exact Sub.refl _ | refine Sub.skip rfl ?_)
 case az1 => exact rfl
 case bz1 => exact rfl
 case cz1 => exact rfl
 case dz1 => exact rfl
 refine WL.nil (En.next ?_)
 refine WC.cond rfl ?_ ?_
 ·
  intro hc_1
  replace h := ifO_t hc_1 h
  refine WC.sr ?_
  refine ag ?_
  refine WL.nil (En.next (WC.ret (En.then_ret ?_)))
  refine En.ret1 rfl (Res.tmp rfl) ?_
  obtain rfl := Option.some.inj h
  intro w' hs
  exact ⟨rfl, hs.below⟩
 ·
  intro hc_1
  replace h := ifO_f hc_1 h
  refine WC.skip (En.next (WC.seq ?_))
  obtain ⟨x3_1, e3_1, h⟩ := bnd h
  obtain ⟨x3_3, e3_3, h⟩ := bnd h
  refine WC.region ?_
  refine mv ?_
  refine sp (OpV.call (ec rfl (ec rfl e0)) ca_165 (fun w hs => w_impl_channel e3_1)) ?_
  refine mv ?_
  refine sp (OpV.call (ec rfl (ec rfl e0)) ca_182 (fun w hs => w_impl_Part e3_3)) ?_
  refine sp (OpV.shlR rfl rfl rfl) ?_
  refine mv ?_
  refine sp (OpV.andR rfl rfl) ?_
  refine sp (OpV.orR rfl rfl) ?_
  refine ag ?_
  refine WL.nil (En.next (WC.ret ?_))
  refine En.ret1 rfl (Res.tmp rfl) ?_
  obtain rfl := Option.some.inj h
  intro w' hs
  exact ⟨rfl, hs.below⟩

theorem w_impl_faded {i_p0 : ImageT} {alpha_p1 : Int} {r : ImageT × (List Int)} {q0_0 : Option Addr} {l0_0 k0_0 : Nat} {f0_0 : List Nat} (h : impl_faded i_p0 alpha_p1 = some r) {w0 w : World} {C : List Chunk} (hs0 : St w0 (Chunk.own tInt f0_0 q0_0 l0_0 k0_0 i_p0.Data :: C) w)  :
    Calls Tryz.prog 162 #[.agg #[.int .i64 i_p0.W, .int .i64 i_p0.H, .slice q0_0 l0_0 k0_0], .int .i64 alpha_p1] w (fun en w' => ∃ rv G, en = .returned rv ∧ (∃ (g0_0 : List Nat), rv = .agg #[.int .i64 r.1.W, .int .i64 r.1.H, .slice q0_0 l0_0 k0_0] ∧ G = Chunk.own tInt g0_0 q0_0 l0_0 k0_0 r.2 :: C) ∧ St w0 G w') := by
 unfold impl_faded at h
 refine enterF hs0 (vs := [_, _]) Tryz.func162 rfl rfl rfl rfl ?_
 refine WC.sr ?_
 refine WL.heavy rfl rfl rfl (OpH.box rfl rfl ?_)
 intro b0_0
 refine WL.heavy rfl rfl rfl (OpH.alloc zc_107 ?_)
 intro b0_1
 refine WL.nil (En.next (WC.seq (WC.sr ?_)))
 refine sp (OpV.fieldAddr rfl fo_107_2) ?_
 refine sp (OpV.loadBox rfl pt_23 mq1 rfl) ?_
 refine sp (OpV.inhF fun hin => OpV.lenO (xs := i_p0.Data) rfl si_23 rfl (ownLen hin mq2)) ?_
 refine mv ?_
 refine WL.nil (En.next (WC.block ?_))
 obtain ⟨zy0, ezy0, h⟩ := bnd h
 refine WC.cut (X := ((List Int)) × ((List Nat))) (.exit 0) (fun x => zy0 = x.1) (fun x => match x with | (i_0e, fi_0e) => [(2, .pointer (some ⟨b0_0, 0, .none⟩)), (4, .pointer (some ⟨b0_1, 0, .none⟩))]) (fun x => match x with | (i_0e, fi_0e) => (Chunk.box b0_0 107 [.int .i64 i_p0.W, .int .i64 i_p0.H, .slice q0_0 l0_0 k0_0] :: Chunk.own tInt fi_0e q0_0 l0_0 k0_0 i_0e :: Chunk.box b0_1 107 [.int .i64 0, .int .i64 0, .slice .none 0 0] :: C)) ?_ ?_
 ·
  rintro ⟨i_0e, fi_0e⟩ hx
  replace hx : i_0e = zy0 := hx.symm
  subst hx
  show En _ _ _ _ [(2, .pointer (some ⟨b0_0, 0, .none⟩)), (4, .pointer (some ⟨b0_1, 0, .none⟩))] (Chunk.box b0_0 107 [.int .i64 i_p0.W, .int .i64 i_p0.H, .slice q0_0 l0_0 k0_0] :: Chunk.own tInt fi_0e q0_0 l0_0 k0_0 i_0e :: Chunk.box b0_1 107 [.int .i64 0, .int .i64 0, .slice .none 0 0] :: C)
  refine En.block_exit (En.next (WC.sr ?_))
  refine sp (OpV.loadAll rfl mq0 ag_107) ?_
  refine WL.heavy0 rfl rfl (OpH.storeTo (A := [_, _]) [_, _, _] rfl rfl rfl ts_107 rfl rfl rfl ?_)
  refine WL.nil (En.next (WC.ret ?_))
  refine En.ret1 rfl (Res.cell rfl mq2 ag_107) ?_
  obtain rfl := Option.some.inj h
  intro w' hs
  have hs := ((hs).pm 1).sub (.cons_cons _ (.cons _ (.cons _ (List.Sublist.refl _))))
  exact ⟨_, _, rfl, ⟨fi_0e, rfl, rfl⟩, hs⟩
 ·
  intro zK0_0
  refine WC.loopP (G := (List Nat)) (fun s g => match s, g with | (i_0, v_0), fi_0 => [(1, .int .i64 alpha_p1), (2, .pointer (some ⟨b0_0, 0, .none⟩)), (4, .pointer (some ⟨b0_1, 0, .none⟩)), (8, .slice q0_0 l0_0 k0_0), (9, .int .i64 (i_p0.Data.length : Int)), (10, .int .i64 v_0)]) (fun s g => match s, g with | (i_0, v_0), fi_0 => (Chunk.box b0_0 107 [.int .i64 i_p0.W, .int .i64 i_p0.H, .slice q0_0 l0_0 k0_0] :: Chunk.own tInt fi_0 q0_0 l0_0 k0_0 i_0 :: Chunk.box b0_1 107 [.int .i64 0, .int .i64 0, .slice .none 0 0] :: C)) (i_p0.Data, 0) f0_0 ezy0 (by exact sc (sc (sc (sc (sc (sc sn)))))) (by exact (fun _ h => ((h).pm 2).pm 2)) ?_
  rintro zm0 ⟨i_0, v_0⟩ fi_0 zo0 zf0 zb0 ze0
  have zh0 : impl_faded_L0 i_p0 alpha_p1 i_0 v_0 = some zo0 := zf0
  unfold impl_faded_L0 at zh0
  show WC _ _ _ _ _ [(1, .int .i64 alpha_p1), (2, .pointer (some ⟨b0_0, 0, .none⟩)), (4, .pointer (some ⟨b0_1, 0, .none⟩)), (8, .slice q0_0 l0_0 k0_0), (9, .int .i64 (i_p0.Data.length : Int)), (10, .int .i64 v_0)] (Chunk.box b0_0 107 [.int .i64 i_p0.W, .int .i64 i_p0.H, .slice q0_0 l0_0 k0_0] :: Chunk.own tInt fi_0 q0_0 l0_0 k0_0 i_0 :: Chunk.box b0_1 107 [.int .i64 0, .int .i64 0, .slice .none 0 0] :: C)
  refine WC.sr ?_
  refine sp (OpV.lss rfl rfl) ?_
  refine WL.nil (En.next (WC.seq ?_))
  refine WC.cond rfl ?_ ?_
  ·
   intro hc_1
   replace zh0 := ifO_t hc_1 zh0
   refine WC.skip (En.next (WC.seq (WC.block (WC.seq ?_))))
   refine WC.inh fun hin3 => ?_
   obtain ⟨x3_1, e3_1, zh0⟩ := bnd zh0
   obtain ⟨g3_1, o3_1, ha3_1⟩ := ownAddr hin3 mq1 e3_1
   have hn3_1 := ownLen hin3 mq1
   refine WC.region ?_
   refine mv ?_
   refine sp (OpV.idxA rfl rfl se_23 ha3_1 ⟨(idx_some e3_1).1, by rw [hn3_1]; exact (idx_some e3_1).2.1⟩) ?_
   refine sp (OpV.load1 rfl pt_3 (fun w hs => Rd.cell1 tInt_flat (Ow.rd (hs.mem mq1)) e3_1 ha3_1 rfl)) ?_
   refine ag ?_
   refine ag ?_
   refine WL.nil (En.next ?_)
   refine WC.inh fun hin4 => ?_
   obtain ⟨x4_5, e4_5, zh0⟩ := bnd zh0
   have hn4_6 := ownLen hin4 mq1
   obtain ⟨x4_7, e4_7, zh0⟩ := bnd zh0
   obtain ⟨g4_6, o4_6, ha4_6⟩ := ownAddrU hin4 mq1 e4_7
   refine WC.wkF (fun _ h => h.pm 1) ?_
   refine WC.drawnH [_] (_ :: _ :: C) (fun _ h => h) (by kernel_rfl) ?_
   refine tk 0 rfl (OpV.fieldAddr rfl fo_107_2) ?_
   refine tk 1 rfl (OpV.loadBox rfl pt_23 mq0 rfl) ?_
   refine tk 2 rfl (OpV.move rfl) ?_
   refine tk 3 rfl (OpV.move rfl) ?_
   refine tk 4 rfl (OpV.move rfl) ?_
   refine tk 5 rfl (OpV.call (ec rfl (ec rfl e0)) ca_178 (fun w hs => w_impl_Fade e4_5)) ?_
   refine tk 6 rfl (OpV.idxA rfl rfl se_23 ha4_6 ⟨(upd_some e4_7).1.1, by rw [hn4_6]; exact (upd_some e4_7).1.2⟩) ?_
   refine al0 7 rfl ?_
   refine OpH.wkF (fun _ h => St.elFlat tInt_flat x4_5 h) ?_
   refine OpH.setEl (A := tInt) ha4_6 rfl rfl rfl ts_3 e4_7 ?_
   intro f4_7
   refine ⟨[_], rfl, ?_⟩
   refine WAE.rebase (H := []) ?_
   refine WAE.done (by kernel_rfl) ?_ _
   refine En.block_norm (En.next (WC.region ?_))
   refine sp (OpV.addR rfl rfl) ?_
   refine mv ?_
   refine WL.nil ?_
   exact En.backP zb0 zh0 f4_7 (sc (sc (sc (sc (sc (sc sn)))))) (fun _ h => (((h).pm 2).pm 1).pm 2)
  ·
   intro hc_1
   replace zh0 := ifO_f hc_1 zh0
   refine WC.exit (En.then_exit (En.then_exit ?_))
   have hx := exitP ze0 zh0
   exact En.wk _ _ (sc (sc sn)) (fun _ h => h) (zK0_0 (i_0, fi_0) hx.symm)

theorem w_impl_PlaneImage {p_p0 : PlaneT} {r : ImageT × Bool} {q0_0 : Option Addr} {l0_0 k0_0 : Nat} (h : impl_PlaneImage p_p0 = some r) {w : World} (r0_0 : Rd tInt w q0_0 l0_0 k0_0 p_p0.Words)   :
    Calls Tryz.prog 150 #[.agg #[.bool p_p0.On, .int .i64 p_p0.X, .int .i64 p_p0.Y, .int .i64 p_p0.W, .int .i64 p_p0.H, .int .i64 p_p0.Layout, .slice q0_0 l0_0 k0_0, .int .i64 p_p0.Alpha, .int .i64 p_p0.Orient, .int .i64 p_p0.ToW, .int .i64 p_p0.ToH]] w (fun en w' => ∃ rv G, en = .returned rv ∧ (∃ (a0_0 : Option Addr) (n0_0 : Nat) (c0_0 : Nat) (f0_0 : List Nat), rv = .tuple #[.agg #[.int .i64 r.1.W, .int .i64 r.1.H, .slice a0_0 n0_0 c0_0], .bool r.2] ∧ G = [Chunk.own tInt f0_0 a0_0 n0_0 c0_0 r.1.Data]) ∧ St w G w') := by
 obtain rfl := r0_0.1
 unfold impl_PlaneImage at h
 refine enter (vs := [_]) Tryz.func150 rfl rfl rfl rfl ?_
 refine WC.sr ?_
 refine WL.heavy rfl rfl rfl (OpH.box rfl rfl ?_)
 intro b0_0
 refine WL.heavy rfl rfl rfl (OpH.alloc zc_107 ?_)
 intro b0_1
 refine ag ?_
 refine WL.nil (En.next (WC.seq (WC.seq ?_)))
 obtain ⟨q1_8, e1_8, h⟩ := bnd h
 refine WC.region ?_
 refine sp (OpV.fieldAddr rfl fo_61_0) ?_
 refine sp (OpV.loadBox rfl pt_4 mq1 rfl) ?_
 refine sp (OpV.not rfl) ?_
 refine mv ?_
 refine Lt.ofWL.orQ 9 14 13 (p := ?pz1) (rest := ?qz1) (B := q1_8) rfl (fun hz => orO_t e1_8 hz) ?Tz1 ?Fz1 ?az1 ?bz1 ?cz1 ?dz1 ?ez1
 case Tz1 =>
  intro hcz1 hkz1
  refine sk ?_
  refine sk ?_
  refine sk ?_
  refine sk ?_
  refine hkz1 _ ?_
  repeat (first | exact Sub.refl _ | refine Sub.skip rfl ?_)
 case Fz1 =>
  intro hcz1 hkz1
  have hqz1 := orO_f e1_8 hcz1
  obtain ⟨x1_6, e1_6, hqz1⟩ := bnd hqz1
  obtain rfl := Option.some.inj hqz1
  refine sp (OpV.fieldAddr rfl fo_61_7) ?_
  refine sp (OpV.loadBox rfl pt_3 mq1 rfl) ?_
  refine sp (OpV.call (ec rfl (ec rfl (ec rfl e0))) ca_67 (fun w hs => w_impl_within e1_6)) ?_
  refine sp (OpV.not rfl) ?_
  refine hkz1 _ ?_ ?_
  exact rfl
  repeat (first | exact Sub.refl _ | refine Sub.skip rfl ?_)
 case az1 => exact rfl
 case bz1 => exact rfl
 case cz1 => exact rfl
 case dz1 => exact rfl
 refine WL.nil (En.next ?_)
 refine WC.cond rfl ?_ ?_
 ·
  intro hc_1
  replace h := ifO_t hc_1 h
  refine WC.sr ?_
  refine sp (OpV.build (evps.nil) bd_107_) ?_
  refine WL.heavy0 rfl rfl (OpH.storeTo (A := []) [_, _, _] rfl rfl rfl ts_107 rfl rfl rfl ?_)
  refine ag ?_
  refine WL.nil (En.next (WC.ret (En.then_ret ?_)))
  refine En.ret2 rfl (Res.cell rfl mq0 ag_107) (Res.tmp rfl) ?_
  obtain rfl := Option.some.inj h
  intro w' hs
  have hs := ((hs).ownNil (A := tInt)).sub (.cons_cons _ (.cons _ (.cons _ (.slnil))))
  exact ⟨_, _, rfl, ⟨.none, 0, 0, [], rfl, rfl⟩, hs⟩
 ·
  intro hc_1
  replace h := ifO_f hc_1 h
  refine WC.skip (En.next (WC.seq ?_))
  obtain ⟨⟨x3_8a, x3_8b⟩, e3_8, h⟩ := bnd h
  refine WC.region ?_
  refine sp (OpV.fieldAddr rfl fo_61_6) ?_
  refine sp (OpV.loadBox rfl pt_23 mq1 rfl) ?_
  refine sp (OpV.fieldAddr rfl fo_61_3) ?_
  refine sp (OpV.loadBox rfl pt_3 mq1 rfl) ?_
  refine sp (OpV.fieldAddr rfl fo_61_4) ?_
  refine sp (OpV.loadBox rfl pt_3 mq1 rfl) ?_
  refine sp (OpV.fieldAddr rfl fo_61_5) ?_
  refine sp (OpV.loadBox rfl pt_3 mq1 rfl) ?_
  refine WL.heavy rfl rfl rfl (OpH.callR (ec rfl (ec rfl (ec rfl (ec rfl e0)))) ca_158 (fun w hs => w_impl_LoadImage e3_8 (r0_0.ext hs.below)) ?_)
  rintro _ _ ⟨a3_800, n3_800, c3_800, f3_800, rfl, rfl⟩
  refine mv ?_
  refine sp (OpV.extract rfl rfl) ?_
  refine sp (OpV.extract rfl rfl) ?_
  refine WL.heavy rfl rfl rfl (OpH.alloc zc_107 ?_)
  intro b3_12
  refine WL.heavy0 rfl rfl (OpH.storeTo (A := []) [_, _, _] rfl rfl rfl ts_107 rfl rfl rfl ?_)
  refine ag ?_
  refine WL.nil (En.next (WC.seq ?_))
  obtain ⟨x4_3, e4_3, h⟩ := bnd h
  refine WC.region ?_
  refine sp (OpV.loadAll rfl mq0 ag_107) ?_
  refine sp (OpV.fieldAddr rfl fo_61_8) ?_
  refine sp (OpV.loadBox rfl pt_3 mq3 rfl) ?_
  refine WL.heavy rfl rfl rfl (OpH.callR (ec rfl (ec rfl e0)) ca_159 (fun w hs => w_impl_Oriented e4_3 (Ow.rd (hs.mem mq1))) ?_)
  rintro _ _ ⟨a4_300, n4_300, c4_300, f4_300, rfl, rfl⟩
  refine WL.heavy0 rfl rfl (OpH.storeTo (A := [_]) [_, _, _] rfl rfl rfl ts_107 rfl rfl rfl ?_)
  refine WL.nil (En.next (WC.seq (WC.sr ?_)))
  refine sp (OpV.fieldAddr rfl fo_61_9) ?_
  refine sp (OpV.loadBox rfl pt_3 mq4 rfl) ?_
  refine sp (OpV.neq rfl rfl) ?_
  refine mv ?_
  refine Lt.ofWL.or 35 39 38 (p := ?pz2) (rest := ?qz2) (B := ?Bz2) rfl ?Tz2 ?Fz2 ?az2 ?bz2 ?cz2 ?dz2 ?ez2
  case Tz2 =>
   intro hcz2 hkz2
   refine sk ?_
   refine sk ?_
   refine sk ?_
   refine hkz2 _ ?_
   repeat (first | exact Sub.refl _ | refine Sub.skip rfl ?_)
  case Fz2 =>
   intro hcz2 hkz2
   refine sp (OpV.fieldAddr rfl fo_61_10) ?_
   refine sp (OpV.loadBox rfl pt_3 mq4 rfl) ?_
   refine sp (OpV.neq rfl rfl) ?_
   refine hkz2 _ ?_ ?_
   exact rfl
   repeat (first | exact Sub.refl _ | refine Sub.skip rfl ?_)
  case az2 => exact rfl
  case bz2 => exact rfl
  case cz2 => exact rfl
  case dz2 => exact rfl
  refine WL.nil (En.next ?_)
  refine WC.cond rfl ?_ ?_
  ·
   intro hc_2
   replace h := ifO_t hc_2 h
   obtain ⟨x6_5, e6_5, h⟩ := bnd h
   refine WC.region ?_
   refine sp (OpV.loadAll rfl mq1 ag_107) ?_
   refine sp (OpV.fieldAddr rfl fo_61_9) ?_
   refine sp (OpV.loadBox rfl pt_3 mq4 rfl) ?_
   refine sp (OpV.fieldAddr rfl fo_61_10) ?_
   refine sp (OpV.loadBox rfl pt_3 mq4 rfl) ?_
   refine WL.heavy rfl rfl rfl (OpH.callR (ec rfl (ec rfl (ec rfl e0))) ca_160 (fun w hs => w_impl_Scaled e6_5 (Ow.rd (hs.mem mq0))) ?_)
   rintro _ _ ⟨a6_500, n6_500, c6_500, f6_500, rfl, rfl⟩
   refine WL.heavy0 rfl rfl (OpH.storeTo (A := [_, _]) [_, _, _] rfl rfl rfl ts_107 rfl rfl rfl ?_)
   refine WL.nil (En.next (WC.seq (WC.seq ?_)))
   obtain ⟨q7_6, e7_6, h⟩ := bnd h
   refine WC.region ?_
   refine mv ?_
   refine sp (OpV.not rfl) ?_
   refine mv ?_
   refine Lt.ofWL.orQ 48 52 51 (p := ?pz3) (rest := ?qz3) (B := q7_6) rfl (fun hz => orO_t e7_6 hz) ?Tz3 ?Fz3 ?az3 ?bz3 ?cz3 ?dz3 ?ez3
   case Tz3 =>
    intro hcz3 hkz3
    refine sk ?_
    refine sk ?_
    refine sk ?_
    refine hkz3 _ ?_
    repeat (first | exact Sub.refl _ | refine Sub.skip rfl ?_)
   case Fz3 =>
    intro hcz3 hkz3
    have hqz3 := orO_f e7_6 hcz3
    obtain ⟨x7_4, e7_4, hqz3⟩ := bnd hqz3
    obtain rfl := Option.some.inj hqz3
    refine sp (OpV.loadAll rfl mq2 ag_107) ?_
    refine sp (OpV.call (ec rfl e0) ca_161 (fun w hs => w_impl_ImageOk e7_4 (Ow.rd (hs.mem mq0)))) ?_
    refine sp (OpV.not rfl) ?_
    refine hkz3 _ ?_ ?_
    exact rfl
    repeat (first | exact Sub.refl _ | refine Sub.skip rfl ?_)
   case az3 => exact rfl
   case bz3 => exact rfl
   case cz3 => exact rfl
   case dz3 => exact rfl
   refine WL.nil (En.next ?_)
   refine WC.cond rfl ?_ ?_
   ·
    intro hc_3
    replace h := ifO_t hc_3 h
    refine WC.sr ?_
    refine sp (OpV.build (evps.nil) bd_107_) ?_
    refine WL.heavy0 rfl rfl (OpH.storeTo (A := [_, _, _, _]) [_, _, _] rfl rfl rfl ts_107 rfl rfl rfl ?_)
    refine ag ?_
    refine WL.nil (En.next (WC.ret (En.then_ret ?_)))
    refine En.ret2 rfl (Res.cell rfl mq4 ag_107) (Res.tmp rfl) ?_
    obtain rfl := Option.some.inj h
    intro w' hs
    have hs := ((hs).ownNil (A := tInt)).sub (.cons_cons _ (.cons _ (.cons _ (.cons _ (.cons _ (.cons _ (.cons _ (.slnil))))))))
    exact ⟨_, _, rfl, ⟨.none, 0, 0, [], rfl, rfl⟩, hs⟩
   ·
    intro hc_3
    replace h := ifO_f hc_3 h
    refine WC.skip (En.next (WC.seq ?_))
    obtain ⟨⟨x9_3a, x9_3b⟩, e9_3, h⟩ := bnd h
    refine WC.region ?_
    refine sp (OpV.loadAll rfl mq2 ag_107) ?_
    refine sp (OpV.fieldAddr rfl fo_61_7) ?_
    refine sp (OpV.loadBox rfl pt_3 mq5 rfl) ?_
    refine WL.heavy rfl rfl rfl (OpH.callX (ec rfl (ec rfl e0)) ca_162 (fun w hs => w_impl_faded e9_3 hs) ?_)
    rintro _ _ ⟨g9_300, rfl, rfl⟩
    refine WL.heavy0 rfl rfl (OpH.storeTo (A := [_, _, _, _]) [_, _, _] rfl rfl rfl ts_107 rfl rfl rfl ?_)
    refine ag ?_
    refine WL.nil (En.next (WC.ret ?_))
    refine En.ret2 rfl (Res.cell rfl mq4 ag_107) (Res.tmp rfl) ?_
    obtain rfl := Option.some.inj h
    intro w' hs
    have hs := (hs).sub (.cons_cons _ (.cons _ (.cons _ (.cons _ (.cons _ (.cons _ (.slnil)))))))
    exact ⟨_, _, rfl, ⟨a6_500, n6_500, c6_500, g9_300, rfl, rfl⟩, hs⟩
  ·
   intro hc_2
   replace h := ifO_f hc_2 h
   refine WC.skip (En.next (WC.seq (WC.seq ?_)))
   obtain ⟨q7_6, e7_6, h⟩ := bnd h
   refine WC.region ?_
   refine mv ?_
   refine sp (OpV.not rfl) ?_
   refine mv ?_
   refine Lt.ofWL.orQ 48 52 51 (p := ?pz4) (rest := ?qz4) (B := q7_6) rfl (fun hz => orO_t e7_6 hz) ?Tz4 ?Fz4 ?az4 ?bz4 ?cz4 ?dz4 ?ez4
   case Tz4 =>
    intro hcz4 hkz4
    refine sk ?_
    refine sk ?_
    refine sk ?_
    refine hkz4 _ ?_
    repeat (first | exact Sub.refl _ | refine Sub.skip rfl ?_)
   case Fz4 =>
    intro hcz4 hkz4
    have hqz4 := orO_f e7_6 hcz4
    obtain ⟨x7_4, e7_4, hqz4⟩ := bnd hqz4
    obtain rfl := Option.some.inj hqz4
    refine sp (OpV.loadAll rfl mq1 ag_107) ?_
    refine sp (OpV.call (ec rfl e0) ca_161 (fun w hs => w_impl_ImageOk e7_4 (Ow.rd (hs.mem mq0)))) ?_
    refine sp (OpV.not rfl) ?_
    refine hkz4 _ ?_ ?_
    exact rfl
    repeat (first | exact Sub.refl _ | refine Sub.skip rfl ?_)
   case az4 => exact rfl
   case bz4 => exact rfl
   case cz4 => exact rfl
   case dz4 => exact rfl
   refine WL.nil (En.next ?_)
   refine WC.cond rfl ?_ ?_
   ·
    intro hc_4
    replace h := ifO_t hc_4 h
    refine WC.sr ?_
    refine sp (OpV.build (evps.nil) bd_107_) ?_
    refine WL.heavy0 rfl rfl (OpH.storeTo (A := [_, _, _]) [_, _, _] rfl rfl rfl ts_107 rfl rfl rfl ?_)
    refine ag ?_
    refine WL.nil (En.next (WC.ret (En.then_ret ?_)))
    refine En.ret2 rfl (Res.cell rfl mq3 ag_107) (Res.tmp rfl) ?_
    obtain rfl := Option.some.inj h
    intro w' hs
    have hs := ((hs).ownNil (A := tInt)).sub (.cons_cons _ (.cons _ (.cons _ (.cons _ (.cons _ (.cons _ (.slnil)))))))
    exact ⟨_, _, rfl, ⟨.none, 0, 0, [], rfl, rfl⟩, hs⟩
   ·
    intro hc_4
    replace h := ifO_f hc_4 h
    refine WC.skip (En.next (WC.seq ?_))
    obtain ⟨⟨x9_3a, x9_3b⟩, e9_3, h⟩ := bnd h
    refine WC.region ?_
    refine sp (OpV.loadAll rfl mq1 ag_107) ?_
    refine sp (OpV.fieldAddr rfl fo_61_7) ?_
    refine sp (OpV.loadBox rfl pt_3 mq4 rfl) ?_
    refine WL.heavy rfl rfl rfl (OpH.callX (ec rfl (ec rfl e0)) ca_162 (fun w hs => w_impl_faded e9_3 hs) ?_)
    rintro _ _ ⟨g9_300, rfl, rfl⟩
    refine WL.heavy0 rfl rfl (OpH.storeTo (A := [_, _, _]) [_, _, _] rfl rfl rfl ts_107 rfl rfl rfl ?_)
    refine ag ?_
    refine WL.nil (En.next (WC.ret ?_))
    refine En.ret2 rfl (Res.cell rfl mq3 ag_107) (Res.tmp rfl) ?_
    obtain rfl := Option.some.inj h
    intro w' hs
    have hs := (hs).sub (.cons_cons _ (.cons _ (.cons _ (.cons _ (.cons _ (.slnil))))))
    exact ⟨_, _, rfl, ⟨a4_300, n4_300, c4_300, g9_300, rfl, rfl⟩, hs⟩

theorem w_slices_IndexFunc_S_int_int {s_p0 : List Int} {f_p1 : Int → Option Bool} {r : Int} {q0_0 : Option Addr} {l0_0 k0_0 : Nat} {fv1 : Value} (h : slices_IndexFunc_S_int_int s_p0 f_p1 = some r) {w : World} (r0_0 : Rd tInt w q0_0 l0_0 k0_0 s_p0)  (hF1 : ∀ {y0 : Int} {r1 : Bool}  {w1 : World}, Ext w w1 → f_p1 y0 = some r1 → CallsV Tryz.prog fv1 [.int .i64 y0] w1 (fun en w2 => en = .returned (.bool r1) ∧ Ext w1 w2)) :
    Calls Tryz.prog 163 #[.slice q0_0 l0_0 k0_0, fv1] w (fun en w' => en = .returned (.int .i64 r) ∧ Ext w w') := by
 obtain rfl := r0_0.1
 unfold slices_IndexFunc_S_int_int at h
 refine enter (vs := [_, _]) Tryz.func163 rfl rfl rfl rfl ?_
 refine WC.sr ?_
 refine ag ?_
 refine WL.nil (En.next (WC.seq (WC.sr ?_)))
 refine mv ?_
 refine sp (OpV.len rfl si_23 rfl) ?_
 refine mv ?_
 refine WL.nil (En.next (WC.block ?_))
 obtain ⟨zy0, ezy0, h⟩ := bnd h
 refine WC.cut (X := (Unit) × (Unit)) (.exit 0) (fun x => zy0 = .inl x.1) (fun x => match x with | ((), ()) => []) (fun x => match x with | ((), ()) => []) ?_ ?_
 ·
  rintro ⟨⟨⟩, ⟨⟩⟩ hx
  replace hx : .inl () = zy0 := hx.symm
  subst hx
  replace h := fork_l h
  show En _ _ _ _ [] []
  refine En.block_exit (En.next (WC.sr ?_))
  refine ag ?_
  refine WL.nil (En.next (WC.ret ?_))
  refine En.ret1 rfl (Res.tmp rfl) ?_
  obtain rfl := Option.some.inj h
  intro w' hs
  exact ⟨rfl, hs.below⟩
 ·
  intro zK0_0
  refine WC.loopP (G := Unit) (fun s g => match s, g with | v_0, () => [(0, .slice q0_0 s_p0.length k0_0), (1, fv1), (7, .int .i64 (s_p0.length : Int)), (8, .int .i64 v_0)]) (fun s g => match s, g with | v_0, () => []) 0 () ezy0 (by exact sc (sc (sc (sc sn)))) (by exact (fun _ h => h)) ?_
  rintro zm0 v_0 ⟨⟩ zo0 zf0 zb0 ze0
  have zh0 : slices_IndexFunc_S_int_int_L0 s_p0 f_p1 v_0 = some zo0 := zf0
  unfold slices_IndexFunc_S_int_int_L0 at zh0
  show WC _ _ _ _ _ [(0, .slice q0_0 s_p0.length k0_0), (1, fv1), (7, .int .i64 (s_p0.length : Int)), (8, .int .i64 v_0)] []
  refine WC.sr ?_
  refine sp (OpV.lss rfl rfl) ?_
  refine WL.nil (En.next (WC.seq ?_))
  refine WC.cond rfl ?_ ?_
  ·
   intro hc_1
   replace zh0 := ifO_t hc_1 zh0
   refine WC.skip (En.next (WC.seq (WC.block (WC.sr ?_))))
   refine mv ?_
   refine ag ?_
   refine WL.nil (En.next (WC.seq ?_))
   obtain ⟨x4_3, e4_3, zh0⟩ := bnd zh0
   obtain ⟨g4_3, o4_3, _, ha4_3, rfl, hd4_3⟩ := Rd.atIdx r0_0 e4_3
   replace hd4_3 : ∀ (j : Nat) v, ([.int .i64 x4_3] : List Value)[j]? = some v → w.cell? ⟨g4_3, o4_3 + v_0.toNat * 1 + j, .none⟩ = some v := hd4_3
   obtain ⟨x4_5, e4_5, zh0⟩ := bnd zh0
   refine WC.region ?_
   refine mv ?_
   refine mv ?_
   refine mv ?_
   refine sp (OpV.idxA rfl rfl se_23 ha4_3 ⟨(idx_some e4_3).1, (idx_some e4_3).2.1⟩) ?_
   refine sp (OpV.load1 rfl pt_3 (fun w hs => hs.cell (hd4_3 0 _ rfl))) ?_
   refine sp (OpV.callV rfl (ec rfl e0) (fun w hs => hF1 hs.below e4_5)) ?_
   refine WL.nil (En.next ?_)
   refine WC.cond rfl ?_ ?_
   ·
    intro hc_2
    replace zh0 := ifO_t hc_2 zh0
    refine WC.sr ?_
    refine mv ?_
    refine ag ?_
    refine WL.nil (En.next (WC.ret (En.block_ret (En.then_ret (En.then_ret (En.block_ret (En.then_ret ?_)))))))
    refine En.ret1 rfl (Res.tmp rfl) ?_
    have hx := exitP ze0 zh0
    subst hx
    replace h := fork_r h
    obtain rfl := Option.some.inj h
    intro w' hs
    exact ⟨rfl, hs.below⟩
   ·
    intro hc_2
    replace zh0 := ifO_f hc_2 zh0
    refine WC.skip (En.block_norm (En.next (WC.region ?_)))
    refine sp (OpV.addR rfl rfl) ?_
    refine mv ?_
    refine WL.nil ?_
    exact En.backP zb0 zh0 () (sc (sc (sc (sc sn)))) (fun _ h => h)
  ·
   intro hc_1
   replace zh0 := ifO_f hc_1 zh0
   refine WC.exit (En.then_exit (En.then_exit ?_))
   have hx := exitP ze0 zh0
   exact En.wk _ _ sn (fun _ h => h) (zK0_0 ((), ()) hx.symm)

theorem w_slices_ContainsFunc_S_int_int {s_p0 : List Int} {f_p1 : Int → Option Bool} {r : Bool} {q0_0 : Option Addr} {l0_0 k0_0 : Nat} {fv1 : Value} (h : slices_ContainsFunc_S_int_int s_p0 f_p1 = some r) {w : World} (r0_0 : Rd tInt w q0_0 l0_0 k0_0 s_p0)  (hF1 : ∀ {y0 : Int} {r1 : Bool}  {w1 : World}, Ext w w1 → f_p1 y0 = some r1 → CallsV Tryz.prog fv1 [.int .i64 y0] w1 (fun en w2 => en = .returned (.bool r1) ∧ Ext w1 w2)) :
    Calls Tryz.prog 151 #[.slice q0_0 l0_0 k0_0, fv1] w (fun en w' => en = .returned (.bool r) ∧ Ext w w') := by
 obtain rfl := r0_0.1
 unfold slices_ContainsFunc_S_int_int at h
 refine enter (vs := [_, _]) Tryz.func151 rfl rfl rfl rfl ?_
 refine WC.sr ?_
 refine ag ?_
 refine WL.nil (En.next (WC.seq ?_))
 obtain ⟨x1_2, e1_2, h⟩ := bnd h
 refine WC.region ?_
 refine mv ?_
 refine mv ?_
 refine sp (OpV.call (ec rfl (ec rfl e0)) ca_163 (fun w hs => w_slices_IndexFunc_S_int_int e1_2 (r0_0.ext hs.below) (fun hx he  => hF1 (Ext.trans hs.below hx) he ))) ?_
 refine sp (OpV.geq rfl rfl) ?_
 refine ag ?_
 refine WL.nil (En.next (WC.ret ?_))
 refine En.ret1 rfl (Res.tmp rfl) ?_
 obtain rfl := Option.some.inj h
 intro w' hs
 exact ⟨rfl, hs.below⟩

theorem w_impl_isOpaquePixel {p_p0 : Int} {r : Bool}  (h : impl_isOpaquePixel p_p0 = some r) {w : World}    :
    Calls Tryz.prog 153 #[.int .i64 p_p0] w (fun en w' => en = .returned (.bool r) ∧ Ext w w') := by
 unfold impl_isOpaquePixel at h
 refine enter (vs := [_]) Tryz.func153 rfl rfl rfl rfl ?_
 refine WC.sr ?_
 refine ag ?_
 refine WL.nil (En.next (WC.seq ?_))
 obtain ⟨x1_1, e1_1, h⟩ := bnd h
 obtain ⟨q1_6, e1_6, h⟩ := bnd h
 refine WC.region ?_
 refine mv ?_
 refine sp (OpV.call (ec rfl e0) ca_164 (fun w hs => w_impl_isPixel e1_1)) ?_
 refine mv ?_
 refine Lt.ofWL.andQ 5 9 8 (p := ?pz1) (rest := ?qz1) (B := q1_6) rfl (fun hz => andO_f e1_6 hz) ?Tz1 ?Fz1 ?az1 ?bz1 ?cz1 ?dz1 ?ez1
 case Tz1 =>
  intro hcz1 hkz1
  have hqz1 := andO_t e1_6 hcz1
  obtain ⟨x1_4, e1_4, hqz1⟩ := bnd hqz1
  obtain rfl := Option.some.inj hqz1
  refine mv ?_
  refine sp (OpV.call (ec rfl (ec rfl e0)) ca_165 (fun w hs => w_impl_channel e1_4)) ?_
  refine sp (OpV.eql rfl rfl) ?_
  refine hkz1 _ ?_ ?_
  exact rfl
  repeat (first | exact Sub.refl _ | refine Sub.skip rfl ?_)
 case Fz1 =>
  intro hcz1 hkz1
  refine sk ?_
  refine sk ?_
  refine sk ?_
  refine hkz1 _ ?_
  repeat (first | exact Sub.refl _ | refine Sub.skip rfl ?_)
 case az1 => exact rfl
 case bz1 => exact rfl
 case cz1 => exact rfl
 case dz1 => exact rfl
 refine ag ?_
 refine WL.nil (En.next (WC.ret ?_))
 refine En.ret1 rfl (Res.tmp rfl) ?_
 obtain rfl := Option.some.inj h
 intro w' hs
 exact ⟨rfl, hs.below⟩

theorem w_impl_PlaneOk_1 {p_p0 : Int} {r : Bool}  (h : impl_PlaneOk_1 p_p0 = some r) {w : World}    :
    Calls Tryz.prog 152 #[.int .i64 p_p0] w (fun en w' => en = .returned (.bool r) ∧ Ext w w') := by
 unfold impl_PlaneOk_1 at h
 refine enter (vs := [_]) Tryz.func152 rfl rfl rfl rfl ?_
 refine WC.sr ?_
 refine ag ?_
 refine WL.nil (En.next (WC.seq ?_))
 obtain ⟨x1_1, e1_1, h⟩ := bnd h
 refine WC.region ?_
 refine mv ?_
 refine sp (OpV.call (ec rfl e0) ca_153 (fun w hs => w_impl_isOpaquePixel e1_1)) ?_
 refine sp (OpV.not rfl) ?_
 refine ag ?_
 refine WL.nil (En.next (WC.ret ?_))
 refine En.ret1 rfl (Res.tmp rfl) ?_
 obtain rfl := Option.some.inj h
 intro w' hs
 exact ⟨rfl, hs.below⟩

theorem w_impl_PlaneOk {a_p0 : Int} {a_p1 : PlaneT} {a_p2 : Int} {a_p3 : Int} {r : Bool} {q1_0 : Option Addr} {l1_0 k1_0 : Nat} (h : impl_PlaneOk a_p0 a_p1 a_p2 a_p3 = some r) {w : World} (r1_0 : Rd tInt w q1_0 l1_0 k1_0 a_p1.Words)   :
    Calls Tryz.prog 132 #[.int .i64 a_p0, .agg #[.bool a_p1.On, .int .i64 a_p1.X, .int .i64 a_p1.Y, .int .i64 a_p1.W, .int .i64 a_p1.H, .int .i64 a_p1.Layout, .slice q1_0 l1_0 k1_0, .int .i64 a_p1.Alpha, .int .i64 a_p1.Orient, .int .i64 a_p1.ToW, .int .i64 a_p1.ToH], .int .i64 a_p2, .int .i64 a_p3] w (fun en w' => en = .returned (.bool r) ∧ Ext w w') := by
 obtain rfl := r1_0.1
 unfold impl_PlaneOk at h
 refine enter (vs := [_, _, _, _]) Tryz.func132 rfl rfl rfl rfl ?_
 refine WC.sr ?_
 refine WL.heavy rfl rfl rfl (OpH.box rfl rfl ?_)
 intro b0_0
 refine ag ?_
 refine WL.nil (En.next (WC.seq (WC.seq ?_)))
 obtain ⟨x1_1, e1_1, h⟩ := bnd h
 obtain ⟨q1_7, e1_7, h⟩ := bnd h
 obtain ⟨q1_12, e1_12, h⟩ := bnd h
 refine WC.region ?_
 refine mv ?_
 refine sp (OpV.call (ec rfl (ec rfl (ec rfl e0))) ca_67 (fun w hs => w_impl_within e1_1)) ?_
 refine sp (OpV.not rfl) ?_
 refine mv ?_
 refine Lt.ofWL.orQ 15 19 18 (p := ?pz1) (rest := ?qz1) (B := q1_7) rfl (fun hz => orO_t e1_7 hz) ?Tz1 ?Fz1 ?az1 ?bz1 ?cz1 ?dz1 ?ez1
 case Tz1 =>
  intro hcz1 hkz1
  refine sk ?_
  refine sk ?_
  refine sk ?_
  refine hkz1 _ ?_
  repeat (first | exact Sub.refl _ | refine Sub.skip rfl ?_)
 case Fz1 =>
  intro hcz1 hkz1
  have hqz1 := orO_f e1_7 hcz1
  obtain ⟨x1_5, e1_5, hqz1⟩ := bnd hqz1
  obtain rfl := Option.some.inj hqz1
  refine mv ?_
  refine sp (OpV.call (ec rfl e0) ca_149 (fun w hs => w_impl_isSide e1_5)) ?_
  refine sp (OpV.not rfl) ?_
  refine hkz1 _ ?_ ?_
  exact rfl
  repeat (first | exact Sub.refl _ | refine Sub.skip rfl ?_)
 case az1 => exact rfl
 case bz1 => exact rfl
 case cz1 => exact rfl
 case dz1 => exact rfl
 refine mv ?_
 refine Lt.ofWL.orQ 20 24 23 (p := ?pz2) (rest := ?qz2) (B := q1_12) rfl (fun hz => orO_t e1_12 hz) ?Tz2 ?Fz2 ?az2 ?bz2 ?cz2 ?dz2 ?ez2
 case Tz2 =>
  intro hcz2 hkz2
  refine sk ?_
  refine sk ?_
  refine sk ?_
  refine hkz2 _ ?_
  repeat (first | exact Sub.refl _ | refine Sub.skip rfl ?_)
 case Fz2 =>
  intro hcz2 hkz2
  have hqz2 := orO_f e1_12 hcz2
  obtain ⟨x1_10, e1_10, hqz2⟩ := bnd hqz2
  obtain rfl := Option.some.inj hqz2
  refine mv ?_
  refine sp (OpV.call (ec rfl e0) ca_149 (fun w hs => w_impl_isSide e1_10)) ?_
  refine sp (OpV.not rfl) ?_
  refine hkz2 _ ?_ ?_
  exact rfl
  repeat (first | exact Sub.refl _ | refine Sub.skip rfl ?_)
 case az2 => exact rfl
 case bz2 => exact rfl
 case cz2 => exact rfl
 case dz2 => exact rfl
 refine WL.nil (En.next ?_)
 refine WC.cond rfl ?_ ?_
 ·
  intro hc_1
  replace h := ifO_t hc_1 h
  refine WC.sr ?_
  refine ag ?_
  refine WL.nil (En.next (WC.ret (En.then_ret ?_)))
  refine En.ret1 rfl (Res.tmp rfl) ?_
  obtain rfl := Option.some.inj h
  intro w' hs
  exact ⟨rfl, hs.below⟩
 ·
  intro hc_1
  replace h := ifO_f hc_1 h
  refine WC.skip (En.next (WC.seq (WC.sr ?_)))
  refine sp (OpV.fieldAddr rfl fo_61_0) ?_
  refine sp (OpV.loadBox rfl pt_4 mq0 rfl) ?_
  refine sp (OpV.not rfl) ?_
  refine WL.nil (En.next ?_)
  refine WC.cond rfl ?_ ?_
  ·
   intro hc_2
   replace h := ifO_t hc_2 h
   refine WC.seq ?_
   obtain ⟨q4_6, e4_6, h⟩ := bnd h
   refine WC.region ?_
   refine mv ?_
   refine sp (OpV.neq rfl rfl) ?_
   refine mv ?_
   refine Lt.ofWL.andQ 30 34 33 (p := ?pz3) (rest := ?qz3) (B := q4_6) rfl (fun hz => andO_f e4_6 hz) ?Tz3 ?Fz3 ?az3 ?bz3 ?cz3 ?dz3 ?ez3
   case Tz3 =>
    intro hcz3 hkz3
    have hqz3 := andO_t e4_6 hcz3
    obtain ⟨x4_5, e4_5, hqz3⟩ := bnd hqz3
    obtain rfl := Option.some.inj hqz3
    refine sp (OpV.loadAll rfl mq0 ag_61) ?_
    refine sp (OpV.build (evps.nil) bd_61_) ?_
    refine sp (OpV.call (ec rfl (ec rfl e0)) ca_77 (fun w hs => w_impl_samePlane e4_5 (r1_0.ext hs.below) (Rd.nil _))) ?_
    refine hkz3 _ ?_ ?_
    exact rfl
    repeat (first | exact Sub.refl _ | refine Sub.skip rfl ?_)
   case Fz3 =>
    intro hcz3 hkz3
    refine sk ?_
    refine sk ?_
    refine sk ?_
    refine hkz3 _ ?_
    repeat (first | exact Sub.refl _ | refine Sub.skip rfl ?_)
   case az3 => exact rfl
   case bz3 => exact rfl
   case cz3 => exact rfl
   case dz3 => exact rfl
   refine ag ?_
   refine WL.nil (En.next (WC.ret (En.then_ret ?_)))
   refine En.ret1 rfl (Res.tmp rfl) ?_
   obtain rfl := Option.some.inj h
   intro w' hs
   exact ⟨rfl, hs.below⟩
  ·
   intro hc_2
   replace h := ifO_f hc_2 h
   refine WC.skip (En.next (WC.seq ?_))
   obtain ⟨⟨x5_1a, x5_1b⟩, e5_1, h⟩ := bnd h
   refine WC.region ?_
   refine sp (OpV.loadAll rfl mq0 ag_61) ?_
   refine WL.heavy rfl rfl rfl (OpH.callR (ec rfl e0) ca_150 (fun w hs => w_impl_PlaneImage e5_1 (r1_0.ext hs.below)) ?_)
   rintro _ _ ⟨a5_100, n5_100, c5_100, f5_100, rfl, rfl⟩
   refine mv ?_
   refine sp (OpV.extract rfl rfl) ?_
   refine sp (OpV.extract rfl rfl) ?_
   refine WL.heavy rfl rfl rfl (OpH.alloc zc_107 ?_)
   intro b5_5
   refine WL.heavy0 rfl rfl (OpH.storeTo (A := []) [_, _, _] rfl rfl rfl ts_107 rfl rfl rfl ?_)
   refine ag ?_
   refine WL.nil (En.next (WC.seq (WC.seq ?_)))
   obtain ⟨q6_7, e6_7, h⟩ := bnd h
   obtain ⟨q6_13, e6_13, h⟩ := bnd h
   refine WC.region ?_
   refine mv ?_
   refine sp (OpV.not rfl) ?_
   refine mv ?_
   refine Lt.ofWL.orQ 42 47 46 (p := ?pz4) (rest := ?qz4) (B := q6_7) rfl (fun hz => orO_t e6_7 hz) ?Tz4 ?Fz4 ?az4 ?bz4 ?cz4 ?dz4 ?ez4
   case Tz4 =>
    intro hcz4 hkz4
    refine sk ?_
    refine sk ?_
    refine sk ?_
    refine sk ?_
    refine hkz4 _ ?_
    repeat (first | exact Sub.refl _ | refine Sub.skip rfl ?_)
   case Fz4 =>
    intro hcz4 hkz4
    have hqz4 := orO_f e6_7 hcz4
    obtain ⟨x6_5, e6_5, hqz4⟩ := bnd hqz4
    obtain rfl := Option.some.inj hqz4
    refine sp (OpV.fieldAddr rfl fo_61_1) ?_
    refine sp (OpV.loadBox rfl pt_3 mq2 rfl) ?_
    refine sp (OpV.call (ec rfl (ec rfl (ec rfl e0))) ca_67 (fun w hs => w_impl_within e6_5)) ?_
    refine sp (OpV.not rfl) ?_
    refine hkz4 _ ?_ ?_
    exact rfl
    repeat (first | exact Sub.refl _ | refine Sub.skip rfl ?_)
   case az4 => exact rfl
   case bz4 => exact rfl
   case cz4 => exact rfl
   case dz4 => exact rfl
   refine mv ?_
   refine Lt.ofWL.orQ 48 53 52 (p := ?pz5) (rest := ?qz5) (B := q6_13) rfl (fun hz => orO_t e6_13 hz) ?Tz5 ?Fz5 ?az5 ?bz5 ?cz5 ?dz5 ?ez5
   case Tz5 =>
    intro hcz5 hkz5
    refine sk ?_
    refine sk ?_
    refine sk ?_
    refine sk ?_
    refine hkz5 _ ?_
    repeat (first | exact Sub.refl _ | refine Sub.skip rfl ?_)
   case Fz5 =>
    intro hcz5 hkz5
    have hqz5 := orO_f e6_13 hcz5
    obtain ⟨x6_11, e6_11, hqz5⟩ := bnd hqz5
    obtain rfl := Option.some.inj hqz5
    refine sp (OpV.fieldAddr rfl fo_61_2) ?_
    refine sp (OpV.loadBox rfl pt_3 mq2 rfl) ?_
    refine sp (OpV.call (ec rfl (ec rfl (ec rfl e0))) ca_67 (fun w hs => w_impl_within e6_11)) ?_
    refine sp (OpV.not rfl) ?_
    refine hkz5 _ ?_ ?_
    exact rfl
    repeat (first | exact Sub.refl _ | refine Sub.skip rfl ?_)
   case az5 => exact rfl
   case bz5 => exact rfl
   case cz5 => exact rfl
   case dz5 => exact rfl
   refine WL.nil (En.next ?_)
   refine WC.cond rfl ?_ ?_
   ·
    intro hc_3
    replace h := ifO_t hc_3 h
    refine WC.sr ?_
    refine ag ?_
    refine WL.nil (En.next (WC.ret (En.then_ret ?_)))
    refine En.ret1 rfl (Res.tmp rfl) ?_
    obtain rfl := Option.some.inj h
    intro w' hs
    exact ⟨rfl, hs.below⟩
   ·
    intro hc_3
    replace h := ifO_f hc_3 h
    refine WC.skip (En.next (WC.sr ?_))
    refine sp (OpV.fieldAddr rfl fo_61_8) ?_
    refine sp (OpV.loadBox rfl pt_3 mq2 rfl) ?_
    refine sp (OpV.eql rfl rfl) ?_
    refine mv ?_
    refine Lt.ofWL.and 57 61 60 (p := ?pz6) (rest := ?qz6) (B := ?Bz6) rfl ?Tz6 ?Fz6 ?az6 ?bz6 ?cz6 ?dz6 ?ez6
    case Tz6 =>
     intro hcz6 hkz6
     refine sp (OpV.fieldAddr rfl fo_61_9) ?_
     refine sp (OpV.loadBox rfl pt_3 mq2 rfl) ?_
     refine sp (OpV.eql rfl rfl) ?_
     refine hkz6 _ ?_ ?_
     exact rfl
     repeat (first | exact Sub.refl _ | refine Sub.skip rfl ?_)
    case Fz6 =>
     intro hcz6 hkz6
     refine sk ?_
     refine sk ?_
     refine sk ?_
     refine hkz6 _ ?_
     repeat (first | exact Sub.refl _ | refine Sub.skip rfl ?_)
    case az6 => exact rfl
    case bz6 => exact rfl
    case cz6 => exact rfl
    case dz6 => exact rfl
    refine mv ?_
    refine Lt.ofWL.and 62 66 65 (p := ?pz7) (rest := ?qz7) (B := ?Bz7) rfl ?Tz7 ?Fz7 ?az7 ?bz7 ?cz7 ?dz7 ?ez7
    case Tz7 =>
     intro hcz7 hkz7
     refine sp (OpV.fieldAddr rfl fo_61_10) ?_
     refine sp (OpV.loadBox rfl pt_3 mq2 rfl) ?_
     refine sp (OpV.eql rfl rfl) ?_
     refine hkz7 _ ?_ ?_
     exact rfl
     repeat (first | exact Sub.refl _ | refine Sub.skip rfl ?_)
    case Fz7 =>
     intro hcz7 hkz7
     refine sk ?_
     refine sk ?_
     refine sk ?_
     refine hkz7 _ ?_
     repeat (first | exact Sub.refl _ | refine Sub.skip rfl ?_)
    case az7 => exact rfl
    case bz7 => exact rfl
    case cz7 => exact rfl
    case dz7 => exact rfl
    refine mv ?_
    refine Lt.ofWL.and 67 71 70 (p := ?pz8) (rest := ?qz8) (B := ?Bz8) rfl ?Tz8 ?Fz8 ?az8 ?bz8 ?cz8 ?dz8 ?ez8
    case Tz8 =>
     intro hcz8 hkz8
     refine sp (OpV.fieldAddr rfl fo_61_7) ?_
     refine sp (OpV.loadBox rfl pt_3 mq2 rfl) ?_
     refine sp (OpV.eql rfl rfl) ?_
     refine hkz8 _ ?_ ?_
     exact rfl
     repeat (first | exact Sub.refl _ | refine Sub.skip rfl ?_)
    case Fz8 =>
     intro hcz8 hkz8
     refine sk ?_
     refine sk ?_
     refine sk ?_
     refine hkz8 _ ?_
     repeat (first | exact Sub.refl _ | refine Sub.skip rfl ?_)
    case az8 => exact rfl
    case bz8 => exact rfl
    case cz8 => exact rfl
    case dz8 => exact rfl
    refine ag ?_
    refine WL.nil (En.next (WC.seq (WC.sr ?_)))
    refine mv ?_
    refine WL.nil (En.next (WC.block (WC.sr ?_)))
    refine sp (OpV.eql rfl rfl) ?_
    refine ag ?_
    refine WL.nil (En.next ?_)
    refine WC.cond rfl ?_ ?_
    ·
     intro hc_4
     replace h := ifO_t hc_4 h
     refine WC.seq ?_
     obtain ⟨q11_28, e11_28, h⟩ := bnd h
     refine WC.region ?_
     refine mv ?_
     refine mv ?_
     refine Lt.ofWL.and 76 80 79 (p := ?pz9) (rest := ?qz9) (B := ?Bz9) rfl ?Tz9 ?Fz9 ?az9 ?bz9 ?cz9 ?dz9 ?ez9
     case Tz9 =>
      intro hcz9 hkz9
      refine sp (OpV.fieldAddr rfl fo_61_1) ?_
      refine sp (OpV.loadBox rfl pt_3 mq2 rfl) ?_
      refine sp (OpV.eql rfl rfl) ?_
      refine hkz9 _ ?_ ?_
      exact rfl
      repeat (first | exact Sub.refl _ | refine Sub.skip rfl ?_)
     case Fz9 =>
      intro hcz9 hkz9
      refine sk ?_
      refine sk ?_
      refine sk ?_
      refine hkz9 _ ?_
      repeat (first | exact Sub.refl _ | refine Sub.skip rfl ?_)
     case az9 => exact rfl
     case bz9 => exact rfl
     case cz9 => exact rfl
     case dz9 => exact rfl
     refine mv ?_
     refine Lt.ofWL.and 81 85 84 (p := ?pz10) (rest := ?qz10) (B := ?Bz10) rfl ?Tz10 ?Fz10 ?az10 ?bz10 ?cz10 ?dz10 ?ez10
     case Tz10 =>
      intro hcz10 hkz10
      refine sp (OpV.fieldAddr rfl fo_61_2) ?_
      refine sp (OpV.loadBox rfl pt_3 mq2 rfl) ?_
      refine sp (OpV.eql rfl rfl) ?_
      refine hkz10 _ ?_ ?_
      exact rfl
      repeat (first | exact Sub.refl _ | refine Sub.skip rfl ?_)
     case Fz10 =>
      intro hcz10 hkz10
      refine sk ?_
      refine sk ?_
      refine sk ?_
      refine hkz10 _ ?_
      repeat (first | exact Sub.refl _ | refine Sub.skip rfl ?_)
     case az10 => exact rfl
     case bz10 => exact rfl
     case cz10 => exact rfl
     case dz10 => exact rfl
     refine mv ?_
     refine Lt.ofWL.and 86 91 90 (p := ?pz11) (rest := ?qz11) (B := ?Bz11) rfl ?Tz11 ?Fz11 ?az11 ?bz11 ?cz11 ?dz11 ?ez11
     case Tz11 =>
      intro hcz11 hkz11
      refine sp (OpV.fieldAddr rfl fo_61_3) ?_
      refine sp (OpV.loadBox rfl pt_3 mq2 rfl) ?_
      refine mv ?_
      refine sp (OpV.eql rfl rfl) ?_
      refine hkz11 _ ?_ ?_
      exact rfl
      repeat (first | exact Sub.refl _ | refine Sub.skip rfl ?_)
     case Fz11 =>
      intro hcz11 hkz11
      refine sk ?_
      refine sk ?_
      refine sk ?_
      refine sk ?_
      refine hkz11 _ ?_
      repeat (first | exact Sub.refl _ | refine Sub.skip rfl ?_)
     case az11 => exact rfl
     case bz11 => exact rfl
     case cz11 => exact rfl
     case dz11 => exact rfl
     refine mv ?_
     refine Lt.ofWL.and 92 97 96 (p := ?pz12) (rest := ?qz12) (B := ?Bz12) rfl ?Tz12 ?Fz12 ?az12 ?bz12 ?cz12 ?dz12 ?ez12
     case Tz12 =>
      intro hcz12 hkz12
      refine sp (OpV.fieldAddr rfl fo_61_4) ?_
      refine sp (OpV.loadBox rfl pt_3 mq2 rfl) ?_
      refine mv ?_
      refine sp (OpV.eql rfl rfl) ?_
      refine hkz12 _ ?_ ?_
      exact rfl
      repeat (first | exact Sub.refl _ | refine Sub.skip rfl ?_)
     case Fz12 =>
      intro hcz12 hkz12
      refine sk ?_
      refine sk ?_
      refine sk ?_
      refine sk ?_
      refine hkz12 _ ?_
      repeat (first | exact Sub.refl _ | refine Sub.skip rfl ?_)
     case az12 => exact rfl
     case bz12 => exact rfl
     case cz12 => exact rfl
     case dz12 => exact rfl
     refine mv ?_
     refine Lt.ofWL.andQ 98 103 102 (p := ?pz13) (rest := ?qz13) (B := q11_28) rfl (fun hz => andO_f e11_28 hz) ?Tz13 ?Fz13 ?az13 ?bz13 ?cz13 ?dz13 ?ez13
     case Tz13 =>
      intro hcz13 hkz13
      have hqz13 := andO_t e11_28 hcz13
      obtain ⟨x11_26, e11_26, hqz13⟩ := bnd hqz13
      obtain rfl := Option.some.inj hqz13
      refine sp (OpV.fieldAddr rfl fo_107_2) ?_
      refine sp (OpV.loadBox rfl pt_23 mq0 rfl) ?_
      refine sp (OpV.call (ec rfl (ec rfl e0)) ca_151 (fun w hs => w_slices_ContainsFunc_S_int_int e11_26 (Ow.rd (hs.mem mq1)) (fun _ he  => CallsV.of ca_152 (w_impl_PlaneOk_1 he )))) ?_
      refine sp (OpV.not rfl) ?_
      refine hkz13 _ ?_ ?_
      exact rfl
      repeat (first | exact Sub.refl _ | refine Sub.skip rfl ?_)
     case Fz13 =>
      intro hcz13 hkz13
      refine sk ?_
      refine sk ?_
      refine sk ?_
      refine sk ?_
      refine hkz13 _ ?_
      repeat (first | exact Sub.refl _ | refine Sub.skip rfl ?_)
     case az13 => exact rfl
     case bz13 => exact rfl
     case cz13 => exact rfl
     case dz13 => exact rfl
     refine ag ?_
     refine WL.nil (En.next (WC.ret (En.block_ret (En.then_ret ?_))))
     refine En.ret1 rfl (Res.tmp rfl) ?_
     obtain rfl := Option.some.inj h
     intro w' hs
     exact ⟨rfl, hs.below⟩
    ·
     intro hc_4
     replace h := ifO_f hc_4 h
     refine WC.sr ?_
     refine sp (OpV.eql rfl rfl) ?_
     refine ag ?_
     refine WL.nil (En.next ?_)
     refine WC.cond rfl ?_ ?_
     ·
      intro hc_5
      replace h := ifO_t hc_5 h
      refine WC.sr ?_
      refine mv ?_
      refine mv ?_
      refine Lt.ofWL.and 107 111 110 (p := ?pz14) (rest := ?qz14) (B := ?Bz14) rfl ?Tz14 ?Fz14 ?az14 ?bz14 ?cz14 ?dz14 ?ez14
      case Tz14 =>
       intro hcz14 hkz14
       refine sp (OpV.fieldAddr rfl fo_61_3) ?_
       refine sp (OpV.loadBox rfl pt_3 mq2 rfl) ?_
       refine sp (OpV.leq rfl rfl) ?_
       refine hkz14 _ ?_ ?_
       exact rfl
       repeat (first | exact Sub.refl _ | refine Sub.skip rfl ?_)
      case Fz14 =>
       intro hcz14 hkz14
       refine sk ?_
       refine sk ?_
       refine sk ?_
       refine hkz14 _ ?_
       repeat (first | exact Sub.refl _ | refine Sub.skip rfl ?_)
      case az14 => exact rfl
      case bz14 => exact rfl
      case cz14 => exact rfl
      case dz14 => exact rfl
      refine mv ?_
      refine Lt.ofWL.and 112 116 115 (p := ?pz15) (rest := ?qz15) (B := ?Bz15) rfl ?Tz15 ?Fz15 ?az15 ?bz15 ?cz15 ?dz15 ?ez15
      case Tz15 =>
       intro hcz15 hkz15
       refine sp (OpV.fieldAddr rfl fo_61_4) ?_
       refine sp (OpV.loadBox rfl pt_3 mq2 rfl) ?_
       refine sp (OpV.leq rfl rfl) ?_
       refine hkz15 _ ?_ ?_
       exact rfl
       repeat (first | exact Sub.refl _ | refine Sub.skip rfl ?_)
      case Fz15 =>
       intro hcz15 hkz15
       refine sk ?_
       refine sk ?_
       refine sk ?_
       refine hkz15 _ ?_
       repeat (first | exact Sub.refl _ | refine Sub.skip rfl ?_)
      case az15 => exact rfl
      case bz15 => exact rfl
      case cz15 => exact rfl
      case dz15 => exact rfl
      refine ag ?_
      refine WL.nil (En.next (WC.ret (En.block_ret (En.then_ret ?_))))
      refine En.ret1 rfl (Res.tmp rfl) ?_
      obtain rfl := Option.some.inj h
      intro w' hs
      exact ⟨rfl, hs.below⟩
     ·
      intro hc_5
      replace h := ifO_f hc_5 h
      refine WC.skip (En.block_norm (En.next (WC.sr ?_)))
      refine ag ?_
      refine WL.nil (En.next (WC.ret ?_))
      refine En.ret1 rfl (Res.tmp rfl) ?_
      obtain rfl := Option.some.inj h
      intro w' hs
      exact ⟨rfl, hs.below⟩

theorem w_impl_PlanesOk {list_p0 : List PlaneT} {w_p1 : Int} {h_p2 : Int} {r : Bool} {q0_0 : Option Addr} {l0_0 k0_0 : Nat} (h : impl_PlanesOk list_p0 w_p1 h_p2 = some r) {w : World} (r0_0 : Rd tPlane w q0_0 l0_0 k0_0 list_p0)   :
    Calls Tryz.prog 115 #[.slice q0_0 l0_0 k0_0, .int .i64 w_p1, .int .i64 h_p2] w (fun en w' => en = .returned (.bool r) ∧ Ext w w') := by
 obtain rfl := r0_0.1
 unfold impl_PlanesOk at h
 refine enter (vs := [_, _, _]) Tryz.func115 rfl rfl rfl rfl ?_
 refine WC.sr ?_
 refine ag ?_
 refine WL.nil (En.next (WC.seq (WC.seq ?_)))
 obtain ⟨q1_16, e1_16, h⟩ := bnd h
 refine WC.region ?_
 refine mv ?_
 refine sp (OpV.len rfl si_36 rfl) ?_
 refine sp (OpV.neq rfl rfl) ?_
 refine mv ?_
 refine Lt.ofWL.orQ 12 25 24 (p := ?pz1) (rest := ?qz1) (B := q1_16) rfl (fun hz => orO_t e1_16 hz) ?Tz1 ?Fz1 ?az1 ?bz1 ?cz1 ?dz1 ?ez1
 case Tz1 =>
  intro hcz1 hkz1
  refine sk ?_
  refine sk ?_
  refine sk ?_
  refine sk ?_
  refine sk ?_
  refine sk ?_
  refine sk ?_
  refine sk ?_
  refine sk ?_
  refine sk ?_
  refine sk ?_
  refine sk ?_
  refine hkz1 _ ?_
  repeat (first | exact Sub.refl _ | refine Sub.skip rfl ?_)
 case Fz1 =>
  intro hcz1 hkz1
  have hqz1 := orO_f e1_16 hcz1
  obtain ⟨x1_5, e1_5, hqz1⟩ := bnd hqz1
  obtain ⟨g1_5, o1_5, _, ha1_5, ⟨a1_5_1, c1_5_1, rfl, r1_5_1⟩, hd1_5⟩ := Rd.atIdx r0_0 e1_5
  replace hd1_5 : ∀ (j : Nat) v, ([.bool x1_5.On, .int .i64 x1_5.X, .int .i64 x1_5.Y, .int .i64 x1_5.W, .int .i64 x1_5.H, .int .i64 x1_5.Layout, .slice a1_5_1 x1_5.Words.length c1_5_1, .int .i64 x1_5.Alpha, .int .i64 x1_5.Orient, .int .i64 x1_5.ToW, .int .i64 x1_5.ToH] : List Value)[j]? = some v → w.cell? ⟨g1_5, o1_5 + (Int.toNat 1) * 11 + j, .none⟩ = some v := hd1_5
  obtain ⟨q1_15, e1_15, hqz1⟩ := bnd hqz1
  obtain rfl := Option.some.inj hqz1
  refine mv ?_
  refine sp (OpV.idxA rfl rfl se_36 ha1_5 ⟨(idx_some e1_5).1, (idx_some e1_5).2.1⟩) ?_
  refine sp (OpV.fieldAddr rfl fo_61_9) ?_
  refine sp (OpV.load1 rfl pt_3 (fun w hs => hs.cell (hd1_5 9 _ rfl))) ?_
  refine sp (OpV.neq rfl rfl) ?_
  refine mv ?_
  refine Lt.ofWL.andQ 18 24 23 (p := ?pz2) (rest := ?qz2) (B := q1_15) rfl (fun hz => andO_f e1_15 hz) ?Tz2 ?Fz2 ?az2 ?bz2 ?cz2 ?dz2 ?ez2
  case Tz2 =>
   intro hcz2 hkz2
   have hqz2 := andO_t e1_15 hcz2
   obtain ⟨x1_11, e1_11, hqz2⟩ := bnd hqz2
   obtain ⟨g1_11, o1_11, _, ha1_11, ⟨a1_11_1, c1_11_1, rfl, r1_11_1⟩, hd1_11⟩ := Rd.atIdx r0_0 e1_11
   replace hd1_11 : ∀ (j : Nat) v, ([.bool x1_11.On, .int .i64 x1_11.X, .int .i64 x1_11.Y, .int .i64 x1_11.W, .int .i64 x1_11.H, .int .i64 x1_11.Layout, .slice a1_11_1 x1_11.Words.length c1_11_1, .int .i64 x1_11.Alpha, .int .i64 x1_11.Orient, .int .i64 x1_11.ToW, .int .i64 x1_11.ToH] : List Value)[j]? = some v → w.cell? ⟨g1_11, o1_11 + (Int.toNat 2) * 11 + j, .none⟩ = some v := hd1_11
   obtain rfl := Option.some.inj hqz2
   refine mv ?_
   refine sp (OpV.idxA rfl rfl se_36 ha1_11 ⟨(idx_some e1_11).1, (idx_some e1_11).2.1⟩) ?_
   refine sp (OpV.fieldAddr rfl fo_61_9) ?_
   refine sp (OpV.load1 rfl pt_3 (fun w hs => hs.cell (hd1_11 9 _ rfl))) ?_
   refine sp (OpV.neq rfl rfl) ?_
   refine hkz2 _ ?_ ?_
   exact rfl
   repeat (first | exact Sub.refl _ | refine Sub.skip rfl ?_)
  case Fz2 =>
   intro hcz2 hkz2
   refine sk ?_
   refine sk ?_
   refine sk ?_
   refine sk ?_
   refine sk ?_
   refine hkz2 _ ?_
   repeat (first | exact Sub.refl _ | refine Sub.skip rfl ?_)
  case az2 => exact rfl
  case bz2 => exact rfl
  case cz2 => exact rfl
  case dz2 => exact rfl
  refine hkz1 _ ?_ ?_
  exact rfl
  repeat (first | exact Sub.refl _ | refine Sub.skip rfl ?_)
 case az1 => exact rfl
 case bz1 => exact rfl
 case cz1 => exact rfl
 case dz1 => exact rfl
 refine WL.nil (En.next ?_)
 refine WC.cond rfl ?_ ?_
 ·
  intro hc_1
  replace h := ifO_t hc_1 h
  refine WC.sr ?_
  refine ag ?_
  refine WL.nil (En.next (WC.ret (En.then_ret ?_)))
  refine En.ret1 rfl (Res.tmp rfl) ?_
  obtain rfl := Option.some.inj h
  intro w' hs
  exact ⟨rfl, hs.below⟩
 ·
  intro hc_1
  replace h := ifO_f hc_1 h
  refine WC.skip (En.next (WC.seq (WC.sr ?_)))
  refine mv ?_
  refine sp (OpV.len rfl si_36 rfl) ?_
  refine mv ?_
  refine WL.nil (En.next (WC.block ?_))
  obtain ⟨zy0, ezy0, h⟩ := bnd h
  refine WC.cut (X := (Unit) × (Unit)) (.exit 0) (fun x => zy0 = .inl x.1) (fun x => match x with | ((), ()) => []) (fun x => match x with | ((), ()) => []) ?_ ?_
  ·
   rintro ⟨⟨⟩, ⟨⟩⟩ hx
   replace hx : .inl () = zy0 := hx.symm
   subst hx
   replace h := fork_l h
   show En _ _ _ _ [] []
   refine En.block_exit (En.next (WC.sr ?_))
   refine ag ?_
   refine WL.nil (En.next (WC.ret ?_))
   refine En.ret1 rfl (Res.tmp rfl) ?_
   obtain rfl := Option.some.inj h
   intro w' hs
   exact ⟨rfl, hs.below⟩
  ·
   intro zK0_0
   refine WC.loopP (G := Unit) (fun s g => match s, g with | v_0, () => [(1, .int .i64 w_p1), (2, .int .i64 h_p2), (26, .slice q0_0 list_p0.length k0_0), (27, .int .i64 (list_p0.length : Int)), (28, .int .i64 v_0)]) (fun s g => match s, g with | v_0, () => []) 0 () ezy0 (by exact sc (sc (sc (sc (sc sn))))) (by exact (fun _ h => h)) ?_
   rintro zm0 v_0 ⟨⟩ zo0 zf0 zb0 ze0
   have zh0 : impl_PlanesOk_L0 list_p0 w_p1 h_p2 v_0 = some zo0 := zf0
   unfold impl_PlanesOk_L0 at zh0
   show WC _ _ _ _ _ [(1, .int .i64 w_p1), (2, .int .i64 h_p2), (26, .slice q0_0 list_p0.length k0_0), (27, .int .i64 (list_p0.length : Int)), (28, .int .i64 v_0)] []
   refine WC.sr ?_
   refine sp (OpV.lss rfl rfl) ?_
   refine WL.nil (En.next (WC.seq ?_))
   refine WC.cond rfl ?_ ?_
   ·
    intro hc_2
    replace zh0 := ifO_t hc_2 zh0
    refine WC.skip (En.next (WC.seq (WC.block (WC.seq ?_))))
    obtain ⟨x5_1, e5_1, zh0⟩ := bnd zh0
    obtain ⟨g5_1, o5_1, _, ha5_1, ⟨a5_1_1, c5_1_1, rfl, r5_1_1⟩, hd5_1⟩ := Rd.atIdx r0_0 e5_1
    replace hd5_1 : ∀ (j : Nat) v, ([.bool x5_1.On, .int .i64 x5_1.X, .int .i64 x5_1.Y, .int .i64 x5_1.W, .int .i64 x5_1.H, .int .i64 x5_1.Layout, .slice a5_1_1 x5_1.Words.length c5_1_1, .int .i64 x5_1.Alpha, .int .i64 x5_1.Orient, .int .i64 x5_1.ToW, .int .i64 x5_1.ToH] : List Value)[j]? = some v → w.cell? ⟨g5_1, o5_1 + v_0.toNat * 11 + j, .none⟩ = some v := hd5_1
    refine WC.region ?_
    refine mv ?_
    refine sp (OpV.idxA rfl rfl se_36 ha5_1 ⟨(idx_some e5_1).1, (idx_some e5_1).2.1⟩) ?_
    refine sp (OpV.loadN rfl ag_61 rfl (fun w hs => hs.cellsAt hd5_1)) ?_
    refine WL.heavy rfl rfl rfl (OpH.alloc zc_61 ?_)
    intro b5_3
    refine ag ?_
    refine WL.heavy0 rfl rfl (OpH.storeTo (A := []) [_, _, _, _, _, _, _, _, _, _, _] rfl rfl rfl ts_61 rfl rfl rfl ?_)
    refine WL.nil (En.next (WC.seq ?_))
    obtain ⟨x6_4, e6_4, zh0⟩ := bnd zh0
    refine WC.region ?_
    refine mv ?_
    refine sp (OpV.loadAll rfl mq0 ag_61) ?_
    refine mv ?_
    refine mv ?_
    refine sp (OpV.call (ec rfl (ec rfl (ec rfl (ec rfl e0)))) ca_132 (fun w hs => w_impl_PlaneOk e6_4 (r5_1_1.ext hs.below))) ?_
    refine sp (OpV.not rfl) ?_
    refine WL.nil (En.next ?_)
    refine WC.cond rfl ?_ ?_
    ·
     intro hc_3
     replace zh0 := ifO_t hc_3 zh0
     refine WC.sr ?_
     refine ag ?_
     refine WL.nil (En.next (WC.ret (En.block_ret (En.then_ret (En.then_ret (En.block_ret (En.then_ret ?_)))))))
     refine En.ret1 rfl (Res.tmp rfl) ?_
     have hx := exitP ze0 zh0
     subst hx
     replace h := fork_r h
     obtain rfl := Option.some.inj h
     intro w' hs
     exact ⟨rfl, hs.below⟩
    ·
     intro hc_3
     replace zh0 := ifO_f hc_3 zh0
     refine WC.skip (En.block_norm (En.next (WC.region ?_)))
     refine sp (OpV.addR rfl rfl) ?_
     refine mv ?_
     refine WL.nil ?_
     exact En.backP zb0 zh0 () (sc (sc (sc (sc (sc sn))))) (fun _ h => (h).sub (.cons _ (.slnil)))
   ·
    intro hc_2
    replace zh0 := ifO_f hc_2 zh0
    refine WC.exit (En.then_exit (En.then_exit ?_))
    have hx := exitP ze0 zh0
    exact En.wk _ _ sn (fun _ h => h) (zK0_0 ((), ()) hx.symm)

theorem w_impl_ColorOk {m_p0 : ColorMapT} {r : Bool} {q0_0 : Option Addr} {l0_0 k0_0 : Nat} {q0_1 : Option Addr} {l0_1 k0_1 : Nat} (h : impl_ColorOk m_p0 = some r) {w : World} (r0_0 : Rd tInt w q0_0 l0_0 k0_0 m_p0.Matrix) (r0_1 : Rd tInt w q0_1 l0_1 k0_1 m_p0.Curve)   :
    Calls Tryz.prog 116 #[.agg #[.slice q0_0 l0_0 k0_0, .slice q0_1 l0_1 k0_1]] w (fun en w' => en = .returned (.bool r) ∧ Ext w w') := by
 obtain rfl := r0_0.1
 obtain rfl := r0_1.1
 unfold impl_ColorOk at h
 refine enter (vs := [_]) Tryz.func116 rfl rfl rfl rfl ?_
 refine WC.sr ?_
 refine WL.heavy rfl rfl rfl (OpH.box rfl rfl ?_)
 intro b0_0
 refine ag ?_
 refine WL.nil (En.next (WC.seq (WC.sr ?_)))
 refine sp (OpV.fieldAddr rfl fo_37_0) ?_
 refine sp (OpV.loadBox rfl pt_23 mq0 rfl) ?_
 refine sp (OpV.len rfl si_23 rfl) ?_
 refine mv ?_
 refine WL.nil (En.next (WC.block ?_))
 obtain ⟨zy0, ezy0, h⟩ := bnd h
 refine WC.cut (X := (Unit) × (Unit)) (.exit 0) (fun x => zy0 = .inl x.1) (fun x => match x with | ((), ()) => [(1, .pointer (some ⟨b0_0, 0, .none⟩))]) (fun x => match x with | ((), ()) => [Chunk.box b0_0 37 [.slice q0_0 m_p0.Matrix.length k0_0, .slice q0_1 m_p0.Curve.length k0_1]]) ?_ ?_
 ·
  rintro ⟨⟨⟩, ⟨⟩⟩ hx
  replace hx : .inl () = zy0 := hx.symm
  subst hx
  replace h := fork_l h
  show En _ _ _ _ [(1, .pointer (some ⟨b0_0, 0, .none⟩))] [Chunk.box b0_0 37 [.slice q0_0 m_p0.Matrix.length k0_0, .slice q0_1 m_p0.Curve.length k0_1]]
  refine En.block_exit (En.next (WC.seq (WC.sr ?_)))
  refine sp (OpV.fieldAddr rfl fo_37_1) ?_
  refine sp (OpV.loadBox rfl pt_23 mq0 rfl) ?_
  refine sp (OpV.len rfl si_23 rfl) ?_
  refine mv ?_
  refine WL.nil (En.next (WC.block ?_))
  obtain ⟨zy1, ezy1, h⟩ := bnd h
  refine WC.cut (X := (Unit) × (Unit)) (.exit 2) (fun x => zy1 = .inl x.1) (fun x => match x with | ((), ()) => [(1, .pointer (some ⟨b0_0, 0, .none⟩))]) (fun x => match x with | ((), ()) => [Chunk.box b0_0 37 [.slice q0_0 m_p0.Matrix.length k0_0, .slice q0_1 m_p0.Curve.length k0_1]]) ?_ ?_
  ·
   rintro ⟨⟨⟩, ⟨⟩⟩ hx
   replace hx : .inl () = zy1 := hx.symm
   subst hx
   replace h := fork_l h
   show En _ _ _ _ [(1, .pointer (some ⟨b0_0, 0, .none⟩))] [Chunk.box b0_0 37 [.slice q0_0 m_p0.Matrix.length k0_0, .slice q0_1 m_p0.Curve.length k0_1]]
   refine En.block_exit (En.next (WC.sr ?_))
   refine sp (OpV.fieldAddr rfl fo_37_0) ?_
   refine sp (OpV.loadBox rfl pt_23 mq0 rfl) ?_
   refine sp (OpV.len rfl si_23 rfl) ?_
   refine sp (OpV.eql rfl rfl) ?_
   refine mv ?_
   refine Lt.ofWL.and 33 38 37 (p := ?pz1) (rest := ?qz1) (B := ?Bz1) rfl ?Tz1 ?Fz1 ?az1 ?bz1 ?cz1 ?dz1 ?ez1
   case Tz1 =>
    intro hcz1 hkz1
    refine sp (OpV.fieldAddr rfl fo_37_1) ?_
    refine sp (OpV.loadBox rfl pt_23 mq0 rfl) ?_
    refine sp (OpV.len rfl si_23 rfl) ?_
    refine sp (OpV.eql rfl rfl) ?_
    refine hkz1 _ ?_ ?_
    exact rfl
    repeat (first | exact Sub.refl _ | refine Sub.skip rfl ?_)
   case Fz1 =>
    intro hcz1 hkz1
    refine sk ?_
    refine sk ?_
    refine sk ?_
    refine sk ?_
    refine hkz1 _ ?_
    repeat (first | exact Sub.refl _ | refine Sub.skip rfl ?_)
   case az1 => exact rfl
   case bz1 => exact rfl
   case cz1 => exact rfl
   case dz1 => exact rfl
   refine ag ?_
   refine WL.nil (En.next (WC.ret ?_))
   refine En.ret1 rfl (Res.tmp rfl) ?_
   obtain rfl := Option.some.inj h
   intro w' hs
   exact ⟨rfl, hs.below⟩
  ·
   intro zK1_0
   refine WC.loopP (G := Unit) (fun s g => match s, g with | v_1, () => [(1, .pointer (some ⟨b0_0, 0, .none⟩)), (19, .slice q0_1 m_p0.Curve.length k0_1), (20, .int .i64 (m_p0.Curve.length : Int)), (21, .int .i64 v_1)]) (fun s g => match s, g with | v_1, () => [Chunk.box b0_0 37 [.slice q0_0 m_p0.Matrix.length k0_0, .slice q0_1 m_p0.Curve.length k0_1]]) 0 () ezy1 (by exact sc (sc (sc (sc sn)))) (by exact (fun _ h => h)) ?_
   rintro zm1 v_1 ⟨⟩ zo1 zf1 zb1 ze1
   have zh1 : impl_ColorOk_L1 m_p0 v_1 = some zo1 := zf1
   unfold impl_ColorOk_L1 at zh1
   show WC _ _ _ _ _ [(1, .pointer (some ⟨b0_0, 0, .none⟩)), (19, .slice q0_1 m_p0.Curve.length k0_1), (20, .int .i64 (m_p0.Curve.length : Int)), (21, .int .i64 v_1)] [Chunk.box b0_0 37 [.slice q0_0 m_p0.Matrix.length k0_0, .slice q0_1 m_p0.Curve.length k0_1]]
   refine WC.sr ?_
   refine sp (OpV.lss rfl rfl) ?_
   refine WL.nil (En.next (WC.seq ?_))
   refine WC.cond rfl ?_ ?_
   ·
    intro hc_1
    replace zh1 := ifO_t hc_1 zh1
    refine WC.skip (En.next (WC.seq (WC.block (WC.seq ?_))))
    obtain ⟨x9_0, e9_0, zh1⟩ := bnd zh1
    obtain ⟨g9_0, o9_0, _, ha9_0, rfl, hd9_0⟩ := Rd.atIdx r0_1 e9_0
    replace hd9_0 : ∀ (j : Nat) v, ([.int .i64 x9_0] : List Value)[j]? = some v → w.cell? ⟨g9_0, o9_0 + v_1.toNat * 1 + j, .none⟩ = some v := hd9_0
    refine WC.region ?_
    refine sp (OpV.idxA rfl rfl se_23 ha9_0 ⟨(idx_some e9_0).1, (idx_some e9_0).2.1⟩) ?_
    refine sp (OpV.load1 rfl pt_3 (fun w hs => hs.cell (hd9_0 0 _ rfl))) ?_
    refine ag ?_
    refine WL.nil (En.next (WC.seq ?_))
    obtain ⟨x10_1, e10_1, zh1⟩ := bnd zh1
    refine WC.region ?_
    refine mv ?_
    refine sp (OpV.call (ec rfl (ec rfl (ec rfl e0))) ca_67 (fun w hs => w_impl_within e10_1)) ?_
    refine sp (OpV.not rfl) ?_
    refine WL.nil (En.next ?_)
    refine WC.cond rfl ?_ ?_
    ·
     intro hc_2
     replace zh1 := ifO_t hc_2 zh1
     refine WC.sr ?_
     refine ag ?_
     refine WL.nil (En.next (WC.ret (En.block_ret (En.then_ret (En.then_ret (En.block_ret (En.then_ret ?_)))))))
     refine En.ret1 rfl (Res.tmp rfl) ?_
     have hx := exitP ze1 zh1
     subst hx
     replace h := fork_r h
     obtain rfl := Option.some.inj h
     intro w' hs
     exact ⟨rfl, hs.below⟩
    ·
     intro hc_2
     replace zh1 := ifO_f hc_2 zh1
     refine WC.skip (En.block_norm (En.next (WC.region ?_)))
     refine sp (OpV.addR rfl rfl) ?_
     refine mv ?_
     refine WL.nil ?_
     exact En.backP zb1 zh1 () (sc (sc (sc (sc sn)))) (fun _ h => h)
   ·
    intro hc_1
    replace zh1 := ifO_f hc_1 zh1
    refine WC.exit (En.then_exit (En.then_exit ?_))
    have hx := exitP ze1 zh1
    exact En.wk _ _ (sc sn) (fun _ h => h) (zK1_0 ((), ()) hx.symm)
 ·
  intro zK0_0
  refine WC.loopP (G := Unit) (fun s g => match s, g with | v_0, () => [(1, .pointer (some ⟨b0_0, 0, .none⟩)), (8, .slice q0_0 m_p0.Matrix.length k0_0), (9, .int .i64 (m_p0.Matrix.length : Int)), (10, .int .i64 v_0)]) (fun s g => match s, g with | v_0, () => [Chunk.box b0_0 37 [.slice q0_0 m_p0.Matrix.length k0_0, .slice q0_1 m_p0.Curve.length k0_1]]) 0 () ezy0 (by exact sc (sc (sc (sc sn)))) (by exact (fun _ h => h)) ?_
  rintro zm0 v_0 ⟨⟩ zo0 zf0 zb0 ze0
  have zh0 : impl_ColorOk_L0 m_p0 v_0 = some zo0 := zf0
  unfold impl_ColorOk_L0 at zh0
  show WC _ _ _ _ _ [(1, .pointer (some ⟨b0_0, 0, .none⟩)), (8, .slice q0_0 m_p0.Matrix.length k0_0), (9, .int .i64 (m_p0.Matrix.length : Int)), (10, .int .i64 v_0)] [Chunk.box b0_0 37 [.slice q0_0 m_p0.Matrix.length k0_0, .slice q0_1 m_p0.Curve.length k0_1]]
  refine WC.sr ?_
  refine sp (OpV.lss rfl rfl) ?_
  refine WL.nil (En.next (WC.seq ?_))
  refine WC.cond rfl ?_ ?_
  ·
   intro hc_3
   replace zh0 := ifO_t hc_3 zh0
   refine WC.skip (En.next (WC.seq (WC.block (WC.seq ?_))))
   obtain ⟨x3_0, e3_0, zh0⟩ := bnd zh0
   obtain ⟨g3_0, o3_0, _, ha3_0, rfl, hd3_0⟩ := Rd.atIdx r0_0 e3_0
   replace hd3_0 : ∀ (j : Nat) v, ([.int .i64 x3_0] : List Value)[j]? = some v → w.cell? ⟨g3_0, o3_0 + v_0.toNat * 1 + j, .none⟩ = some v := hd3_0
   refine WC.region ?_
   refine sp (OpV.idxA rfl rfl se_23 ha3_0 ⟨(idx_some e3_0).1, (idx_some e3_0).2.1⟩) ?_
   refine sp (OpV.load1 rfl pt_3 (fun w hs => hs.cell (hd3_0 0 _ rfl))) ?_
   refine ag ?_
   refine WL.nil (En.next (WC.seq ?_))
   obtain ⟨x4_1, e4_1, zh0⟩ := bnd zh0
   refine WC.region ?_
   refine mv ?_
   refine sp (OpV.call (ec rfl (ec rfl (ec rfl e0))) ca_67 (fun w hs => w_impl_within e4_1)) ?_
   refine sp (OpV.not rfl) ?_
   refine WL.nil (En.next ?_)
   refine WC.cond rfl ?_ ?_
   ·
    intro hc_4
    replace zh0 := ifO_t hc_4 zh0
    refine WC.sr ?_
    refine ag ?_
    refine WL.nil (En.next (WC.ret (En.block_ret (En.then_ret (En.then_ret (En.block_ret (En.then_ret ?_)))))))
    refine En.ret1 rfl (Res.tmp rfl) ?_
    have hx := exitP ze0 zh0
    subst hx
    replace h := fork_r h
    obtain rfl := Option.some.inj h
    intro w' hs
    exact ⟨rfl, hs.below⟩
   ·
    intro hc_4
    replace zh0 := ifO_f hc_4 zh0
    refine WC.skip (En.block_norm (En.next (WC.region ?_)))
    refine sp (OpV.addR rfl rfl) ?_
    refine mv ?_
    refine WL.nil ?_
    exact En.backP zb0 zh0 () (sc (sc (sc (sc sn)))) (fun _ h => h)
  ·
   intro hc_3
   replace zh0 := ifO_f hc_3 zh0
   refine WC.exit (En.then_exit (En.then_exit ?_))
   have hx := exitP ze0 zh0
   exact En.wk _ _ (sc sn) (fun _ h => h) (zK0_0 ((), ()) hx.symm)

theorem w_impl_CrtcOk {c_p0 : CrtcT} {r : Bool} {q0_0 : Option Addr} {l0_0 k0_0 : Nat} {q0_1 : Option Addr} {l0_1 k0_1 : Nat} {q0_2 : Option Addr} {l0_2 k0_2 : Nat} (h : impl_CrtcOk c_p0 = some r) {w : World} (r0_0 : Rd tPlane w q0_0 l0_0 k0_0 c_p0.Planes) (r0_1 : Rd tInt w q0_1 l0_1 k0_1 c_p0.Color.Matrix) (r0_2 : Rd tInt w q0_2 l0_2 k0_2 c_p0.Color.Curve)   :
    Calls Tryz.prog 80 #[.agg #[.int .i64 c_p0.W, .int .i64 c_p0.H, .slice q0_0 l0_0 k0_0, .slice q0_1 l0_1 k0_1, .slice q0_2 l0_2 k0_2]] w (fun en w' => en = .returned (.bool r) ∧ Ext w w') := by
 obtain rfl := r0_0.1
 obtain rfl := r0_1.1
 obtain rfl := r0_2.1
 unfold impl_CrtcOk at h
 refine enter (vs := [_]) Tryz.func80 rfl rfl rfl rfl ?_
 refine WC.sr ?_
 refine WL.heavy rfl rfl rfl (OpH.box rfl rfl ?_)
 intro b0_0
 refine ag ?_
 refine WL.nil (En.next (WC.seq ?_))
 obtain ⟨x1_6, e1_6, h⟩ := bnd h
 obtain ⟨q1_11, e1_11, h⟩ := bnd h
 refine WC.region ?_
 refine sp (OpV.fieldAddr rfl fo_39_2) ?_
 refine sp (OpV.loadBox rfl pt_36 mq0 rfl) ?_
 refine sp (OpV.fieldAddr rfl fo_39_0) ?_
 refine sp (OpV.loadBox rfl pt_3 mq0 rfl) ?_
 refine sp (OpV.fieldAddr rfl fo_39_1) ?_
 refine sp (OpV.loadBox rfl pt_3 mq0 rfl) ?_
 refine sp (OpV.call (ec rfl (ec rfl (ec rfl e0))) ca_115 (fun w hs => w_impl_PlanesOk e1_6 (r0_0.ext hs.below))) ?_
 refine mv ?_
 refine Lt.ofWL.andQ 10 14 13 (p := ?pz1) (rest := ?qz1) (B := q1_11) rfl (fun hz => andO_f e1_11 hz) ?Tz1 ?Fz1 ?az1 ?bz1 ?cz1 ?dz1 ?ez1
 case Tz1 =>
  intro hcz1 hkz1
  have hqz1 := andO_t e1_11 hcz1
  obtain ⟨x1_10, e1_10, hqz1⟩ := bnd hqz1
  obtain rfl := Option.some.inj hqz1
  refine sp (OpV.fieldAddr rfl fo_39_3) ?_
  refine sp (OpV.loadPart rfl mq0 ag_37 rfl rfl) ?_
  refine sp (OpV.call (ec rfl e0) ca_116 (fun w hs => w_impl_ColorOk e1_10 (r0_1.ext hs.below) (r0_2.ext hs.below))) ?_
  refine hkz1 _ ?_ ?_
  exact rfl
  repeat (first | exact Sub.refl _ | refine Sub.skip rfl ?_)
 case Fz1 =>
  intro hcz1 hkz1
  refine sk ?_
  refine sk ?_
  refine sk ?_
  refine hkz1 _ ?_
  repeat (first | exact Sub.refl _ | refine Sub.skip rfl ?_)
 case az1 => exact rfl
 case bz1 => exact rfl
 case cz1 => exact rfl
 case dz1 => exact rfl
 refine ag ?_
 refine WL.nil (En.next (WC.ret ?_))
 refine En.ret1 rfl (Res.tmp rfl) ?_
 obtain rfl := Option.some.inj h
 intro w' hs
 exact ⟨rfl, hs.below⟩

theorem w_impl_ascendingWithin {list_p0 : List Int} {low_p1 : Int} {high_p2 : Int} {r : Bool} {q0_0 : Option Addr} {l0_0 k0_0 : Nat} (h : impl_ascendingWithin list_p0 low_p1 high_p2 = some r) {w : World} (r0_0 : Rd tInt w q0_0 l0_0 k0_0 list_p0)   :
    Calls Tryz.prog 91 #[.slice q0_0 l0_0 k0_0, .int .i64 low_p1, .int .i64 high_p2] w (fun en w' => en = .returned (.bool r) ∧ Ext w w') := by
 obtain rfl := r0_0.1
 unfold impl_ascendingWithin at h
 refine enter (vs := [_, _, _]) Tryz.func91 rfl rfl rfl rfl ?_
 refine WC.sr ?_
 refine ag ?_
 refine WL.nil (En.next (WC.seq (WC.sr ?_)))
 refine mv ?_
 refine sp (OpV.len rfl si_23 rfl) ?_
 refine mv ?_
 refine WL.nil (En.next (WC.block ?_))
 obtain ⟨zy0, ezy0, h⟩ := bnd h
 refine WC.cut (X := (Unit) × (Unit)) (.exit 0) (fun x => zy0 = .inl x.1) (fun x => match x with | ((), ()) => []) (fun x => match x with | ((), ()) => []) ?_ ?_
 ·
  rintro ⟨⟨⟩, ⟨⟩⟩ hx
  replace hx : .inl () = zy0 := hx.symm
  subst hx
  replace h := fork_l h
  show En _ _ _ _ [] []
  refine En.block_exit (En.next (WC.sr ?_))
  refine ag ?_
  refine WL.nil (En.next (WC.ret ?_))
  refine En.ret1 rfl (Res.tmp rfl) ?_
  obtain rfl := Option.some.inj h
  intro w' hs
  exact ⟨rfl, hs.below⟩
 ·
  intro zK0_0
  refine WC.loopP (G := Unit) (fun s g => match s, g with | v_0, () => [(0, .slice q0_0 list_p0.length k0_0), (1, .int .i64 low_p1), (2, .int .i64 high_p2), (9, .slice q0_0 list_p0.length k0_0), (10, .int .i64 (list_p0.length : Int)), (11, .int .i64 v_0)]) (fun s g => match s, g with | v_0, () => []) 0 () ezy0 (by exact sc (sc (sc (sc (sc (sc sn)))))) (by exact (fun _ h => h)) ?_
  rintro zm0 v_0 ⟨⟩ zo0 zf0 zb0 ze0
  have zh0 : impl_ascendingWithin_L0 list_p0 low_p1 high_p2 v_0 = some zo0 := zf0
  unfold impl_ascendingWithin_L0 at zh0
  show WC _ _ _ _ _ [(0, .slice q0_0 list_p0.length k0_0), (1, .int .i64 low_p1), (2, .int .i64 high_p2), (9, .slice q0_0 list_p0.length k0_0), (10, .int .i64 (list_p0.length : Int)), (11, .int .i64 v_0)] []
  refine WC.sr ?_
  refine sp (OpV.lss rfl rfl) ?_
  refine WL.nil (En.next (WC.seq ?_))
  refine WC.cond rfl ?_ ?_
  ·
   intro hc_1
   replace zh0 := ifO_t hc_1 zh0
   refine WC.skip (En.next (WC.seq (WC.block (WC.seq ?_))))
   obtain ⟨x3_1, e3_1, zh0⟩ := bnd zh0
   obtain ⟨g3_1, o3_1, _, ha3_1, rfl, hd3_1⟩ := Rd.atIdx r0_0 e3_1
   replace hd3_1 : ∀ (j : Nat) v, ([.int .i64 x3_1] : List Value)[j]? = some v → w.cell? ⟨g3_1, o3_1 + v_0.toNat * 1 + j, .none⟩ = some v := hd3_1
   refine WC.region ?_
   refine mv ?_
   refine sp (OpV.idxA rfl rfl se_23 ha3_1 ⟨(idx_some e3_1).1, (idx_some e3_1).2.1⟩) ?_
   refine sp (OpV.load1 rfl pt_3 (fun w hs => hs.cell (hd3_1 0 _ rfl))) ?_
   refine ag ?_
   refine ag ?_
   refine WL.nil (En.next (WC.seq ?_))
   obtain ⟨x4_3, e4_3, zh0⟩ := bnd zh0
   obtain ⟨q4_17, e4_17, zh0⟩ := bnd zh0
   refine WC.region ?_
   refine mv ?_
   refine mv ?_
   refine mv ?_
   refine sp (OpV.call (ec rfl (ec rfl (ec rfl e0))) ca_67 (fun w hs => w_impl_within e4_3)) ?_
   refine sp (OpV.not rfl) ?_
   refine mv ?_
   refine Lt.ofWL.orQ 21 33 32 (p := ?pz1) (rest := ?qz1) (B := q4_17) rfl (fun hz => orO_t e4_17 hz) ?Tz1 ?Fz1 ?az1 ?bz1 ?cz1 ?dz1 ?ez1
   case Tz1 =>
    intro hcz1 hkz1
    refine sk ?_
    refine sk ?_
    refine sk ?_
    refine sk ?_
    refine sk ?_
    refine sk ?_
    refine sk ?_
    refine sk ?_
    refine sk ?_
    refine sk ?_
    refine sk ?_
    refine hkz1 _ ?_
    repeat (first | exact Sub.refl _ | refine Sub.skip rfl ?_)
   case Fz1 =>
    intro hcz1 hkz1
    have hqz1 := orO_f e4_17 hcz1
    obtain ⟨q4_16, e4_16, hqz1⟩ := bnd hqz1
    obtain rfl := Option.some.inj hqz1
    refine mv ?_
    refine sp (OpV.gtr rfl rfl) ?_
    refine mv ?_
    refine Lt.ofWL.andQ 24 32 31 (p := ?pz2) (rest := ?qz2) (B := q4_16) rfl (fun hz => andO_f e4_16 hz) ?Tz2 ?Fz2 ?az2 ?bz2 ?cz2 ?dz2 ?ez2
    case Tz2 =>
     intro hcz2 hkz2
     have hqz2 := andO_t e4_16 hcz2
     obtain ⟨x4_12, e4_12, hqz2⟩ := bnd hqz2
     obtain ⟨g4_12, o4_12, _, ha4_12, rfl, hd4_12⟩ := Rd.atIdx r0_0 e4_12
     replace hd4_12 : ∀ (j : Nat) v, ([.int .i64 x4_12] : List Value)[j]? = some v → w.cell? ⟨g4_12, o4_12 + (wr (v_0 - 1)).toNat * 1 + j, .none⟩ = some v := hd4_12
     obtain rfl := Option.some.inj hqz2
     refine mv ?_
     refine mv ?_
     refine sp (OpV.subR rfl rfl) ?_
     refine sp (OpV.idxA rfl rfl se_23 ha4_12 ⟨(idx_some e4_12).1, (idx_some e4_12).2.1⟩) ?_
     refine sp (OpV.load1 rfl pt_3 (fun w hs => hs.cell (hd4_12 0 _ rfl))) ?_
     refine mv ?_
     refine sp (OpV.geq rfl rfl) ?_
     refine hkz2 _ ?_ ?_
     exact rfl
     repeat (first | exact Sub.refl _ | refine Sub.skip rfl ?_)
    case Fz2 =>
     intro hcz2 hkz2
     refine sk ?_
     refine sk ?_
     refine sk ?_
     refine sk ?_
     refine sk ?_
     refine sk ?_
     refine sk ?_
     refine hkz2 _ ?_
     repeat (first | exact Sub.refl _ | refine Sub.skip rfl ?_)
    case az2 => exact rfl
    case bz2 => exact rfl
    case cz2 => exact rfl
    case dz2 => exact rfl
    refine hkz1 _ ?_ ?_
    exact rfl
    repeat (first | exact Sub.refl _ | refine Sub.skip rfl ?_)
   case az1 => exact rfl
   case bz1 => exact rfl
   case cz1 => exact rfl
   case dz1 => exact rfl
   refine WL.nil (En.next ?_)
   refine WC.cond rfl ?_ ?_
   ·
    intro hc_2
    replace zh0 := ifO_t hc_2 zh0
    refine WC.sr ?_
    refine ag ?_
    refine WL.nil (En.next (WC.ret (En.block_ret (En.then_ret (En.then_ret (En.block_ret (En.then_ret ?_)))))))
    refine En.ret1 rfl (Res.tmp rfl) ?_
    have hx := exitP ze0 zh0
    subst hx
    replace h := fork_r h
    obtain rfl := Option.some.inj h
    intro w' hs
    exact ⟨rfl, hs.below⟩
   ·
    intro hc_2
    replace zh0 := ifO_f hc_2 zh0
    refine WC.skip (En.block_norm (En.next (WC.region ?_)))
    refine sp (OpV.addR rfl rfl) ?_
    refine mv ?_
    refine WL.nil ?_
    exact En.backP zb0 zh0 () (sc (sc (sc (sc (sc (sc sn)))))) (fun _ h => h)
  ·
   intro hc_1
   replace zh0 := ifO_f hc_1 zh0
   refine WC.exit (En.then_exit (En.then_exit ?_))
   have hx := exitP ze0 zh0
   exact En.wk _ _ sn (fun _ h => h) (zK0_0 ((), ()) hx.symm)

end Go.Proofs.YtmhalmnbgkpmnaaGreat
