/- Walks: the program computes the pure functions. -/
import Derived.Test.YtmhalmnbgkpmnaaGreatW1
namespace Go.Proofs.YtmhalmnbgkpmnaaGreat
open Go.RowKit K
set_option maxRecDepth 100000
set_option maxHeartbeats 4000000

theorem w_spec_l01Place {c_p0 : L01CurT} {n_p1 : Int} {r : Int × L01CurT} {b0 : Nat} {q0_0 : Option Addr} {l0_0 k0_0 : Nat} (h : spec_l01Place c_p0 n_p1 = some r) {w0 w : World} {C : List Chunk} (hs0 : St w0 (Chunk.box b0 128 [.slice q0_0 l0_0 k0_0, .int .i64 c_p0.i, .int .i64 c_p0.h] :: C) w) (r0_0 : ∀ w, St w0 C w → Rd tU8 w q0_0 l0_0 k0_0 c_p0.b) :
    Calls Tryz.prog 110 #[.pointer (some ⟨b0, 0, .none⟩), .int .i64 n_p1] w (fun en w' => ∃ rv G, en = .returned rv ∧ (rv = .int .i64 r.1 ∧ G = Chunk.box b0 128 [.slice q0_0 l0_0 k0_0, .int .i64 r.2.i, .int .i64 r.2.h] :: C) ∧ St w0 G w') := by
 obtain rfl := (r0_0 _ (St.tl (F := [_]) hs0)).1
 unfold spec_l01Place at h
 refine enterF hs0 (vs := [_, _]) Tryz.func110 rfl rfl rfl rfl ?_
 refine WC.sr ?_
 refine ag ?_
 refine WL.nil (En.next (WC.seq (WC.seq ?_)))
 obtain ⟨⟨x1_1a, x1_1b⟩, e1_1, h⟩ := bnd h
 refine WC.region ?_
 refine mv ?_
 refine WL.heavy rfl rfl rfl (OpH.callX (ec rfl (ec rfl e0)) ca_109 (fun w hs => w_spec_l01Once e1_1 hs (fun w hs => (r0_0 _ (St.tl (F := []) hs)))) ?_)
 rintro _ _ ⟨rfl, rfl⟩
 refine WL.nil (En.next ?_)
 refine WC.cond rfl ?_ ?_
 ·
  intro hc_1
  replace h := ifO_t hc_1 h
  refine WC.seq ?_
  obtain ⟨⟨x2_5a, x2_5b⟩, e2_5, h⟩ := bnd h
  refine WC.region ?_
  refine mv ?_
  refine mv ?_
  refine mv ?_
  refine sp (OpV.addR rfl rfl) ?_
  refine WL.heavy rfl rfl rfl (OpH.litF (A := tInt) (xs := [(-1), n_p1, (wr (n_p1 + 1)), 9223372036854775807, (-9223372036854775808)]) tInt_flat (evps.cons rfl (evps.cons rfl (evps.cons rfl (evps.cons rfl (evps.cons rfl (evps.nil)))))) (bs_23_5_0_1_2_3_4 _ _ _ _ _) rfl rfl (Nat.le_of_ble_eq_true rfl) ?_)
  intro b2_4
  refine WL.wkF (fun _ h => h.pm 1) ?_
  refine WL.heavy rfl rfl rfl (OpH.callX (ec rfl (ec rfl e0)) ca_131 (fun w hs => w_spec_l01PickInt e2_5 hs (fun w hs => (r0_0 _ (St.tl (F := [_]) hs))) (fun w hs => (Ow.rd (hs.mem mq0)))) ?_)
  rintro _ _ ⟨rfl, rfl⟩
  refine ag ?_
  refine WL.nil (En.next (WC.ret (En.then_ret ?_)))
  refine En.ret1 rfl (Res.tmp rfl) ?_
  obtain rfl := Option.some.inj h
  intro w' hs
  have hs := (hs).sub (.cons_cons _ (.cons _ (List.Sublist.refl _)))
  exact ⟨_, _, rfl, ⟨rfl, rfl⟩, hs⟩
 ·
  intro hc_1
  replace h := ifO_f hc_1 h
  refine WC.skip (En.next (WC.seq ?_))
  obtain ⟨⟨x3_2a, x3_2b⟩, e3_2, h⟩ := bnd h
  refine WC.region ?_
  refine mv ?_
  refine mv ?_
  refine WL.heavy rfl rfl rfl (OpH.callX (ec rfl (ec rfl e0)) ca_105 (fun w hs => w_spec_l01Below e3_2 hs (fun w hs => (r0_0 _ (St.tl (F := []) hs)))) ?_)
  rintro _ _ ⟨rfl, rfl⟩
  refine ag ?_
  refine WL.nil (En.next (WC.ret ?_))
  refine En.ret1 rfl (Res.tmp rfl) ?_
  obtain rfl := Option.some.inj h
  intro w' hs
  have hs := hs
  exact ⟨_, _, rfl, ⟨rfl, rfl⟩, hs⟩

theorem w_spec_l22Changes {c_p0 : L01CurT} {x_p1 : CrtcT} {r : (List ChangeT) × L01CurT} {b0 : Nat} {q0_0 : Option Addr} {l0_0 k0_0 : Nat} {q1_0 : Option Addr} {l1_0 k1_0 : Nat} {q1_1 : Option Addr} {l1_1 k1_1 : Nat} {q1_2 : Option Addr} {l1_2 k1_2 : Nat} (h : spec_l22Changes c_p0 x_p1 = some r) {w0 w : World} {C : List Chunk} (hs0 : St w0 (Chunk.box b0 128 [.slice q0_0 l0_0 k0_0, .int .i64 c_p0.i, .int .i64 c_p0.h] :: C) w) (r0_0 : ∀ w, St w0 C w → Rd tU8 w q0_0 l0_0 k0_0 c_p0.b) (r1_0 : ∀ w, St w0 C w → Rd tPlane w q1_0 l1_0 k1_0 x_p1.Planes) (r1_1 : ∀ w, St w0 C w → Rd tInt w q1_1 l1_1 k1_1 x_p1.Color.Matrix) (r1_2 : ∀ w, St w0 C w → Rd tInt w q1_2 l1_2 k1_2 x_p1.Color.Curve) :
    Calls Tryz.prog 71 #[.pointer (some ⟨b0, 0, .none⟩), .agg #[.int .i64 x_p1.W, .int .i64 x_p1.H, .slice q1_0 l1_0 k1_0, .slice q1_1 l1_1 k1_1, .slice q1_2 l1_2 k1_2]] w (fun en w' => ∃ rv G, en = .returned rv ∧ (∃ (a0_0 : Option Addr) (n0_0 : Nat) (c0_0 : Nat) (f0_0 : List Nat) (W0_0 : World) (G0_0 : List Nat), rv = .slice a0_0 n0_0 c0_0 ∧ G = Chunk.own (Ty.al tChange W0_0 G0_0) f0_0 a0_0 n0_0 c0_0 r.1 :: Chunk.vault G0_0 W0_0 :: Chunk.box b0 128 [.slice q0_0 l0_0 k0_0, .int .i64 r.2.i, .int .i64 r.2.h] :: C) ∧ St w0 G w') := by
 obtain rfl := (r0_0 _ (St.tl (F := [_]) hs0)).1
 obtain rfl := (r1_0 _ (St.tl (F := [_]) hs0)).1
 obtain rfl := (r1_1 _ (St.tl (F := [_]) hs0)).1
 obtain rfl := (r1_2 _ (St.tl (F := [_]) hs0)).1
 unfold spec_l22Changes at h
 refine enterF hs0 (vs := [_, _]) Tryz.func71 rfl rfl rfl rfl ?_
 refine WC.wkF (fun _ h => St.vault0 h) ?_
 refine WC.sr ?_
 refine WL.heavy rfl rfl rfl (OpH.box rfl rfl ?_)
 intro b0_0
 refine ag ?_
 refine WL.nil (En.next (WC.sr ?_))
 refine WL.heavy rfl rfl rfl (OpH.lit0 (A := (Ty.al tChange w0 [])) (evps.nil) bs_53_0_ ?_)
 intro b1_0
 refine ag ?_
 refine WL.nil (En.next (WC.seq ?_))
 obtain ⟨⟨x2_5a, x2_5b⟩, e2_5, h⟩ := bnd h
 refine WC.region ?_
 refine mv ?_
 refine sp (OpV.fieldAddr rfl fo_39_0) ?_
 refine sp (OpV.loadBox rfl pt_3 mq1 rfl) ?_
 refine sp (OpV.fieldAddr rfl fo_39_1) ?_
 refine sp (OpV.loadBox rfl pt_3 mq1 rfl) ?_
 refine WL.wkF (fun _ h => h.pm 3) ?_
 refine WL.heavy rfl rfl rfl (OpH.callX (ec rfl (ec rfl (ec rfl e0))) ca_106 (fun w hs => w_spec_l19Planes e2_5 hs (fun w hs => (r0_0 _ (St.tl (F := [_, _, _]) hs)))) ?_)
 rintro _ _ ⟨a2_500, n2_500, c2_500, f2_500, rfl, rfl⟩
 refine WL.wkF (fun _ h => h.pm 4) ?_
 refine WL.wkF (fun _ h => h.pm 1) ?_
 refine WL.exF (fun w h => St.vaultRow (F := []) h) ?_
 rintro ⟨W2_5r0, G2_5r0, f2_5r0v⟩ hu2_5r0
 show WL _ _ _ _ _ _ _ (Chunk.own (Ty.al tPlane W2_5r0 G2_5r0) f2_5r0v a2_500 n2_500 c2_500 x2_5a :: Chunk.vault G2_5r0 W2_5r0 :: Chunk.box b0 128 [.slice q0_0 c_p0.b.length k0_0, .int .i64 x2_5b.i, .int .i64 x2_5b.h] :: Chunk.own (Ty.al tChange w0 []) [b1_0] (some ⟨b1_0, 0, .none⟩) 0 0 ([] : List ChangeT) :: Chunk.box b0_0 39 [.int .i64 x_p1.W, .int .i64 x_p1.H, .slice q1_0 x_p1.Planes.length k1_0, .slice q1_1 x_p1.Color.Matrix.length k1_1, .slice q1_2 x_p1.Color.Curve.length k1_2] :: C)
 refine WL.wkF (fun _ h => St.alUp (F := [_, _, _]) hu2_5r0 h) ?_
 refine ag ?_
 refine WL.nil (En.next (WC.seq (WC.seq ?_)))
 obtain ⟨⟨x3_1a, x3_1b⟩, e3_1, h⟩ := bnd h
 refine WC.region ?_
 refine mv ?_
 refine WL.wkF (fun _ h => h.pm 2) ?_
 refine WL.heavy rfl rfl rfl (OpH.callX (ec rfl (ec rfl e0)) ca_105 (fun w hs => w_spec_l01Below e3_1 hs (fun w hs => (r0_0 _ (St.tl (F := [_, _, _, _]) hs)))) ?_)
 rintro _ _ ⟨rfl, rfl⟩
 refine ag ?_
 refine WL.nil (En.next (WC.block ?_))
 obtain ⟨zy0, ezy0, h⟩ := bnd h
 refine WC.cut (X := (Int × Int × (List ChangeT)) × ((Option Addr) × Nat × Nat × (List Nat) × (List Nat) × World × (List Nat))) (.exit 0) (fun x => zy0 = x.1) (fun x => match x with | ((c_0e, c1_0e, out_0e), (aout_0e, nout_0e, cout_0e, fout_0e, fplanes_0e, W_0e, G_0e)) => [(0, .pointer (some ⟨b0, 0, .none⟩)), (5, .slice aout_0e nout_0e cout_0e), (6, .slice a2_500 n2_500 c2_500)]) (fun x => match x with | ((c_0e, c1_0e, out_0e), (aout_0e, nout_0e, cout_0e, fout_0e, fplanes_0e, W_0e, G_0e)) => (Chunk.box b0 128 [.slice q0_0 c_p0.b.length k0_0, .int .i64 c_0e, .int .i64 c1_0e] :: Chunk.own (Ty.al tChange W_0e G_0e) fout_0e aout_0e nout_0e cout_0e out_0e :: Chunk.own (Ty.al tPlane W_0e G_0e) fplanes_0e a2_500 n2_500 c2_500 x2_5a :: Chunk.vault G_0e W_0e :: C)) ?_ ?_
 ·
  rintro ⟨⟨c_0e, c1_0e, out_0e⟩, ⟨aout_0e, nout_0e, cout_0e, fout_0e, fplanes_0e, W_0e, G_0e⟩⟩ hx
  replace hx : (c_0e, c1_0e, out_0e) = zy0 := hx.symm
  subst hx
  show En _ _ _ _ [(0, .pointer (some ⟨b0, 0, .none⟩)), (5, .slice aout_0e nout_0e cout_0e), (6, .slice a2_500 n2_500 c2_500)] (Chunk.box b0 128 [.slice q0_0 c_p0.b.length k0_0, .int .i64 c_0e, .int .i64 c1_0e] :: Chunk.own (Ty.al tChange W_0e G_0e) fout_0e aout_0e nout_0e cout_0e out_0e :: Chunk.own (Ty.al tPlane W_0e G_0e) fplanes_0e a2_500 n2_500 c2_500 x2_5a :: Chunk.vault G_0e W_0e :: C)
  refine En.block_exit (En.next (WC.seq (WC.seq ?_)))
  obtain ⟨⟨x10_1a, x10_1b⟩, e10_1, h⟩ := bnd h
  refine WC.region ?_
  refine mv ?_
  refine WL.heavy rfl rfl rfl (OpH.callX (ec rfl (ec rfl e0)) ca_109 (fun w hs => w_spec_l01Once e10_1 hs (fun w hs => (r0_0 _ (St.tl (F := [_, _, _]) hs)))) ?_)
  rintro _ _ ⟨rfl, rfl⟩
  refine WL.nil (En.next ?_)
  refine WC.cond rfl ?_ ?_
  ·
   intro hc_1
   replace h := ifO_t hc_1 h
   refine WC.exF (fun w h => St.alOpen (F := [_, _]) h) ?_
   rintro cq11_0 hq11_0
   show WC _ _ _ _ _ _ (Chunk.box b0 128 [.slice q0_0 c_p0.b.length k0_0, .int .i64 x10_1b.i, .int .i64 x10_1b.h] :: Chunk.own (Ty.al tChange W_0e G_0e) fout_0e aout_0e nout_0e cout_0e out_0e :: Chunk.row tPlane.T tPlane.k a2_500 x2_5a.length c2_500 cq11_0.flatten :: Chunk.vault G_0e W_0e :: C)
   refine WC.inh fun hin11 => ?_
   obtain ⟨⟨x11_2a, x11_2b⟩, e11_2, h⟩ := bnd h
   obtain ⟨⟨x11_5a, x11_5b⟩, e11_5, h⟩ := bnd h
   obtain ⟨x11_6, e11_6, h⟩ := bnd h
   obtain ⟨g11_6, o11_6, ha11_6⟩ := rowAddr hin11 mq2 (idx_pos e11_6)
   obtain ⟨cs11_6, hcs11_6, hr11_6⟩ := hq11_0.2.2.2 _ _ (idx_some e11_6).2.2
   obtain ⟨a11_6_1, c11_6_1, rfl, hv11_6_1⟩ := tPlane_al hr11_6
   obtain ⟨x11_10, e11_10, h⟩ := bnd h
   refine WC.region ?_
   refine mv ?_
   refine mv ?_
   refine WL.heavy rfl rfl rfl (OpH.callX (ec rfl (ec rfl e0)) ca_110 (fun w hs => w_spec_l01Place e11_2 hs (fun w hs => (r0_0 _ (St.tl (F := [_, _, _]) hs)))) ?_)
   rintro _ _ ⟨rfl, rfl⟩
   refine mv ?_
   refine mv ?_
   refine WL.heavy rfl rfl rfl (OpH.callX (ec rfl (ec rfl e0)) ca_105 (fun w hs => w_spec_l01Below e11_5 hs (fun w hs => (r0_0 _ (St.tl (F := [_, _, _]) hs)))) ?_)
   rintro _ _ ⟨rfl, rfl⟩
   refine sp (OpV.idxA rfl rfl se_36 ha11_6 ⟨(idx_some e11_6).1, by rw [hq11_0.1]; exact (idx_some e11_6).2.1⟩) ?_
   refine sp (OpV.loadN (l := [.bool x11_6.On, .int .i64 x11_6.X, .int .i64 x11_6.Y, .int .i64 x11_6.W, .int .i64 x11_6.H, .int .i64 x11_6.Layout, .slice a11_6_1 x11_6.Words.length c11_6_1, .int .i64 x11_6.Alpha, .int .i64 x11_6.Orient, .int .i64 x11_6.ToW, .int .i64 x11_6.ToH]) rfl ag_61 rfl (fun w hs j v hj => by rw [Addr.add_lit]; exact focCell (hs.mem mq2) hq11_0.2.1 hcs11_6 ha11_6 hj)) ?_
   refine sp (OpV.build (evps.cons rfl (evps.cons rfl (evps.nil))) (bd_63_0_1 _ _ _ _ _ _ _ _ _ _ _ _ _ _)) ?_
   refine WL.heavy rfl rfl rfl (OpH.buildSlice (evps.cons rfl (evps.nil)) (bs_53_1_0 _ _ _ _ _ _ _ _ _ _ _ _ _ _ _ _ _ _ _ _) ?_)
   intro b11_9
   refine WL.wkF (fun _ h => St.elFree (A := Ty.al tChange W_0e G_0e) (tChange_mkAl x11_2a x11_6 (ColorMapT.mk [] []) hv11_6_1 Vl.nil Vl.nil) h) ?_
   refine WL.wkF (fun _ h => h.pm 3) ?_
   refine WL.wkF (fun _ h => h.pm 1) ?_
   refine WL.heavy rfl rfl rfl (OpH.push (A := (Ty.al tChange W_0e G_0e)) rfl rfl rfl mi_53 rfl (by decide) mq0 e11_10 ?_)
   intro f11_10 a11_10 c11_10
   refine ag ?_
   refine WL.nil ?_
   refine En.exF (fun w h => St.alClose (hp := hq11_0) (F := [_, _, _]) h) ?_
   rintro fz11_0 _
   show En _ _ _ _ _ (Chunk.own (Ty.al tChange W_0e G_0e) f11_10 a11_10 x11_10.length c11_10 x11_10 :: Chunk.box b11_9 63 [.int .i64 x11_2a, .bool x11_6.On, .int .i64 x11_6.X, .int .i64 x11_6.Y, .int .i64 x11_6.W, .int .i64 x11_6.H, .int .i64 x11_6.Layout, .slice a11_6_1 x11_6.Words.length c11_6_1, .int .i64 x11_6.Alpha, .int .i64 x11_6.Orient, .int .i64 x11_6.ToW, .int .i64 x11_6.ToH, .slice .none 0 0, .slice .none 0 0] :: Chunk.box b0 128 [.slice q0_0 c_p0.b.length k0_0, .int .i64 x11_5b.i, .int .i64 x11_5b.h] :: Chunk.own (Ty.al tPlane W_0e G_0e) fz11_0 a2_500 n2_500 c2_500 x2_5a :: Chunk.vault G_0e W_0e :: C)
   refine En.next (WC.sr ?_)
   refine mv ?_
   refine ag ?_
   refine WL.nil (En.next (WC.ret ?_))
   refine En.ret1 rfl (Res.tmp rfl) ?_
   obtain rfl := Option.some.inj h
   intro w' hs
   have hs := ((((hs).pm 2).pm 4).pm 2).sub (.cons_cons _ (.cons_cons _ (.cons_cons _ (.cons _ (.cons _ (List.Sublist.refl _))))))
   exact ⟨_, _, rfl, ⟨a11_10, x11_10.length, c11_10, f11_10, W_0e, G_0e, rfl, rfl⟩, hs⟩
  ·
   intro hc_1
   replace h := ifO_f hc_1 h
   refine WC.skip (En.next (WC.sr ?_))
   refine mv ?_
   refine ag ?_
   refine WL.nil (En.next (WC.ret ?_))
   refine En.ret1 rfl (Res.tmp rfl) ?_
   obtain rfl := Option.some.inj h
   intro w' hs
   have hs := (((hs).pm 3).pm 2).sub (.cons_cons _ (.cons_cons _ (.cons_cons _ (.cons _ (List.Sublist.refl _)))))
   exact ⟨_, _, rfl, ⟨aout_0e, nout_0e, cout_0e, fout_0e, W_0e, G_0e, rfl, rfl⟩, hs⟩
 ·
  intro zK0_0
  refine WC.loopP (G := (Option Addr) × Nat × Nat × (List Nat) × (List Nat) × World × (List Nat)) (fun s g => match s, g with | (c_0, c1_0, out_0, k_0), (aout_0, nout_0, cout_0, fout_0, fplanes_0, W_0, G_0) => [(0, .pointer (some ⟨b0, 0, .none⟩)), (5, .slice aout_0 nout_0 cout_0), (6, .slice a2_500 n2_500 c2_500), (7, .int .i64 k_0)]) (fun s g => match s, g with | (c_0, c1_0, out_0, k_0), (aout_0, nout_0, cout_0, fout_0, fplanes_0, W_0, G_0) => (Chunk.box b0 128 [.slice q0_0 c_p0.b.length k0_0, .int .i64 c_0, .int .i64 c1_0] :: Chunk.own (Ty.al tChange W_0 G_0) fout_0 aout_0 nout_0 cout_0 out_0 :: Chunk.own (Ty.al tPlane W_0 G_0) fplanes_0 a2_500 n2_500 c2_500 x2_5a :: Chunk.vault G_0 W_0 :: C)) (x3_1b.i, x3_1b.h, ([] : List ChangeT), x3_1a) ((some ⟨b1_0, 0, .none⟩), 0, 0, [b1_0], f2_5r0v, W2_5r0, G2_5r0) ezy0 (by exact sc (sc (sc (sc sn)))) (by exact (fun _ h => (((((h).pm 2).pm 2).pm 3).pm 3).sub (.cons_cons _ (.cons_cons _ (.cons_cons _ (.cons_cons _ (.cons _ (List.Sublist.refl _)))))))) ?_
  rintro zm0 ⟨c_0, c1_0, out_0, k_0⟩ ⟨aout_0, nout_0, cout_0, fout_0, fplanes_0, W_0, G_0⟩ zo0 zf0 zb0 ze0
  have zh0 : spec_l22Changes_L0 c_p0 x2_5a c_0 c1_0 out_0 k_0 = some zo0 := zf0
  unfold spec_l22Changes_L0 at zh0
  show WC _ _ _ _ _ [(0, .pointer (some ⟨b0, 0, .none⟩)), (5, .slice aout_0 nout_0 cout_0), (6, .slice a2_500 n2_500 c2_500), (7, .int .i64 k_0)] (Chunk.box b0 128 [.slice q0_0 c_p0.b.length k0_0, .int .i64 c_0, .int .i64 c1_0] :: Chunk.own (Ty.al tChange W_0 G_0) fout_0 aout_0 nout_0 cout_0 out_0 :: Chunk.own (Ty.al tPlane W_0 G_0) fplanes_0 a2_500 n2_500 c2_500 x2_5a :: Chunk.vault G_0 W_0 :: C)
  refine WC.seq (WC.sr ?_)
  refine mv ?_
  refine sp (OpV.gtr rfl rfl) ?_
  refine WL.nil (En.next ?_)
  refine WC.cond rfl ?_ ?_
  ·
   intro hc_2
   replace zh0 := ifO_t hc_2 zh0
   refine WC.skip (En.next (WC.seq ?_))
   obtain ⟨zy1, ej1, zh0⟩ := bnd zh0
   refine WC.cut (X := (Int × Int × (List ChangeT)) × ((Option Addr) × Nat × Nat × (List Nat) × (List Nat) × World × (List Nat))) .normal (fun x => zy1 = x.1) (fun x => match x with | ((c_1j, c1_1j, out_1j), (aout_1j, nout_1j, cout_1j, fout_1j, fplanes_1j, W_1j, G_1j)) => [(0, .pointer (some ⟨b0, 0, .none⟩)), (5, .slice aout_1j nout_1j cout_1j), (6, .slice a2_500 n2_500 c2_500), (7, .int .i64 k_0)]) (fun x => match x with | ((c_1j, c1_1j, out_1j), (aout_1j, nout_1j, cout_1j, fout_1j, fplanes_1j, W_1j, G_1j)) => (Chunk.box b0 128 [.slice q0_0 c_p0.b.length k0_0, .int .i64 c_1j, .int .i64 c1_1j] :: Chunk.own (Ty.al tChange W_1j G_1j) fout_1j aout_1j nout_1j cout_1j out_1j :: Chunk.own (Ty.al tPlane W_1j G_1j) fplanes_1j a2_500 n2_500 c2_500 x2_5a :: Chunk.vault G_1j W_1j :: C)) ?_ ?_
   ·
    rintro ⟨⟨c_1j, c1_1j, out_1j⟩, ⟨aout_1j, nout_1j, cout_1j, fout_1j, fplanes_1j, W_1j, G_1j⟩⟩ hx
    replace hx : (c_1j, c1_1j, out_1j) = zy1 := hx.symm
    subst hx
    show En _ _ _ _ [(0, .pointer (some ⟨b0, 0, .none⟩)), (5, .slice aout_1j nout_1j cout_1j), (6, .slice a2_500 n2_500 c2_500), (7, .int .i64 k_0)] (Chunk.box b0 128 [.slice q0_0 c_p0.b.length k0_0, .int .i64 c_1j, .int .i64 c1_1j] :: Chunk.own (Ty.al tChange W_1j G_1j) fout_1j aout_1j nout_1j cout_1j out_1j :: Chunk.own (Ty.al tPlane W_1j G_1j) fplanes_1j a2_500 n2_500 c2_500 x2_5a :: Chunk.vault G_1j W_1j :: C)
    refine En.next (WC.region ?_)
    refine mv ?_
    refine sp (OpV.subR rfl rfl) ?_
    refine ag ?_
    refine WL.nil ?_
    exact En.backP zb0 zh0 (aout_1j, nout_1j, cout_1j, fout_1j, fplanes_1j, W_1j, G_1j) (sc (sc (sc (sc sn)))) (fun _ h => h)
   ·
    intro zK1
    refine WC.block (WC.seq ?_)
    obtain ⟨⟨x6_1a, x6_1b⟩, e6_1, ej1⟩ := bnd ej1
    refine WC.region ?_
    refine mv ?_
    refine WL.heavy rfl rfl rfl (OpH.callX (ec rfl (ec rfl e0)) ca_105 (fun w hs => w_spec_l01Below e6_1 hs (fun w hs => (r0_0 _ (St.tl (F := [_, _, _]) hs)))) ?_)
    rintro _ _ ⟨rfl, rfl⟩
    refine sp (OpV.subR rfl rfl) ?_
    refine ag ?_
    refine WL.nil (En.next (WC.seq (WC.sr ?_)))
    refine mv ?_
    refine sp (OpV.lss rfl rfl) ?_
    refine WL.nil (En.next ?_)
    refine WC.cond rfl ?_ ?_
    ·
     intro hc_3
     replace ej1 := ifO_t hc_3 ej1
     refine WC.seq ?_
     obtain ⟨⟨x8_2a, x8_2b⟩, e8_2, ej1⟩ := bnd ej1
     obtain ⟨x8_5, e8_5, ej1⟩ := bnd ej1
     refine WC.region ?_
     refine mv ?_
     refine mv ?_
     refine WL.heavy rfl rfl rfl (OpH.callX (ec rfl e0) ca_108 (fun w hs => w_spec_l08Any e8_2 hs (fun w hs => (r0_0 _ (St.tl (F := [_, _, _]) hs)))) ?_)
     rintro _ _ ⟨a8_200, n8_200, c8_200, f8_200, a8_201, n8_201, c8_201, f8_201, rfl, rfl⟩
     refine sp (OpV.build (evps.cons rfl (evps.cons rfl (evps.nil))) (bd_63_0_2 _ _ _ _ _ _ _)) ?_
     refine WL.heavy rfl rfl rfl (OpH.buildSlice (evps.cons rfl (evps.nil)) (bs_53_1_0 _ _ _ _ _ _ _ _ _ _ _ _ _ _ _ _ _ _ _ _) ?_)
     intro b8_4
     refine WL.wkF (fun _ h => h.pm 6) ?_
     refine WL.wkF (fun _ h => h.pm 2) ?_
     refine WL.exF (fun w h => St.vaultPut (F := []) h) ?_
     rintro ⟨W8_5v12, G8_5v12⟩ ⟨hu8_5v12, hv8_5v12⟩
     show WL _ _ _ _ _ _ _ (Chunk.vault G8_5v12 W8_5v12 :: Chunk.box b8_4 63 [.int .i64 (-1), .bool false, .int .i64 0, .int .i64 0, .int .i64 0, .int .i64 0, .int .i64 0, .slice .none 0 0, .int .i64 0, .int .i64 0, .int .i64 0, .int .i64 0, .slice a8_200 n8_200 c8_200, .slice a8_201 n8_201 c8_201] :: Chunk.own tInt f8_201 a8_201 n8_201 c8_201 x8_2a.Curve :: Chunk.box b0 128 [.slice q0_0 c_p0.b.length k0_0, .int .i64 x8_2b.i, .int .i64 x8_2b.h] :: Chunk.own (Ty.al tChange W_0 G_0) fout_0 aout_0 nout_0 cout_0 out_0 :: Chunk.own (Ty.al tPlane W_0 G_0) fplanes_0 a2_500 n2_500 c2_500 x2_5a :: C)
     refine WL.wkF (fun _ h => St.alUp (F := [_, _, _, _]) hu8_5v12 h) ?_
     refine WL.wkF (fun _ h => St.alUp (F := [_, _, _, _, _]) hu8_5v12 h) ?_
     refine WL.wkF (fun _ h => h.pm 2) ?_
     refine WL.exF (fun w h => St.vaultPut (F := []) h) ?_
     rintro ⟨W8_5v13, G8_5v13⟩ ⟨hu8_5v13, hv8_5v13⟩
     show WL _ _ _ _ _ _ _ (Chunk.vault G8_5v13 W8_5v13 :: Chunk.box b8_4 63 [.int .i64 (-1), .bool false, .int .i64 0, .int .i64 0, .int .i64 0, .int .i64 0, .int .i64 0, .slice .none 0 0, .int .i64 0, .int .i64 0, .int .i64 0, .int .i64 0, .slice a8_200 n8_200 c8_200, .slice a8_201 n8_201 c8_201] :: Chunk.box b0 128 [.slice q0_0 c_p0.b.length k0_0, .int .i64 x8_2b.i, .int .i64 x8_2b.h] :: Chunk.own (Ty.al tChange W8_5v12 G8_5v12) fout_0 aout_0 nout_0 cout_0 out_0 :: Chunk.own (Ty.al tPlane W8_5v12 G8_5v12) fplanes_0 a2_500 n2_500 c2_500 x2_5a :: C)
     refine WL.wkF (fun _ h => St.alUp (F := [_, _, _]) hu8_5v13 h) ?_
     refine WL.wkF (fun _ h => St.alUp (F := [_, _, _, _]) hu8_5v13 h) ?_
     refine WL.wkF (fun _ h => St.elFree (A := Ty.al tChange W8_5v13 G8_5v13) (tChange_mkAl (-1) (PlaneT.mk false 0 0 0 0 0 [] 0 0 0 0) x8_2a Vl.nil (Vl.up hv8_5v12 hu8_5v13) hv8_5v13) h) ?_
     refine WL.wkF (fun _ h => h.pm 4) ?_
     refine WL.wkF (fun _ h => h.pm 1) ?_
     refine WL.heavy rfl rfl rfl (OpH.push (A := (Ty.al tChange W8_5v13 G8_5v13)) rfl rfl rfl mi_53 rfl (by decide) mq1 e8_5 ?_)
     intro f8_5 a8_5 c8_5
     refine ag ?_
     refine WL.nil (En.next (WC.exit (En.then_exit (En.block_exit ?_))))
     exact En.wk _ _ (sc (sc (sc (sc sn)))) (fun _ h => (((((h).pm 1).pm 4).pm 2).pm 4).sub (.cons_cons _ (.cons_cons _ (.cons_cons _ (.cons_cons _ (.cons _ (List.Sublist.refl _))))))) (zK1 ((x8_2b.i, x8_2b.h, x8_5), (a8_5, x8_5.length, c8_5, f8_5, fplanes_0, W8_5v13, G8_5v13)) (Option.some.inj ej1).symm)
    ·
     intro hc_3
     replace ej1 := ifO_f hc_3 ej1
     refine WC.skip (En.next ?_)
     refine WC.exF (fun w h => St.alOpen (F := [_, _]) h) ?_
     rintro cq9_0 hq9_0
     show WC _ _ _ _ _ _ (Chunk.box b0 128 [.slice q0_0 c_p0.b.length k0_0, .int .i64 x6_1b.i, .int .i64 x6_1b.h] :: Chunk.own (Ty.al tChange W_0 G_0) fout_0 aout_0 nout_0 cout_0 out_0 :: Chunk.row tPlane.T tPlane.k a2_500 x2_5a.length c2_500 cq9_0.flatten :: Chunk.vault G_0 W_0 :: C)
     refine WC.inh fun hin9 => ?_
     obtain ⟨x9_4, e9_4, ej1⟩ := bnd ej1
     obtain ⟨g9_4, o9_4, ha9_4⟩ := rowAddr hin9 mq2 (idx_pos e9_4)
     obtain ⟨cs9_4, hcs9_4, hr9_4⟩ := hq9_0.2.2.2 _ _ (idx_some e9_4).2.2
     obtain ⟨a9_4_1, c9_4_1, rfl, hv9_4_1⟩ := tPlane_al hr9_4
     obtain ⟨x9_8, e9_8, ej1⟩ := bnd ej1
     refine WC.region ?_
     refine mv ?_
     refine mv ?_
     refine mv ?_
     refine mv ?_
     refine sp (OpV.idxA rfl rfl se_36 ha9_4 ⟨(idx_some e9_4).1, by rw [hq9_0.1]; exact (idx_some e9_4).2.1⟩) ?_
     refine sp (OpV.loadN (l := [.bool x9_4.On, .int .i64 x9_4.X, .int .i64 x9_4.Y, .int .i64 x9_4.W, .int .i64 x9_4.H, .int .i64 x9_4.Layout, .slice a9_4_1 x9_4.Words.length c9_4_1, .int .i64 x9_4.Alpha, .int .i64 x9_4.Orient, .int .i64 x9_4.ToW, .int .i64 x9_4.ToH]) rfl ag_61 rfl (fun w hs j v hj => by rw [Addr.add_lit]; exact focCell (hs.mem mq2) hq9_0.2.1 hcs9_4 ha9_4 hj)) ?_
     refine sp (OpV.build (evps.cons rfl (evps.cons rfl (evps.nil))) (bd_63_0_1 _ _ _ _ _ _ _ _ _ _ _ _ _ _)) ?_
     refine WL.heavy rfl rfl rfl (OpH.buildSlice (evps.cons rfl (evps.nil)) (bs_53_1_0 _ _ _ _ _ _ _ _ _ _ _ _ _ _ _ _ _ _ _ _) ?_)
     intro b9_7
     refine WL.wkF (fun _ h => St.elFree (A := Ty.al tChange W_0 G_0) (tChange_mkAl (wr (x6_1a - 1)) x9_4 (ColorMapT.mk [] []) hv9_4_1 Vl.nil Vl.nil) h) ?_
     refine WL.wkF (fun _ h => h.pm 3) ?_
     refine WL.wkF (fun _ h => h.pm 1) ?_
     refine WL.heavy rfl rfl rfl (OpH.push (A := (Ty.al tChange W_0 G_0)) rfl rfl rfl mi_53 rfl (by decide) mq0 e9_8 ?_)
     intro f9_8 a9_8 c9_8
     refine ag ?_
     refine WL.nil ?_
     refine En.exF (fun w h => St.alClose (hp := hq9_0) (F := [_, _, _]) h) ?_
     rintro fz9_0 _
     show En _ _ _ _ _ (Chunk.own (Ty.al tChange W_0 G_0) f9_8 a9_8 x9_8.length c9_8 x9_8 :: Chunk.box b9_7 63 [.int .i64 (wr (x6_1a - 1)), .bool x9_4.On, .int .i64 x9_4.X, .int .i64 x9_4.Y, .int .i64 x9_4.W, .int .i64 x9_4.H, .int .i64 x9_4.Layout, .slice a9_4_1 x9_4.Words.length c9_4_1, .int .i64 x9_4.Alpha, .int .i64 x9_4.Orient, .int .i64 x9_4.ToW, .int .i64 x9_4.ToH, .slice .none 0 0, .slice .none 0 0] :: Chunk.box b0 128 [.slice q0_0 c_p0.b.length k0_0, .int .i64 x6_1b.i, .int .i64 x6_1b.h] :: Chunk.own (Ty.al tPlane W_0 G_0) fz9_0 a2_500 n2_500 c2_500 x2_5a :: Chunk.vault G_0 W_0 :: C)
     refine En.block_norm ?_
     exact En.wk _ _ (sc (sc (sc (sc sn)))) (fun _ h => (((((h).pm 4).pm 4).pm 2).pm 4).sub (.cons_cons _ (.cons_cons _ (.cons_cons _ (.cons_cons _ (.cons _ (List.Sublist.refl _))))))) (zK1 ((x6_1b.i, x6_1b.h, x9_8), (a9_8, x9_8.length, c9_8, f9_8, fz9_0, W_0, G_0)) (Option.some.inj ej1).symm)
  ·
   intro hc_2
   replace zh0 := ifO_f hc_2 zh0
   refine WC.exit (En.then_exit (En.then_exit ?_))
   have hx := exitP ze0 zh0
   exact En.wk _ _ (sc (sc (sc sn))) (fun _ h => h) (zK0_0 ((c_0, c1_0, out_0), (aout_0, nout_0, cout_0, fout_0, fplanes_0, W_0, G_0)) hx.symm)

theorem w_spec_DrawChanges {code_p0 : List Int} {r : CrtcT × (List ChangeT)} {q0_0 : Option Addr} {l0_0 k0_0 : Nat} (h : spec_DrawChanges code_p0 = some r) {w : World} (r0_0 : Rd tU8 w q0_0 l0_0 k0_0 code_p0)   :
    Calls Tryz.prog 22 #[.slice q0_0 l0_0 k0_0] w (fun en w' => ∃ rv G, en = .returned rv ∧ (∃ (a0_0 : Option Addr) (n0_0 : Nat) (c0_0 : Nat) (f0_0 : List Nat) (a0_1 : Option Addr) (n0_1 : Nat) (c0_1 : Nat) (f0_1 : List Nat) (a0_2 : Option Addr) (n0_2 : Nat) (c0_2 : Nat) (f0_2 : List Nat) (a1_0 : Option Addr) (n1_0 : Nat) (c1_0 : Nat) (f1_0 : List Nat) (W1_0 : World) (G1_0 : List Nat), rv = .tuple #[.agg #[.int .i64 r.1.W, .int .i64 r.1.H, .slice a0_0 n0_0 c0_0, .slice a0_1 n0_1 c0_1, .slice a0_2 n0_2 c0_2], .slice a1_0 n1_0 c1_0] ∧ G = [Chunk.own tPlane f0_0 a0_0 n0_0 c0_0 r.1.Planes, Chunk.own tInt f0_1 a0_1 n0_1 c0_1 r.1.Color.Matrix, Chunk.own tInt f0_2 a0_2 n0_2 c0_2 r.1.Color.Curve, Chunk.own (Ty.al tChange W1_0 G1_0) f1_0 a1_0 n1_0 c1_0 r.2, Chunk.vault G1_0 W1_0]) ∧ St w G w') := by
 obtain rfl := r0_0.1
 unfold spec_DrawChanges at h
 refine enter (vs := [_]) Tryz.func22 rfl rfl rfl rfl ?_
 refine WC.sr ?_
 refine WL.heavy rfl rfl rfl (OpH.alloc zc_39 ?_)
 intro b0_0
 refine ag ?_
 refine WL.nil (En.next (WC.seq ?_))
 obtain ⟨x1_1, e1_1, h⟩ := bnd h
 refine WC.region ?_
 refine mv ?_
 refine WL.heavy rfl rfl rfl (OpH.callR (ec rfl e0) ca_69 (fun w hs => w_spec_l01New e1_1 (r0_0.ext hs.below)) ?_)
 rintro _ _ ⟨b1_10p, rfl, rfl⟩
 refine ag ?_
 refine WL.nil (En.next (WC.seq ?_))
 obtain ⟨⟨x2_1a, x2_1b⟩, e2_1, h⟩ := bnd h
 refine WC.region ?_
 refine mv ?_
 refine WL.heavy rfl rfl rfl (OpH.callX (ec rfl e0) ca_70 (fun w hs => w_spec_l22Crtc e2_1 hs (fun w hs => (r0_0.ext hs.below))) ?_)
 rintro _ _ ⟨a2_100, n2_100, c2_100, f2_100, a2_101, n2_101, c2_101, f2_101, a2_102, n2_102, c2_102, f2_102, rfl, rfl⟩
 refine WL.heavy rfl rfl rfl (OpH.alloc zc_39 ?_)
 intro b2_2
 refine WL.heavy0 rfl rfl (OpH.storeTo (A := []) [_, _, _, _, _] rfl rfl rfl ts_39 rfl rfl rfl ?_)
 refine WL.nil (En.next (WC.seq ?_))
 obtain ⟨⟨x3_3a, x3_3b⟩, e3_3, h⟩ := bnd h
 refine WC.wkF (fun _ h => h.pm 5) ?_
 refine WC.wkF (fun _ h => h.pm 5) ?_
 refine WC.drawnH [_, _] ([_, _, _, _]) (fun _ h => h) (by kernel_rfl) ?_
 refine tk 0 rfl (OpV.loadAll rfl mq0 ag_39) ?_
 refine tk 1 rfl (OpV.move rfl) ?_
 refine tk 2 rfl (OpV.loadAll rfl mq0 ag_39) ?_
 refine al1 3 rfl ?_
 refine OpH.callX (ec rfl (ec rfl e0)) ca_71 (fun w hs => w_spec_l22Changes e3_3 hs (fun w hs => (r0_0.ext hs.below)) (fun w hs => (Ow.rd (hs.mem mq2))) (fun w hs => (Ow.rd (hs.mem mq3))) (fun w hs => (Ow.rd (hs.mem mq4)))) ?_
 rintro _ _ ⟨a3_300, n3_300, c3_300, f3_300, W3_300, G3_300, rfl, rfl⟩
 refine ⟨[_, _, _, _], rfl, ?_⟩
 refine al0 4 rfl ?_
 refine OpH.storeTo (A := [_, _, _]) [_, _, _, _, _] rfl rfl rfl ts_39 rfl rfl rfl ?_
 refine ⟨[_, _, _, _], rfl, ?_⟩
 refine WAE.rebase (H := []) ?_
 refine tk 5 rfl (OpV.assign rfl) ?_
 refine WAE.done (by kernel_rfl) ?_ _
 refine En.next (WC.ret ?_)
 refine En.ret2 rfl (Res.cell rfl mq3 ag_39) (Res.tmp rfl) ?_
 obtain rfl := Option.some.inj h
 intro w' hs
 have hs := ((((((hs).pm 1).pm 1).pm 7).pm 7).pm 7).sub (.cons_cons _ (.cons_cons _ (.cons_cons _ (.cons_cons _ (.cons_cons _ (.cons _ (.cons _ (.cons _ (.slnil)))))))))
 exact ⟨_, _, rfl, ⟨a2_100, n2_100, c2_100, f2_100, a2_101, n2_101, c2_101, f2_101, a2_102, n2_102, c2_102, f2_102, a3_300, n3_300, c3_300, f3_300, W3_300, G3_300, rfl, rfl⟩, hs⟩

theorem w_spec_l19Copy {p_p0 : PlaneT} {r : PlaneT} {q0_0 : Option Addr} {l0_0 k0_0 : Nat} (h : spec_l19Copy p_p0 = some r) {w : World} (r0_0 : Rd tInt w q0_0 l0_0 k0_0 p_p0.Words)   :
    Calls Tryz.prog 75 #[.agg #[.bool p_p0.On, .int .i64 p_p0.X, .int .i64 p_p0.Y, .int .i64 p_p0.W, .int .i64 p_p0.H, .int .i64 p_p0.Layout, .slice q0_0 l0_0 k0_0, .int .i64 p_p0.Alpha, .int .i64 p_p0.Orient, .int .i64 p_p0.ToW, .int .i64 p_p0.ToH]] w (fun en w' => ∃ rv G, en = .returned rv ∧ (∃ (a0_0 : Option Addr) (n0_0 : Nat) (c0_0 : Nat) (f0_0 : List Nat), rv = .agg #[.bool r.On, .int .i64 r.X, .int .i64 r.Y, .int .i64 r.W, .int .i64 r.H, .int .i64 r.Layout, .slice a0_0 n0_0 c0_0, .int .i64 r.Alpha, .int .i64 r.Orient, .int .i64 r.ToW, .int .i64 r.ToH] ∧ G = [Chunk.own tInt f0_0 a0_0 n0_0 c0_0 r.Words]) ∧ St w G w') := by
 obtain rfl := r0_0.1
 unfold spec_l19Copy at h
 refine enter (vs := [_]) Tryz.func75 rfl rfl rfl rfl ?_
 refine WC.sr ?_
 refine WL.heavy rfl rfl rfl (OpH.box rfl rfl ?_)
 intro b0_0
 refine WL.heavy rfl rfl rfl (OpH.alloc zc_61 ?_)
 intro b0_1
 refine WL.nil (En.next (WC.seq ?_))
 obtain ⟨x1_3, e1_3, h⟩ := bnd h
 refine WC.region ?_
 refine WL.heavy rfl rfl rfl (OpH.lit0 (A := tInt) (evps.nil) bs_23_0_ ?_)
 intro b1_0
 refine sp (OpV.fieldAddr rfl fo_61_6) ?_
 refine sp (OpV.loadBox rfl pt_23 mq2 rfl) ?_
 refine WL.heavy rfl rfl rfl (OpH.appS (F := []) (A := tInt) tInt_flat rfl rfl rfl mi_23 rfl (by decide) (fun w hs => (r0_0.ext hs.below)) e1_3 ?_)
 intro f1_3 a1_3 c1_3
 refine sp (OpV.fieldAddr rfl fo_61_6) ?_
 refine WL.heavy0 rfl rfl (OpH.storeTo (A := [_, _]) [_, _, _, _, _, _, _, _, _, _, _] rfl rfl rfl ts_23 rfl rfl rfl ?_)
 refine WL.nil (En.next (WC.sr ?_))
 refine sp (OpV.loadAll rfl mq2 ag_61) ?_
 refine WL.heavy0 rfl rfl (OpH.storeTo (A := [_]) [_, _, _, _, _, _, _, _, _, _, _] rfl rfl rfl ts_61 rfl rfl rfl ?_)
 refine WL.nil (En.next (WC.ret ?_))
 refine En.ret1 rfl (Res.cell rfl mq1 ag_61) ?_
 obtain rfl := Option.some.inj h
 intro w' hs
 have hs := (hs).sub (.cons_cons _ (.cons _ (.cons _ (.slnil))))
 exact ⟨_, _, rfl, ⟨a1_3, x1_3.length, c1_3, f1_3, rfl, rfl⟩, hs⟩

theorem w_spec_l19CopyAll {list_p0 : List PlaneT} {r : (List PlaneT)} {q0_0 : Option Addr} {l0_0 k0_0 : Nat} (h : spec_l19CopyAll list_p0 = some r) {w : World} (r0_0 : Rd tPlane w q0_0 l0_0 k0_0 list_p0)   :
    Calls Tryz.prog 95 #[.slice q0_0 l0_0 k0_0] w (fun en w' => ∃ rv G, en = .returned rv ∧ (∃ (a0_0 : Option Addr) (n0_0 : Nat) (c0_0 : Nat) (f0_0 : List Nat), rv = .slice a0_0 n0_0 c0_0 ∧ G = [Chunk.own tPlane f0_0 a0_0 n0_0 c0_0 r]) ∧ St w G w') := by
 obtain rfl := r0_0.1
 unfold spec_l19CopyAll at h
 refine enter (vs := [_]) Tryz.func95 rfl rfl rfl rfl ?_
 refine WC.sr ?_
 refine ag ?_
 refine WL.nil (En.next (WC.sr ?_))
 refine WL.heavy rfl rfl rfl (OpH.lit0 (A := tPlane) (evps.nil) bs_36_0_ ?_)
 intro b1_0
 refine ag ?_
 refine WL.nil (En.next (WC.seq (WC.sr ?_)))
 refine ag ?_
 refine WL.nil (En.next (WC.block ?_))
 obtain ⟨zy0, ezy0, h⟩ := bnd h
 refine WC.cut (X := ((List PlaneT)) × ((Option Addr) × Nat × Nat × (List Nat))) (.exit 0) (fun x => zy0 = x.1) (fun x => match x with | (out_0e, (aout_0e, nout_0e, cout_0e, fout_0e)) => [(3, .slice aout_0e nout_0e cout_0e)]) (fun x => match x with | (out_0e, (aout_0e, nout_0e, cout_0e, fout_0e)) => [Chunk.own tPlane fout_0e aout_0e nout_0e cout_0e out_0e]) ?_ ?_
 ·
  rintro ⟨out_0e, ⟨aout_0e, nout_0e, cout_0e, fout_0e⟩⟩ hx
  replace hx : out_0e = zy0 := hx.symm
  subst hx
  show En _ _ _ _ [(3, .slice aout_0e nout_0e cout_0e)] [Chunk.own tPlane fout_0e aout_0e nout_0e cout_0e out_0e]
  refine En.block_exit (En.next (WC.sr ?_))
  refine mv ?_
  refine ag ?_
  refine WL.nil (En.next (WC.ret ?_))
  refine En.ret1 rfl (Res.tmp rfl) ?_
  obtain rfl := Option.some.inj h
  intro w' hs
  have hs := hs
  exact ⟨_, _, rfl, ⟨aout_0e, nout_0e, cout_0e, fout_0e, rfl, rfl⟩, hs⟩
 ·
  intro zK0_0
  refine WC.loopP (G := (Option Addr) × Nat × Nat × (List Nat)) (fun s g => match s, g with | (out_0, k_0), (aout_0, nout_0, cout_0, fout_0) => [(0, .slice q0_0 list_p0.length k0_0), (3, .slice aout_0 nout_0 cout_0), (4, .int .i64 k_0)]) (fun s g => match s, g with | (out_0, k_0), (aout_0, nout_0, cout_0, fout_0) => [Chunk.own tPlane fout_0 aout_0 nout_0 cout_0 out_0]) (([] : List PlaneT), 0) ((some ⟨b1_0, 0, .none⟩), 0, 0, [b1_0]) ezy0 (by exact sc (sc (sc sn))) (by exact (fun _ h => h)) ?_
  rintro zm0 ⟨out_0, k_0⟩ ⟨aout_0, nout_0, cout_0, fout_0⟩ zo0 zf0 zb0 ze0
  have zh0 : spec_l19CopyAll_L0 list_p0 out_0 k_0 = some zo0 := zf0
  unfold spec_l19CopyAll_L0 at zh0
  show WC _ _ _ _ _ [(0, .slice q0_0 list_p0.length k0_0), (3, .slice aout_0 nout_0 cout_0), (4, .int .i64 k_0)] [Chunk.own tPlane fout_0 aout_0 nout_0 cout_0 out_0]
  refine WC.seq (WC.sr ?_)
  refine mv ?_
  refine mv ?_
  refine sp (OpV.len rfl si_36 rfl) ?_
  refine sp (OpV.lss rfl rfl) ?_
  refine WL.nil (En.next ?_)
  refine WC.cond rfl ?_ ?_
  ·
   intro hc_1
   replace zh0 := ifO_t hc_1 zh0
   refine WC.skip (En.next (WC.seq (WC.block ?_)))
   obtain ⟨x5_3, e5_3, zh0⟩ := bnd zh0
   obtain ⟨g5_3, o5_3, _, ha5_3, ⟨a5_3_1, c5_3_1, rfl, r5_3_1⟩, hd5_3⟩ := Rd.atIdx r0_0 e5_3
   replace hd5_3 : ∀ (j : Nat) v, ([.bool x5_3.On, .int .i64 x5_3.X, .int .i64 x5_3.Y, .int .i64 x5_3.W, .int .i64 x5_3.H, .int .i64 x5_3.Layout, .slice a5_3_1 x5_3.Words.length c5_3_1, .int .i64 x5_3.Alpha, .int .i64 x5_3.Orient, .int .i64 x5_3.ToW, .int .i64 x5_3.ToH] : List Value)[j]? = some v → w.cell? ⟨g5_3, o5_3 + k_0.toNat * 11 + j, .none⟩ = some v := hd5_3
   obtain ⟨x5_5, e5_5, zh0⟩ := bnd zh0
   obtain ⟨x5_7, e5_7, zh0⟩ := bnd zh0
   refine WC.region ?_
   refine mv ?_
   refine mv ?_
   refine mv ?_
   refine sp (OpV.idxA rfl rfl se_36 ha5_3 ⟨(idx_some e5_3).1, (idx_some e5_3).2.1⟩) ?_
   refine sp (OpV.loadN rfl ag_61 rfl (fun w hs => hs.cellsAt hd5_3)) ?_
   refine WL.heavy rfl rfl rfl (OpH.callR (ec rfl e0) ca_75 (fun w hs => w_spec_l19Copy e5_5 (r5_3_1.ext hs.below)) ?_)
   rintro _ _ ⟨a5_500, n5_500, c5_500, f5_500, rfl, rfl⟩
   refine WL.heavy rfl rfl rfl (OpH.buildSlice (evps.cons rfl (evps.nil)) (bs_36_1_0 _ _ _ _ _ _ _ _ _ _ _ _ _) ?_)
   intro b5_6
   refine WL.wkF (fun _ h => h.pm 1) ?_
   refine WL.wkF (fun _ h => tPlane_mk x5_5.On x5_5.X x5_5.Y x5_5.W x5_5.H x5_5.Layout x5_5.Words x5_5.Alpha x5_5.Orient x5_5.ToW x5_5.ToH h) ?_
   refine WL.wkF (fun _ h => h.pm 2) ?_
   refine WL.wkF (fun _ h => h.pm 1) ?_
   refine WL.heavy rfl rfl rfl (OpH.push (A := tPlane) rfl rfl rfl mi_36 rfl (by decide) mq0 e5_7 ?_)
   intro f5_7 a5_7 c5_7
   refine ag ?_
   refine WL.nil (En.block_norm (En.next (WC.region ?_)))
   refine mv ?_
   refine sp (OpV.addR rfl rfl) ?_
   refine ag ?_
   refine WL.nil ?_
   exact En.backP zb0 zh0 (a5_7, x5_7.length, c5_7, f5_7) (sc (sc (sc sn))) (fun _ h => (h).sub (.cons_cons _ (.cons _ (.slnil))))
  ·
   intro hc_1
   replace zh0 := ifO_f hc_1 zh0
   refine WC.exit (En.then_exit (En.then_exit ?_))
   have hx := exitP ze0 zh0
   exact En.wk _ _ (sc sn) (fun _ h => h) (zK0_0 (out_0, (aout_0, nout_0, cout_0, fout_0)) hx.symm)

theorem w_spec_l22CopyColor {m_p0 : ColorMapT} {r : ColorMapT} {q0_0 : Option Addr} {l0_0 k0_0 : Nat} {q0_1 : Option Addr} {l0_1 k0_1 : Nat} (h : spec_l22CopyColor m_p0 = some r) {w : World} (r0_0 : Rd tInt w q0_0 l0_0 k0_0 m_p0.Matrix) (r0_1 : Rd tInt w q0_1 l0_1 k0_1 m_p0.Curve)   :
    Calls Tryz.prog 74 #[.agg #[.slice q0_0 l0_0 k0_0, .slice q0_1 l0_1 k0_1]] w (fun en w' => ∃ rv G, en = .returned rv ∧ (∃ (a0_0 : Option Addr) (n0_0 : Nat) (c0_0 : Nat) (f0_0 : List Nat) (a0_1 : Option Addr) (n0_1 : Nat) (c0_1 : Nat) (f0_1 : List Nat), rv = .agg #[.slice a0_0 n0_0 c0_0, .slice a0_1 n0_1 c0_1] ∧ G = [Chunk.own tInt f0_0 a0_0 n0_0 c0_0 r.Matrix, Chunk.own tInt f0_1 a0_1 n0_1 c0_1 r.Curve]) ∧ St w G w') := by
 obtain rfl := r0_0.1
 obtain rfl := r0_1.1
 unfold spec_l22CopyColor at h
 refine enter (vs := [_]) Tryz.func74 rfl rfl rfl rfl ?_
 refine WC.sr ?_
 refine WL.heavy rfl rfl rfl (OpH.box rfl rfl ?_)
 intro b0_0
 refine WL.heavy rfl rfl rfl (OpH.alloc zc_37 ?_)
 intro b0_1
 refine WL.nil (En.next (WC.seq ?_))
 obtain ⟨x1_3, e1_3, h⟩ := bnd h
 obtain ⟨x1_7, e1_7, h⟩ := bnd h
 refine WC.cut (X := (List Nat) × (Option Addr) × Nat × (List Nat) × (Option Addr) × Nat) .normal (fun _ => True) (fun x => match x with | (f1_7, a1_7, c1_7, f1_3, a1_3, c1_3) => [(2, .pointer (some ⟨b0_1, 0, .none⟩))]) (fun x => match x with | (f1_7, a1_7, c1_7, f1_3, a1_3, c1_3) => [Chunk.own tInt f1_7 a1_7 x1_7.length c1_7 x1_7, Chunk.own tInt f1_3 a1_3 x1_3.length c1_3 x1_3, Chunk.box b0_1 37 [.slice a1_3 x1_3.length c1_3, .slice a1_7 x1_7.length c1_7]]) ?_ ?_
 ·
  rintro ⟨f1_7, a1_7, c1_7, f1_3, a1_3, c1_3⟩ _
  show En _ _ _ _ [(2, .pointer (some ⟨b0_1, 0, .none⟩))] [Chunk.own tInt f1_7 a1_7 x1_7.length c1_7 x1_7, Chunk.own tInt f1_3 a1_3 x1_3.length c1_3 x1_3, Chunk.box b0_1 37 [.slice a1_3 x1_3.length c1_3, .slice a1_7 x1_7.length c1_7]]
  refine En.next (WC.ret ?_)
  refine En.ret1 rfl (Res.cell rfl mq2 ag_37) ?_
  obtain rfl := Option.some.inj h
  intro w' hs
  have hs := ((hs).pm 1).sub (.cons_cons _ (.cons_cons _ (.cons _ (.slnil))))
  exact ⟨_, _, rfl, ⟨a1_3, x1_3.length, c1_3, f1_3, a1_7, x1_7.length, c1_7, f1_7, rfl, rfl⟩, hs⟩
 ·
  intro KR1
  refine WC.drawnH [_] ([_]) (fun _ h => h) (by kernel_rfl) ?_
  refine tk 1 rfl (OpV.fieldAddr rfl fo_37_0) ?_
  refine tk 2 rfl (OpV.loadBox rfl pt_23 mq0 rfl) ?_
  refine tk 5 rfl (OpV.fieldAddr rfl fo_37_1) ?_
  refine tk 6 rfl (OpV.loadBox rfl pt_23 mq0 rfl) ?_
  refine WAE.all (rs := [0, 4]) (by kernel_rfl) rfl (AllR.cons rfl rfl rfl rfl ?_ (AllR.cons rfl rfl rfl rfl ?_ AllR.nil))
  ·
   refine OpH.lit0 (A := tInt) (evps.nil) bs_23_0_ ?_
   intro b1_0
   refine ⟨[_, _], rfl, ?_⟩
   refine WAE.all (rs := [3, 4]) (by kernel_rfl) rfl (AllR.cons rfl rfl rfl rfl ?_ (AllR.cons rfl rfl rfl rfl ?_ AllR.nil))
   ·
    refine OpH.appS (F := []) (A := tInt) tInt_flat rfl rfl rfl mi_23 rfl (by decide) (fun w hs => (r0_0.ext hs.below)) e1_3 ?_
    intro f1_3 a1_3 c1_3
    refine ⟨[_, _], rfl, ?_⟩
    refine al1 4 rfl ?_
    refine OpH.lit0 (A := tInt) (evps.nil) bs_23_0_ ?_
    intro b1_4
    refine ⟨[_, _, _], rfl, ?_⟩
    refine al1 7 rfl ?_
    refine OpH.appS (F := []) (A := tInt) tInt_flat rfl rfl rfl mi_23 rfl (by decide) (fun w hs => (r0_1.ext hs.below)) e1_7 ?_
    intro f1_7 a1_7 c1_7
    refine ⟨[_, _, _], rfl, ?_⟩
    refine tk 8 rfl (OpV.build (evps.cons rfl (evps.cons rfl (evps.nil))) (bd_37_0_1 _ _ _ _ _ _)) ?_
    refine al0 9 rfl ?_
    refine OpH.storeTo (A := [_, _]) [_, _] rfl rfl rfl ts_37 rfl rfl rfl ?_
    refine ⟨[_, _, _], rfl, ?_⟩
    refine WAE.rebase (H := []) ?_
    refine WAE.done (by kernel_rfl) ?_ _
    exact En.wk _ _ (sc sn) (fun _ h => (h).sub (.cons_cons _ (.cons_cons _ (.cons_cons _ (.cons _ (.slnil)))))) (KR1 (f1_7, a1_7, c1_7, f1_3, a1_3, c1_3) trivial)
   ·
    refine OpH.lit0 (A := tInt) (evps.nil) bs_23_0_ ?_
    intro b1_4
    refine ⟨[_, _, _], rfl, ?_⟩
    refine al1 3 rfl ?_
    refine OpH.appS (F := [_]) (A := tInt) tInt_flat rfl rfl rfl mi_23 rfl (by decide) (fun w hs => (r0_0.ext hs.below)) e1_3 ?_
    intro f1_3 a1_3 c1_3
    refine ⟨[_, _, _], rfl, ?_⟩
    refine al1 7 rfl ?_
    refine OpH.appS (F := []) (A := tInt) tInt_flat rfl rfl rfl mi_23 rfl (by decide) (fun w hs => (r0_1.ext hs.below)) e1_7 ?_
    intro f1_7 a1_7 c1_7
    refine ⟨[_, _, _], rfl, ?_⟩
    refine tk 8 rfl (OpV.build (evps.cons rfl (evps.cons rfl (evps.nil))) (bd_37_0_1 _ _ _ _ _ _)) ?_
    refine al0 9 rfl ?_
    refine OpH.storeTo (A := [_, _]) [_, _] rfl rfl rfl ts_37 rfl rfl rfl ?_
    refine ⟨[_, _, _], rfl, ?_⟩
    refine WAE.rebase (H := []) ?_
    refine WAE.done (by kernel_rfl) ?_ _
    exact En.wk _ _ (sc sn) (fun _ h => (h).sub (.cons_cons _ (.cons_cons _ (.cons_cons _ (.cons _ (.slnil)))))) (KR1 (f1_7, a1_7, c1_7, f1_3, a1_3, c1_3) trivial)
  ·
   refine OpH.lit0 (A := tInt) (evps.nil) bs_23_0_ ?_
   intro b1_4
   refine ⟨[_, _], rfl, ?_⟩
   refine al1 0 rfl ?_
   refine OpH.lit0 (A := tInt) (evps.nil) bs_23_0_ ?_
   intro b1_0
   refine ⟨[_, _, _], rfl, ?_⟩
   refine al1 3 rfl ?_
   refine OpH.appS (F := []) (A := tInt) tInt_flat rfl rfl rfl mi_23 rfl (by decide) (fun w hs => (r0_0.ext hs.below)) e1_3 ?_
   intro f1_3 a1_3 c1_3
   refine ⟨[_, _, _], rfl, ?_⟩
   refine al1 7 rfl ?_
   refine OpH.appS (F := [_]) (A := tInt) tInt_flat rfl rfl rfl mi_23 rfl (by decide) (fun w hs => (r0_1.ext hs.below)) e1_7 ?_
   intro f1_7 a1_7 c1_7
   refine ⟨[_, _, _], rfl, ?_⟩
   refine tk 8 rfl (OpV.build (evps.cons rfl (evps.cons rfl (evps.nil))) (bd_37_0_1 _ _ _ _ _ _)) ?_
   refine al0 9 rfl ?_
   refine OpH.storeTo (A := [_, _]) [_, _] rfl rfl rfl ts_37 rfl rfl rfl ?_
   refine ⟨[_, _, _], rfl, ?_⟩
   refine WAE.rebase (H := []) ?_
   refine WAE.done (by kernel_rfl) ?_ _
   exact En.wk _ _ (sc sn) (fun _ h => ((((h).pm 2).pm 1).pm 2).sub (.cons_cons _ (.cons_cons _ (.cons_cons _ (.cons _ (.slnil)))))) (KR1 (f1_7, a1_7, c1_7, f1_3, a1_3, c1_3) trivial)

theorem w_spec_l22Copy {c_p0 : CrtcT} {r : CrtcT} {q0_0 : Option Addr} {l0_0 k0_0 : Nat} {q0_1 : Option Addr} {l0_1 k0_1 : Nat} {q0_2 : Option Addr} {l0_2 k0_2 : Nat} (h : spec_l22Copy c_p0 = some r) {w : World} (r0_0 : Rd tPlane w q0_0 l0_0 k0_0 c_p0.Planes) (r0_1 : Rd tInt w q0_1 l0_1 k0_1 c_p0.Color.Matrix) (r0_2 : Rd tInt w q0_2 l0_2 k0_2 c_p0.Color.Curve)   :
    Calls Tryz.prog 44 #[.agg #[.int .i64 c_p0.W, .int .i64 c_p0.H, .slice q0_0 l0_0 k0_0, .slice q0_1 l0_1 k0_1, .slice q0_2 l0_2 k0_2]] w (fun en w' => ∃ rv G, en = .returned rv ∧ (∃ (a0_0 : Option Addr) (n0_0 : Nat) (c0_0 : Nat) (f0_0 : List Nat) (a0_1 : Option Addr) (n0_1 : Nat) (c0_1 : Nat) (f0_1 : List Nat) (a0_2 : Option Addr) (n0_2 : Nat) (c0_2 : Nat) (f0_2 : List Nat), rv = .agg #[.int .i64 r.W, .int .i64 r.H, .slice a0_0 n0_0 c0_0, .slice a0_1 n0_1 c0_1, .slice a0_2 n0_2 c0_2] ∧ G = [Chunk.own tPlane f0_0 a0_0 n0_0 c0_0 r.Planes, Chunk.own tInt f0_1 a0_1 n0_1 c0_1 r.Color.Matrix, Chunk.own tInt f0_2 a0_2 n0_2 c0_2 r.Color.Curve]) ∧ St w G w') := by
 obtain rfl := r0_0.1
 obtain rfl := r0_1.1
 obtain rfl := r0_2.1
 unfold spec_l22Copy at h
 refine enter (vs := [_]) Tryz.func44 rfl rfl rfl rfl ?_
 refine WC.sr ?_
 refine WL.heavy rfl rfl rfl (OpH.box rfl rfl ?_)
 intro b0_0
 refine WL.heavy rfl rfl rfl (OpH.alloc zc_39 ?_)
 intro b0_1
 refine WL.nil (En.next (WC.seq ?_))
 obtain ⟨x1_6, e1_6, h⟩ := bnd h
 obtain ⟨x1_9, e1_9, h⟩ := bnd h
 refine WC.drawnH [_] ([_]) (fun _ h => h) (by kernel_rfl) ?_
 refine tk 0 rfl (OpV.fieldAddr rfl fo_39_0) ?_
 refine tk 1 rfl (OpV.loadBox rfl pt_3 mq0 rfl) ?_
 refine tk 2 rfl (OpV.fieldAddr rfl fo_39_1) ?_
 refine tk 3 rfl (OpV.loadBox rfl pt_3 mq0 rfl) ?_
 refine tk 4 rfl (OpV.fieldAddr rfl fo_39_2) ?_
 refine tk 5 rfl (OpV.loadBox rfl pt_36 mq0 rfl) ?_
 refine tk 7 rfl (OpV.fieldAddr rfl fo_39_3) ?_
 refine tk 8 rfl (OpV.loadPart rfl mq0 ag_37 rfl rfl) ?_
 refine al1 6 rfl ?_
 refine OpH.callR (ec rfl e0) ca_95 (fun w hs => w_spec_l19CopyAll e1_6 (r0_0.ext hs.below)) ?_
 rintro _ _ ⟨a1_600, n1_600, c1_600, f1_600, rfl, rfl⟩
 refine ⟨[_, _], rfl, ?_⟩
 refine al1 9 rfl ?_
 refine OpH.callR (ec rfl e0) ca_74 (fun w hs => w_spec_l22CopyColor e1_9 (r0_1.ext hs.below) (r0_2.ext hs.below)) ?_
 rintro _ _ ⟨a1_900, n1_900, c1_900, f1_900, a1_901, n1_901, c1_901, f1_901, rfl, rfl⟩
 refine ⟨[_, _, _, _], rfl, ?_⟩
 refine tk 10 rfl (OpV.build (evps.cons rfl (evps.cons rfl (evps.cons rfl (evps.cons rfl (evps.nil))))) (bd_39_0_1_2_3 _ _ _ _ _ _ _ _ _ _ _)) ?_
 refine al0 11 rfl ?_
 refine OpH.storeTo (A := [_, _, _]) [_, _, _, _, _] rfl rfl rfl ts_39 rfl rfl rfl ?_
 refine ⟨[_, _, _, _], rfl, ?_⟩
 refine WAE.rebase (H := []) ?_
 refine WAE.done (by kernel_rfl) ?_ _
 refine En.next (WC.ret ?_)
 refine En.ret1 rfl (Res.cell rfl mq3 ag_39) ?_
 obtain rfl := Option.some.inj h
 intro w' hs
 have hs := ((((hs).pm 1).pm 1).pm 2).sub (.cons_cons _ (.cons_cons _ (.cons_cons _ (.cons _ (.cons _ (.slnil))))))
 exact ⟨_, _, rfl, ⟨a1_600, n1_600, c1_600, f1_600, a1_900, n1_900, c1_900, f1_900, a1_901, n1_901, c1_901, f1_901, rfl, rfl⟩, hs⟩

theorem w_spec_l19Zero {p_p0 : PlaneT} {r : Bool} {q0_0 : Option Addr} {l0_0 k0_0 : Nat} (h : spec_l19Zero p_p0 = some r) {w : World} (r0_0 : Rd tInt w q0_0 l0_0 k0_0 p_p0.Words)   :
    Calls Tryz.prog 112 #[.agg #[.bool p_p0.On, .int .i64 p_p0.X, .int .i64 p_p0.Y, .int .i64 p_p0.W, .int .i64 p_p0.H, .int .i64 p_p0.Layout, .slice q0_0 l0_0 k0_0, .int .i64 p_p0.Alpha, .int .i64 p_p0.Orient, .int .i64 p_p0.ToW, .int .i64 p_p0.ToH]] w (fun en w' => en = .returned (.bool r) ∧ Ext w w') := by
 obtain rfl := r0_0.1
 unfold spec_l19Zero at h
 refine enter (vs := [_]) Tryz.func112 rfl rfl rfl rfl ?_
 refine WC.sr ?_
 refine WL.heavy rfl rfl rfl (OpH.box rfl rfl ?_)
 intro b0_0
 refine ag ?_
 refine WL.nil (En.next (WC.sr ?_))
 refine sp (OpV.fieldAddr rfl fo_61_1) ?_
 refine sp (OpV.loadBox rfl pt_3 mq0 rfl) ?_
 refine sp (OpV.eql rfl rfl) ?_
 refine mv ?_
 refine Lt.ofWL.and 6 10 9 (p := ?pz1) (rest := ?qz1) (B := ?Bz1) rfl ?Tz1 ?Fz1 ?az1 ?bz1 ?cz1 ?dz1 ?ez1
 case Tz1 =>
  intro hcz1 hkz1
  refine sp (OpV.fieldAddr rfl fo_61_2) ?_
  refine sp (OpV.loadBox rfl pt_3 mq0 rfl) ?_
  refine sp (OpV.eql rfl rfl) ?_
  refine hkz1 _ ?_ ?_
  exact rfl
  repeat (first | exact Sub.refl _ | refine Sub.skip rfl ?_)
 case Fz1 =>
  intro hcz1 hkz1
  refine sk ?_
  refine sk ?_
  refine sk ?_
  refine hkz1 _ ?_
  repeat (first | exact Sub.refl _ | refine Sub.skip rfl ?_)
 case az1 => exact rfl
 case bz1 => exact rfl
 case cz1 => exact rfl
 case dz1 => exact rfl
 refine mv ?_
 refine Lt.ofWL.and 11 15 14 (p := ?pz2) (rest := ?qz2) (B := ?Bz2) rfl ?Tz2 ?Fz2 ?az2 ?bz2 ?cz2 ?dz2 ?ez2
 case Tz2 =>
  intro hcz2 hkz2
  refine sp (OpV.fieldAddr rfl fo_61_3) ?_
  refine sp (OpV.loadBox rfl pt_3 mq0 rfl) ?_
  refine sp (OpV.eql rfl rfl) ?_
  refine hkz2 _ ?_ ?_
  exact rfl
  repeat (first | exact Sub.refl _ | refine Sub.skip rfl ?_)
 case Fz2 =>
  intro hcz2 hkz2
  refine sk ?_
  refine sk ?_
  refine sk ?_
  refine hkz2 _ ?_
  repeat (first | exact Sub.refl _ | refine Sub.skip rfl ?_)
 case az2 => exact rfl
 case bz2 => exact rfl
 case cz2 => exact rfl
 case dz2 => exact rfl
 refine mv ?_
 refine Lt.ofWL.and 16 20 19 (p := ?pz3) (rest := ?qz3) (B := ?Bz3) rfl ?Tz3 ?Fz3 ?az3 ?bz3 ?cz3 ?dz3 ?ez3
 case Tz3 =>
  intro hcz3 hkz3
  refine sp (OpV.fieldAddr rfl fo_61_4) ?_
  refine sp (OpV.loadBox rfl pt_3 mq0 rfl) ?_
  refine sp (OpV.eql rfl rfl) ?_
  refine hkz3 _ ?_ ?_
  exact rfl
  repeat (first | exact Sub.refl _ | refine Sub.skip rfl ?_)
 case Fz3 =>
  intro hcz3 hkz3
  refine sk ?_
  refine sk ?_
  refine sk ?_
  refine hkz3 _ ?_
  repeat (first | exact Sub.refl _ | refine Sub.skip rfl ?_)
 case az3 => exact rfl
 case bz3 => exact rfl
 case cz3 => exact rfl
 case dz3 => exact rfl
 refine mv ?_
 refine Lt.ofWL.and 21 25 24 (p := ?pz4) (rest := ?qz4) (B := ?Bz4) rfl ?Tz4 ?Fz4 ?az4 ?bz4 ?cz4 ?dz4 ?ez4
 case Tz4 =>
  intro hcz4 hkz4
  refine sp (OpV.fieldAddr rfl fo_61_5) ?_
  refine sp (OpV.loadBox rfl pt_3 mq0 rfl) ?_
  refine sp (OpV.eql rfl rfl) ?_
  refine hkz4 _ ?_ ?_
  exact rfl
  repeat (first | exact Sub.refl _ | refine Sub.skip rfl ?_)
 case Fz4 =>
  intro hcz4 hkz4
  refine sk ?_
  refine sk ?_
  refine sk ?_
  refine hkz4 _ ?_
  repeat (first | exact Sub.refl _ | refine Sub.skip rfl ?_)
 case az4 => exact rfl
 case bz4 => exact rfl
 case cz4 => exact rfl
 case dz4 => exact rfl
 refine mv ?_
 refine Lt.ofWL.and 26 31 30 (p := ?pz5) (rest := ?qz5) (B := ?Bz5) rfl ?Tz5 ?Fz5 ?az5 ?bz5 ?cz5 ?dz5 ?ez5
 case Tz5 =>
  intro hcz5 hkz5
  refine sp (OpV.fieldAddr rfl fo_61_6) ?_
  refine sp (OpV.loadBox rfl pt_23 mq0 rfl) ?_
  refine sp (OpV.len rfl si_23 rfl) ?_
  refine sp (OpV.eql rfl rfl) ?_
  refine hkz5 _ ?_ ?_
  exact rfl
  repeat (first | exact Sub.refl _ | refine Sub.skip rfl ?_)
 case Fz5 =>
  intro hcz5 hkz5
  refine sk ?_
  refine sk ?_
  refine sk ?_
  refine sk ?_
  refine hkz5 _ ?_
  repeat (first | exact Sub.refl _ | refine Sub.skip rfl ?_)
 case az5 => exact rfl
 case bz5 => exact rfl
 case cz5 => exact rfl
 case dz5 => exact rfl
 refine mv ?_
 refine Lt.ofWL.and 32 36 35 (p := ?pz6) (rest := ?qz6) (B := ?Bz6) rfl ?Tz6 ?Fz6 ?az6 ?bz6 ?cz6 ?dz6 ?ez6
 case Tz6 =>
  intro hcz6 hkz6
  refine sp (OpV.fieldAddr rfl fo_61_7) ?_
  refine sp (OpV.loadBox rfl pt_3 mq0 rfl) ?_
  refine sp (OpV.eql rfl rfl) ?_
  refine hkz6 _ ?_ ?_
  exact rfl
  repeat (first | exact Sub.refl _ | refine Sub.skip rfl ?_)
 case Fz6 =>
  intro hcz6 hkz6
  refine sk ?_
  refine sk ?_
  refine sk ?_
  refine hkz6 _ ?_
  repeat (first | exact Sub.refl _ | refine Sub.skip rfl ?_)
 case az6 => exact rfl
 case bz6 => exact rfl
 case cz6 => exact rfl
 case dz6 => exact rfl
 refine mv ?_
 refine Lt.ofWL.and 37 41 40 (p := ?pz7) (rest := ?qz7) (B := ?Bz7) rfl ?Tz7 ?Fz7 ?az7 ?bz7 ?cz7 ?dz7 ?ez7
 case Tz7 =>
  intro hcz7 hkz7
  refine sp (OpV.fieldAddr rfl fo_61_8) ?_
  refine sp (OpV.loadBox rfl pt_3 mq0 rfl) ?_
  refine sp (OpV.eql rfl rfl) ?_
  refine hkz7 _ ?_ ?_
  exact rfl
  repeat (first | exact Sub.refl _ | refine Sub.skip rfl ?_)
 case Fz7 =>
  intro hcz7 hkz7
  refine sk ?_
  refine sk ?_
  refine sk ?_
  refine hkz7 _ ?_
  repeat (first | exact Sub.refl _ | refine Sub.skip rfl ?_)
 case az7 => exact rfl
 case bz7 => exact rfl
 case cz7 => exact rfl
 case dz7 => exact rfl
 refine mv ?_
 refine Lt.ofWL.and 42 46 45 (p := ?pz8) (rest := ?qz8) (B := ?Bz8) rfl ?Tz8 ?Fz8 ?az8 ?bz8 ?cz8 ?dz8 ?ez8
 case Tz8 =>
  intro hcz8 hkz8
  refine sp (OpV.fieldAddr rfl fo_61_9) ?_
  refine sp (OpV.loadBox rfl pt_3 mq0 rfl) ?_
  refine sp (OpV.eql rfl rfl) ?_
  refine hkz8 _ ?_ ?_
  exact rfl
  repeat (first | exact Sub.refl _ | refine Sub.skip rfl ?_)
 case Fz8 =>
  intro hcz8 hkz8
  refine sk ?_
  refine sk ?_
  refine sk ?_
  refine hkz8 _ ?_
  repeat (first | exact Sub.refl _ | refine Sub.skip rfl ?_)
 case az8 => exact rfl
 case bz8 => exact rfl
 case cz8 => exact rfl
 case dz8 => exact rfl
 refine mv ?_
 refine Lt.ofWL.and 47 51 50 (p := ?pz9) (rest := ?qz9) (B := ?Bz9) rfl ?Tz9 ?Fz9 ?az9 ?bz9 ?cz9 ?dz9 ?ez9
 case Tz9 =>
  intro hcz9 hkz9
  refine sp (OpV.fieldAddr rfl fo_61_10) ?_
  refine sp (OpV.loadBox rfl pt_3 mq0 rfl) ?_
  refine sp (OpV.eql rfl rfl) ?_
  refine hkz9 _ ?_ ?_
  exact rfl
  repeat (first | exact Sub.refl _ | refine Sub.skip rfl ?_)
 case Fz9 =>
  intro hcz9 hkz9
  refine sk ?_
  refine sk ?_
  refine sk ?_
  refine hkz9 _ ?_
  repeat (first | exact Sub.refl _ | refine Sub.skip rfl ?_)
 case az9 => exact rfl
 case bz9 => exact rfl
 case cz9 => exact rfl
 case dz9 => exact rfl
 refine ag ?_
 refine WL.nil (En.next (WC.ret ?_))
 refine En.ret1 rfl (Res.tmp rfl) ?_
 obtain rfl := Option.some.inj h
 intro w' hs
 exact ⟨rfl, hs.below⟩

theorem w_spec_l15Expand {words_p0 : List Int} {most_p1 : Int} {r : (List Int)} {q0_0 : Option Addr} {l0_0 k0_0 : Nat} (h : spec_l15Expand words_p0 most_p1 = some r) {w : World} (r0_0 : Rd tInt w q0_0 l0_0 k0_0 words_p0)   :
    Calls Tryz.prog 166 #[.slice q0_0 l0_0 k0_0, .int .i64 most_p1] w (fun en w' => ∃ rv G, en = .returned rv ∧ (∃ (a0_0 : Option Addr) (n0_0 : Nat) (c0_0 : Nat) (f0_0 : List Nat), rv = .slice a0_0 n0_0 c0_0 ∧ G = [Chunk.own tInt f0_0 a0_0 n0_0 c0_0 r]) ∧ St w G w') := by
 obtain rfl := r0_0.1
 unfold spec_l15Expand at h
 refine enter (vs := [_, _]) Tryz.func166 rfl rfl rfl rfl ?_
 refine WC.sr ?_
 refine ag ?_
 refine WL.nil (En.next (WC.sr ?_))
 refine WL.heavy rfl rfl rfl (OpH.lit0 (A := tInt) (evps.nil) bs_23_0_ ?_)
 intro b1_0
 refine ag ?_
 refine WL.nil (En.next (WC.seq (WC.sr ?_)))
 refine ag ?_
 refine WL.nil (En.next (WC.block ?_))
 obtain ⟨zy0, ezy0, h⟩ := bnd h
 refine WC.cut (X := ((List Int)) × ((Option Addr) × Nat × Nat × (List Nat))) (.exit 0) (fun x => zy0 = .inl x.1) (fun x => match x with | (out_0e, (aout_0e, nout_0e, cout_0e, fout_0e)) => [(5, .slice aout_0e nout_0e cout_0e)]) (fun x => match x with | (out_0e, (aout_0e, nout_0e, cout_0e, fout_0e)) => [Chunk.own tInt fout_0e aout_0e nout_0e cout_0e out_0e]) ?_ ?_
 ·
  rintro ⟨out_0e, ⟨aout_0e, nout_0e, cout_0e, fout_0e⟩⟩ hx
  replace hx : .inl out_0e = zy0 := hx.symm
  subst hx
  replace h := fork_l h
  show En _ _ _ _ [(5, .slice aout_0e nout_0e cout_0e)] [Chunk.own tInt fout_0e aout_0e nout_0e cout_0e out_0e]
  refine En.block_exit (En.next (WC.sr ?_))
  refine mv ?_
  refine ag ?_
  refine WL.nil (En.next (WC.ret ?_))
  refine En.ret1 rfl (Res.tmp rfl) ?_
  obtain rfl := Option.some.inj h
  intro w' hs
  have hs := hs
  exact ⟨_, _, rfl, ⟨aout_0e, nout_0e, cout_0e, fout_0e, rfl, rfl⟩, hs⟩
 ·
  intro zK0_0
  refine WC.loopP (G := (Option Addr) × Nat × Nat × (List Nat)) (fun s g => match s, g with | (out_0, k_0), (aout_0, nout_0, cout_0, fout_0) => [(0, .slice q0_0 words_p0.length k0_0), (1, .int .i64 most_p1), (5, .slice aout_0 nout_0 cout_0), (6, .int .i64 k_0)]) (fun s g => match s, g with | (out_0, k_0), (aout_0, nout_0, cout_0, fout_0) => [Chunk.own tInt fout_0 aout_0 nout_0 cout_0 out_0]) (([] : List Int), 0) ((some ⟨b1_0, 0, .none⟩), 0, 0, [b1_0]) ezy0 (by exact sc (sc (sc (sc sn)))) (by exact (fun _ h => h)) ?_
  rintro zm0 ⟨out_0, k_0⟩ ⟨aout_0, nout_0, cout_0, fout_0⟩ zo0 zf0 zb0 ze0
  have zh0 : spec_l15Expand_L0 words_p0 most_p1 out_0 k_0 = some zo0 := zf0
  unfold spec_l15Expand_L0 at zh0
  show WC _ _ _ _ _ [(0, .slice q0_0 words_p0.length k0_0), (1, .int .i64 most_p1), (5, .slice aout_0 nout_0 cout_0), (6, .int .i64 k_0)] [Chunk.own tInt fout_0 aout_0 nout_0 cout_0 out_0]
  refine WC.seq (WC.sr ?_)
  refine mv ?_
  refine sp (OpV.addR rfl rfl) ?_
  refine mv ?_
  refine sp (OpV.len rfl si_23 rfl) ?_
  refine sp (OpV.lss rfl rfl) ?_
  refine WL.nil (En.next ?_)
  refine WC.cond rfl ?_ ?_
  ·
   intro hc_1
   replace zh0 := ifO_t hc_1 zh0
   refine WC.skip (En.next (WC.seq (WC.block (WC.seq (WC.seq ?_)))))
   obtain ⟨x5_2, e5_2, zh0⟩ := bnd zh0
   obtain ⟨g5_2, o5_2, _, ha5_2, rfl, hd5_2⟩ := Rd.atIdx r0_0 e5_2
   replace hd5_2 : ∀ (j : Nat) v, ([.int .i64 x5_2] : List Value)[j]? = some v → w.cell? ⟨g5_2, o5_2 + k_0.toNat * 1 + j, .none⟩ = some v := hd5_2
   obtain ⟨x5_8, e5_8, zh0⟩ := bnd zh0
   refine WC.region ?_
   refine mv ?_
   refine mv ?_
   refine sp (OpV.idxA rfl rfl se_23 ha5_2 ⟨(idx_some e5_2).1, (idx_some e5_2).2.1⟩) ?_
   refine sp (OpV.load1 rfl pt_3 (fun w hs => hs.cell (hd5_2 0 _ rfl))) ?_
   refine mv ?_
   refine mv ?_
   refine sp (OpV.inhF fun hin => OpV.lenO (xs := out_0) rfl si_23 rfl (ownLen hin mq0)) ?_
   refine sp (OpV.subR rfl rfl) ?_
   refine sp (OpV.call (ec rfl (ec rfl (ec rfl e0))) ca_64 (fun w hs => w_spec_l01In e5_8)) ?_
   refine sp (OpV.not rfl) ?_
   refine WL.nil (En.next ?_)
   refine WC.cond rfl ?_ ?_
   ·
    intro hc_2
    replace zh0 := ifO_t hc_2 zh0
    refine WC.sr ?_
    refine WL.heavy rfl rfl rfl (OpH.lit0 (A := tInt) (evps.nil) bs_23_0_ ?_)
    intro b6_0
    refine ag ?_
    refine WL.nil (En.next (WC.ret (En.then_ret (En.block_ret (En.then_ret (En.then_ret (En.block_ret (En.then_ret ?_))))))))
    refine En.ret1 rfl (Res.tmp rfl) ?_
    have hx := exitP ze0 zh0
    subst hx
    replace h := fork_r h
    obtain rfl := Option.some.inj h
    intro w' hs
    have hs := (hs).sub (.cons_cons _ (.cons _ (.slnil)))
    exact ⟨_, _, rfl, ⟨(some ⟨b6_0, 0, .none⟩), 0, 0, [b6_0], rfl, rfl⟩, hs⟩
   ·
    intro hc_2
    replace zh0 := ifO_f hc_2 zh0
    refine WC.skip (En.next (WC.seq ?_))
    obtain ⟨x7_2, e7_2, zh0⟩ := bnd zh0
    obtain ⟨g7_2, o7_2, _, ha7_2, rfl, hd7_2⟩ := Rd.atIdx r0_0 e7_2
    replace hd7_2 : ∀ (j : Nat) v, ([.int .i64 x7_2] : List Value)[j]? = some v → w.cell? ⟨g7_2, o7_2 + k_0.toNat * 1 + j, .none⟩ = some v := hd7_2
    refine WC.region ?_
    refine mv ?_
    refine mv ?_
    refine sp (OpV.idxA rfl rfl se_23 ha7_2 ⟨(idx_some e7_2).1, (idx_some e7_2).2.1⟩) ?_
    refine sp (OpV.load1 rfl pt_3 (fun w hs => hs.cell (hd7_2 0 _ rfl))) ?_
    refine ag ?_
    refine WL.nil (En.next (WC.block ?_))
    obtain ⟨zy1, ezy1, zh0⟩ := bnd zh0
    refine WC.cut (X := ((List Int)) × ((Option Addr) × Nat × Nat × (List Nat))) (.exit 2) (fun x => zy1 = x.1) (fun x => match x with | (out_1e, (aout_1e, nout_1e, cout_1e, fout_1e)) => [(0, .slice q0_0 words_p0.length k0_0), (1, .int .i64 most_p1), (5, .slice aout_1e nout_1e cout_1e), (6, .int .i64 k_0)]) (fun x => match x with | (out_1e, (aout_1e, nout_1e, cout_1e, fout_1e)) => [Chunk.own tInt fout_1e aout_1e nout_1e cout_1e out_1e]) ?_ ?_
    ·
     rintro ⟨out_1e, ⟨aout_1e, nout_1e, cout_1e, fout_1e⟩⟩ hx
     replace hx : out_1e = zy1 := hx.symm
     subst hx
     show En _ _ _ _ [(0, .slice q0_0 words_p0.length k0_0), (1, .int .i64 most_p1), (5, .slice aout_1e nout_1e cout_1e), (6, .int .i64 k_0)] [Chunk.own tInt fout_1e aout_1e nout_1e cout_1e out_1e]
     refine En.block_exit (En.block_norm (En.next (WC.region ?_)))
     refine mv ?_
     refine sp (OpV.addR rfl rfl) ?_
     refine ag ?_
     refine WL.nil ?_
     exact En.backP zb0 zh0 (aout_1e, nout_1e, cout_1e, fout_1e) (sc (sc (sc (sc sn)))) (fun _ h => h)
    ·
     intro zK1_0
     refine WC.loopP (G := (Option Addr) × Nat × Nat × (List Nat)) (fun s g => match s, g with | (out_1, n_1), (aout_1, nout_1, cout_1, fout_1) => [(0, .slice q0_0 words_p0.length k0_0), (1, .int .i64 most_p1), (5, .slice aout_1 nout_1 cout_1), (6, .int .i64 k_0), (7, .int .i64 n_1)]) (fun s g => match s, g with | (out_1, n_1), (aout_1, nout_1, cout_1, fout_1) => [Chunk.own tInt fout_1 aout_1 nout_1 cout_1 out_1]) (out_0, x7_2) (aout_0, nout_0, cout_0, fout_0) ezy1 (by exact sc (sc (sc (sc (sc sn))))) (by exact (fun _ h => h)) ?_
     rintro zm1 ⟨out_1, n_1⟩ ⟨aout_1, nout_1, cout_1, fout_1⟩ zo1 zf1 zb1 ze1
     have zh1 : spec_l15Expand_L1 words_p0 k_0 out_1 n_1 = some zo1 := zf1
     unfold spec_l15Expand_L1 at zh1
     show WC _ _ _ _ _ [(0, .slice q0_0 words_p0.length k0_0), (1, .int .i64 most_p1), (5, .slice aout_1 nout_1 cout_1), (6, .int .i64 k_0), (7, .int .i64 n_1)] [Chunk.own tInt fout_1 aout_1 nout_1 cout_1 out_1]
     refine WC.seq (WC.sr ?_)
     refine mv ?_
     refine sp (OpV.gtr rfl rfl) ?_
     refine WL.nil (En.next ?_)
     refine WC.cond rfl ?_ ?_
     ·
      intro hc_3
      replace zh1 := ifO_t hc_3 zh1
      refine WC.skip (En.next (WC.seq (WC.block ?_)))
      obtain ⟨x10_4, e10_4, zh1⟩ := bnd zh1
      obtain ⟨g10_4, o10_4, _, ha10_4, rfl, hd10_4⟩ := Rd.atIdx r0_0 e10_4
      replace hd10_4 : ∀ (j : Nat) v, ([.int .i64 x10_4] : List Value)[j]? = some v → w.cell? ⟨g10_4, o10_4 + (wr (k_0 + 1)).toNat * 1 + j, .none⟩ = some v := hd10_4
      obtain ⟨x10_7, e10_7, zh1⟩ := bnd zh1
      refine WC.region ?_
      refine mv ?_
      refine mv ?_
      refine mv ?_
      refine sp (OpV.addR rfl rfl) ?_
      refine sp (OpV.idxA rfl rfl se_23 ha10_4 ⟨(idx_some e10_4).1, (idx_some e10_4).2.1⟩) ?_
      refine sp (OpV.load1 rfl pt_3 (fun w hs => hs.cell (hd10_4 0 _ rfl))) ?_
      refine WL.heavy rfl rfl rfl (OpH.litF (A := tInt) (xs := [x10_4]) tInt_flat (evps.cons rfl (evps.nil)) (bs_23_1_0 _) rfl rfl (Nat.le_of_ble_eq_true rfl) ?_)
      intro b10_6
      refine WL.heavy rfl rfl rfl (OpH.appS (F := [_]) (A := tInt) tInt_flat rfl rfl rfl mi_23 rfl (by decide) (fun w hs => (Ow.rd (hs.mem mq0))) e10_7 ?_)
      intro f10_7 a10_7 c10_7
      refine ag ?_
      refine WL.nil (En.block_norm (En.next (WC.region ?_)))
      refine mv ?_
      refine sp (OpV.subR rfl rfl) ?_
      refine ag ?_
      refine WL.nil ?_
      exact En.backP zb1 zh1 (a10_7, x10_7.length, c10_7, f10_7) (sc (sc (sc (sc (sc sn))))) (fun _ h => ((h).pm 1).sub (.cons_cons _ (.cons _ (.slnil))))
     ·
      intro hc_3
      replace zh1 := ifO_f hc_3 zh1
      refine WC.exit (En.then_exit (En.then_exit ?_))
      have hx := exitP ze1 zh1
      exact En.wk _ _ (sc (sc (sc (sc sn)))) (fun _ h => h) (zK1_0 (out_1, (aout_1, nout_1, cout_1, fout_1)) hx.symm)
  ·
   intro hc_1
   replace zh0 := ifO_f hc_1 zh0
   refine WC.exit (En.then_exit (En.then_exit ?_))
   have hx := exitP ze0 zh0
   exact En.wk _ _ (sc sn) (fun _ h => h) (zK0_0 (out_0, (aout_0, nout_0, cout_0, fout_0)) hx.symm)

theorem w_spec_l05Ints {a_p0 : List Int} {b_p1 : List Int} {r : Bool} {q0_0 : Option Addr} {l0_0 k0_0 : Nat} {q1_0 : Option Addr} {l1_0 k1_0 : Nat} (h : spec_l05Ints a_p0 b_p1 = some r) {w : World} (r0_0 : Rd tInt w q0_0 l0_0 k0_0 a_p0) (r1_0 : Rd tInt w q1_0 l1_0 k1_0 b_p1)   :
    Calls Tryz.prog 123 #[.slice q0_0 l0_0 k0_0, .slice q1_0 l1_0 k1_0] w (fun en w' => en = .returned (.bool r) ∧ Ext w w') := by
 obtain rfl := r0_0.1
 obtain rfl := r1_0.1
 unfold spec_l05Ints at h
 refine enter (vs := [_, _]) Tryz.func123 rfl rfl rfl rfl ?_
 refine WC.sr ?_
 refine ag ?_
 refine WL.nil (En.next (WC.seq (WC.sr ?_)))
 refine mv ?_
 refine sp (OpV.len rfl si_23 rfl) ?_
 refine mv ?_
 refine sp (OpV.len rfl si_23 rfl) ?_
 refine sp (OpV.neq rfl rfl) ?_
 refine WL.nil (En.next ?_)
 refine WC.cond rfl ?_ ?_
 ·
  intro hc_1
  replace h := ifO_t hc_1 h
  refine WC.sr ?_
  refine ag ?_
  refine WL.nil (En.next (WC.ret (En.then_ret ?_)))
  refine En.ret1 rfl (Res.tmp rfl) ?_
  obtain rfl := Option.some.inj h
  intro w' hs
  exact ⟨rfl, hs.below⟩
 ·
  intro hc_1
  replace h := ifO_f hc_1 h
  refine WC.skip (En.next (WC.seq (WC.sr ?_)))
  refine ag ?_
  refine WL.nil (En.next (WC.block ?_))
  obtain ⟨zy0, ezy0, h⟩ := bnd h
  refine WC.cut (X := (Unit) × (Unit)) (.exit 0) (fun x => zy0 = .inl x.1) (fun x => match x with | ((), ()) => []) (fun x => match x with | ((), ()) => []) ?_ ?_
  ·
   rintro ⟨⟨⟩, ⟨⟩⟩ hx
   replace hx : .inl () = zy0 := hx.symm
   subst hx
   replace h := fork_l h
   show En _ _ _ _ [] []
   refine En.block_exit (En.next (WC.sr ?_))
   refine ag ?_
   refine WL.nil (En.next (WC.ret ?_))
   refine En.ret1 rfl (Res.tmp rfl) ?_
   obtain rfl := Option.some.inj h
   intro w' hs
   exact ⟨rfl, hs.below⟩
  ·
   intro zK0_0
   refine WC.loopP (G := Unit) (fun s g => match s, g with | k_0, () => [(0, .slice q0_0 a_p0.length k0_0), (1, .slice q1_0 b_p1.length k1_0), (5, .int .i64 k_0)]) (fun s g => match s, g with | k_0, () => []) 0 () ezy0 (by exact sc (sc (sc sn))) (by exact (fun _ h => h)) ?_
   rintro zm0 k_0 ⟨⟩ zo0 zf0 zb0 ze0
   have zh0 : spec_l05Ints_L0 a_p0 b_p1 k_0 = some zo0 := zf0
   unfold spec_l05Ints_L0 at zh0
   show WC _ _ _ _ _ [(0, .slice q0_0 a_p0.length k0_0), (1, .slice q1_0 b_p1.length k1_0), (5, .int .i64 k_0)] []
   refine WC.seq (WC.sr ?_)
   refine mv ?_
   refine mv ?_
   refine sp (OpV.len rfl si_23 rfl) ?_
   refine sp (OpV.lss rfl rfl) ?_
   refine WL.nil (En.next ?_)
   refine WC.cond rfl ?_ ?_
   ·
    intro hc_2
    replace zh0 := ifO_t hc_2 zh0
    refine WC.skip (En.next (WC.seq (WC.block (WC.seq ?_))))
    obtain ⟨x6_2, e6_2, zh0⟩ := bnd zh0
    obtain ⟨g6_2, o6_2, _, ha6_2, rfl, hd6_2⟩ := Rd.atIdx r0_0 e6_2
    replace hd6_2 : ∀ (j : Nat) v, ([.int .i64 x6_2] : List Value)[j]? = some v → w.cell? ⟨g6_2, o6_2 + k_0.toNat * 1 + j, .none⟩ = some v := hd6_2
    obtain ⟨x6_6, e6_6, zh0⟩ := bnd zh0
    obtain ⟨g6_6, o6_6, _, ha6_6, rfl, hd6_6⟩ := Rd.atIdx r1_0 e6_6
    replace hd6_6 : ∀ (j : Nat) v, ([.int .i64 x6_6] : List Value)[j]? = some v → w.cell? ⟨g6_6, o6_6 + k_0.toNat * 1 + j, .none⟩ = some v := hd6_6
    refine WC.drawn [(0, ?r6q3v0), (1, ?r6q3v1), (5, ?r6q3v5), (25, ?r6q3v25)] (by kernel_rfl) (by kernel_rfl) ?dH6q3 ?dK6q3
    case dH6q3 =>
     intro W hW hk
     refine hW.mv ?_
     refine hW.mv ?_
     refine hW.sp (OpV.idxA rfl rfl se_23 ha6_2 ⟨(idx_some e6_2).1, (idx_some e6_2).2.1⟩) ?_
     refine hW.sp (OpV.load1 rfl pt_3 (fun w hs => hs.cell (hd6_2 0 _ rfl))) ?_
     refine hW.mv ?_
     refine hW.mv ?_
     refine hW.sp (OpV.idxA rfl rfl se_23 ha6_6 ⟨(idx_some e6_6).1, (idx_some e6_6).2.1⟩) ?_
     refine hW.sp (OpV.load1 rfl pt_3 (fun w hs => hs.cell (hd6_6 0 _ rfl))) ?_
     refine hW.sp (OpV.neq rfl rfl) ?_
     refine hk _ ?_
     refine Sub.cons ?_ (Sub.cons ?_ (Sub.cons ?_ (Sub.cons ?_ sn)))
     all_goals exact rfl
    refine En.next ?_
    refine WC.cond rfl ?_ ?_
    ·
     intro hc_3
     replace zh0 := ifO_t hc_3 zh0
     refine WC.sr ?_
     refine ag ?_
     refine WL.nil (En.next (WC.ret (En.block_ret (En.then_ret (En.then_ret (En.block_ret (En.then_ret ?_)))))))
     refine En.ret1 rfl (Res.tmp rfl) ?_
     have hx := exitP ze0 zh0
     subst hx
     replace h := fork_r h
     obtain rfl := Option.some.inj h
     intro w' hs
     exact ⟨rfl, hs.below⟩
    ·
     intro hc_3
     replace zh0 := ifO_f hc_3 zh0
     refine WC.skip (En.block_norm (En.next (WC.region ?_)))
     refine mv ?_
     refine sp (OpV.addR rfl rfl) ?_
     refine ag ?_
     refine WL.nil ?_
     exact En.backP zb0 zh0 () (sc (sc (sc sn))) (fun _ h => h)
   ·
    intro hc_2
    replace zh0 := ifO_f hc_2 zh0
    refine WC.exit (En.then_exit (En.then_exit ?_))
    have hx := exitP ze0 zh0
    exact En.wk _ _ sn (fun _ h => h) (zK0_0 ((), ()) hx.symm)

theorem w_spec_LoadImage {a_p0 : List Int} {a_p1 : Int} {a_p2 : Int} {a_p3 : Int} {r : ImageT × Bool} {q0_0 : Option Addr} {l0_0 k0_0 : Nat} (h : spec_LoadImage a_p0 a_p1 a_p2 a_p3 = some r) {w : World} (r0_0 : Rd tInt w q0_0 l0_0 k0_0 a_p0)   :
    Calls Tryz.prog 154 #[.slice q0_0 l0_0 k0_0, .int .i64 a_p1, .int .i64 a_p2, .int .i64 a_p3] w (fun en w' => ∃ rv G, en = .returned rv ∧ (∃ (a0_0 : Option Addr) (n0_0 : Nat) (c0_0 : Nat) (f0_0 : List Nat), rv = .tuple #[.agg #[.int .i64 r.1.W, .int .i64 r.1.H, .slice a0_0 n0_0 c0_0], .bool r.2] ∧ G = [Chunk.own tInt f0_0 a0_0 n0_0 c0_0 r.1.Data]) ∧ St w G w') := by
 obtain rfl := r0_0.1
 unfold spec_LoadImage at h
 refine enter (vs := [_, _, _, _]) Tryz.func154 rfl rfl rfl rfl ?_
 refine WC.sr ?_
 refine WL.heavy rfl rfl rfl (OpH.alloc zc_107 ?_)
 intro b0_0
 refine ag ?_
 refine WL.nil (En.next (WC.seq (WC.seq ?_)))
 obtain ⟨x1_1, e1_1, h⟩ := bnd h
 obtain ⟨q1_7, e1_7, h⟩ := bnd h
 refine WC.region ?_
 refine mv ?_
 refine sp (OpV.call (ec rfl (ec rfl (ec rfl e0))) ca_64 (fun w hs => w_spec_l01In e1_1)) ?_
 refine sp (OpV.not rfl) ?_
 refine mv ?_
 refine Lt.ofWL.orQ 18 22 21 (p := ?pz1) (rest := ?qz1) (B := q1_7) rfl (fun hz => orO_t e1_7 hz) ?Tz1 ?Fz1 ?az1 ?bz1 ?cz1 ?dz1 ?ez1
 case Tz1 =>
  intro hcz1 hkz1
  refine sk ?_
  refine sk ?_
  refine sk ?_
  refine hkz1 _ ?_
  repeat (first | exact Sub.refl _ | refine Sub.skip rfl ?_)
 case Fz1 =>
  intro hcz1 hkz1
  have hqz1 := orO_f e1_7 hcz1
  obtain ⟨x1_5, e1_5, hqz1⟩ := bnd hqz1
  obtain rfl := Option.some.inj hqz1
  refine mv ?_
  refine sp (OpV.call (ec rfl (ec rfl (ec rfl e0))) ca_64 (fun w hs => w_spec_l01In e1_5)) ?_
  refine sp (OpV.not rfl) ?_
  refine hkz1 _ ?_ ?_
  exact rfl
  repeat (first | exact Sub.refl _ | refine Sub.skip rfl ?_)
 case az1 => exact rfl
 case bz1 => exact rfl
 case cz1 => exact rfl
 case dz1 => exact rfl
 refine WL.nil (En.next ?_)
 refine WC.cond rfl ?_ ?_
 ·
  intro hc_1
  replace h := ifO_t hc_1 h
  refine WC.sr ?_
  refine sp (OpV.build (evps.nil) bd_107_) ?_
  refine WL.heavy0 rfl rfl (OpH.storeTo (A := []) [_, _, _] rfl rfl rfl ts_107 rfl rfl rfl ?_)
  refine ag ?_
  refine WL.nil (En.next (WC.ret (En.then_ret ?_)))
  refine En.ret2 rfl (Res.cell rfl mq0 ag_107) (Res.tmp rfl) ?_
  obtain rfl := Option.some.inj h
  intro w' hs
  have hs := ((hs).ownNil (A := tInt)).sub (.cons_cons _ (.cons _ (.slnil)))
  exact ⟨_, _, rfl, ⟨.none, 0, 0, [], rfl, rfl⟩, hs⟩
 ·
  intro hc_1
  replace h := ifO_f hc_1 h
  refine WC.skip (En.next (WC.sr ?_))
  refine mv ?_
  refine mv ?_
  refine sp (OpV.build (evps.cons rfl (evps.cons rfl (evps.nil))) (bd_107_0_1 _ _)) ?_
  refine WL.heavy rfl rfl rfl (OpH.alloc zc_107 ?_)
  intro b3_3
  refine WL.heavy0 rfl rfl (OpH.storeTo (A := []) [_, _, _] rfl rfl rfl ts_107 rfl rfl rfl ?_)
  refine WL.nil (En.next (WC.seq ?_))
  obtain ⟨zy0, ej0, h⟩ := bnd h
  refine WC.cut (X := ((List Int)) × ((Option Addr) × Nat × Nat × (List Nat))) .normal (fun x => zy0 = x.1) (fun x => match x with | (x_0j, (ax_0j, nx_0j, cx_0j, fx_0j)) => [(0, .slice q0_0 a_p0.length k0_0), (3, .int .i64 a_p3), (8, .pointer (some ⟨b0_0, 0, .none⟩)), (10, .pointer (some ⟨b3_3, 0, .none⟩))]) (fun x => match x with | (x_0j, (ax_0j, nx_0j, cx_0j, fx_0j)) => [Chunk.box b0_0 107 [.int .i64 0, .int .i64 0, .slice .none 0 0], Chunk.box b3_3 107 [.int .i64 a_p1, .int .i64 a_p2, .slice ax_0j nx_0j cx_0j], Chunk.own tInt fx_0j ax_0j nx_0j cx_0j x_0j]) ?_ ?_
  ·
   rintro ⟨x_0j, ⟨ax_0j, nx_0j, cx_0j, fx_0j⟩⟩ hx
   replace hx : x_0j = zy0 := hx.symm
   subst hx
   show En _ _ _ _ [(0, .slice q0_0 a_p0.length k0_0), (3, .int .i64 a_p3), (8, .pointer (some ⟨b0_0, 0, .none⟩)), (10, .pointer (some ⟨b3_3, 0, .none⟩))] [Chunk.box b0_0 107 [.int .i64 0, .int .i64 0, .slice .none 0 0], Chunk.box b3_3 107 [.int .i64 a_p1, .int .i64 a_p2, .slice ax_0j nx_0j cx_0j], Chunk.own tInt fx_0j ax_0j nx_0j cx_0j x_0j]
   refine En.next (WC.seq ?_)
   obtain ⟨⟨x14_2a, x14_2b⟩, e14_2, h⟩ := bnd h
   refine WC.region ?_
   refine sp (OpV.loadAll rfl mq1 ag_107) ?_
   refine mv ?_
   refine WL.heavy rfl rfl rfl (OpH.callR (ec rfl (ec rfl e0)) ca_117 (fun w hs => w_spec_StoreImage e14_2 (Ow.rd (hs.mem mq2))) ?_)
   rintro _ _ ⟨a14_200, n14_200, c14_200, f14_200, rfl, rfl⟩
   refine mv ?_
   refine sp (OpV.extract rfl rfl) ?_
   refine sp (OpV.extract rfl rfl) ?_
   refine ag ?_
   refine ag ?_
   refine WL.nil (En.next (WC.seq (WC.seq ?_)))
   obtain ⟨q15_7, e15_7, h⟩ := bnd h
   refine WC.region ?_
   refine mv ?_
   refine sp (OpV.not rfl) ?_
   refine mv ?_
   refine Lt.ofWL.orQ 76 81 80 (p := ?pz2) (rest := ?qz2) (B := q15_7) rfl (fun hz => orO_t e15_7 hz) ?Tz2 ?Fz2 ?az2 ?bz2 ?cz2 ?dz2 ?ez2
   case Tz2 =>
    intro hcz2 hkz2
    refine sk ?_
    refine sk ?_
    refine sk ?_
    refine sk ?_
    refine hkz2 _ ?_
    repeat (first | exact Sub.refl _ | refine Sub.skip rfl ?_)
   case Fz2 =>
    intro hcz2 hkz2
    have hqz2 := orO_f e15_7 hcz2
    obtain ⟨x15_5, e15_5, hqz2⟩ := bnd hqz2
    obtain rfl := Option.some.inj hqz2
    refine mv ?_
    refine mv ?_
    refine sp (OpV.call (ec rfl (ec rfl e0)) ca_123 (fun w hs => w_spec_l05Ints e15_5 (Ow.rd (hs.mem mq0)) (r0_0.ext hs.below))) ?_
    refine sp (OpV.not rfl) ?_
    refine hkz2 _ ?_ ?_
    exact rfl
    repeat (first | exact Sub.refl _ | refine Sub.skip rfl ?_)
   case az2 => exact rfl
   case bz2 => exact rfl
   case cz2 => exact rfl
   case dz2 => exact rfl
   refine WL.nil (En.next ?_)
   refine WC.cond rfl ?_ ?_
   ·
    intro hc_2
    replace h := ifO_t hc_2 h
    refine WC.sr ?_
    refine sp (OpV.build (evps.nil) bd_107_) ?_
    refine WL.heavy0 rfl rfl (OpH.storeTo (A := [_]) [_, _, _] rfl rfl rfl ts_107 rfl rfl rfl ?_)
    refine ag ?_
    refine WL.nil (En.next (WC.ret (En.then_ret ?_)))
    refine En.ret2 rfl (Res.cell rfl mq1 ag_107) (Res.tmp rfl) ?_
    obtain rfl := Option.some.inj h
    intro w' hs
    have hs := ((hs).ownNil (A := tInt)).sub (.cons_cons _ (.cons _ (.cons _ (.cons _ (.cons _ (.slnil))))))
    exact ⟨_, _, rfl, ⟨.none, 0, 0, [], rfl, rfl⟩, hs⟩
   ·
    intro hc_2
    replace h := ifO_f hc_2 h
    refine WC.skip (En.next (WC.sr ?_))
    refine sp (OpV.loadAll rfl mq2 ag_107) ?_
    refine WL.heavy0 rfl rfl (OpH.storeTo (A := [_]) [_, _, _] rfl rfl rfl ts_107 rfl rfl rfl ?_)
    refine ag ?_
    refine WL.nil (En.next (WC.ret ?_))
    refine En.ret2 rfl (Res.cell rfl mq1 ag_107) (Res.tmp rfl) ?_
    obtain rfl := Option.some.inj h
    intro w' hs
    have hs := ((hs).pm 3).sub (.cons_cons _ (.cons _ (.cons _ (.cons _ (.slnil)))))
    exact ⟨_, _, rfl, ⟨ax_0j, nx_0j, cx_0j, fx_0j, rfl, rfl⟩, hs⟩
  ·
   intro zK0
   refine WC.block (WC.sr ?_)
   refine mv ?_
   refine sp (OpV.eql rfl rfl) ?_
   refine ag ?_
   refine WL.nil (En.next ?_)
   refine WC.cond rfl ?_ ?_
   ·
    intro hc_3
    replace ej0 := ifO_t hc_3 ej0
    obtain ⟨x5_4, e5_4, ej0⟩ := bnd ej0
    refine WC.region ?_
    refine mv ?_
    refine mv ?_
    refine mv ?_
    refine sp (OpV.mulR rfl rfl) ?_
    refine WL.heavy rfl rfl rfl (OpH.callR (ec rfl (ec rfl e0)) ca_166 (fun w hs => w_spec_l15Expand e5_4 (r0_0.ext hs.below)) ?_)
    rintro _ _ ⟨a5_400, n5_400, c5_400, f5_400, rfl, rfl⟩
    refine sp (OpV.fieldAddr rfl fo_107_2) ?_
    refine WL.heavy0 rfl rfl (OpH.storeTo (A := [_]) [_, _, _] rfl rfl rfl ts_23 rfl rfl rfl ?_)
    refine WL.nil (En.block_norm ?_)
    exact En.wk _ _ (sc (sc (sc (sc sn)))) (fun _ h => ((h).pm 1).pm 2) (zK0 (x5_4, (a5_400, n5_400, c5_400, f5_400)) (Option.some.inj ej0).symm)
   ·
    intro hc_3
    replace ej0 := ifO_f hc_3 ej0
    refine WC.seq ?_
    obtain ⟨x6_3, e6_3, ej0⟩ := bnd ej0
    refine WC.region ?_
    refine mv ?_
    refine mv ?_
    refine mv ?_
    refine sp (OpV.call (ec rfl (ec rfl (ec rfl e0))) ca_134 (fun w hs => w_spec_WordCount e6_3)) ?_
    refine mv ?_
    refine sp (OpV.len rfl si_23 rfl) ?_
    refine sp (OpV.eql rfl rfl) ?_
    refine ag ?_
    refine WL.nil (En.next ?_)
    refine WC.cond rfl ?_ ?_
    ·
     intro hc_4
     replace ej0 := ifO_t hc_4 ej0
     refine WC.sr ?_
     refine ag ?_
     refine WL.nil (En.next (WC.block ?_))
     obtain ⟨zy1, ezy1, ej0⟩ := bnd ej0
     refine WC.cut (X := ((List Int)) × ((Option Addr) × Nat × Nat × (List Nat))) (.exit 1) (fun x => zy1 = x.1) (fun x => match x with | (x_1e, (ax_1e, nx_1e, cx_1e, fx_1e)) => [(0, .slice q0_0 a_p0.length k0_0), (3, .int .i64 a_p3), (8, .pointer (some ⟨b0_0, 0, .none⟩)), (10, .pointer (some ⟨b3_3, 0, .none⟩))]) (fun x => match x with | (x_1e, (ax_1e, nx_1e, cx_1e, fx_1e)) => [Chunk.box b0_0 107 [.int .i64 0, .int .i64 0, .slice .none 0 0], Chunk.box b3_3 107 [.int .i64 a_p1, .int .i64 a_p2, .slice ax_1e nx_1e cx_1e], Chunk.own tInt fx_1e ax_1e nx_1e cx_1e x_1e]) ?_ ?_
     ·
      rintro ⟨x_1e, ⟨ax_1e, nx_1e, cx_1e, fx_1e⟩⟩ hx
      replace hx : x_1e = zy1 := hx.symm
      subst hx
      show En _ _ _ _ [(0, .slice q0_0 a_p0.length k0_0), (3, .int .i64 a_p3), (8, .pointer (some ⟨b0_0, 0, .none⟩)), (10, .pointer (some ⟨b3_3, 0, .none⟩))] [Chunk.box b0_0 107 [.int .i64 0, .int .i64 0, .slice .none 0 0], Chunk.box b3_3 107 [.int .i64 a_p1, .int .i64 a_p2, .slice ax_1e nx_1e cx_1e], Chunk.own tInt fx_1e ax_1e nx_1e cx_1e x_1e]
      refine En.block_exit (En.block_norm ?_)
      exact En.wk _ _ (sc (sc (sc (sc sn)))) (fun _ h => h) (zK0 (x_1e, (ax_1e, nx_1e, cx_1e, fx_1e)) (Option.some.inj ej0).symm)
     ·
      intro zK1_0
      refine WC.loopP (G := (Option Addr) × Nat × Nat × (List Nat)) (fun s g => match s, g with | (x_1, v_1), (ax_1, nx_1, cx_1, fx_1) => [(0, .slice q0_0 a_p0.length k0_0), (1, .int .i64 a_p1), (2, .int .i64 a_p2), (3, .int .i64 a_p3), (8, .pointer (some ⟨b0_0, 0, .none⟩)), (10, .pointer (some ⟨b3_3, 0, .none⟩)), (11, .int .i64 v_1)]) (fun s g => match s, g with | (x_1, v_1), (ax_1, nx_1, cx_1, fx_1) => [Chunk.box b0_0 107 [.int .i64 0, .int .i64 0, .slice .none 0 0], Chunk.box b3_3 107 [.int .i64 a_p1, .int .i64 a_p2, .slice ax_1 nx_1 cx_1], Chunk.own tInt fx_1 ax_1 nx_1 cx_1 x_1]) ([], 0) (.none, 0, 0, []) ezy1 (by exact sc (sc (sc (sc (sc (sc (sc sn))))))) (by exact (fun _ h => (((h).ownNil (A := tInt)).pm 1).pm 2)) ?_
      rintro zm1 ⟨x_1, v_1⟩ ⟨ax_1, nx_1, cx_1, fx_1⟩ zo1 zf1 zb1 ze1
      have zh1 : spec_LoadImage_L1 a_p0 a_p1 a_p2 a_p3 x_1 v_1 = some zo1 := zf1
      unfold spec_LoadImage_L1 at zh1
      show WC _ _ _ _ _ [(0, .slice q0_0 a_p0.length k0_0), (1, .int .i64 a_p1), (2, .int .i64 a_p2), (3, .int .i64 a_p3), (8, .pointer (some ⟨b0_0, 0, .none⟩)), (10, .pointer (some ⟨b3_3, 0, .none⟩)), (11, .int .i64 v_1)] [Chunk.box b0_0 107 [.int .i64 0, .int .i64 0, .slice .none 0 0], Chunk.box b3_3 107 [.int .i64 a_p1, .int .i64 a_p2, .slice ax_1 nx_1 cx_1], Chunk.own tInt fx_1 ax_1 nx_1 cx_1 x_1]
      refine WC.seq (WC.sr ?_)
      refine mv ?_
      refine mv ?_
      refine sp (OpV.lss rfl rfl) ?_
      refine WL.nil (En.next ?_)
      refine WC.cond rfl ?_ ?_
      ·
       intro hc_5
       replace zh1 := ifO_t hc_5 zh1
       refine WC.skip (En.next (WC.seq (WC.block (WC.sr ?_))))
       refine ag ?_
       refine WL.nil (En.next (WC.block ?_))
       obtain ⟨zy2, ezy2, zh1⟩ := bnd zh1
       refine WC.cut (X := ((List Int)) × ((Option Addr) × Nat × Nat × (List Nat))) (.exit 3) (fun x => zy2 = x.1) (fun x => match x with | (x_2e, (ax_2e, nx_2e, cx_2e, fx_2e)) => [(0, .slice q0_0 a_p0.length k0_0), (1, .int .i64 a_p1), (2, .int .i64 a_p2), (3, .int .i64 a_p3), (8, .pointer (some ⟨b0_0, 0, .none⟩)), (10, .pointer (some ⟨b3_3, 0, .none⟩)), (11, .int .i64 v_1)]) (fun x => match x with | (x_2e, (ax_2e, nx_2e, cx_2e, fx_2e)) => [Chunk.box b0_0 107 [.int .i64 0, .int .i64 0, .slice .none 0 0], Chunk.box b3_3 107 [.int .i64 a_p1, .int .i64 a_p2, .slice ax_2e nx_2e cx_2e], Chunk.own tInt fx_2e ax_2e nx_2e cx_2e x_2e]) ?_ ?_
       ·
        rintro ⟨x_2e, ⟨ax_2e, nx_2e, cx_2e, fx_2e⟩⟩ hx
        replace hx : x_2e = zy2 := hx.symm
        subst hx
        show En _ _ _ _ [(0, .slice q0_0 a_p0.length k0_0), (1, .int .i64 a_p1), (2, .int .i64 a_p2), (3, .int .i64 a_p3), (8, .pointer (some ⟨b0_0, 0, .none⟩)), (10, .pointer (some ⟨b3_3, 0, .none⟩)), (11, .int .i64 v_1)] [Chunk.box b0_0 107 [.int .i64 0, .int .i64 0, .slice .none 0 0], Chunk.box b3_3 107 [.int .i64 a_p1, .int .i64 a_p2, .slice ax_2e nx_2e cx_2e], Chunk.own tInt fx_2e ax_2e nx_2e cx_2e x_2e]
        refine En.block_exit (En.block_norm (En.next (WC.region ?_)))
        refine mv ?_
        refine sp (OpV.addR rfl rfl) ?_
        refine ag ?_
        refine WL.nil ?_
        exact En.backP zb1 zh1 (ax_2e, nx_2e, cx_2e, fx_2e) (sc (sc (sc (sc (sc (sc (sc sn))))))) (fun _ h => h)
       ·
        intro zK2_0
        refine WC.loopP (G := (Option Addr) × Nat × Nat × (List Nat)) (fun s g => match s, g with | (x_2, v_2), (ax_2, nx_2, cx_2, fx_2) => [(0, .slice q0_0 a_p0.length k0_0), (1, .int .i64 a_p1), (2, .int .i64 a_p2), (3, .int .i64 a_p3), (8, .pointer (some ⟨b0_0, 0, .none⟩)), (10, .pointer (some ⟨b3_3, 0, .none⟩)), (11, .int .i64 v_1), (12, .int .i64 v_2)]) (fun s g => match s, g with | (x_2, v_2), (ax_2, nx_2, cx_2, fx_2) => [Chunk.box b0_0 107 [.int .i64 0, .int .i64 0, .slice .none 0 0], Chunk.box b3_3 107 [.int .i64 a_p1, .int .i64 a_p2, .slice ax_2 nx_2 cx_2], Chunk.own tInt fx_2 ax_2 nx_2 cx_2 x_2]) (x_1, 0) (ax_1, nx_1, cx_1, fx_1) ezy2 (by exact sc (sc (sc (sc (sc (sc (sc (sc sn)))))))) (by exact (fun _ h => h)) ?_
        rintro zm2 ⟨x_2, v_2⟩ ⟨ax_2, nx_2, cx_2, fx_2⟩ zo2 zf2 zb2 ze2
        have zh2 : spec_LoadImage_L2 a_p0 a_p1 a_p2 a_p3 v_1 x_2 v_2 = some zo2 := zf2
        unfold spec_LoadImage_L2 at zh2
        show WC _ _ _ _ _ [(0, .slice q0_0 a_p0.length k0_0), (1, .int .i64 a_p1), (2, .int .i64 a_p2), (3, .int .i64 a_p3), (8, .pointer (some ⟨b0_0, 0, .none⟩)), (10, .pointer (some ⟨b3_3, 0, .none⟩)), (11, .int .i64 v_1), (12, .int .i64 v_2)] [Chunk.box b0_0 107 [.int .i64 0, .int .i64 0, .slice .none 0 0], Chunk.box b3_3 107 [.int .i64 a_p1, .int .i64 a_p2, .slice ax_2 nx_2 cx_2], Chunk.own tInt fx_2 ax_2 nx_2 cx_2 x_2]
        refine WC.seq (WC.sr ?_)
        refine mv ?_
        refine mv ?_
        refine sp (OpV.lss rfl rfl) ?_
        refine WL.nil (En.next ?_)
        refine WC.cond rfl ?_ ?_
        ·
         intro hc_6
         replace zh2 := ifO_t hc_6 zh2
         refine WC.skip (En.next (WC.seq (WC.block ?_)))
         obtain ⟨x13_8, e13_8, zh2⟩ := bnd zh2
         obtain ⟨x13_9, e13_9, zh2⟩ := bnd zh2
         obtain ⟨g13_9, o13_9, _, ha13_9, rfl, hd13_9⟩ := Rd.atIdx r0_0 e13_9
         replace hd13_9 : ∀ (j : Nat) v, ([.int .i64 x13_9] : List Value)[j]? = some v → w.cell? ⟨g13_9, o13_9 + x13_8.toNat * 1 + j, .none⟩ = some v := hd13_9
         obtain ⟨x13_12, e13_12, zh2⟩ := bnd zh2
         refine WC.wkF (fun _ h => h.pm 2) ?_
         refine WC.wkF (fun _ h => h.pm 2) ?_
         refine WC.drawnH [_, _] ([_]) (fun _ h => h) (by kernel_rfl) ?_
         refine tk 0 rfl (OpV.fieldAddr rfl fo_107_2) ?_
         refine tk 2 rfl (OpV.move rfl) ?_
         refine tk 3 rfl (OpV.move rfl) ?_
         refine tk 4 rfl (OpV.move rfl) ?_
         refine tk 5 rfl (OpV.move rfl) ?_
         refine tk 6 rfl (OpV.move rfl) ?_
         refine tk 7 rfl (OpV.move rfl) ?_
         refine tk 8 rfl (OpV.call (ec rfl (ec rfl (ec rfl (ec rfl (ec rfl e0))))) ca_135 (fun w hs => w_spec_WordPlace e13_8)) ?_
         refine tk 9 rfl (OpV.idxA rfl rfl se_23 ha13_9 ⟨(idx_some e13_9).1, (idx_some e13_9).2.1⟩) ?_
         refine tk 10 rfl (OpV.load1 rfl pt_3 (fun w hs => hs.cell (hd13_9 0 _ rfl))) ?_
         refine WAE.all (rs := [1, 11]) (by kernel_rfl) rfl (AllR.cons rfl rfl rfl rfl ?_ (AllR.cons rfl rfl rfl rfl ?_ AllR.nil))
         ·
          refine OpH.light (OpV.loadBox rfl pt_23 mq0 rfl) ?_
          refine ⟨[_, _], rfl, ?_⟩
          refine al1 11 rfl ?_
          refine OpH.litF (A := tInt) (xs := [x13_9]) tInt_flat (evps.cons rfl (evps.nil)) (bs_23_1_0 _) rfl rfl (Nat.le_of_ble_eq_true rfl) ?_
          intro b13_11
          refine ⟨[_, _, _], rfl, ?_⟩
          refine al1 12 rfl ?_
          refine OpH.appS (F := [_, _]) (A := tInt) tInt_flat rfl rfl rfl mi_23 rfl (by decide) (fun w hs => (Ow.rd (hs.mem mq0))) e13_12 ?_
          intro f13_12 a13_12 c13_12
          refine ⟨[_, _, _], rfl, ?_⟩
          refine tk 13 rfl (OpV.fieldAddr rfl fo_107_2) ?_
          refine al0 14 rfl ?_
          refine OpH.storeTo (A := [_]) [_, _, _] rfl rfl rfl ts_23 rfl rfl rfl ?_
          refine ⟨[_, _, _], rfl, ?_⟩
          refine WAE.rebase (H := []) ?_
          refine WAE.done (by kernel_rfl) ?_ _
          refine En.block_norm (En.next (WC.region ?_))
          refine mv ?_
          refine sp (OpV.addR rfl rfl) ?_
          refine ag ?_
          refine WL.nil ?_
          exact En.backP zb2 zh2 (a13_12, x13_12.length, c13_12, f13_12) (sc (sc (sc (sc (sc (sc (sc (sc sn)))))))) (fun _ h => ((((h).pm 2).pm 2).pm 3).sub (.cons_cons _ (.cons_cons _ (.cons_cons _ (.cons _ (.slnil))))))
         ·
          refine OpH.litF (A := tInt) (xs := [x13_9]) tInt_flat (evps.cons rfl (evps.nil)) (bs_23_1_0 _) rfl rfl (Nat.le_of_ble_eq_true rfl) ?_
          intro b13_11
          refine ⟨[_, _, _], rfl, ?_⟩
          refine al1 1 rfl ?_
          refine OpH.light (OpV.loadBox rfl pt_23 mq1 rfl) ?_
          refine ⟨[_, _, _], rfl, ?_⟩
          refine al1 12 rfl ?_
          refine OpH.appS (F := [_, _]) (A := tInt) tInt_flat rfl rfl rfl mi_23 rfl (by decide) (fun w hs => (Ow.rd (hs.mem mq0))) e13_12 ?_
          intro f13_12 a13_12 c13_12
          refine ⟨[_, _, _], rfl, ?_⟩
          refine tk 13 rfl (OpV.fieldAddr rfl fo_107_2) ?_
          refine al0 14 rfl ?_
          refine OpH.storeTo (A := [_]) [_, _, _] rfl rfl rfl ts_23 rfl rfl rfl ?_
          refine ⟨[_, _, _], rfl, ?_⟩
          refine WAE.rebase (H := []) ?_
          refine WAE.done (by kernel_rfl) ?_ _
          refine En.block_norm (En.next (WC.region ?_))
          refine mv ?_
          refine sp (OpV.addR rfl rfl) ?_
          refine ag ?_
          refine WL.nil ?_
          exact En.backP zb2 zh2 (a13_12, x13_12.length, c13_12, f13_12) (sc (sc (sc (sc (sc (sc (sc (sc sn)))))))) (fun _ h => ((((h).pm 2).pm 2).pm 3).sub (.cons_cons _ (.cons_cons _ (.cons_cons _ (.cons _ (.slnil))))))
        ·
         intro hc_6
         replace zh2 := ifO_f hc_6 zh2
         refine WC.exit (En.then_exit (En.then_exit ?_))
         have hx := exitP ze2 zh2
         exact En.wk _ _ (sc (sc (sc (sc (sc (sc (sc sn))))))) (fun _ h => h) (zK2_0 (x_2, (ax_2, nx_2, cx_2, fx_2)) hx.symm)
      ·
       intro hc_5
       replace zh1 := ifO_f hc_5 zh1
       refine WC.exit (En.then_exit (En.then_exit ?_))
       have hx := exitP ze1 zh1
       exact En.wk _ _ (sc (sc (sc (sc sn)))) (fun _ h => h) (zK1_0 (x_1, (ax_1, nx_1, cx_1, fx_1)) hx.symm)
    ·
     intro hc_4
     replace ej0 := ifO_f hc_4 ej0
     refine WC.skip (En.block_norm ?_)
     exact En.wk _ _ (sc (sc (sc (sc sn)))) (fun _ h => (((h).ownNil (A := tInt)).pm 1).pm 2) (zK0 ([], (.none, 0, 0, [])) (Option.some.inj ej0).symm)

theorem w_spec_l19Loaded {p_p0 : PlaneT} {r : ImageT × Bool} {q0_0 : Option Addr} {l0_0 k0_0 : Nat} (h : spec_l19Loaded p_p0 = some r) {w : World} (r0_0 : Rd tInt w q0_0 l0_0 k0_0 p_p0.Words)   :
    Calls Tryz.prog 137 #[.agg #[.bool p_p0.On, .int .i64 p_p0.X, .int .i64 p_p0.Y, .int .i64 p_p0.W, .int .i64 p_p0.H, .int .i64 p_p0.Layout, .slice q0_0 l0_0 k0_0, .int .i64 p_p0.Alpha, .int .i64 p_p0.Orient, .int .i64 p_p0.ToW, .int .i64 p_p0.ToH]] w (fun en w' => ∃ rv G, en = .returned rv ∧ (∃ (a0_0 : Option Addr) (n0_0 : Nat) (c0_0 : Nat) (f0_0 : List Nat), rv = .tuple #[.agg #[.int .i64 r.1.W, .int .i64 r.1.H, .slice a0_0 n0_0 c0_0], .bool r.2] ∧ G = [Chunk.own tInt f0_0 a0_0 n0_0 c0_0 r.1.Data]) ∧ St w G w') := by
 obtain rfl := r0_0.1
 unfold spec_l19Loaded at h
 refine enter (vs := [_]) Tryz.func137 rfl rfl rfl rfl ?_
 refine WC.sr ?_
 refine WL.heavy rfl rfl rfl (OpH.box rfl rfl ?_)
 intro b0_0
 refine WL.heavy rfl rfl rfl (OpH.alloc zc_107 ?_)
 intro b0_1
 refine ag ?_
 refine WL.nil (En.next (WC.seq (WC.sr ?_)))
 refine sp (OpV.fieldAddr rfl fo_61_0) ?_
 refine sp (OpV.loadBox rfl pt_4 mq1 rfl) ?_
 refine sp (OpV.not rfl) ?_
 refine WL.nil (En.next ?_)
 refine WC.cond rfl ?_ ?_
 ·
  intro hc_1
  replace h := ifO_t hc_1 h
  refine WC.sr ?_
  refine sp (OpV.build (evps.nil) bd_107_) ?_
  refine WL.heavy0 rfl rfl (OpH.storeTo (A := []) [_, _, _] rfl rfl rfl ts_107 rfl rfl rfl ?_)
  refine ag ?_
  refine WL.nil (En.next (WC.ret (En.then_ret ?_)))
  refine En.ret2 rfl (Res.cell rfl mq0 ag_107) (Res.tmp rfl) ?_
  obtain rfl := Option.some.inj h
  intro w' hs
  have hs := ((hs).ownNil (A := tInt)).sub (.cons_cons _ (.cons _ (.cons _ (.slnil))))
  exact ⟨_, _, rfl, ⟨.none, 0, 0, [], rfl, rfl⟩, hs⟩
 ·
  intro hc_1
  replace h := ifO_f hc_1 h
  refine WC.skip (En.next (WC.seq ?_))
  obtain ⟨⟨x3_8a, x3_8b⟩, e3_8, h⟩ := bnd h
  refine WC.region ?_
  refine sp (OpV.fieldAddr rfl fo_61_6) ?_
  refine sp (OpV.loadBox rfl pt_23 mq1 rfl) ?_
  refine sp (OpV.fieldAddr rfl fo_61_3) ?_
  refine sp (OpV.loadBox rfl pt_3 mq1 rfl) ?_
  refine sp (OpV.fieldAddr rfl fo_61_4) ?_
  refine sp (OpV.loadBox rfl pt_3 mq1 rfl) ?_
  refine sp (OpV.fieldAddr rfl fo_61_5) ?_
  refine sp (OpV.loadBox rfl pt_3 mq1 rfl) ?_
  refine WL.heavy rfl rfl rfl (OpH.callR (ec rfl (ec rfl (ec rfl (ec rfl e0)))) ca_154 (fun w hs => w_spec_LoadImage e3_8 (r0_0.ext hs.below)) ?_)
  rintro _ _ ⟨a3_800, n3_800, c3_800, f3_800, rfl, rfl⟩
  refine mv ?_
  refine sp (OpV.extract rfl rfl) ?_
  refine sp (OpV.extract rfl rfl) ?_
  refine WL.heavy rfl rfl rfl (OpH.alloc zc_107 ?_)
  intro b3_12
  refine WL.heavy0 rfl rfl (OpH.storeTo (A := []) [_, _, _] rfl rfl rfl ts_107 rfl rfl rfl ?_)
  refine ag ?_
  refine WL.nil (En.next (WC.sr ?_))
  refine sp (OpV.loadAll rfl mq0 ag_107) ?_
  refine mv ?_
  refine WL.heavy0 rfl rfl (OpH.storeTo (A := [_, _]) [_, _, _] rfl rfl rfl ts_107 rfl rfl rfl ?_)
  refine ag ?_
  refine WL.nil (En.next (WC.ret ?_))
  refine En.ret2 rfl (Res.cell rfl mq2 ag_107) (Res.tmp rfl) ?_
  obtain rfl := Option.some.inj h
  intro w' hs
  have hs := ((hs).pm 1).sub (.cons_cons _ (.cons _ (.cons _ (.cons _ (.slnil)))))
  exact ⟨_, _, rfl, ⟨a3_800, n3_800, c3_800, f3_800, rfl, rfl⟩, hs⟩

theorem w_spec_OrientSize {w_p0 : Int} {h_p1 : Int} {o_p2 : Int} {r : Int × Int}  (h : spec_OrientSize w_p0 h_p1 o_p2 = some r) {w : World}    :
    Calls Tryz.prog 155 #[.int .i64 w_p0, .int .i64 h_p1, .int .i64 o_p2] w (fun en w' => en = .returned (.tuple #[.int .i64 r.1, .int .i64 r.2]) ∧ Ext w w') := by
 unfold spec_OrientSize at h
 refine enter (vs := [_, _, _]) Tryz.func155 rfl rfl rfl rfl ?_
 refine WC.sr ?_
 refine ag ?_
 refine ag ?_
 refine WL.nil (En.next (WC.seq (WC.seq ?_)))
 obtain ⟨x1_1, e1_1, h⟩ := bnd h
 obtain ⟨q1_7, e1_7, h⟩ := bnd h
 obtain ⟨q1_12, e1_12, h⟩ := bnd h
 refine WC.region ?_
 refine mv ?_
 refine sp (OpV.call (ec rfl (ec rfl (ec rfl e0))) ca_64 (fun w hs => w_spec_l01In e1_1)) ?_
 refine sp (OpV.not rfl) ?_
 refine mv ?_
 refine Lt.ofWL.orQ 11 15 14 (p := ?pz1) (rest := ?qz1) (B := q1_7) rfl (fun hz => orO_t e1_7 hz) ?Tz1 ?Fz1 ?az1 ?bz1 ?cz1 ?dz1 ?ez1
 case Tz1 =>
  intro hcz1 hkz1
  refine sk ?_
  refine sk ?_
  refine sk ?_
  refine hkz1 _ ?_
  repeat (first | exact Sub.refl _ | refine Sub.skip rfl ?_)
 case Fz1 =>
  intro hcz1 hkz1
  have hqz1 := orO_f e1_7 hcz1
  obtain ⟨x1_5, e1_5, hqz1⟩ := bnd hqz1
  obtain rfl := Option.some.inj hqz1
  refine mv ?_
  refine sp (OpV.call (ec rfl (ec rfl (ec rfl e0))) ca_64 (fun w hs => w_spec_l01In e1_5)) ?_
  refine sp (OpV.not rfl) ?_
  refine hkz1 _ ?_ ?_
  exact rfl
  repeat (first | exact Sub.refl _ | refine Sub.skip rfl ?_)
 case az1 => exact rfl
 case bz1 => exact rfl
 case cz1 => exact rfl
 case dz1 => exact rfl
 refine mv ?_
 refine Lt.ofWL.orQ 16 20 19 (p := ?pz2) (rest := ?qz2) (B := q1_12) rfl (fun hz => orO_t e1_12 hz) ?Tz2 ?Fz2 ?az2 ?bz2 ?cz2 ?dz2 ?ez2
 case Tz2 =>
  intro hcz2 hkz2
  refine sk ?_
  refine sk ?_
  refine sk ?_
  refine hkz2 _ ?_
  repeat (first | exact Sub.refl _ | refine Sub.skip rfl ?_)
 case Fz2 =>
  intro hcz2 hkz2
  have hqz2 := orO_f e1_12 hcz2
  obtain ⟨x1_10, e1_10, hqz2⟩ := bnd hqz2
  obtain rfl := Option.some.inj hqz2
  refine mv ?_
  refine sp (OpV.call (ec rfl (ec rfl (ec rfl e0))) ca_64 (fun w hs => w_spec_l01In e1_10)) ?_
  refine sp (OpV.not rfl) ?_
  refine hkz2 _ ?_ ?_
  exact rfl
  repeat (first | exact Sub.refl _ | refine Sub.skip rfl ?_)
 case az2 => exact rfl
 case bz2 => exact rfl
 case cz2 => exact rfl
 case dz2 => exact rfl
 refine WL.nil (En.next ?_)
 refine WC.cond rfl ?_ ?_
 ·
  intro hc_1
  replace h := ifO_t hc_1 h
  refine WC.sr ?_
  refine ag ?_
  refine ag ?_
  refine WL.nil (En.next (WC.ret (En.then_ret ?_)))
  refine En.ret2 rfl (Res.tmp rfl) (Res.tmp rfl) ?_
  obtain rfl := Option.some.inj h
  intro w' hs
  exact ⟨rfl, hs.below⟩
 ·
  intro hc_1
  replace h := ifO_f hc_1 h
  refine WC.skip (En.next (WC.seq (WC.sr ?_)))
  refine mv ?_
  refine sp (OpV.remR rfl rfl rfl) ?_
  refine sp (OpV.eql rfl rfl) ?_
  refine WL.nil (En.next ?_)
  refine WC.cond rfl ?_ ?_
  ·
   intro hc_2
   replace h := ifO_t hc_2 h
   refine WC.sr ?_
   refine mv ?_
   refine mv ?_
   refine ag ?_
   refine ag ?_
   refine WL.nil (En.next (WC.ret (En.then_ret ?_)))
   refine En.ret2 rfl (Res.tmp rfl) (Res.tmp rfl) ?_
   obtain rfl := Option.some.inj h
   intro w' hs
   exact ⟨rfl, hs.below⟩
  ·
   intro hc_2
   replace h := ifO_f hc_2 h
   refine WC.skip (En.next (WC.sr ?_))
   refine mv ?_
   refine mv ?_
   refine ag ?_
   refine ag ?_
   refine WL.nil (En.next (WC.ret ?_))
   refine En.ret2 rfl (Res.tmp rfl) (Res.tmp rfl) ?_
   obtain rfl := Option.some.inj h
   intro w' hs
   exact ⟨rfl, hs.below⟩

theorem w_spec_OrientPoint {a_p0 : Int} {a_p1 : Int} {a_p2 : Int} {a_p3 : Int} {a_p4 : Int} {r : Int × Int}  (h : spec_OrientPoint a_p0 a_p1 a_p2 a_p3 a_p4 = some r) {w : World}    :
    Calls Tryz.prog 156 #[.int .i64 a_p0, .int .i64 a_p1, .int .i64 a_p2, .int .i64 a_p3, .int .i64 a_p4] w (fun en w' => en = .returned (.tuple #[.int .i64 r.1, .int .i64 r.2]) ∧ Ext w w') := by
 unfold spec_OrientPoint at h
 refine enter (vs := [_, _, _, _, _]) Tryz.func156 rfl rfl rfl rfl ?_
 refine WC.sr ?_
 refine ag ?_
 refine ag ?_
 refine WL.nil (En.next (WC.seq (WC.seq ?_)))
 obtain ⟨x1_1, e1_1, h⟩ := bnd h
 obtain ⟨q1_7, e1_7, h⟩ := bnd h
 obtain ⟨q1_12, e1_12, h⟩ := bnd h
 obtain ⟨q1_19, e1_19, h⟩ := bnd h
 obtain ⟨q1_26, e1_26, h⟩ := bnd h
 refine WC.region ?_
 refine mv ?_
 refine sp (OpV.call (ec rfl (ec rfl (ec rfl e0))) ca_64 (fun w hs => w_spec_l01In e1_1)) ?_
 refine sp (OpV.not rfl) ?_
 refine mv ?_
 refine Lt.ofWL.orQ 18 22 21 (p := ?pz1) (rest := ?qz1) (B := q1_7) rfl (fun hz => orO_t e1_7 hz) ?Tz1 ?Fz1 ?az1 ?bz1 ?cz1 ?dz1 ?ez1
 case Tz1 =>
  intro hcz1 hkz1
  refine sk ?_
  refine sk ?_
  refine sk ?_
  refine hkz1 _ ?_
  repeat (first | exact Sub.refl _ | refine Sub.skip rfl ?_)
 case Fz1 =>
  intro hcz1 hkz1
  have hqz1 := orO_f e1_7 hcz1
  obtain ⟨x1_5, e1_5, hqz1⟩ := bnd hqz1
  obtain rfl := Option.some.inj hqz1
  refine mv ?_
  refine sp (OpV.call (ec rfl (ec rfl (ec rfl e0))) ca_64 (fun w hs => w_spec_l01In e1_5)) ?_
  refine sp (OpV.not rfl) ?_
  refine hkz1 _ ?_ ?_
  exact rfl
  repeat (first | exact Sub.refl _ | refine Sub.skip rfl ?_)
 case az1 => exact rfl
 case bz1 => exact rfl
 case cz1 => exact rfl
 case dz1 => exact rfl
 refine mv ?_
 refine Lt.ofWL.orQ 23 27 26 (p := ?pz2) (rest := ?qz2) (B := q1_12) rfl (fun hz => orO_t e1_12 hz) ?Tz2 ?Fz2 ?az2 ?bz2 ?cz2 ?dz2 ?ez2
 case Tz2 =>
  intro hcz2 hkz2
  refine sk ?_
  refine sk ?_
  refine sk ?_
  refine hkz2 _ ?_
  repeat (first | exact Sub.refl _ | refine Sub.skip rfl ?_)
 case Fz2 =>
  intro hcz2 hkz2
  have hqz2 := orO_f e1_12 hcz2
  obtain ⟨x1_10, e1_10, hqz2⟩ := bnd hqz2
  obtain rfl := Option.some.inj hqz2
  refine mv ?_
  refine sp (OpV.call (ec rfl (ec rfl (ec rfl e0))) ca_64 (fun w hs => w_spec_l01In e1_10)) ?_
  refine sp (OpV.not rfl) ?_
  refine hkz2 _ ?_ ?_
  exact rfl
  repeat (first | exact Sub.refl _ | refine Sub.skip rfl ?_)
 case az2 => exact rfl
 case bz2 => exact rfl
 case cz2 => exact rfl
 case dz2 => exact rfl
 refine mv ?_
 refine Lt.ofWL.orQ 28 34 33 (p := ?pz3) (rest := ?qz3) (B := q1_19) rfl (fun hz => orO_t e1_19 hz) ?Tz3 ?Fz3 ?az3 ?bz3 ?cz3 ?dz3 ?ez3
 case Tz3 =>
  intro hcz3 hkz3
  refine sk ?_
  refine sk ?_
  refine sk ?_
  refine sk ?_
  refine sk ?_
  refine hkz3 _ ?_
  repeat (first | exact Sub.refl _ | refine Sub.skip rfl ?_)
 case Fz3 =>
  intro hcz3 hkz3
  have hqz3 := orO_f e1_19 hcz3
  obtain ⟨x1_17, e1_17, hqz3⟩ := bnd hqz3
  obtain rfl := Option.some.inj hqz3
  refine mv ?_
  refine mv ?_
  refine sp (OpV.subR rfl rfl) ?_
  refine sp (OpV.call (ec rfl (ec rfl (ec rfl e0))) ca_64 (fun w hs => w_spec_l01In e1_17)) ?_
  refine sp (OpV.not rfl) ?_
  refine hkz3 _ ?_ ?_
  exact rfl
  repeat (first | exact Sub.refl _ | refine Sub.skip rfl ?_)
 case az3 => exact rfl
 case bz3 => exact rfl
 case cz3 => exact rfl
 case dz3 => exact rfl
 refine mv ?_
 refine Lt.ofWL.orQ 35 41 40 (p := ?pz4) (rest := ?qz4) (B := q1_26) rfl (fun hz => orO_t e1_26 hz) ?Tz4 ?Fz4 ?az4 ?bz4 ?cz4 ?dz4 ?ez4
 case Tz4 =>
  intro hcz4 hkz4
  refine sk ?_
  refine sk ?_
  refine sk ?_
  refine sk ?_
  refine sk ?_
  refine hkz4 _ ?_
  repeat (first | exact Sub.refl _ | refine Sub.skip rfl ?_)
 case Fz4 =>
  intro hcz4 hkz4
  have hqz4 := orO_f e1_26 hcz4
  obtain ⟨x1_24, e1_24, hqz4⟩ := bnd hqz4
  obtain rfl := Option.some.inj hqz4
  refine mv ?_
  refine mv ?_
  refine sp (OpV.subR rfl rfl) ?_
  refine sp (OpV.call (ec rfl (ec rfl (ec rfl e0))) ca_64 (fun w hs => w_spec_l01In e1_24)) ?_
  refine sp (OpV.not rfl) ?_
  refine hkz4 _ ?_ ?_
  exact rfl
  repeat (first | exact Sub.refl _ | refine Sub.skip rfl ?_)
 case az4 => exact rfl
 case bz4 => exact rfl
 case cz4 => exact rfl
 case dz4 => exact rfl
 refine WL.nil (En.next ?_)
 refine WC.cond rfl ?_ ?_
 ·
  intro hc_1
  replace h := ifO_t hc_1 h
  refine WC.sr ?_
  refine ag ?_
  refine ag ?_
  refine WL.nil (En.next (WC.ret (En.then_ret ?_)))
  refine En.ret2 rfl (Res.tmp rfl) (Res.tmp rfl) ?_
  obtain rfl := Option.some.inj h
  intro w' hs
  exact ⟨rfl, hs.below⟩
 ·
  intro hc_1
  replace h := ifO_f hc_1 h
  refine WC.skip (En.next (WC.seq (WC.sr ?_)))
  refine mv ?_
  refine sp (OpV.geq rfl rfl) ?_
  refine WL.nil (En.next ?_)
  refine WC.cond rfl ?_ ?_
  ·
   intro hc_2
   replace h := ifO_t hc_2 h
   refine WC.region ?_
   refine mv ?_
   refine sp (OpV.subR rfl rfl) ?_
   refine mv ?_
   refine sp (OpV.subR rfl rfl) ?_
   refine ag ?_
   refine WL.nil (En.next (WC.seq (WC.sr ?_)))
   refine ag ?_
   refine WL.nil (En.next (WC.block ?_))
   obtain ⟨zy0, ezy0, h⟩ := bnd h
   refine WC.cut (X := (Int × Int) × (Unit)) (.exit 0) (fun x => zy0 = x.1) (fun x => match x with | ((v_0e, v1_0e), ()) => [(3, .int .i64 v_0e), (4, .int .i64 v1_0e)]) (fun x => match x with | ((v_0e, v1_0e), ()) => []) ?_ ?_
   ·
    rintro ⟨⟨v_0e, v1_0e⟩, ⟨⟩⟩ hx
    replace hx : (v_0e, v1_0e) = zy0 := hx.symm
    subst hx
    show En _ _ _ _ [(3, .int .i64 v_0e), (4, .int .i64 v1_0e)] []
    refine En.block_exit (En.next (WC.sr ?_))
    refine mv ?_
    refine mv ?_
    refine ag ?_
    refine ag ?_
    refine WL.nil (En.next (WC.ret ?_))
    refine En.ret2 rfl (Res.tmp rfl) (Res.tmp rfl) ?_
    obtain rfl := Option.some.inj h
    intro w' hs
    exact ⟨rfl, hs.below⟩
   ·
    intro zK0_0
    refine WC.loopP (G := Unit) (fun s g => match s, g with | (v_0, v1_0, v2_0, v3_0, v4_0), () => [(0, .int .i64 v_0), (1, .int .i64 v1_0), (2, .int .i64 a_p2), (3, .int .i64 v2_0), (4, .int .i64 v3_0), (12, .int .i64 v4_0)]) (fun s g => match s, g with | (v_0, v1_0, v2_0, v3_0, v4_0), () => []) (a_p0, a_p1, (wr ((wr (a_p0 - 1)) - a_p3)), a_p4, 0) () ezy0 (by exact sc (sc (sc (sc (sc (sc sn)))))) (by exact (fun _ h => h)) ?_
    rintro zm0 ⟨v_0, v1_0, v2_0, v3_0, v4_0⟩ ⟨⟩ zo0 zf0 zb0 ze0
    have zh0 : spec_OrientPoint_L0 a_p2 v_0 v1_0 v2_0 v3_0 v4_0 = some zo0 := zf0
    unfold spec_OrientPoint_L0 at zh0
    show WC _ _ _ _ _ [(0, .int .i64 v_0), (1, .int .i64 v1_0), (2, .int .i64 a_p2), (3, .int .i64 v2_0), (4, .int .i64 v3_0), (12, .int .i64 v4_0)] []
    refine WC.seq (WC.sr ?_)
    refine mv ?_
    refine mv ?_
    refine sp (OpV.remR rfl rfl rfl) ?_
    refine sp (OpV.lss rfl rfl) ?_
    refine WL.nil (En.next ?_)
    refine WC.cond rfl ?_ ?_
    ·
     intro hc_3
     replace zh0 := ifO_t hc_3 zh0
     refine WC.skip (En.next (WC.seq (WC.block (WC.sr ?_))))
     refine mv ?_
     refine sp (OpV.subR rfl rfl) ?_
     refine mv ?_
     refine sp (OpV.subR rfl rfl) ?_
     refine ag ?_
     refine WL.nil (En.next (WC.sr ?_))
     refine mv ?_
     refine ag ?_
     refine WL.nil (En.next (WC.sr ?_))
     refine mv ?_
     refine ag ?_
     refine WL.nil (En.next (WC.sr ?_))
     refine mv ?_
     refine ag ?_
     refine WL.nil (En.next (WC.sr ?_))
     refine mv ?_
     refine ag ?_
     refine WL.nil (En.next (WC.region ?_))
     refine mv ?_
     refine ag ?_
     refine WL.nil (En.block_norm (En.next (WC.region ?_)))
     refine mv ?_
     refine sp (OpV.addR rfl rfl) ?_
     refine ag ?_
     refine WL.nil ?_
     exact En.backP zb0 zh0 () (sc (sc (sc (sc (sc (sc sn)))))) (fun _ h => h)
    ·
     intro hc_3
     replace zh0 := ifO_f hc_3 zh0
     refine WC.exit (En.then_exit (En.then_exit ?_))
     have hx := exitP ze0 zh0
     exact En.wk _ _ (sc (sc sn)) (fun _ h => h) (zK0_0 ((v2_0, v3_0), ()) hx.symm)
  ·
   intro hc_2
   replace h := ifO_f hc_2 h
   refine WC.skip (En.next (WC.seq (WC.sr ?_)))
   refine ag ?_
   refine WL.nil (En.next (WC.block ?_))
   obtain ⟨zy1, ezy1, h⟩ := bnd h
   refine WC.cut (X := (Int × Int) × (Unit)) (.exit 0) (fun x => zy1 = x.1) (fun x => match x with | ((v_1e, v1_1e), ()) => [(3, .int .i64 v_1e), (4, .int .i64 v1_1e)]) (fun x => match x with | ((v_1e, v1_1e), ()) => []) ?_ ?_
   ·
    rintro ⟨⟨v_1e, v1_1e⟩, ⟨⟩⟩ hx
    replace hx : (v_1e, v1_1e) = zy1 := hx.symm
    subst hx
    show En _ _ _ _ [(3, .int .i64 v_1e), (4, .int .i64 v1_1e)] []
    refine En.block_exit (En.next (WC.sr ?_))
    refine mv ?_
    refine mv ?_
    refine ag ?_
    refine ag ?_
    refine WL.nil (En.next (WC.ret ?_))
    refine En.ret2 rfl (Res.tmp rfl) (Res.tmp rfl) ?_
    obtain rfl := Option.some.inj h
    intro w' hs
    exact ⟨rfl, hs.below⟩
   ·
    intro zK1_0
    refine WC.loopP (G := Unit) (fun s g => match s, g with | (v_1, v1_1, v2_1, v3_1, v4_1), () => [(0, .int .i64 v_1), (1, .int .i64 v1_1), (2, .int .i64 a_p2), (3, .int .i64 v2_1), (4, .int .i64 v3_1), (12, .int .i64 v4_1)]) (fun s g => match s, g with | (v_1, v1_1, v2_1, v3_1, v4_1), () => []) (a_p0, a_p1, a_p3, a_p4, 0) () ezy1 (by exact sc (sc (sc (sc (sc (sc sn)))))) (by exact (fun _ h => h)) ?_
    rintro zm1 ⟨v_1, v1_1, v2_1, v3_1, v4_1⟩ ⟨⟩ zo1 zf1 zb1 ze1
    have zh1 : spec_OrientPoint_L1 a_p2 v_1 v1_1 v2_1 v3_1 v4_1 = some zo1 := zf1
    unfold spec_OrientPoint_L1 at zh1
    show WC _ _ _ _ _ [(0, .int .i64 v_1), (1, .int .i64 v1_1), (2, .int .i64 a_p2), (3, .int .i64 v2_1), (4, .int .i64 v3_1), (12, .int .i64 v4_1)] []
    refine WC.seq (WC.sr ?_)
    refine mv ?_
    refine mv ?_
    refine sp (OpV.remR rfl rfl rfl) ?_
    refine sp (OpV.lss rfl rfl) ?_
    refine WL.nil (En.next ?_)
    refine WC.cond rfl ?_ ?_
    ·
     intro hc_4
     replace zh1 := ifO_t hc_4 zh1
     refine WC.skip (En.next (WC.seq (WC.block (WC.sr ?_))))
     refine mv ?_
     refine sp (OpV.subR rfl rfl) ?_
     refine mv ?_
     refine sp (OpV.subR rfl rfl) ?_
     refine ag ?_
     refine WL.nil (En.next (WC.sr ?_))
     refine mv ?_
     refine ag ?_
     refine WL.nil (En.next (WC.sr ?_))
     refine mv ?_
     refine ag ?_
     refine WL.nil (En.next (WC.sr ?_))
     refine mv ?_
     refine ag ?_
     refine WL.nil (En.next (WC.sr ?_))
     refine mv ?_
     refine ag ?_
     refine WL.nil (En.next (WC.region ?_))
     refine mv ?_
     refine ag ?_
     refine WL.nil (En.block_norm (En.next (WC.region ?_)))
     refine mv ?_
     refine sp (OpV.addR rfl rfl) ?_
     refine ag ?_
     refine WL.nil ?_
     exact En.backP zb1 zh1 () (sc (sc (sc (sc (sc (sc sn)))))) (fun _ h => h)
    ·
     intro hc_4
     replace zh1 := ifO_f hc_4 zh1
     refine WC.exit (En.then_exit (En.then_exit ?_))
     have hx := exitP ze1 zh1
     exact En.wk _ _ (sc (sc sn)) (fun _ h => h) (zK1_0 ((v2_1, v3_1), ()) hx.symm)

theorem w_spec_Oriented {a_p0 : ImageT} {a_p1 : Int} {r : ImageT} {q0_0 : Option Addr} {l0_0 k0_0 : Nat} (h : spec_Oriented a_p0 a_p1 = some r) {w : World} (r0_0 : Rd tInt w q0_0 l0_0 k0_0 a_p0.Data)   :
    Calls Tryz.prog 138 #[.agg #[.int .i64 a_p0.W, .int .i64 a_p0.H, .slice q0_0 l0_0 k0_0], .int .i64 a_p1] w (fun en w' => ∃ rv G, en = .returned rv ∧ (∃ (a0_0 : Option Addr) (n0_0 : Nat) (c0_0 : Nat) (f0_0 : List Nat), rv = .agg #[.int .i64 r.W, .int .i64 r.H, .slice a0_0 n0_0 c0_0] ∧ G = [Chunk.own tInt f0_0 a0_0 n0_0 c0_0 r.Data]) ∧ St w G w') := by
 obtain rfl := r0_0.1
 unfold spec_Oriented at h
 refine enter (vs := [_, _]) Tryz.func138 rfl rfl rfl rfl ?_
 refine WC.sr ?_
 refine WL.heavy rfl rfl rfl (OpH.box rfl rfl ?_)
 intro b0_0
 refine WL.heavy rfl rfl rfl (OpH.alloc zc_107 ?_)
 intro b0_1
 refine WL.nil (En.next (WC.seq (WC.seq ?_)))
 obtain ⟨x1_1, e1_1, h⟩ := bnd h
 obtain ⟨q1_7, e1_7, h⟩ := bnd h
 refine WC.region ?_
 refine sp (OpV.loadAll rfl mq1 ag_107) ?_
 refine sp (OpV.call (ec rfl e0) ca_133 (fun w hs => w_spec_ImageOk e1_1 (r0_0.ext hs.below))) ?_
 refine sp (OpV.not rfl) ?_
 refine mv ?_
 refine Lt.ofWL.orQ 15 19 18 (p := ?pz1) (rest := ?qz1) (B := q1_7) rfl (fun hz => orO_t e1_7 hz) ?Tz1 ?Fz1 ?az1 ?bz1 ?cz1 ?dz1 ?ez1
 case Tz1 =>
  intro hcz1 hkz1
  refine sk ?_
  refine sk ?_
  refine sk ?_
  refine hkz1 _ ?_
  repeat (first | exact Sub.refl _ | refine Sub.skip rfl ?_)
 case Fz1 =>
  intro hcz1 hkz1
  have hqz1 := orO_f e1_7 hcz1
  obtain ⟨x1_5, e1_5, hqz1⟩ := bnd hqz1
  obtain rfl := Option.some.inj hqz1
  refine mv ?_
  refine sp (OpV.call (ec rfl (ec rfl (ec rfl e0))) ca_64 (fun w hs => w_spec_l01In e1_5)) ?_
  refine sp (OpV.not rfl) ?_
  refine hkz1 _ ?_ ?_
  exact rfl
  repeat (first | exact Sub.refl _ | refine Sub.skip rfl ?_)
 case az1 => exact rfl
 case bz1 => exact rfl
 case cz1 => exact rfl
 case dz1 => exact rfl
 refine WL.nil (En.next ?_)
 refine WC.cond rfl ?_ ?_
 ·
  intro hc_1
  replace h := ifO_t hc_1 h
  refine WC.sr ?_
  refine sp (OpV.build (evps.nil) bd_107_) ?_
  refine WL.heavy0 rfl rfl (OpH.storeTo (A := []) [_, _, _] rfl rfl rfl ts_107 rfl rfl rfl ?_)
  refine WL.nil (En.next (WC.ret (En.then_ret ?_)))
  refine En.ret1 rfl (Res.cell rfl mq0 ag_107) ?_
  obtain rfl := Option.some.inj h
  intro w' hs
  have hs := ((hs).ownNil (A := tInt)).sub (.cons_cons _ (.cons _ (.cons _ (.slnil))))
  exact ⟨_, _, rfl, ⟨.none, 0, 0, [], rfl, rfl⟩, hs⟩
 ·
  intro hc_1
  replace h := ifO_f hc_1 h
  refine WC.skip (En.next (WC.seq ?_))
  obtain ⟨⟨x3_5a, x3_5b⟩, e3_5, h⟩ := bnd h
  refine WC.region ?_
  refine sp (OpV.fieldAddr rfl fo_107_0) ?_
  refine sp (OpV.loadBox rfl pt_3 mq1 rfl) ?_
  refine sp (OpV.fieldAddr rfl fo_107_1) ?_
  refine sp (OpV.loadBox rfl pt_3 mq1 rfl) ?_
  refine mv ?_
  refine sp (OpV.call (ec rfl (ec rfl (ec rfl e0))) ca_155 (fun w hs => w_spec_OrientSize e3_5)) ?_
  refine mv ?_
  refine sp (OpV.extract rfl rfl) ?_
  refine sp (OpV.extract rfl rfl) ?_
  refine ag ?_
  refine ag ?_
  refine WL.nil (En.next (WC.seq ?_))
  obtain ⟨x4_5, e4_5, h⟩ := bnd h
  refine WC.region ?_
  refine mv ?_
  refine mv ?_
  refine mv ?_
  refine mv ?_
  refine sp (OpV.mulR rfl rfl) ?_
  refine WL.heavy rfl rfl rfl (OpH.makeO (A := tInt) rfl rfl mi_23 (fun w => tInt_flat.ow w 0) (by decide) e4_5 ⟨Int.le_refl _, (mkO_some e4_5).1.2⟩ ?_)
  intro b4_5
  refine sp (OpV.build (evps.cons rfl (evps.cons rfl (evps.cons rfl (evps.nil)))) (bd_107_0_1_2 _ _ _ _ _)) ?_
  refine WL.heavy rfl rfl rfl (OpH.alloc zc_107 ?_)
  intro b4_7
  refine WL.heavy0 rfl rfl (OpH.storeTo (A := []) [_, _, _] rfl rfl rfl ts_107 rfl rfl rfl ?_)
  refine WL.nil (En.next (WC.seq (WC.sr ?_)))
  refine ag ?_
  refine WL.nil (En.next (WC.block ?_))
  obtain ⟨zy0, ezy0, h⟩ := bnd h
  refine WC.cut (X := ((List Int)) × ((List Nat))) (.exit 0) (fun x => zy0 = x.1) (fun x => match x with | (x_0e, fx_0e) => [(4, .pointer (some ⟨b0_1, 0, .none⟩)), (7, .pointer (some ⟨b4_7, 0, .none⟩))]) (fun x => match x with | (x_0e, fx_0e) => [Chunk.box b0_1 107 [.int .i64 0, .int .i64 0, .slice .none 0 0], Chunk.box b4_7 107 [.int .i64 x3_5a, .int .i64 x3_5b, .slice (some ⟨b4_5, 0, .none⟩) x4_5.length ((wr (x3_5a * x3_5b)).toNat)], Chunk.own tInt fx_0e (some ⟨b4_5, 0, .none⟩) x4_5.length ((wr (x3_5a * x3_5b)).toNat) x_0e]) ?_ ?_
  ·
   rintro ⟨x_0e, fx_0e⟩ hx
   replace hx : x_0e = zy0 := hx.symm
   subst hx
   show En _ _ _ _ [(4, .pointer (some ⟨b0_1, 0, .none⟩)), (7, .pointer (some ⟨b4_7, 0, .none⟩))] [Chunk.box b0_1 107 [.int .i64 0, .int .i64 0, .slice .none 0 0], Chunk.box b4_7 107 [.int .i64 x3_5a, .int .i64 x3_5b, .slice (some ⟨b4_5, 0, .none⟩) x4_5.length ((wr (x3_5a * x3_5b)).toNat)], Chunk.own tInt fx_0e (some ⟨b4_5, 0, .none⟩) x4_5.length ((wr (x3_5a * x3_5b)).toNat) x_0e]
   refine En.block_exit (En.next (WC.sr ?_))
   refine sp (OpV.loadAll rfl mq1 ag_107) ?_
   refine WL.heavy0 rfl rfl (OpH.storeTo (A := []) [_, _, _] rfl rfl rfl ts_107 rfl rfl rfl ?_)
   refine WL.nil (En.next (WC.ret ?_))
   refine En.ret1 rfl (Res.cell rfl mq0 ag_107) ?_
   obtain rfl := Option.some.inj h
   intro w' hs
   have hs := ((hs).pm 2).sub (.cons_cons _ (.cons _ (.cons _ (.slnil))))
   exact ⟨_, _, rfl, ⟨(some ⟨b4_5, 0, .none⟩), x4_5.length, ((wr (x3_5a * x3_5b)).toNat), fx_0e, rfl, rfl⟩, hs⟩
  ·
   intro zK0_0
   refine WC.loopP (G := (List Nat)) (fun s g => match s, g with | (x_0, v_0), fx_0 => [(1, .int .i64 a_p1), (2, .pointer (some ⟨b0_0, 0, .none⟩)), (4, .pointer (some ⟨b0_1, 0, .none⟩)), (5, .int .i64 x3_5a), (7, .pointer (some ⟨b4_7, 0, .none⟩)), (8, .int .i64 v_0)]) (fun s g => match s, g with | (x_0, v_0), fx_0 => [Chunk.box b0_0 107 [.int .i64 a_p0.W, .int .i64 a_p0.H, .slice q0_0 a_p0.Data.length k0_0], Chunk.box b0_1 107 [.int .i64 0, .int .i64 0, .slice .none 0 0], Chunk.box b4_7 107 [.int .i64 x3_5a, .int .i64 x3_5b, .slice (some ⟨b4_5, 0, .none⟩) x4_5.length ((wr (x3_5a * x3_5b)).toNat)], Chunk.own tInt fx_0 (some ⟨b4_5, 0, .none⟩) x4_5.length ((wr (x3_5a * x3_5b)).toNat) x_0]) (x4_5, 0) [b4_5] ezy0 (by exact sc (sc (sc (sc (sc (sc sn)))))) (by exact (fun _ h => ((((h).pm 1).pm 1).pm 2).pm 3)) ?_
   rintro zm0 ⟨x_0, v_0⟩ fx_0 zo0 zf0 zb0 ze0
   have zh0 : spec_Oriented_L0 a_p0 a_p1 x3_5a x_0 v_0 = some zo0 := zf0
   unfold spec_Oriented_L0 at zh0
   show WC _ _ _ _ _ [(1, .int .i64 a_p1), (2, .pointer (some ⟨b0_0, 0, .none⟩)), (4, .pointer (some ⟨b0_1, 0, .none⟩)), (5, .int .i64 x3_5a), (7, .pointer (some ⟨b4_7, 0, .none⟩)), (8, .int .i64 v_0)] [Chunk.box b0_0 107 [.int .i64 a_p0.W, .int .i64 a_p0.H, .slice q0_0 a_p0.Data.length k0_0], Chunk.box b0_1 107 [.int .i64 0, .int .i64 0, .slice .none 0 0], Chunk.box b4_7 107 [.int .i64 x3_5a, .int .i64 x3_5b, .slice (some ⟨b4_5, 0, .none⟩) x4_5.length ((wr (x3_5a * x3_5b)).toNat)], Chunk.own tInt fx_0 (some ⟨b4_5, 0, .none⟩) x4_5.length ((wr (x3_5a * x3_5b)).toNat) x_0]
   refine WC.seq (WC.sr ?_)
   refine mv ?_
   refine sp (OpV.fieldAddr rfl fo_107_1) ?_
   refine sp (OpV.loadBox rfl pt_3 mq0 rfl) ?_
   refine sp (OpV.lss rfl rfl) ?_
   refine WL.nil (En.next ?_)
   refine WC.cond rfl ?_ ?_
   ·
    intro hc_2
    replace zh0 := ifO_t hc_2 zh0
    refine WC.skip (En.next (WC.seq (WC.block (WC.sr ?_))))
    refine ag ?_
    refine WL.nil (En.next (WC.block ?_))
    obtain ⟨zy1, ezy1, zh0⟩ := bnd zh0
    refine WC.cut (X := ((List Int)) × ((List Nat))) (.exit 2) (fun x => zy1 = x.1) (fun x => match x with | (x_1e, fx_1e) => [(1, .int .i64 a_p1), (2, .pointer (some ⟨b0_0, 0, .none⟩)), (4, .pointer (some ⟨b0_1, 0, .none⟩)), (5, .int .i64 x3_5a), (7, .pointer (some ⟨b4_7, 0, .none⟩)), (8, .int .i64 v_0)]) (fun x => match x with | (x_1e, fx_1e) => [Chunk.box b0_0 107 [.int .i64 a_p0.W, .int .i64 a_p0.H, .slice q0_0 a_p0.Data.length k0_0], Chunk.box b0_1 107 [.int .i64 0, .int .i64 0, .slice .none 0 0], Chunk.box b4_7 107 [.int .i64 x3_5a, .int .i64 x3_5b, .slice (some ⟨b4_5, 0, .none⟩) x4_5.length ((wr (x3_5a * x3_5b)).toNat)], Chunk.own tInt fx_1e (some ⟨b4_5, 0, .none⟩) x4_5.length ((wr (x3_5a * x3_5b)).toNat) x_1e]) ?_ ?_
    ·
     rintro ⟨x_1e, fx_1e⟩ hx
     replace hx : x_1e = zy1 := hx.symm
     subst hx
     show En _ _ _ _ [(1, .int .i64 a_p1), (2, .pointer (some ⟨b0_0, 0, .none⟩)), (4, .pointer (some ⟨b0_1, 0, .none⟩)), (5, .int .i64 x3_5a), (7, .pointer (some ⟨b4_7, 0, .none⟩)), (8, .int .i64 v_0)] [Chunk.box b0_0 107 [.int .i64 a_p0.W, .int .i64 a_p0.H, .slice q0_0 a_p0.Data.length k0_0], Chunk.box b0_1 107 [.int .i64 0, .int .i64 0, .slice .none 0 0], Chunk.box b4_7 107 [.int .i64 x3_5a, .int .i64 x3_5b, .slice (some ⟨b4_5, 0, .none⟩) x4_5.length ((wr (x3_5a * x3_5b)).toNat)], Chunk.own tInt fx_1e (some ⟨b4_5, 0, .none⟩) x4_5.length ((wr (x3_5a * x3_5b)).toNat) x_1e]
     refine En.block_exit (En.block_norm (En.next (WC.region ?_)))
     refine mv ?_
     refine sp (OpV.addR rfl rfl) ?_
     refine ag ?_
     refine WL.nil ?_
     exact En.backP zb0 zh0 fx_1e (sc (sc (sc (sc (sc (sc sn)))))) (fun _ h => h)
    ·
     intro zK1_0
     refine WC.loopP (G := (List Nat)) (fun s g => match s, g with | (x_1, v_1), fx_1 => [(1, .int .i64 a_p1), (2, .pointer (some ⟨b0_0, 0, .none⟩)), (4, .pointer (some ⟨b0_1, 0, .none⟩)), (5, .int .i64 x3_5a), (7, .pointer (some ⟨b4_7, 0, .none⟩)), (8, .int .i64 v_0), (9, .int .i64 v_1)]) (fun s g => match s, g with | (x_1, v_1), fx_1 => [Chunk.box b0_0 107 [.int .i64 a_p0.W, .int .i64 a_p0.H, .slice q0_0 a_p0.Data.length k0_0], Chunk.box b0_1 107 [.int .i64 0, .int .i64 0, .slice .none 0 0], Chunk.box b4_7 107 [.int .i64 x3_5a, .int .i64 x3_5b, .slice (some ⟨b4_5, 0, .none⟩) x4_5.length ((wr (x3_5a * x3_5b)).toNat)], Chunk.own tInt fx_1 (some ⟨b4_5, 0, .none⟩) x4_5.length ((wr (x3_5a * x3_5b)).toNat) x_1]) (x_0, 0) fx_0 ezy1 (by exact sc (sc (sc (sc (sc (sc (sc sn))))))) (by exact (fun _ h => h)) ?_
     rintro zm1 ⟨x_1, v_1⟩ fx_1 zo1 zf1 zb1 ze1
     have zh1 : spec_Oriented_L1 a_p0 a_p1 x3_5a v_0 x_1 v_1 = some zo1 := zf1
     unfold spec_Oriented_L1 at zh1
     show WC _ _ _ _ _ [(1, .int .i64 a_p1), (2, .pointer (some ⟨b0_0, 0, .none⟩)), (4, .pointer (some ⟨b0_1, 0, .none⟩)), (5, .int .i64 x3_5a), (7, .pointer (some ⟨b4_7, 0, .none⟩)), (8, .int .i64 v_0), (9, .int .i64 v_1)] [Chunk.box b0_0 107 [.int .i64 a_p0.W, .int .i64 a_p0.H, .slice q0_0 a_p0.Data.length k0_0], Chunk.box b0_1 107 [.int .i64 0, .int .i64 0, .slice .none 0 0], Chunk.box b4_7 107 [.int .i64 x3_5a, .int .i64 x3_5b, .slice (some ⟨b4_5, 0, .none⟩) x4_5.length ((wr (x3_5a * x3_5b)).toNat)], Chunk.own tInt fx_1 (some ⟨b4_5, 0, .none⟩) x4_5.length ((wr (x3_5a * x3_5b)).toNat) x_1]
     refine WC.seq (WC.sr ?_)
     refine mv ?_
     refine sp (OpV.fieldAddr rfl fo_107_0) ?_
     refine sp (OpV.loadBox rfl pt_3 mq0 rfl) ?_
     refine sp (OpV.lss rfl rfl) ?_
     refine WL.nil (En.next ?_)
     refine WC.cond rfl ?_ ?_
     ·
      intro hc_3
      replace zh1 := ifO_t hc_3 zh1
      refine WC.skip (En.next (WC.seq (WC.block (WC.seq ?_))))
      obtain ⟨⟨x11_7a, x11_7b⟩, e11_7, zh1⟩ := bnd zh1
      refine WC.region ?_
      refine sp (OpV.fieldAddr rfl fo_107_0) ?_
      refine sp (OpV.loadBox rfl pt_3 mq0 rfl) ?_
      refine sp (OpV.fieldAddr rfl fo_107_1) ?_
      refine sp (OpV.loadBox rfl pt_3 mq0 rfl) ?_
      refine mv ?_
      refine mv ?_
      refine mv ?_
      refine sp (OpV.call (ec rfl (ec rfl (ec rfl (ec rfl (ec rfl e0))))) ca_156 (fun w hs => w_spec_OrientPoint e11_7)) ?_
      refine mv ?_
      refine sp (OpV.extract rfl rfl) ?_
      refine sp (OpV.extract rfl rfl) ?_
      refine ag ?_
      refine ag ?_
      refine WL.nil (En.next ?_)
      refine WC.inh fun hin12 => ?_
      obtain ⟨x12_15, e12_15, zh1⟩ := bnd zh1
      obtain ⟨g12_15, o12_15, _, ha12_15, rfl, hd12_15⟩ := Rd.atIdx r0_0 e12_15
      replace hd12_15 : ∀ (j : Nat) v, ([.int .i64 x12_15] : List Value)[j]? = some v → w.cell? ⟨g12_15, o12_15 + (wr ((wr (v_0 * a_p0.W)) + v_1)).toNat * 1 + j, .none⟩ = some v := hd12_15
      have hn12_17 := ownLen hin12 mq3
      obtain ⟨x12_18, e12_18, zh1⟩ := bnd zh1
      obtain ⟨g12_17, o12_17, ha12_17⟩ := ownAddrU hin12 mq3 e12_18
      refine WC.wkF (fun _ h => h.pm 3) ?_
      refine WC.drawnH [_] ([_, _, _]) (fun _ h => h) (by kernel_rfl) ?_
      refine tk 0 rfl (OpV.fieldAddr rfl fo_107_2) ?_
      refine tk 1 rfl (OpV.loadBox rfl pt_23 mq2 rfl) ?_
      refine tk 2 rfl (OpV.move rfl) ?_
      refine tk 3 rfl (OpV.move rfl) ?_
      refine tk 4 rfl (OpV.mulR rfl rfl) ?_
      refine tk 5 rfl (OpV.move rfl) ?_
      refine tk 6 rfl (OpV.addR rfl rfl) ?_
      refine tk 7 rfl (OpV.fieldAddr rfl fo_107_2) ?_
      refine tk 8 rfl (OpV.loadBox rfl pt_23 mq0 rfl) ?_
      refine tk 9 rfl (OpV.move rfl) ?_
      refine tk 10 rfl (OpV.fieldAddr rfl fo_107_0) ?_
      refine tk 11 rfl (OpV.loadBox rfl pt_3 mq0 rfl) ?_
      refine tk 12 rfl (OpV.mulR rfl rfl) ?_
      refine tk 13 rfl (OpV.move rfl) ?_
      refine tk 14 rfl (OpV.addR rfl rfl) ?_
      refine tk 15 rfl (OpV.idxA rfl rfl se_23 ha12_15 ⟨(idx_some e12_15).1, (idx_some e12_15).2.1⟩) ?_
      refine tk 16 rfl (OpV.load1 rfl pt_3 (fun w hs => hs.cell (hd12_15 0 _ rfl))) ?_
      refine tk 17 rfl (OpV.idxA rfl rfl se_23 ha12_17 ⟨(upd_some e12_18).1.1, by rw [hn12_17]; exact (upd_some e12_18).1.2⟩) ?_
      refine al0 18 rfl ?_
      refine OpH.wkF (fun _ h => St.elFlat tInt_flat x12_15 h) ?_
      refine OpH.setEl (A := tInt) ha12_17 rfl rfl rfl ts_3 e12_18 ?_
      intro f12_18
      refine ⟨[_], rfl, ?_⟩
      refine WAE.rebase (H := []) ?_
      refine WAE.done (by kernel_rfl) ?_ _
      refine En.block_norm (En.next (WC.region ?_))
      refine mv ?_
      refine sp (OpV.addR rfl rfl) ?_
      refine ag ?_
      refine WL.nil ?_
      exact En.backP zb1 zh1 f12_18 (sc (sc (sc (sc (sc (sc (sc sn))))))) (fun _ h => (((h).pm 3).pm 3).pm 3)
     ·
      intro hc_3
      replace zh1 := ifO_f hc_3 zh1
      refine WC.exit (En.then_exit (En.then_exit ?_))
      have hx := exitP ze1 zh1
      exact En.wk _ _ (sc (sc (sc (sc (sc (sc sn)))))) (fun _ h => h) (zK1_0 (x_1, fx_1) hx.symm)
   ·
    intro hc_2
    replace zh0 := ifO_f hc_2 zh0
    refine WC.exit (En.then_exit (En.then_exit ?_))
    have hx := exitP ze0 zh0
    exact En.wk _ _ (sc (sc sn)) (fun _ h => ((((h).pm 3).pm 3).pm 3).sub (.cons_cons _ (.cons_cons _ (.cons_cons _ (.cons _ (.slnil)))))) (zK0_0 (x_0, fx_0) hx.symm)

theorem w_spec_ScalePoint {from_p0 : Int} {to_p1 : Int} {k_p2 : Int} {r : Int}  (h : spec_ScalePoint from_p0 to_p1 k_p2 = some r) {w : World}    :
    Calls Tryz.prog 157 #[.int .i64 from_p0, .int .i64 to_p1, .int .i64 k_p2] w (fun en w' => en = .returned (.int .i64 r) ∧ Ext w w') := by
 unfold spec_ScalePoint at h
 refine enter (vs := [_, _, _]) Tryz.func157 rfl rfl rfl rfl ?_
 refine WC.sr ?_
 refine ag ?_
 refine WL.nil (En.next (WC.seq (WC.seq ?_)))
 obtain ⟨x1_1, e1_1, h⟩ := bnd h
 obtain ⟨q1_7, e1_7, h⟩ := bnd h
 obtain ⟨q1_14, e1_14, h⟩ := bnd h
 refine WC.region ?_
 refine mv ?_
 refine sp (OpV.call (ec rfl (ec rfl (ec rfl e0))) ca_64 (fun w hs => w_spec_l01In e1_1)) ?_
 refine sp (OpV.not rfl) ?_
 refine mv ?_
 refine Lt.ofWL.orQ 10 14 13 (p := ?pz1) (rest := ?qz1) (B := q1_7) rfl (fun hz => orO_t e1_7 hz) ?Tz1 ?Fz1 ?az1 ?bz1 ?cz1 ?dz1 ?ez1
 case Tz1 =>
  intro hcz1 hkz1
  refine sk ?_
  refine sk ?_
  refine sk ?_
  refine hkz1 _ ?_
  repeat (first | exact Sub.refl _ | refine Sub.skip rfl ?_)
 case Fz1 =>
  intro hcz1 hkz1
  have hqz1 := orO_f e1_7 hcz1
  obtain ⟨x1_5, e1_5, hqz1⟩ := bnd hqz1
  obtain rfl := Option.some.inj hqz1
  refine mv ?_
  refine sp (OpV.call (ec rfl (ec rfl (ec rfl e0))) ca_64 (fun w hs => w_spec_l01In e1_5)) ?_
  refine sp (OpV.not rfl) ?_
  refine hkz1 _ ?_ ?_
  exact rfl
  repeat (first | exact Sub.refl _ | refine Sub.skip rfl ?_)
 case az1 => exact rfl
 case bz1 => exact rfl
 case cz1 => exact rfl
 case dz1 => exact rfl
 refine mv ?_
 refine Lt.ofWL.orQ 15 21 20 (p := ?pz2) (rest := ?qz2) (B := q1_14) rfl (fun hz => orO_t e1_14 hz) ?Tz2 ?Fz2 ?az2 ?bz2 ?cz2 ?dz2 ?ez2
 case Tz2 =>
  intro hcz2 hkz2
  refine sk ?_
  refine sk ?_
  refine sk ?_
  refine sk ?_
  refine sk ?_
  refine hkz2 _ ?_
  repeat (first | exact Sub.refl _ | refine Sub.skip rfl ?_)
 case Fz2 =>
  intro hcz2 hkz2
  have hqz2 := orO_f e1_14 hcz2
  obtain ⟨x1_12, e1_12, hqz2⟩ := bnd hqz2
  obtain rfl := Option.some.inj hqz2
  refine mv ?_
  refine mv ?_
  refine sp (OpV.subR rfl rfl) ?_
  refine sp (OpV.call (ec rfl (ec rfl (ec rfl e0))) ca_64 (fun w hs => w_spec_l01In e1_12)) ?_
  refine sp (OpV.not rfl) ?_
  refine hkz2 _ ?_ ?_
  exact rfl
  repeat (first | exact Sub.refl _ | refine Sub.skip rfl ?_)
 case az2 => exact rfl
 case bz2 => exact rfl
 case cz2 => exact rfl
 case dz2 => exact rfl
 refine WL.nil (En.next ?_)
 refine WC.cond rfl ?_ ?_
 ·
  intro hc_1
  replace h := ifO_t hc_1 h
  refine WC.sr ?_
  refine ag ?_
  refine WL.nil (En.next (WC.ret (En.then_ret ?_)))
  refine En.ret1 rfl (Res.tmp rfl) ?_
  obtain rfl := Option.some.inj h
  intro w' hs
  exact ⟨rfl, hs.below⟩
 ·
  intro hc_1
  replace h := ifO_f hc_1 h
  refine WC.skip (En.next (WC.seq ?_))
  obtain ⟨x3_4, e3_4, h⟩ := bnd h
  refine WC.region ?_
  refine mv ?_
  refine mv ?_
  refine sp (OpV.mulR rfl rfl) ?_
  refine mv ?_
  refine sp (OpV.quoR rfl rfl e3_4) ?_
  refine ag ?_
  refine WL.nil (En.next (WC.ret ?_))
  refine En.ret1 rfl (Res.tmp rfl) ?_
  obtain rfl := Option.some.inj h
  intro w' hs
  exact ⟨rfl, hs.below⟩

theorem w_spec_Scaled {i_p0 : ImageT} {w_p1 : Int} {h_p2 : Int} {r : ImageT} {q0_0 : Option Addr} {l0_0 k0_0 : Nat} (h : spec_Scaled i_p0 w_p1 h_p2 = some r) {w : World} (r0_0 : Rd tInt w q0_0 l0_0 k0_0 i_p0.Data)   :
    Calls Tryz.prog 139 #[.agg #[.int .i64 i_p0.W, .int .i64 i_p0.H, .slice q0_0 l0_0 k0_0], .int .i64 w_p1, .int .i64 h_p2] w (fun en w' => ∃ rv G, en = .returned rv ∧ (∃ (a0_0 : Option Addr) (n0_0 : Nat) (c0_0 : Nat) (f0_0 : List Nat), rv = .agg #[.int .i64 r.W, .int .i64 r.H, .slice a0_0 n0_0 c0_0] ∧ G = [Chunk.own tInt f0_0 a0_0 n0_0 c0_0 r.Data]) ∧ St w G w') := by
 obtain rfl := r0_0.1
 unfold spec_Scaled at h
 refine enter (vs := [_, _, _]) Tryz.func139 rfl rfl rfl rfl ?_
 refine WC.sr ?_
 refine WL.heavy rfl rfl rfl (OpH.box rfl rfl ?_)
 intro b0_0
 refine WL.heavy rfl rfl rfl (OpH.alloc zc_107 ?_)
 intro b0_1
 refine WL.nil (En.next (WC.seq (WC.seq ?_)))
 obtain ⟨x1_1, e1_1, h⟩ := bnd h
 obtain ⟨q1_7, e1_7, h⟩ := bnd h
 obtain ⟨q1_12, e1_12, h⟩ := bnd h
 refine WC.region ?_
 refine sp (OpV.loadAll rfl mq1 ag_107) ?_
 refine sp (OpV.call (ec rfl e0) ca_133 (fun w hs => w_spec_ImageOk e1_1 (r0_0.ext hs.below))) ?_
 refine sp (OpV.not rfl) ?_
 refine mv ?_
 refine Lt.ofWL.orQ 13 17 16 (p := ?pz1) (rest := ?qz1) (B := q1_7) rfl (fun hz => orO_t e1_7 hz) ?Tz1 ?Fz1 ?az1 ?bz1 ?cz1 ?dz1 ?ez1
 case Tz1 =>
  intro hcz1 hkz1
  refine sk ?_
  refine sk ?_
  refine sk ?_
  refine hkz1 _ ?_
  repeat (first | exact Sub.refl _ | refine Sub.skip rfl ?_)
 case Fz1 =>
  intro hcz1 hkz1
  have hqz1 := orO_f e1_7 hcz1
  obtain ⟨x1_5, e1_5, hqz1⟩ := bnd hqz1
  obtain rfl := Option.some.inj hqz1
  refine mv ?_
  refine sp (OpV.call (ec rfl (ec rfl (ec rfl e0))) ca_64 (fun w hs => w_spec_l01In e1_5)) ?_
  refine sp (OpV.not rfl) ?_
  refine hkz1 _ ?_ ?_
  exact rfl
  repeat (first | exact Sub.refl _ | refine Sub.skip rfl ?_)
 case az1 => exact rfl
 case bz1 => exact rfl
 case cz1 => exact rfl
 case dz1 => exact rfl
 refine mv ?_
 refine Lt.ofWL.orQ 18 22 21 (p := ?pz2) (rest := ?qz2) (B := q1_12) rfl (fun hz => orO_t e1_12 hz) ?Tz2 ?Fz2 ?az2 ?bz2 ?cz2 ?dz2 ?ez2
 case Tz2 =>
  intro hcz2 hkz2
  refine sk ?_
  refine sk ?_
  refine sk ?_
  refine hkz2 _ ?_
  repeat (first | exact Sub.refl _ | refine Sub.skip rfl ?_)
 case Fz2 =>
  intro hcz2 hkz2
  have hqz2 := orO_f e1_12 hcz2
  obtain ⟨x1_10, e1_10, hqz2⟩ := bnd hqz2
  obtain rfl := Option.some.inj hqz2
  refine mv ?_
  refine sp (OpV.call (ec rfl (ec rfl (ec rfl e0))) ca_64 (fun w hs => w_spec_l01In e1_10)) ?_
  refine sp (OpV.not rfl) ?_
  refine hkz2 _ ?_ ?_
  exact rfl
  repeat (first | exact Sub.refl _ | refine Sub.skip rfl ?_)
 case az2 => exact rfl
 case bz2 => exact rfl
 case cz2 => exact rfl
 case dz2 => exact rfl
 refine WL.nil (En.next ?_)
 refine WC.cond rfl ?_ ?_
 ·
  intro hc_1
  replace h := ifO_t hc_1 h
  refine WC.sr ?_
  refine sp (OpV.build (evps.nil) bd_107_) ?_
  refine WL.heavy0 rfl rfl (OpH.storeTo (A := []) [_, _, _] rfl rfl rfl ts_107 rfl rfl rfl ?_)
  refine WL.nil (En.next (WC.ret (En.then_ret ?_)))
  refine En.ret1 rfl (Res.cell rfl mq0 ag_107) ?_
  obtain rfl := Option.some.inj h
  intro w' hs
  have hs := ((hs).ownNil (A := tInt)).sub (.cons_cons _ (.cons _ (.cons _ (.slnil))))
  exact ⟨_, _, rfl, ⟨.none, 0, 0, [], rfl, rfl⟩, hs⟩
 ·
  intro hc_1
  replace h := ifO_f hc_1 h
  refine WC.skip (En.next (WC.sr ?_))
  refine mv ?_
  refine mv ?_
  refine sp (OpV.build (evps.cons rfl (evps.cons rfl (evps.nil))) (bd_107_0_1 _ _)) ?_
  refine WL.heavy rfl rfl rfl (OpH.alloc zc_107 ?_)
  intro b3_3
  refine WL.heavy0 rfl rfl (OpH.storeTo (A := []) [_, _, _] rfl rfl rfl ts_107 rfl rfl rfl ?_)
  refine WL.nil (En.next (WC.seq (WC.sr ?_)))
  refine ag ?_
  refine WL.nil (En.next (WC.block ?_))
  obtain ⟨zy0, ezy0, h⟩ := bnd h
  refine WC.cut (X := ((List Int)) × ((Option Addr) × Nat × Nat × (List Nat))) (.exit 0) (fun x => zy0 = x.1) (fun x => match x with | (out_0e, (aout_0e, nout_0e, cout_0e, fout_0e)) => [(6, .pointer (some ⟨b0_1, 0, .none⟩)), (7, .pointer (some ⟨b3_3, 0, .none⟩))]) (fun x => match x with | (out_0e, (aout_0e, nout_0e, cout_0e, fout_0e)) => [Chunk.box b0_1 107 [.int .i64 0, .int .i64 0, .slice .none 0 0], Chunk.box b3_3 107 [.int .i64 w_p1, .int .i64 h_p2, .slice aout_0e nout_0e cout_0e], Chunk.own tInt fout_0e aout_0e nout_0e cout_0e out_0e]) ?_ ?_
  ·
   rintro ⟨out_0e, ⟨aout_0e, nout_0e, cout_0e, fout_0e⟩⟩ hx
   replace hx : out_0e = zy0 := hx.symm
   subst hx
   show En _ _ _ _ [(6, .pointer (some ⟨b0_1, 0, .none⟩)), (7, .pointer (some ⟨b3_3, 0, .none⟩))] [Chunk.box b0_1 107 [.int .i64 0, .int .i64 0, .slice .none 0 0], Chunk.box b3_3 107 [.int .i64 w_p1, .int .i64 h_p2, .slice aout_0e nout_0e cout_0e], Chunk.own tInt fout_0e aout_0e nout_0e cout_0e out_0e]
   refine En.block_exit (En.next (WC.sr ?_))
   refine sp (OpV.loadAll rfl mq1 ag_107) ?_
   refine WL.heavy0 rfl rfl (OpH.storeTo (A := []) [_, _, _] rfl rfl rfl ts_107 rfl rfl rfl ?_)
   refine WL.nil (En.next (WC.ret ?_))
   refine En.ret1 rfl (Res.cell rfl mq0 ag_107) ?_
   obtain rfl := Option.some.inj h
   intro w' hs
   have hs := ((hs).pm 2).sub (.cons_cons _ (.cons _ (.cons _ (.slnil))))
   exact ⟨_, _, rfl, ⟨aout_0e, nout_0e, cout_0e, fout_0e, rfl, rfl⟩, hs⟩
  ·
   intro zK0_0
   refine WC.loopP (G := (Option Addr) × Nat × Nat × (List Nat)) (fun s g => match s, g with | (out_0, y_0), (aout_0, nout_0, cout_0, fout_0) => [(1, .int .i64 w_p1), (2, .int .i64 h_p2), (3, .pointer (some ⟨b0_0, 0, .none⟩)), (6, .pointer (some ⟨b0_1, 0, .none⟩)), (7, .pointer (some ⟨b3_3, 0, .none⟩)), (8, .int .i64 y_0)]) (fun s g => match s, g with | (out_0, y_0), (aout_0, nout_0, cout_0, fout_0) => [Chunk.box b0_0 107 [.int .i64 i_p0.W, .int .i64 i_p0.H, .slice q0_0 i_p0.Data.length k0_0], Chunk.box b0_1 107 [.int .i64 0, .int .i64 0, .slice .none 0 0], Chunk.box b3_3 107 [.int .i64 w_p1, .int .i64 h_p2, .slice aout_0 nout_0 cout_0], Chunk.own tInt fout_0 aout_0 nout_0 cout_0 out_0]) ([], 0) (.none, 0, 0, []) ezy0 (by exact sc (sc (sc (sc (sc (sc sn)))))) (by exact (fun _ h => ((((h).ownNil (A := tInt)).pm 1).pm 2).pm 3)) ?_
   rintro zm0 ⟨out_0, y_0⟩ ⟨aout_0, nout_0, cout_0, fout_0⟩ zo0 zf0 zb0 ze0
   have zh0 : spec_Scaled_L0 i_p0 w_p1 h_p2 out_0 y_0 = some zo0 := zf0
   unfold spec_Scaled_L0 at zh0
   show WC _ _ _ _ _ [(1, .int .i64 w_p1), (2, .int .i64 h_p2), (3, .pointer (some ⟨b0_0, 0, .none⟩)), (6, .pointer (some ⟨b0_1, 0, .none⟩)), (7, .pointer (some ⟨b3_3, 0, .none⟩)), (8, .int .i64 y_0)] [Chunk.box b0_0 107 [.int .i64 i_p0.W, .int .i64 i_p0.H, .slice q0_0 i_p0.Data.length k0_0], Chunk.box b0_1 107 [.int .i64 0, .int .i64 0, .slice .none 0 0], Chunk.box b3_3 107 [.int .i64 w_p1, .int .i64 h_p2, .slice aout_0 nout_0 cout_0], Chunk.own tInt fout_0 aout_0 nout_0 cout_0 out_0]
   refine WC.seq (WC.sr ?_)
   refine mv ?_
   refine mv ?_
   refine sp (OpV.lss rfl rfl) ?_
   refine WL.nil (En.next ?_)
   refine WC.cond rfl ?_ ?_
   ·
    intro hc_2
    replace zh0 := ifO_t hc_2 zh0
    refine WC.skip (En.next (WC.seq (WC.block (WC.sr ?_))))
    refine ag ?_
    refine WL.nil (En.next (WC.block ?_))
    obtain ⟨zy1, ezy1, zh0⟩ := bnd zh0
    refine WC.cut (X := ((List Int)) × ((Option Addr) × Nat × Nat × (List Nat))) (.exit 2) (fun x => zy1 = x.1) (fun x => match x with | (out_1e, (aout_1e, nout_1e, cout_1e, fout_1e)) => [(1, .int .i64 w_p1), (2, .int .i64 h_p2), (3, .pointer (some ⟨b0_0, 0, .none⟩)), (6, .pointer (some ⟨b0_1, 0, .none⟩)), (7, .pointer (some ⟨b3_3, 0, .none⟩)), (8, .int .i64 y_0)]) (fun x => match x with | (out_1e, (aout_1e, nout_1e, cout_1e, fout_1e)) => [Chunk.box b0_0 107 [.int .i64 i_p0.W, .int .i64 i_p0.H, .slice q0_0 i_p0.Data.length k0_0], Chunk.box b0_1 107 [.int .i64 0, .int .i64 0, .slice .none 0 0], Chunk.box b3_3 107 [.int .i64 w_p1, .int .i64 h_p2, .slice aout_1e nout_1e cout_1e], Chunk.own tInt fout_1e aout_1e nout_1e cout_1e out_1e]) ?_ ?_
    ·
     rintro ⟨out_1e, ⟨aout_1e, nout_1e, cout_1e, fout_1e⟩⟩ hx
     replace hx : out_1e = zy1 := hx.symm
     subst hx
     show En _ _ _ _ [(1, .int .i64 w_p1), (2, .int .i64 h_p2), (3, .pointer (some ⟨b0_0, 0, .none⟩)), (6, .pointer (some ⟨b0_1, 0, .none⟩)), (7, .pointer (some ⟨b3_3, 0, .none⟩)), (8, .int .i64 y_0)] [Chunk.box b0_0 107 [.int .i64 i_p0.W, .int .i64 i_p0.H, .slice q0_0 i_p0.Data.length k0_0], Chunk.box b0_1 107 [.int .i64 0, .int .i64 0, .slice .none 0 0], Chunk.box b3_3 107 [.int .i64 w_p1, .int .i64 h_p2, .slice aout_1e nout_1e cout_1e], Chunk.own tInt fout_1e aout_1e nout_1e cout_1e out_1e]
     refine En.block_exit (En.block_norm (En.next (WC.region ?_)))
     refine mv ?_
     refine sp (OpV.addR rfl rfl) ?_
     refine ag ?_
     refine WL.nil ?_
     exact En.backP zb0 zh0 (aout_1e, nout_1e, cout_1e, fout_1e) (sc (sc (sc (sc (sc (sc sn)))))) (fun _ h => h)
    ·
     intro zK1_0
     refine WC.loopP (G := (Option Addr) × Nat × Nat × (List Nat)) (fun s g => match s, g with | (out_1, x_1), (aout_1, nout_1, cout_1, fout_1) => [(1, .int .i64 w_p1), (2, .int .i64 h_p2), (3, .pointer (some ⟨b0_0, 0, .none⟩)), (6, .pointer (some ⟨b0_1, 0, .none⟩)), (7, .pointer (some ⟨b3_3, 0, .none⟩)), (8, .int .i64 y_0), (9, .int .i64 x_1)]) (fun s g => match s, g with | (out_1, x_1), (aout_1, nout_1, cout_1, fout_1) => [Chunk.box b0_0 107 [.int .i64 i_p0.W, .int .i64 i_p0.H, .slice q0_0 i_p0.Data.length k0_0], Chunk.box b0_1 107 [.int .i64 0, .int .i64 0, .slice .none 0 0], Chunk.box b3_3 107 [.int .i64 w_p1, .int .i64 h_p2, .slice aout_1 nout_1 cout_1], Chunk.own tInt fout_1 aout_1 nout_1 cout_1 out_1]) (out_0, 0) (aout_0, nout_0, cout_0, fout_0) ezy1 (by exact sc (sc (sc (sc (sc (sc (sc sn))))))) (by exact (fun _ h => h)) ?_
     rintro zm1 ⟨out_1, x_1⟩ ⟨aout_1, nout_1, cout_1, fout_1⟩ zo1 zf1 zb1 ze1
     have zh1 : spec_Scaled_L1 i_p0 w_p1 h_p2 y_0 out_1 x_1 = some zo1 := zf1
     unfold spec_Scaled_L1 at zh1
     show WC _ _ _ _ _ [(1, .int .i64 w_p1), (2, .int .i64 h_p2), (3, .pointer (some ⟨b0_0, 0, .none⟩)), (6, .pointer (some ⟨b0_1, 0, .none⟩)), (7, .pointer (some ⟨b3_3, 0, .none⟩)), (8, .int .i64 y_0), (9, .int .i64 x_1)] [Chunk.box b0_0 107 [.int .i64 i_p0.W, .int .i64 i_p0.H, .slice q0_0 i_p0.Data.length k0_0], Chunk.box b0_1 107 [.int .i64 0, .int .i64 0, .slice .none 0 0], Chunk.box b3_3 107 [.int .i64 w_p1, .int .i64 h_p2, .slice aout_1 nout_1 cout_1], Chunk.own tInt fout_1 aout_1 nout_1 cout_1 out_1]
     refine WC.seq (WC.sr ?_)
     refine mv ?_
     refine mv ?_
     refine sp (OpV.lss rfl rfl) ?_
     refine WL.nil (En.next ?_)
     refine WC.cond rfl ?_ ?_
     ·
      intro hc_3
      replace zh1 := ifO_t hc_3 zh1
      refine WC.skip (En.next (WC.seq (WC.block ?_)))
      obtain ⟨x10_8, e10_8, zh1⟩ := bnd zh1
      obtain ⟨x10_16, e10_16, zh1⟩ := bnd zh1
      obtain ⟨x10_18, e10_18, zh1⟩ := bnd zh1
      obtain ⟨g10_18, o10_18, _, ha10_18, rfl, hd10_18⟩ := Rd.atIdx r0_0 e10_18
      replace hd10_18 : ∀ (j : Nat) v, ([.int .i64 x10_18] : List Value)[j]? = some v → w.cell? ⟨g10_18, o10_18 + (wr ((wr (x10_8 * i_p0.W)) + x10_16)).toNat * 1 + j, .none⟩ = some v := hd10_18
      obtain ⟨x10_21, e10_21, zh1⟩ := bnd zh1
      refine WC.wkF (fun _ h => h.pm 3) ?_
      refine WC.wkF (fun _ h => h.pm 3) ?_
      refine WC.drawnH [_, _] ([_, _]) (fun _ h => h) (by kernel_rfl) ?_
      refine tk 0 rfl (OpV.fieldAddr rfl fo_107_2) ?_
      refine tk 2 rfl (OpV.fieldAddr rfl fo_107_2) ?_
      refine tk 3 rfl (OpV.loadBox rfl pt_23 mq0 rfl) ?_
      refine tk 4 rfl (OpV.fieldAddr rfl fo_107_1) ?_
      refine tk 5 rfl (OpV.loadBox rfl pt_3 mq0 rfl) ?_
      refine tk 6 rfl (OpV.move rfl) ?_
      refine tk 7 rfl (OpV.move rfl) ?_
      refine tk 8 rfl (OpV.call (ec rfl (ec rfl (ec rfl e0))) ca_157 (fun w hs => w_spec_ScalePoint e10_8)) ?_
      refine tk 9 rfl (OpV.fieldAddr rfl fo_107_0) ?_
      refine tk 10 rfl (OpV.loadBox rfl pt_3 mq0 rfl) ?_
      refine tk 11 rfl (OpV.mulR rfl rfl) ?_
      refine tk 12 rfl (OpV.fieldAddr rfl fo_107_0) ?_
      refine tk 13 rfl (OpV.loadBox rfl pt_3 mq0 rfl) ?_
      refine tk 14 rfl (OpV.move rfl) ?_
      refine tk 15 rfl (OpV.move rfl) ?_
      refine tk 16 rfl (OpV.call (ec rfl (ec rfl (ec rfl e0))) ca_157 (fun w hs => w_spec_ScalePoint e10_16)) ?_
      refine tk 17 rfl (OpV.addR rfl rfl) ?_
      refine tk 18 rfl (OpV.idxA rfl rfl se_23 ha10_18 ⟨(idx_some e10_18).1, (idx_some e10_18).2.1⟩) ?_
      refine tk 19 rfl (OpV.load1 rfl pt_3 (fun w hs => hs.cell (hd10_18 0 _ rfl))) ?_
      refine WAE.all (rs := [1, 20]) (by kernel_rfl) rfl (AllR.cons rfl rfl rfl rfl ?_ (AllR.cons rfl rfl rfl rfl ?_ AllR.nil))
      ·
       refine OpH.light (OpV.loadBox rfl pt_23 mq0 rfl) ?_
       refine ⟨[_, _], rfl, ?_⟩
       refine al1 20 rfl ?_
       refine OpH.litF (A := tInt) (xs := [x10_18]) tInt_flat (evps.cons rfl (evps.nil)) (bs_23_1_0 _) rfl rfl (Nat.le_of_ble_eq_true rfl) ?_
       intro b10_20
       refine ⟨[_, _, _], rfl, ?_⟩
       refine al1 21 rfl ?_
       refine OpH.appS (F := [_, _]) (A := tInt) tInt_flat rfl rfl rfl mi_23 rfl (by decide) (fun w hs => (Ow.rd (hs.mem mq0))) e10_21 ?_
       intro f10_21 a10_21 c10_21
       refine ⟨[_, _, _], rfl, ?_⟩
       refine tk 22 rfl (OpV.fieldAddr rfl fo_107_2) ?_
       refine al0 23 rfl ?_
       refine OpH.storeTo (A := [_]) [_, _, _] rfl rfl rfl ts_23 rfl rfl rfl ?_
       refine ⟨[_, _, _], rfl, ?_⟩
       refine WAE.rebase (H := []) ?_
       refine WAE.done (by kernel_rfl) ?_ _
       refine En.block_norm (En.next (WC.region ?_))
       refine mv ?_
       refine sp (OpV.addR rfl rfl) ?_
       refine ag ?_
       refine WL.nil ?_
       exact En.backP zb1 zh1 (a10_21, x10_21.length, c10_21, f10_21) (sc (sc (sc (sc (sc (sc (sc sn))))))) (fun _ h => (((((h).pm 2).pm 2).pm 4).pm 4).sub (.cons_cons _ (.cons_cons _ (.cons_cons _ (.cons_cons _ (.cons _ (.slnil)))))))
      ·
       refine OpH.litF (A := tInt) (xs := [x10_18]) tInt_flat (evps.cons rfl (evps.nil)) (bs_23_1_0 _) rfl rfl (Nat.le_of_ble_eq_true rfl) ?_
       intro b10_20
       refine ⟨[_, _, _], rfl, ?_⟩
       refine al1 1 rfl ?_
       refine OpH.light (OpV.loadBox rfl pt_23 mq1 rfl) ?_
       refine ⟨[_, _, _], rfl, ?_⟩
       refine al1 21 rfl ?_
       refine OpH.appS (F := [_, _]) (A := tInt) tInt_flat rfl rfl rfl mi_23 rfl (by decide) (fun w hs => (Ow.rd (hs.mem mq0))) e10_21 ?_
       intro f10_21 a10_21 c10_21
       refine ⟨[_, _, _], rfl, ?_⟩
       refine tk 22 rfl (OpV.fieldAddr rfl fo_107_2) ?_
       refine al0 23 rfl ?_
       refine OpH.storeTo (A := [_]) [_, _, _] rfl rfl rfl ts_23 rfl rfl rfl ?_
       refine ⟨[_, _, _], rfl, ?_⟩
       refine WAE.rebase (H := []) ?_
       refine WAE.done (by kernel_rfl) ?_ _
       refine En.block_norm (En.next (WC.region ?_))
       refine mv ?_
       refine sp (OpV.addR rfl rfl) ?_
       refine ag ?_
       refine WL.nil ?_
       exact En.backP zb1 zh1 (a10_21, x10_21.length, c10_21, f10_21) (sc (sc (sc (sc (sc (sc (sc sn))))))) (fun _ h => (((((h).pm 2).pm 2).pm 4).pm 4).sub (.cons_cons _ (.cons_cons _ (.cons_cons _ (.cons_cons _ (.cons _ (.slnil)))))))
     ·
      intro hc_3
      replace zh1 := ifO_f hc_3 zh1
      refine WC.exit (En.then_exit (En.then_exit ?_))
      have hx := exitP ze1 zh1
      exact En.wk _ _ (sc (sc (sc (sc (sc (sc sn)))))) (fun _ h => h) (zK1_0 (out_1, (aout_1, nout_1, cout_1, fout_1)) hx.symm)
   ·
    intro hc_2
    replace zh0 := ifO_f hc_2 zh0
    refine WC.exit (En.then_exit (En.then_exit ?_))
    have hx := exitP ze0 zh0
    exact En.wk _ _ (sc (sc sn)) (fun _ h => ((((h).pm 3).pm 3).pm 3).sub (.cons_cons _ (.cons_cons _ (.cons_cons _ (.cons _ (.slnil)))))) (zK0_0 (out_0, (aout_0, nout_0, cout_0, fout_0)) hx.symm)

theorem w_spec_ChannelOf {p_p0 : Int} {k_p1 : Int} {r : Int}  (h : spec_ChannelOf p_p0 k_p1 = some r) {w : World}    :
    Calls Tryz.prog 141 #[.int .i64 p_p0, .int .i64 k_p1] w (fun en w' => en = .returned (.int .i64 r) ∧ Ext w w') := by
 unfold spec_ChannelOf at h
 refine enter (vs := [_, _]) Tryz.func141 rfl rfl rfl rfl ?_
 refine WC.sr ?_
 refine ag ?_
 refine WL.nil (En.next (WC.seq (WC.seq ?_)))
 obtain ⟨x1_1, e1_1, h⟩ := bnd h
 obtain ⟨q1_7, e1_7, h⟩ := bnd h
 refine WC.region ?_
 refine mv ?_
 refine sp (OpV.call (ec rfl e0) ca_118 (fun w hs => w_spec_l04Pixel e1_1)) ?_
 refine sp (OpV.not rfl) ?_
 refine mv ?_
 refine Lt.ofWL.orQ 8 12 11 (p := ?pz1) (rest := ?qz1) (B := q1_7) rfl (fun hz => orO_t e1_7 hz) ?Tz1 ?Fz1 ?az1 ?bz1 ?cz1 ?dz1 ?ez1
 case Tz1 =>
  intro hcz1 hkz1
  refine sk ?_
  refine sk ?_
  refine sk ?_
  refine hkz1 _ ?_
  repeat (first | exact Sub.refl _ | refine Sub.skip rfl ?_)
 case Fz1 =>
  intro hcz1 hkz1
  have hqz1 := orO_f e1_7 hcz1
  obtain ⟨x1_5, e1_5, hqz1⟩ := bnd hqz1
  obtain rfl := Option.some.inj hqz1
  refine mv ?_
  refine sp (OpV.call (ec rfl (ec rfl (ec rfl e0))) ca_64 (fun w hs => w_spec_l01In e1_5)) ?_
  refine sp (OpV.not rfl) ?_
  refine hkz1 _ ?_ ?_
  exact rfl
  repeat (first | exact Sub.refl _ | refine Sub.skip rfl ?_)
 case az1 => exact rfl
 case bz1 => exact rfl
 case cz1 => exact rfl
 case dz1 => exact rfl
 refine WL.nil (En.next ?_)
 refine WC.cond rfl ?_ ?_
 ·
  intro hc_1
  replace h := ifO_t hc_1 h
  refine WC.sr ?_
  refine ag ?_
  refine WL.nil (En.next (WC.ret (En.then_ret ?_)))
  refine En.ret1 rfl (Res.tmp rfl) ?_
  obtain rfl := Option.some.inj h
  intro w' hs
  exact ⟨rfl, hs.below⟩
 ·
  intro hc_1
  replace h := ifO_f hc_1 h
  refine WC.skip (En.next (WC.seq ?_))
  obtain ⟨x3_4, e3_4, h⟩ := bnd h
  refine WC.region ?_
  refine mv ?_
  refine mv ?_
  refine sp (OpV.mulR rfl rfl) ?_
  refine sp (OpV.subR rfl rfl) ?_
  refine sp (OpV.shrR rfl rfl e3_4) ?_
  refine sp (OpV.andR rfl rfl) ?_
  refine ag ?_
  refine WL.nil (En.next (WC.ret ?_))
  refine En.ret1 rfl (Res.tmp rfl) ?_
  obtain rfl := Option.some.inj h
  intro w' hs
  exact ⟨rfl, hs.below⟩

theorem w_spec_Part {a_p0 : Int} {b_p1 : Int} {r : Int}  (h : spec_Part a_p0 b_p1 = some r) {w : World}    :
    Calls Tryz.prog 142 #[.int .i64 a_p0, .int .i64 b_p1] w (fun en w' => en = .returned (.int .i64 r) ∧ Ext w w') := by
 unfold spec_Part at h
 refine enter (vs := [_, _]) Tryz.func142 rfl rfl rfl rfl ?_
 refine WC.sr ?_
 refine ag ?_
 refine WL.nil (En.next (WC.seq (WC.seq ?_)))
 obtain ⟨x1_1, e1_1, h⟩ := bnd h
 obtain ⟨q1_7, e1_7, h⟩ := bnd h
 refine WC.region ?_
 refine mv ?_
 refine sp (OpV.call (ec rfl (ec rfl (ec rfl e0))) ca_64 (fun w hs => w_spec_l01In e1_1)) ?_
 refine sp (OpV.not rfl) ?_
 refine mv ?_
 refine Lt.ofWL.orQ 8 12 11 (p := ?pz1) (rest := ?qz1) (B := q1_7) rfl (fun hz => orO_t e1_7 hz) ?Tz1 ?Fz1 ?az1 ?bz1 ?cz1 ?dz1 ?ez1
 case Tz1 =>
  intro hcz1 hkz1
  refine sk ?_
  refine sk ?_
  refine sk ?_
  refine hkz1 _ ?_
  repeat (first | exact Sub.refl _ | refine Sub.skip rfl ?_)
 case Fz1 =>
  intro hcz1 hkz1
  have hqz1 := orO_f e1_7 hcz1
  obtain ⟨x1_5, e1_5, hqz1⟩ := bnd hqz1
  obtain rfl := Option.some.inj hqz1
  refine mv ?_
  refine sp (OpV.call (ec rfl (ec rfl (ec rfl e0))) ca_64 (fun w hs => w_spec_l01In e1_5)) ?_
  refine sp (OpV.not rfl) ?_
  refine hkz1 _ ?_ ?_
  exact rfl
  repeat (first | exact Sub.refl _ | refine Sub.skip rfl ?_)
 case az1 => exact rfl
 case bz1 => exact rfl
 case cz1 => exact rfl
 case dz1 => exact rfl
 refine WL.nil (En.next ?_)
 refine WC.cond rfl ?_ ?_
 ·
  intro hc_1
  replace h := ifO_t hc_1 h
  refine WC.sr ?_
  refine ag ?_
  refine WL.nil (En.next (WC.ret (En.then_ret ?_)))
  refine En.ret1 rfl (Res.tmp rfl) ?_
  obtain rfl := Option.some.inj h
  intro w' hs
  exact ⟨rfl, hs.below⟩
 ·
  intro hc_1
  replace h := ifO_f hc_1 h
  refine WC.skip (En.next (WC.sr ?_))
  refine mv ?_
  refine mv ?_
  refine sp (OpV.mulR rfl rfl) ?_
  refine sp (OpV.addR rfl rfl) ?_
  refine sp (OpV.quoR rfl rfl rfl) ?_
  refine ag ?_
  refine WL.nil (En.next (WC.ret ?_))
  refine En.ret1 rfl (Res.tmp rfl) ?_
  obtain rfl := Option.some.inj h
  intro w' hs
  exact ⟨rfl, hs.below⟩

theorem w_spec_Fade {p_p0 : Int} {alpha_p1 : Int} {r : Int}  (h : spec_Fade p_p0 alpha_p1 = some r) {w : World}    :
    Calls Tryz.prog 140 #[.int .i64 p_p0, .int .i64 alpha_p1] w (fun en w' => en = .returned (.int .i64 r) ∧ Ext w w') := by
 unfold spec_Fade at h
 refine enter (vs := [_, _]) Tryz.func140 rfl rfl rfl rfl ?_
 refine WC.sr ?_
 refine ag ?_
 refine WL.nil (En.next (WC.seq (WC.seq ?_)))
 obtain ⟨x1_1, e1_1, h⟩ := bnd h
 obtain ⟨q1_7, e1_7, h⟩ := bnd h
 refine WC.region ?_
 refine mv ?_
 refine sp (OpV.call (ec rfl e0) ca_118 (fun w hs => w_spec_l04Pixel e1_1)) ?_
 refine sp (OpV.not rfl) ?_
 refine mv ?_
 refine Lt.ofWL.orQ 8 12 11 (p := ?pz1) (rest := ?qz1) (B := q1_7) rfl (fun hz => orO_t e1_7 hz) ?Tz1 ?Fz1 ?az1 ?bz1 ?cz1 ?dz1 ?ez1
 case Tz1 =>
  intro hcz1 hkz1
  refine sk ?_
  refine sk ?_
  refine sk ?_
  refine hkz1 _ ?_
  repeat (first | exact Sub.refl _ | refine Sub.skip rfl ?_)
 case Fz1 =>
  intro hcz1 hkz1
  have hqz1 := orO_f e1_7 hcz1
  obtain ⟨x1_5, e1_5, hqz1⟩ := bnd hqz1
  obtain rfl := Option.some.inj hqz1
  refine mv ?_
  refine sp (OpV.call (ec rfl (ec rfl (ec rfl e0))) ca_64 (fun w hs => w_spec_l01In e1_5)) ?_
  refine sp (OpV.not rfl) ?_
  refine hkz1 _ ?_ ?_
  exact rfl
  repeat (first | exact Sub.refl _ | refine Sub.skip rfl ?_)
 case az1 => exact rfl
 case bz1 => exact rfl
 case cz1 => exact rfl
 case dz1 => exact rfl
 refine WL.nil (En.next ?_)
 refine WC.cond rfl ?_ ?_
 ·
  intro hc_1
  replace h := ifO_t hc_1 h
  refine WC.sr ?_
  refine ag ?_
  refine WL.nil (En.next (WC.ret (En.then_ret ?_)))
  refine En.ret1 rfl (Res.tmp rfl) ?_
  obtain rfl := Option.some.inj h
  intro w' hs
  exact ⟨rfl, hs.below⟩
 ·
  intro hc_1
  replace h := ifO_f hc_1 h
  refine WC.skip (En.next (WC.seq ?_))
  obtain ⟨x3_1, e3_1, h⟩ := bnd h
  obtain ⟨x3_3, e3_3, h⟩ := bnd h
  refine WC.region ?_
  refine mv ?_
  refine sp (OpV.call (ec rfl (ec rfl e0)) ca_141 (fun w hs => w_spec_ChannelOf e3_1)) ?_
  refine mv ?_
  refine sp (OpV.call (ec rfl (ec rfl e0)) ca_142 (fun w hs => w_spec_Part e3_3)) ?_
  refine sp (OpV.shlR rfl rfl rfl) ?_
  refine mv ?_
  refine sp (OpV.andR rfl rfl) ?_
  refine sp (OpV.addR rfl rfl) ?_
  refine ag ?_
  refine WL.nil (En.next (WC.ret ?_))
  refine En.ret1 rfl (Res.tmp rfl) ?_
  obtain rfl := Option.some.inj h
  intro w' hs
  exact ⟨rfl, hs.below⟩

theorem w_spec_PlaneImage {p_p0 : PlaneT} {r : ImageT × Bool} {q0_0 : Option Addr} {l0_0 k0_0 : Nat} (h : spec_PlaneImage p_p0 = some r) {w : World} (r0_0 : Rd tInt w q0_0 l0_0 k0_0 p_p0.Words)   :
    Calls Tryz.prog 121 #[.agg #[.bool p_p0.On, .int .i64 p_p0.X, .int .i64 p_p0.Y, .int .i64 p_p0.W, .int .i64 p_p0.H, .int .i64 p_p0.Layout, .slice q0_0 l0_0 k0_0, .int .i64 p_p0.Alpha, .int .i64 p_p0.Orient, .int .i64 p_p0.ToW, .int .i64 p_p0.ToH]] w (fun en w' => ∃ rv G, en = .returned rv ∧ (∃ (a0_0 : Option Addr) (n0_0 : Nat) (c0_0 : Nat) (f0_0 : List Nat), rv = .tuple #[.agg #[.int .i64 r.1.W, .int .i64 r.1.H, .slice a0_0 n0_0 c0_0], .bool r.2] ∧ G = [Chunk.own tInt f0_0 a0_0 n0_0 c0_0 r.1.Data]) ∧ St w G w') := by
 obtain rfl := r0_0.1
 unfold spec_PlaneImage at h
 refine enter (vs := [_]) Tryz.func121 rfl rfl rfl rfl ?_
 refine WC.sr ?_
 refine WL.heavy rfl rfl rfl (OpH.box rfl rfl ?_)
 intro b0_0
 refine WL.heavy rfl rfl rfl (OpH.alloc zc_107 ?_)
 intro b0_1
 refine ag ?_
 refine WL.nil (En.next (WC.seq ?_))
 obtain ⟨⟨x1_1a, x1_1b⟩, e1_1, h⟩ := bnd h
 refine WC.region ?_
 refine sp (OpV.loadAll rfl mq1 ag_61) ?_
 refine WL.heavy rfl rfl rfl (OpH.callR (ec rfl e0) ca_137 (fun w hs => w_spec_l19Loaded e1_1 (r0_0.ext hs.below)) ?_)
 rintro _ _ ⟨a1_100, n1_100, c1_100, f1_100, rfl, rfl⟩
 refine mv ?_
 refine sp (OpV.extract rfl rfl) ?_
 refine sp (OpV.extract rfl rfl) ?_
 refine WL.heavy rfl rfl rfl (OpH.alloc zc_107 ?_)
 intro b1_5
 refine WL.heavy0 rfl rfl (OpH.storeTo (A := []) [_, _, _] rfl rfl rfl ts_107 rfl rfl rfl ?_)
 refine ag ?_
 refine WL.nil (En.next (WC.seq (WC.seq ?_)))
 obtain ⟨q2_7, e2_7, h⟩ := bnd h
 refine WC.region ?_
 refine mv ?_
 refine sp (OpV.not rfl) ?_
 refine mv ?_
 refine Lt.ofWL.orQ 14 19 18 (p := ?pz1) (rest := ?qz1) (B := q2_7) rfl (fun hz => orO_t e2_7 hz) ?Tz1 ?Fz1 ?az1 ?bz1 ?cz1 ?dz1 ?ez1
 case Tz1 =>
  intro hcz1 hkz1
  refine sk ?_
  refine sk ?_
  refine sk ?_
  refine sk ?_
  refine hkz1 _ ?_
  repeat (first | exact Sub.refl _ | refine Sub.skip rfl ?_)
 case Fz1 =>
  intro hcz1 hkz1
  have hqz1 := orO_f e2_7 hcz1
  obtain ⟨x2_5, e2_5, hqz1⟩ := bnd hqz1
  obtain rfl := Option.some.inj hqz1
  refine sp (OpV.fieldAddr rfl fo_61_7) ?_
  refine sp (OpV.loadBox rfl pt_3 mq3 rfl) ?_
  refine sp (OpV.call (ec rfl (ec rfl (ec rfl e0))) ca_64 (fun w hs => w_spec_l01In e2_5)) ?_
  refine sp (OpV.not rfl) ?_
  refine hkz1 _ ?_ ?_
  exact rfl
  repeat (first | exact Sub.refl _ | refine Sub.skip rfl ?_)
 case az1 => exact rfl
 case bz1 => exact rfl
 case cz1 => exact rfl
 case dz1 => exact rfl
 refine WL.nil (En.next ?_)
 refine WC.cond rfl ?_ ?_
 ·
  intro hc_1
  replace h := ifO_t hc_1 h
  refine WC.sr ?_
  refine sp (OpV.build (evps.nil) bd_107_) ?_
  refine WL.heavy0 rfl rfl (OpH.storeTo (A := [_, _]) [_, _, _] rfl rfl rfl ts_107 rfl rfl rfl ?_)
  refine ag ?_
  refine WL.nil (En.next (WC.ret (En.then_ret ?_)))
  refine En.ret2 rfl (Res.cell rfl mq2 ag_107) (Res.tmp rfl) ?_
  obtain rfl := Option.some.inj h
  intro w' hs
  have hs := ((hs).ownNil (A := tInt)).sub (.cons_cons _ (.cons _ (.cons _ (.cons _ (.cons _ (.slnil))))))
  exact ⟨_, _, rfl, ⟨.none, 0, 0, [], rfl, rfl⟩, hs⟩
 ·
  intro hc_1
  replace h := ifO_f hc_1 h
  refine WC.skip (En.next (WC.seq ?_))
  obtain ⟨x4_3, e4_3, h⟩ := bnd h
  refine WC.region ?_
  refine sp (OpV.loadAll rfl mq0 ag_107) ?_
  refine sp (OpV.fieldAddr rfl fo_61_8) ?_
  refine sp (OpV.loadBox rfl pt_3 mq3 rfl) ?_
  refine WL.heavy rfl rfl rfl (OpH.callR (ec rfl (ec rfl e0)) ca_138 (fun w hs => w_spec_Oriented e4_3 (Ow.rd (hs.mem mq1))) ?_)
  rintro _ _ ⟨a4_300, n4_300, c4_300, f4_300, rfl, rfl⟩
  refine WL.heavy0 rfl rfl (OpH.storeTo (A := [_]) [_, _, _] rfl rfl rfl ts_107 rfl rfl rfl ?_)
  refine WL.nil (En.next (WC.seq (WC.sr ?_)))
  refine sp (OpV.fieldAddr rfl fo_61_9) ?_
  refine sp (OpV.loadBox rfl pt_3 mq4 rfl) ?_
  refine sp (OpV.neq rfl rfl) ?_
  refine mv ?_
  refine Lt.ofWL.or 28 32 31 (p := ?pz2) (rest := ?qz2) (B := ?Bz2) rfl ?Tz2 ?Fz2 ?az2 ?bz2 ?cz2 ?dz2 ?ez2
  case Tz2 =>
   intro hcz2 hkz2
   refine sk ?_
   refine sk ?_
   refine sk ?_
   refine hkz2 _ ?_
   repeat (first | exact Sub.refl _ | refine Sub.skip rfl ?_)
  case Fz2 =>
   intro hcz2 hkz2
   refine sp (OpV.fieldAddr rfl fo_61_10) ?_
   refine sp (OpV.loadBox rfl pt_3 mq4 rfl) ?_
   refine sp (OpV.neq rfl rfl) ?_
   refine hkz2 _ ?_ ?_
   exact rfl
   repeat (first | exact Sub.refl _ | refine Sub.skip rfl ?_)
  case az2 => exact rfl
  case bz2 => exact rfl
  case cz2 => exact rfl
  case dz2 => exact rfl
  refine WL.nil (En.next ?_)
  refine WC.cond rfl ?_ ?_
  ·
   intro hc_2
   replace h := ifO_t hc_2 h
   obtain ⟨x6_5, e6_5, h⟩ := bnd h
   refine WC.region ?_
   refine sp (OpV.loadAll rfl mq1 ag_107) ?_
   refine sp (OpV.fieldAddr rfl fo_61_9) ?_
   refine sp (OpV.loadBox rfl pt_3 mq4 rfl) ?_
   refine sp (OpV.fieldAddr rfl fo_61_10) ?_
   refine sp (OpV.loadBox rfl pt_3 mq4 rfl) ?_
   refine WL.heavy rfl rfl rfl (OpH.callR (ec rfl (ec rfl (ec rfl e0))) ca_139 (fun w hs => w_spec_Scaled e6_5 (Ow.rd (hs.mem mq0))) ?_)
   rintro _ _ ⟨a6_500, n6_500, c6_500, f6_500, rfl, rfl⟩
   refine WL.heavy0 rfl rfl (OpH.storeTo (A := [_, _]) [_, _, _] rfl rfl rfl ts_107 rfl rfl rfl ?_)
   refine WL.nil (En.next (WC.seq (WC.seq ?_)))
   obtain ⟨x7_1, e7_1, h⟩ := bnd h
   refine WC.region ?_
   refine sp (OpV.loadAll rfl mq2 ag_107) ?_
   refine sp (OpV.call (ec rfl e0) ca_133 (fun w hs => w_spec_ImageOk e7_1 (Ow.rd (hs.mem mq0)))) ?_
   refine sp (OpV.not rfl) ?_
   refine WL.nil (En.next ?_)
   refine WC.cond rfl ?_ ?_
   ·
    intro hc_3
    replace h := ifO_t hc_3 h
    refine WC.sr ?_
    refine sp (OpV.build (evps.nil) bd_107_) ?_
    refine WL.heavy0 rfl rfl (OpH.storeTo (A := [_, _, _, _]) [_, _, _] rfl rfl rfl ts_107 rfl rfl rfl ?_)
    refine ag ?_
    refine WL.nil (En.next (WC.ret (En.then_ret ?_)))
    refine En.ret2 rfl (Res.cell rfl mq4 ag_107) (Res.tmp rfl) ?_
    obtain rfl := Option.some.inj h
    intro w' hs
    have hs := ((hs).ownNil (A := tInt)).sub (.cons_cons _ (.cons _ (.cons _ (.cons _ (.cons _ (.cons _ (.cons _ (.slnil))))))))
    exact ⟨_, _, rfl, ⟨.none, 0, 0, [], rfl, rfl⟩, hs⟩
   ·
    intro hc_3
    replace h := ifO_f hc_3 h
    refine WC.skip (En.next (WC.seq (WC.sr ?_)))
    refine ag ?_
    refine WL.nil (En.next (WC.block ?_))
    obtain ⟨zy0, ezy0, h⟩ := bnd h
    refine WC.cut (X := ((List Int)) × ((List Nat))) (.exit 0) (fun x => zy0 = x.1) (fun x => match x with | (i_0e, fi_0e) => [(2, .pointer (some ⟨b0_1, 0, .none⟩)), (4, .pointer (some ⟨b1_5, 0, .none⟩))]) (fun x => match x with | (i_0e, fi_0e) => [Chunk.box b0_1 107 [.int .i64 0, .int .i64 0, .slice .none 0 0], Chunk.box b1_5 107 [.int .i64 x6_5.W, .int .i64 x6_5.H, .slice a6_500 n6_500 c6_500], Chunk.own tInt fi_0e a6_500 n6_500 c6_500 i_0e]) ?_ ?_
    ·
     rintro ⟨i_0e, fi_0e⟩ hx
     replace hx : i_0e = zy0 := hx.symm
     subst hx
     show En _ _ _ _ [(2, .pointer (some ⟨b0_1, 0, .none⟩)), (4, .pointer (some ⟨b1_5, 0, .none⟩))] [Chunk.box b0_1 107 [.int .i64 0, .int .i64 0, .slice .none 0 0], Chunk.box b1_5 107 [.int .i64 x6_5.W, .int .i64 x6_5.H, .slice a6_500 n6_500 c6_500], Chunk.own tInt fi_0e a6_500 n6_500 c6_500 i_0e]
     refine En.block_exit (En.next (WC.sr ?_))
     refine sp (OpV.loadAll rfl mq1 ag_107) ?_
     refine WL.heavy0 rfl rfl (OpH.storeTo (A := []) [_, _, _] rfl rfl rfl ts_107 rfl rfl rfl ?_)
     refine ag ?_
     refine WL.nil (En.next (WC.ret ?_))
     refine En.ret2 rfl (Res.cell rfl mq0 ag_107) (Res.tmp rfl) ?_
     obtain rfl := Option.some.inj h
     intro w' hs
     have hs := ((hs).pm 2).sub (.cons_cons _ (.cons _ (.cons _ (.slnil))))
     exact ⟨_, _, rfl, ⟨a6_500, n6_500, c6_500, fi_0e, rfl, rfl⟩, hs⟩
    ·
     intro zK0_0
     refine WC.loopP (G := (List Nat)) (fun s g => match s, g with | (i_0, k_0), fi_0 => [(1, .pointer (some ⟨b0_0, 0, .none⟩)), (2, .pointer (some ⟨b0_1, 0, .none⟩)), (4, .pointer (some ⟨b1_5, 0, .none⟩)), (6, .int .i64 k_0)]) (fun s g => match s, g with | (i_0, k_0), fi_0 => [Chunk.box b0_0 61 [.bool p_p0.On, .int .i64 p_p0.X, .int .i64 p_p0.Y, .int .i64 p_p0.W, .int .i64 p_p0.H, .int .i64 p_p0.Layout, .slice q0_0 p_p0.Words.length k0_0, .int .i64 p_p0.Alpha, .int .i64 p_p0.Orient, .int .i64 p_p0.ToW, .int .i64 p_p0.ToH], Chunk.box b0_1 107 [.int .i64 0, .int .i64 0, .slice .none 0 0], Chunk.box b1_5 107 [.int .i64 x6_5.W, .int .i64 x6_5.H, .slice a6_500 n6_500 c6_500], Chunk.own tInt fi_0 a6_500 n6_500 c6_500 i_0]) (x6_5.Data, 0) f6_500 ezy0 (by exact sc (sc (sc (sc sn)))) (by exact (fun _ h => ((((h).pm 2).pm 4).pm 5).sub (.cons_cons _ (.cons_cons _ (.cons_cons _ (.cons_cons _ (.cons _ (.cons _ (.slnil))))))))) ?_
     rintro zm0 ⟨i_0, k_0⟩ fi_0 zo0 zf0 zb0 ze0
     have zh0 : spec_PlaneImage_L0 p_p0 i_0 k_0 = some zo0 := zf0
     unfold spec_PlaneImage_L0 at zh0
     show WC _ _ _ _ _ [(1, .pointer (some ⟨b0_0, 0, .none⟩)), (2, .pointer (some ⟨b0_1, 0, .none⟩)), (4, .pointer (some ⟨b1_5, 0, .none⟩)), (6, .int .i64 k_0)] [Chunk.box b0_0 61 [.bool p_p0.On, .int .i64 p_p0.X, .int .i64 p_p0.Y, .int .i64 p_p0.W, .int .i64 p_p0.H, .int .i64 p_p0.Layout, .slice q0_0 p_p0.Words.length k0_0, .int .i64 p_p0.Alpha, .int .i64 p_p0.Orient, .int .i64 p_p0.ToW, .int .i64 p_p0.ToH], Chunk.box b0_1 107 [.int .i64 0, .int .i64 0, .slice .none 0 0], Chunk.box b1_5 107 [.int .i64 x6_5.W, .int .i64 x6_5.H, .slice a6_500 n6_500 c6_500], Chunk.own tInt fi_0 a6_500 n6_500 c6_500 i_0]
     refine WC.seq (WC.sr ?_)
     refine mv ?_
     refine sp (OpV.fieldAddr rfl fo_107_2) ?_
     refine sp (OpV.loadBox rfl pt_23 mq2 rfl) ?_
     refine sp (OpV.inhF fun hin => OpV.lenO (xs := i_0) rfl si_23 rfl (ownLen hin mq3)) ?_
     refine sp (OpV.lss rfl rfl) ?_
     refine WL.nil (En.next ?_)
     refine WC.cond rfl ?_ ?_
     ·
      intro hc_4
      replace zh0 := ifO_t hc_4 zh0
      refine WC.skip (En.next (WC.seq (WC.block ?_)))
      refine WC.inh fun hin12 => ?_
      obtain ⟨x12_6, e12_6, zh0⟩ := bnd zh0
      obtain ⟨g12_6, o12_6, ha12_6⟩ := ownAddr hin12 mq3 e12_6
      have hn12_6 := ownLen hin12 mq3
      obtain ⟨x12_10, e12_10, zh0⟩ := bnd zh0
      have hn12_11 := ownLen hin12 mq3
      obtain ⟨x12_12, e12_12, zh0⟩ := bnd zh0
      obtain ⟨g12_11, o12_11, ha12_11⟩ := ownAddrU hin12 mq3 e12_12
      refine WC.wkF (fun _ h => h.pm 3) ?_
      refine WC.drawnH [_] ([_, _, _]) (fun _ h => h) (by kernel_rfl) ?_
      refine tk 0 rfl (OpV.fieldAddr rfl fo_107_2) ?_
      refine tk 1 rfl (OpV.loadBox rfl pt_23 mq2 rfl) ?_
      refine tk 2 rfl (OpV.move rfl) ?_
      refine tk 3 rfl (OpV.fieldAddr rfl fo_107_2) ?_
      refine tk 4 rfl (OpV.loadBox rfl pt_23 mq2 rfl) ?_
      refine tk 5 rfl (OpV.move rfl) ?_
      refine tk 6 rfl (OpV.idxA rfl rfl se_23 ha12_6 ⟨(idx_some e12_6).1, by rw [hn12_6]; exact (idx_some e12_6).2.1⟩) ?_
      refine tk 8 rfl (OpV.fieldAddr rfl fo_61_7) ?_
      refine tk 9 rfl (OpV.loadBox rfl pt_3 mq0 rfl) ?_
      refine al1 7 rfl ?_
      refine OpH.light (OpV.load1 rfl pt_3 (fun w hs => Rd.cell1 tInt_flat (Ow.rd (hs.mem mq0)) e12_6 ha12_6 rfl)) ?_
      refine ⟨[_], rfl, ?_⟩
      refine tk 10 rfl (OpV.call (ec rfl (ec rfl e0)) ca_140 (fun w hs => w_spec_Fade e12_10)) ?_
      refine tk 11 rfl (OpV.idxA rfl rfl se_23 ha12_11 ⟨(upd_some e12_12).1.1, by rw [hn12_11]; exact (upd_some e12_12).1.2⟩) ?_
      refine al0 12 rfl ?_
      refine OpH.wkF (fun _ h => St.elFlat tInt_flat x12_10 h) ?_
      refine OpH.setEl (A := tInt) ha12_11 rfl rfl rfl ts_3 e12_12 ?_
      intro f12_12
      refine ⟨[_], rfl, ?_⟩
      refine WAE.rebase (H := []) ?_
      refine WAE.done (by kernel_rfl) ?_ _
      refine En.block_norm (En.next (WC.region ?_))
      refine mv ?_
      refine sp (OpV.addR rfl rfl) ?_
      refine ag ?_
      refine WL.nil ?_
      exact En.backP zb0 zh0 f12_12 (sc (sc (sc (sc sn)))) (fun _ h => (((h).pm 3).pm 3).pm 3)
     ·
      intro hc_4
      replace zh0 := ifO_f hc_4 zh0
      refine WC.exit (En.then_exit (En.then_exit ?_))
      have hx := exitP ze0 zh0
      exact En.wk _ _ (sc (sc sn)) (fun _ h => ((((h).pm 3).pm 3).pm 3).sub (.cons_cons _ (.cons_cons _ (.cons_cons _ (.cons _ (.slnil)))))) (zK0_0 (i_0, fi_0) hx.symm)
  ·
   intro hc_2
   replace h := ifO_f hc_2 h
   refine WC.skip (En.next (WC.seq (WC.seq ?_)))
   obtain ⟨x7_1, e7_1, h⟩ := bnd h
   refine WC.region ?_
   refine sp (OpV.loadAll rfl mq1 ag_107) ?_
   refine sp (OpV.call (ec rfl e0) ca_133 (fun w hs => w_spec_ImageOk e7_1 (Ow.rd (hs.mem mq0)))) ?_
   refine sp (OpV.not rfl) ?_
   refine WL.nil (En.next ?_)
   refine WC.cond rfl ?_ ?_
   ·
    intro hc_5
    replace h := ifO_t hc_5 h
    refine WC.sr ?_
    refine sp (OpV.build (evps.nil) bd_107_) ?_
    refine WL.heavy0 rfl rfl (OpH.storeTo (A := [_, _, _]) [_, _, _] rfl rfl rfl ts_107 rfl rfl rfl ?_)
    refine ag ?_
    refine WL.nil (En.next (WC.ret (En.then_ret ?_)))
    refine En.ret2 rfl (Res.cell rfl mq3 ag_107) (Res.tmp rfl) ?_
    obtain rfl := Option.some.inj h
    intro w' hs
    have hs := ((hs).ownNil (A := tInt)).sub (.cons_cons _ (.cons _ (.cons _ (.cons _ (.cons _ (.cons _ (.slnil)))))))
    exact ⟨_, _, rfl, ⟨.none, 0, 0, [], rfl, rfl⟩, hs⟩
   ·
    intro hc_5
    replace h := ifO_f hc_5 h
    refine WC.skip (En.next (WC.seq (WC.sr ?_)))
    refine ag ?_
    refine WL.nil (En.next (WC.block ?_))
    obtain ⟨zy1, ezy1, h⟩ := bnd h
    refine WC.cut (X := ((List Int)) × ((List Nat))) (.exit 0) (fun x => zy1 = x.1) (fun x => match x with | (i_1e, fi_1e) => [(2, .pointer (some ⟨b0_1, 0, .none⟩)), (4, .pointer (some ⟨b1_5, 0, .none⟩))]) (fun x => match x with | (i_1e, fi_1e) => [Chunk.box b0_1 107 [.int .i64 0, .int .i64 0, .slice .none 0 0], Chunk.box b1_5 107 [.int .i64 x4_3.W, .int .i64 x4_3.H, .slice a4_300 n4_300 c4_300], Chunk.own tInt fi_1e a4_300 n4_300 c4_300 i_1e]) ?_ ?_
    ·
     rintro ⟨i_1e, fi_1e⟩ hx
     replace hx : i_1e = zy1 := hx.symm
     subst hx
     show En _ _ _ _ [(2, .pointer (some ⟨b0_1, 0, .none⟩)), (4, .pointer (some ⟨b1_5, 0, .none⟩))] [Chunk.box b0_1 107 [.int .i64 0, .int .i64 0, .slice .none 0 0], Chunk.box b1_5 107 [.int .i64 x4_3.W, .int .i64 x4_3.H, .slice a4_300 n4_300 c4_300], Chunk.own tInt fi_1e a4_300 n4_300 c4_300 i_1e]
     refine En.block_exit (En.next (WC.sr ?_))
     refine sp (OpV.loadAll rfl mq1 ag_107) ?_
     refine WL.heavy0 rfl rfl (OpH.storeTo (A := []) [_, _, _] rfl rfl rfl ts_107 rfl rfl rfl ?_)
     refine ag ?_
     refine WL.nil (En.next (WC.ret ?_))
     refine En.ret2 rfl (Res.cell rfl mq0 ag_107) (Res.tmp rfl) ?_
     obtain rfl := Option.some.inj h
     intro w' hs
     have hs := ((hs).pm 2).sub (.cons_cons _ (.cons _ (.cons _ (.slnil))))
     exact ⟨_, _, rfl, ⟨a4_300, n4_300, c4_300, fi_1e, rfl, rfl⟩, hs⟩
    ·
     intro zK1_0
     refine WC.loopP (G := (List Nat)) (fun s g => match s, g with | (i_1, k_1), fi_1 => [(1, .pointer (some ⟨b0_0, 0, .none⟩)), (2, .pointer (some ⟨b0_1, 0, .none⟩)), (4, .pointer (some ⟨b1_5, 0, .none⟩)), (6, .int .i64 k_1)]) (fun s g => match s, g with | (i_1, k_1), fi_1 => [Chunk.box b0_0 61 [.bool p_p0.On, .int .i64 p_p0.X, .int .i64 p_p0.Y, .int .i64 p_p0.W, .int .i64 p_p0.H, .int .i64 p_p0.Layout, .slice q0_0 p_p0.Words.length k0_0, .int .i64 p_p0.Alpha, .int .i64 p_p0.Orient, .int .i64 p_p0.ToW, .int .i64 p_p0.ToH], Chunk.box b0_1 107 [.int .i64 0, .int .i64 0, .slice .none 0 0], Chunk.box b1_5 107 [.int .i64 x4_3.W, .int .i64 x4_3.H, .slice a4_300 n4_300 c4_300], Chunk.own tInt fi_1 a4_300 n4_300 c4_300 i_1]) (x4_3.Data, 0) f4_300 ezy1 (by exact sc (sc (sc (sc sn)))) (by exact (fun _ h => ((((h).pm 1).pm 3).pm 4).sub (.cons_cons _ (.cons_cons _ (.cons_cons _ (.cons_cons _ (.cons _ (.slnil)))))))) ?_
     rintro zm1 ⟨i_1, k_1⟩ fi_1 zo1 zf1 zb1 ze1
     have zh1 : spec_PlaneImage_L1 p_p0 i_1 k_1 = some zo1 := zf1
     unfold spec_PlaneImage_L1 at zh1
     show WC _ _ _ _ _ [(1, .pointer (some ⟨b0_0, 0, .none⟩)), (2, .pointer (some ⟨b0_1, 0, .none⟩)), (4, .pointer (some ⟨b1_5, 0, .none⟩)), (6, .int .i64 k_1)] [Chunk.box b0_0 61 [.bool p_p0.On, .int .i64 p_p0.X, .int .i64 p_p0.Y, .int .i64 p_p0.W, .int .i64 p_p0.H, .int .i64 p_p0.Layout, .slice q0_0 p_p0.Words.length k0_0, .int .i64 p_p0.Alpha, .int .i64 p_p0.Orient, .int .i64 p_p0.ToW, .int .i64 p_p0.ToH], Chunk.box b0_1 107 [.int .i64 0, .int .i64 0, .slice .none 0 0], Chunk.box b1_5 107 [.int .i64 x4_3.W, .int .i64 x4_3.H, .slice a4_300 n4_300 c4_300], Chunk.own tInt fi_1 a4_300 n4_300 c4_300 i_1]
     refine WC.seq (WC.sr ?_)
     refine mv ?_
     refine sp (OpV.fieldAddr rfl fo_107_2) ?_
     refine sp (OpV.loadBox rfl pt_23 mq2 rfl) ?_
     refine sp (OpV.inhF fun hin => OpV.lenO (xs := i_1) rfl si_23 rfl (ownLen hin mq3)) ?_
     refine sp (OpV.lss rfl rfl) ?_
     refine WL.nil (En.next ?_)
     refine WC.cond rfl ?_ ?_
     ·
      intro hc_6
      replace zh1 := ifO_t hc_6 zh1
      refine WC.skip (En.next (WC.seq (WC.block ?_)))
      refine WC.inh fun hin12 => ?_
      obtain ⟨x12_6, e12_6, zh1⟩ := bnd zh1
      obtain ⟨g12_6, o12_6, ha12_6⟩ := ownAddr hin12 mq3 e12_6
      have hn12_6 := ownLen hin12 mq3
      obtain ⟨x12_10, e12_10, zh1⟩ := bnd zh1
      have hn12_11 := ownLen hin12 mq3
      obtain ⟨x12_12, e12_12, zh1⟩ := bnd zh1
      obtain ⟨g12_11, o12_11, ha12_11⟩ := ownAddrU hin12 mq3 e12_12
      refine WC.wkF (fun _ h => h.pm 3) ?_
      refine WC.drawnH [_] ([_, _, _]) (fun _ h => h) (by kernel_rfl) ?_
      refine tk 0 rfl (OpV.fieldAddr rfl fo_107_2) ?_
      refine tk 1 rfl (OpV.loadBox rfl pt_23 mq2 rfl) ?_
      refine tk 2 rfl (OpV.move rfl) ?_
      refine tk 3 rfl (OpV.fieldAddr rfl fo_107_2) ?_
      refine tk 4 rfl (OpV.loadBox rfl pt_23 mq2 rfl) ?_
      refine tk 5 rfl (OpV.move rfl) ?_
      refine tk 6 rfl (OpV.idxA rfl rfl se_23 ha12_6 ⟨(idx_some e12_6).1, by rw [hn12_6]; exact (idx_some e12_6).2.1⟩) ?_
      refine tk 8 rfl (OpV.fieldAddr rfl fo_61_7) ?_
      refine tk 9 rfl (OpV.loadBox rfl pt_3 mq0 rfl) ?_
      refine al1 7 rfl ?_
      refine OpH.light (OpV.load1 rfl pt_3 (fun w hs => Rd.cell1 tInt_flat (Ow.rd (hs.mem mq0)) e12_6 ha12_6 rfl)) ?_
      refine ⟨[_], rfl, ?_⟩
      refine tk 10 rfl (OpV.call (ec rfl (ec rfl e0)) ca_140 (fun w hs => w_spec_Fade e12_10)) ?_
      refine tk 11 rfl (OpV.idxA rfl rfl se_23 ha12_11 ⟨(upd_some e12_12).1.1, by rw [hn12_11]; exact (upd_some e12_12).1.2⟩) ?_
      refine al0 12 rfl ?_
      refine OpH.wkF (fun _ h => St.elFlat tInt_flat x12_10 h) ?_
      refine OpH.setEl (A := tInt) ha12_11 rfl rfl rfl ts_3 e12_12 ?_
      intro f12_12
      refine ⟨[_], rfl, ?_⟩
      refine WAE.rebase (H := []) ?_
      refine WAE.done (by kernel_rfl) ?_ _
      refine En.block_norm (En.next (WC.region ?_))
      refine mv ?_
      refine sp (OpV.addR rfl rfl) ?_
      refine ag ?_
      refine WL.nil ?_
      exact En.backP zb1 zh1 f12_12 (sc (sc (sc (sc sn)))) (fun _ h => (((h).pm 3).pm 3).pm 3)
     ·
      intro hc_6
      replace zh1 := ifO_f hc_6 zh1
      refine WC.exit (En.then_exit (En.then_exit ?_))
      have hx := exitP ze1 zh1
      exact En.wk _ _ (sc (sc sn)) (fun _ h => ((((h).pm 3).pm 3).pm 3).sub (.cons_cons _ (.cons_cons _ (.cons_cons _ (.cons _ (.slnil)))))) (zK1_0 (i_1, fi_1) hx.symm)

theorem w_spec_l10Opaque {p_p0 : Int} {r : Bool}  (h : spec_l10Opaque p_p0 = some r) {w : World}    :
    Calls Tryz.prog 136 #[.int .i64 p_p0] w (fun en w' => en = .returned (.bool r) ∧ Ext w w') := by
 unfold spec_l10Opaque at h
 refine enter (vs := [_]) Tryz.func136 rfl rfl rfl rfl ?_
 refine WC.sr ?_
 refine ag ?_
 refine WL.nil (En.next (WC.seq ?_))
 obtain ⟨x1_1, e1_1, h⟩ := bnd h
 obtain ⟨q1_6, e1_6, h⟩ := bnd h
 refine WC.region ?_
 refine mv ?_
 refine sp (OpV.call (ec rfl e0) ca_118 (fun w hs => w_spec_l04Pixel e1_1)) ?_
 refine mv ?_
 refine Lt.ofWL.andQ 5 9 8 (p := ?pz1) (rest := ?qz1) (B := q1_6) rfl (fun hz => andO_f e1_6 hz) ?Tz1 ?Fz1 ?az1 ?bz1 ?cz1 ?dz1 ?ez1
 case Tz1 =>
  intro hcz1 hkz1
  have hqz1 := andO_t e1_6 hcz1
  obtain ⟨x1_4, e1_4, hqz1⟩ := bnd hqz1
  obtain rfl := Option.some.inj hqz1
  refine mv ?_
  refine sp (OpV.call (ec rfl (ec rfl e0)) ca_141 (fun w hs => w_spec_ChannelOf e1_4)) ?_
  refine sp (OpV.eql rfl rfl) ?_
  refine hkz1 _ ?_ ?_
  exact rfl
  repeat (first | exact Sub.refl _ | refine Sub.skip rfl ?_)
 case Fz1 =>
  intro hcz1 hkz1
  refine sk ?_
  refine sk ?_
  refine sk ?_
  refine hkz1 _ ?_
  repeat (first | exact Sub.refl _ | refine Sub.skip rfl ?_)
 case az1 => exact rfl
 case bz1 => exact rfl
 case cz1 => exact rfl
 case dz1 => exact rfl
 refine ag ?_
 refine WL.nil (En.next (WC.ret ?_))
 refine En.ret1 rfl (Res.tmp rfl) ?_
 obtain rfl := Option.some.inj h
 intro w' hs
 exact ⟨rfl, hs.below⟩

theorem w_spec_PlaneOk {a_p0 : Int} {a_p1 : PlaneT} {a_p2 : Int} {a_p3 : Int} {r : Bool} {q1_0 : Option Addr} {l1_0 k1_0 : Nat} (h : spec_PlaneOk a_p0 a_p1 a_p2 a_p3 = some r) {w : World} (r1_0 : Rd tInt w q1_0 l1_0 k1_0 a_p1.Words)   :
    Calls Tryz.prog 120 #[.int .i64 a_p0, .agg #[.bool a_p1.On, .int .i64 a_p1.X, .int .i64 a_p1.Y, .int .i64 a_p1.W, .int .i64 a_p1.H, .int .i64 a_p1.Layout, .slice q1_0 l1_0 k1_0, .int .i64 a_p1.Alpha, .int .i64 a_p1.Orient, .int .i64 a_p1.ToW, .int .i64 a_p1.ToH], .int .i64 a_p2, .int .i64 a_p3] w (fun en w' => en = .returned (.bool r) ∧ Ext w w') := by
 obtain rfl := r1_0.1
 unfold spec_PlaneOk at h
 refine enter (vs := [_, _, _, _]) Tryz.func120 rfl rfl rfl rfl ?_
 refine WC.sr ?_
 refine WL.heavy rfl rfl rfl (OpH.box rfl rfl ?_)
 intro b0_0
 refine ag ?_
 refine WL.nil (En.next (WC.seq (WC.seq ?_)))
 obtain ⟨x1_1, e1_1, h⟩ := bnd h
 obtain ⟨q1_7, e1_7, h⟩ := bnd h
 obtain ⟨q1_12, e1_12, h⟩ := bnd h
 refine WC.region ?_
 refine mv ?_
 refine sp (OpV.call (ec rfl (ec rfl (ec rfl e0))) ca_64 (fun w hs => w_spec_l01In e1_1)) ?_
 refine sp (OpV.not rfl) ?_
 refine mv ?_
 refine Lt.ofWL.orQ 16 20 19 (p := ?pz1) (rest := ?qz1) (B := q1_7) rfl (fun hz => orO_t e1_7 hz) ?Tz1 ?Fz1 ?az1 ?bz1 ?cz1 ?dz1 ?ez1
 case Tz1 =>
  intro hcz1 hkz1
  refine sk ?_
  refine sk ?_
  refine sk ?_
  refine hkz1 _ ?_
  repeat (first | exact Sub.refl _ | refine Sub.skip rfl ?_)
 case Fz1 =>
  intro hcz1 hkz1
  have hqz1 := orO_f e1_7 hcz1
  obtain ⟨x1_5, e1_5, hqz1⟩ := bnd hqz1
  obtain rfl := Option.some.inj hqz1
  refine mv ?_
  refine sp (OpV.call (ec rfl (ec rfl (ec rfl e0))) ca_64 (fun w hs => w_spec_l01In e1_5)) ?_
  refine sp (OpV.not rfl) ?_
  refine hkz1 _ ?_ ?_
  exact rfl
  repeat (first | exact Sub.refl _ | refine Sub.skip rfl ?_)
 case az1 => exact rfl
 case bz1 => exact rfl
 case cz1 => exact rfl
 case dz1 => exact rfl
 refine mv ?_
 refine Lt.ofWL.orQ 21 25 24 (p := ?pz2) (rest := ?qz2) (B := q1_12) rfl (fun hz => orO_t e1_12 hz) ?Tz2 ?Fz2 ?az2 ?bz2 ?cz2 ?dz2 ?ez2
 case Tz2 =>
  intro hcz2 hkz2
  refine sk ?_
  refine sk ?_
  refine sk ?_
  refine hkz2 _ ?_
  repeat (first | exact Sub.refl _ | refine Sub.skip rfl ?_)
 case Fz2 =>
  intro hcz2 hkz2
  have hqz2 := orO_f e1_12 hcz2
  obtain ⟨x1_10, e1_10, hqz2⟩ := bnd hqz2
  obtain rfl := Option.some.inj hqz2
  refine mv ?_
  refine sp (OpV.call (ec rfl (ec rfl (ec rfl e0))) ca_64 (fun w hs => w_spec_l01In e1_10)) ?_
  refine sp (OpV.not rfl) ?_
  refine hkz2 _ ?_ ?_
  exact rfl
  repeat (first | exact Sub.refl _ | refine Sub.skip rfl ?_)
 case az2 => exact rfl
 case bz2 => exact rfl
 case cz2 => exact rfl
 case dz2 => exact rfl
 refine WL.nil (En.next ?_)
 refine WC.cond rfl ?_ ?_
 ·
  intro hc_1
  replace h := ifO_t hc_1 h
  refine WC.sr ?_
  refine ag ?_
  refine WL.nil (En.next (WC.ret (En.then_ret ?_)))
  refine En.ret1 rfl (Res.tmp rfl) ?_
  obtain rfl := Option.some.inj h
  intro w' hs
  exact ⟨rfl, hs.below⟩
 ·
  intro hc_1
  replace h := ifO_f hc_1 h
  refine WC.skip (En.next (WC.seq (WC.sr ?_)))
  refine sp (OpV.fieldAddr rfl fo_61_0) ?_
  refine sp (OpV.loadBox rfl pt_4 mq0 rfl) ?_
  refine sp (OpV.not rfl) ?_
  refine WL.nil (En.next ?_)
  refine WC.cond rfl ?_ ?_
  ·
   intro hc_2
   replace h := ifO_t hc_2 h
   refine WC.seq ?_
   obtain ⟨q4_5, e4_5, h⟩ := bnd h
   refine WC.region ?_
   refine mv ?_
   refine sp (OpV.neq rfl rfl) ?_
   refine mv ?_
   refine Lt.ofWL.andQ 31 34 33 (p := ?pz3) (rest := ?qz3) (B := q4_5) rfl (fun hz => andO_f e4_5 hz) ?Tz3 ?Fz3 ?az3 ?bz3 ?cz3 ?dz3 ?ez3
   case Tz3 =>
    intro hcz3 hkz3
    have hqz3 := andO_t e4_5 hcz3
    obtain ⟨x4_4, e4_4, hqz3⟩ := bnd hqz3
    obtain rfl := Option.some.inj hqz3
    refine sp (OpV.loadAll rfl mq0 ag_61) ?_
    refine sp (OpV.call (ec rfl e0) ca_112 (fun w hs => w_spec_l19Zero e4_4 (r1_0.ext hs.below))) ?_
    refine hkz3 _ ?_ ?_
    exact rfl
    repeat (first | exact Sub.refl _ | refine Sub.skip rfl ?_)
   case Fz3 =>
    intro hcz3 hkz3
    refine sk ?_
    refine sk ?_
    refine hkz3 _ ?_
    repeat (first | exact Sub.refl _ | refine Sub.skip rfl ?_)
   case az3 => exact rfl
   case bz3 => exact rfl
   case cz3 => exact rfl
   case dz3 => exact rfl
   refine ag ?_
   refine WL.nil (En.next (WC.ret (En.then_ret ?_)))
   refine En.ret1 rfl (Res.tmp rfl) ?_
   obtain rfl := Option.some.inj h
   intro w' hs
   exact ⟨rfl, hs.below⟩
  ·
   intro hc_2
   replace h := ifO_f hc_2 h
   refine WC.skip (En.next (WC.seq ?_))
   obtain ⟨⟨x5_1a, x5_1b⟩, e5_1, h⟩ := bnd h
   refine WC.region ?_
   refine sp (OpV.loadAll rfl mq0 ag_61) ?_
   refine WL.heavy rfl rfl rfl (OpH.callR (ec rfl e0) ca_121 (fun w hs => w_spec_PlaneImage e5_1 (r1_0.ext hs.below)) ?_)
   rintro _ _ ⟨a5_100, n5_100, c5_100, f5_100, rfl, rfl⟩
   refine mv ?_
   refine sp (OpV.extract rfl rfl) ?_
   refine sp (OpV.extract rfl rfl) ?_
   refine WL.heavy rfl rfl rfl (OpH.alloc zc_107 ?_)
   intro b5_5
   refine WL.heavy0 rfl rfl (OpH.storeTo (A := []) [_, _, _] rfl rfl rfl ts_107 rfl rfl rfl ?_)
   refine ag ?_
   refine WL.nil (En.next (WC.seq (WC.seq ?_)))
   obtain ⟨q6_7, e6_7, h⟩ := bnd h
   obtain ⟨q6_13, e6_13, h⟩ := bnd h
   refine WC.region ?_
   refine mv ?_
   refine sp (OpV.not rfl) ?_
   refine mv ?_
   refine Lt.ofWL.orQ 42 47 46 (p := ?pz4) (rest := ?qz4) (B := q6_7) rfl (fun hz => orO_t e6_7 hz) ?Tz4 ?Fz4 ?az4 ?bz4 ?cz4 ?dz4 ?ez4
   case Tz4 =>
    intro hcz4 hkz4
    refine sk ?_
    refine sk ?_
    refine sk ?_
    refine sk ?_
    refine hkz4 _ ?_
    repeat (first | exact Sub.refl _ | refine Sub.skip rfl ?_)
   case Fz4 =>
    intro hcz4 hkz4
    have hqz4 := orO_f e6_7 hcz4
    obtain ⟨x6_5, e6_5, hqz4⟩ := bnd hqz4
    obtain rfl := Option.some.inj hqz4
    refine sp (OpV.fieldAddr rfl fo_61_1) ?_
    refine sp (OpV.loadBox rfl pt_3 mq2 rfl) ?_
    refine sp (OpV.call (ec rfl (ec rfl (ec rfl e0))) ca_64 (fun w hs => w_spec_l01In e6_5)) ?_
    refine sp (OpV.not rfl) ?_
    refine hkz4 _ ?_ ?_
    exact rfl
    repeat (first | exact Sub.refl _ | refine Sub.skip rfl ?_)
   case az4 => exact rfl
   case bz4 => exact rfl
   case cz4 => exact rfl
   case dz4 => exact rfl
   refine mv ?_
   refine Lt.ofWL.orQ 48 53 52 (p := ?pz5) (rest := ?qz5) (B := q6_13) rfl (fun hz => orO_t e6_13 hz) ?Tz5 ?Fz5 ?az5 ?bz5 ?cz5 ?dz5 ?ez5
   case Tz5 =>
    intro hcz5 hkz5
    refine sk ?_
    refine sk ?_
    refine sk ?_
    refine sk ?_
    refine hkz5 _ ?_
    repeat (first | exact Sub.refl _ | refine Sub.skip rfl ?_)
   case Fz5 =>
    intro hcz5 hkz5
    have hqz5 := orO_f e6_13 hcz5
    obtain ⟨x6_11, e6_11, hqz5⟩ := bnd hqz5
    obtain rfl := Option.some.inj hqz5
    refine sp (OpV.fieldAddr rfl fo_61_2) ?_
    refine sp (OpV.loadBox rfl pt_3 mq2 rfl) ?_
    refine sp (OpV.call (ec rfl (ec rfl (ec rfl e0))) ca_64 (fun w hs => w_spec_l01In e6_11)) ?_
    refine sp (OpV.not rfl) ?_
    refine hkz5 _ ?_ ?_
    exact rfl
    repeat (first | exact Sub.refl _ | refine Sub.skip rfl ?_)
   case az5 => exact rfl
   case bz5 => exact rfl
   case cz5 => exact rfl
   case dz5 => exact rfl
   refine WL.nil (En.next ?_)
   refine WC.cond rfl ?_ ?_
   ·
    intro hc_3
    replace h := ifO_t hc_3 h
    refine WC.sr ?_
    refine ag ?_
    refine WL.nil (En.next (WC.ret (En.then_ret ?_)))
    refine En.ret1 rfl (Res.tmp rfl) ?_
    obtain rfl := Option.some.inj h
    intro w' hs
    exact ⟨rfl, hs.below⟩
   ·
    intro hc_3
    replace h := ifO_f hc_3 h
    refine WC.skip (En.next (WC.sr ?_))
    refine sp (OpV.fieldAddr rfl fo_61_8) ?_
    refine sp (OpV.loadBox rfl pt_3 mq2 rfl) ?_
    refine sp (OpV.eql rfl rfl) ?_
    refine mv ?_
    refine Lt.ofWL.and 57 61 60 (p := ?pz6) (rest := ?qz6) (B := ?Bz6) rfl ?Tz6 ?Fz6 ?az6 ?bz6 ?cz6 ?dz6 ?ez6
    case Tz6 =>
     intro hcz6 hkz6
     refine sp (OpV.fieldAddr rfl fo_61_9) ?_
     refine sp (OpV.loadBox rfl pt_3 mq2 rfl) ?_
     refine sp (OpV.eql rfl rfl) ?_
     refine hkz6 _ ?_ ?_
     exact rfl
     repeat (first | exact Sub.refl _ | refine Sub.skip rfl ?_)
    case Fz6 =>
     intro hcz6 hkz6
     refine sk ?_
     refine sk ?_
     refine sk ?_
     refine hkz6 _ ?_
     repeat (first | exact Sub.refl _ | refine Sub.skip rfl ?_)
    case az6 => exact rfl
    case bz6 => exact rfl
    case cz6 => exact rfl
    case dz6 => exact rfl
    refine mv ?_
    refine Lt.ofWL.and 62 66 65 (p := ?pz7) (rest := ?qz7) (B := ?Bz7) rfl ?Tz7 ?Fz7 ?az7 ?bz7 ?cz7 ?dz7 ?ez7
    case Tz7 =>
     intro hcz7 hkz7
     refine sp (OpV.fieldAddr rfl fo_61_10) ?_
     refine sp (OpV.loadBox rfl pt_3 mq2 rfl) ?_
     refine sp (OpV.eql rfl rfl) ?_
     refine hkz7 _ ?_ ?_
     exact rfl
     repeat (first | exact Sub.refl _ | refine Sub.skip rfl ?_)
    case Fz7 =>
     intro hcz7 hkz7
     refine sk ?_
     refine sk ?_
     refine sk ?_
     refine hkz7 _ ?_
     repeat (first | exact Sub.refl _ | refine Sub.skip rfl ?_)
    case az7 => exact rfl
    case bz7 => exact rfl
    case cz7 => exact rfl
    case dz7 => exact rfl
    refine mv ?_
    refine Lt.ofWL.and 67 71 70 (p := ?pz8) (rest := ?qz8) (B := ?Bz8) rfl ?Tz8 ?Fz8 ?az8 ?bz8 ?cz8 ?dz8 ?ez8
    case Tz8 =>
     intro hcz8 hkz8
     refine sp (OpV.fieldAddr rfl fo_61_7) ?_
     refine sp (OpV.loadBox rfl pt_3 mq2 rfl) ?_
     refine sp (OpV.eql rfl rfl) ?_
     refine hkz8 _ ?_ ?_
     exact rfl
     repeat (first | exact Sub.refl _ | refine Sub.skip rfl ?_)
    case Fz8 =>
     intro hcz8 hkz8
     refine sk ?_
     refine sk ?_
     refine sk ?_
     refine hkz8 _ ?_
     repeat (first | exact Sub.refl _ | refine Sub.skip rfl ?_)
    case az8 => exact rfl
    case bz8 => exact rfl
    case cz8 => exact rfl
    case dz8 => exact rfl
    refine ag ?_
    refine WL.nil (En.next (WC.seq (WC.sr ?_)))
    refine mv ?_
    refine sp (OpV.eql rfl rfl) ?_
    refine WL.nil (En.next ?_)
    refine WC.cond rfl ?_ ?_
    ·
     intro hc_4
     replace h := ifO_t hc_4 h
     refine WC.sr ?_
     refine mv ?_
     refine mv ?_
     refine Lt.ofWL.and 75 79 78 (p := ?pz9) (rest := ?qz9) (B := ?Bz9) rfl ?Tz9 ?Fz9 ?az9 ?bz9 ?cz9 ?dz9 ?ez9
     case Tz9 =>
      intro hcz9 hkz9
      refine sp (OpV.fieldAddr rfl fo_61_3) ?_
      refine sp (OpV.loadBox rfl pt_3 mq2 rfl) ?_
      refine sp (OpV.leq rfl rfl) ?_
      refine hkz9 _ ?_ ?_
      exact rfl
      repeat (first | exact Sub.refl _ | refine Sub.skip rfl ?_)
     case Fz9 =>
      intro hcz9 hkz9
      refine sk ?_
      refine sk ?_
      refine sk ?_
      refine hkz9 _ ?_
      repeat (first | exact Sub.refl _ | refine Sub.skip rfl ?_)
     case az9 => exact rfl
     case bz9 => exact rfl
     case cz9 => exact rfl
     case dz9 => exact rfl
     refine mv ?_
     refine Lt.ofWL.and 80 84 83 (p := ?pz10) (rest := ?qz10) (B := ?Bz10) rfl ?Tz10 ?Fz10 ?az10 ?bz10 ?cz10 ?dz10 ?ez10
     case Tz10 =>
      intro hcz10 hkz10
      refine sp (OpV.fieldAddr rfl fo_61_4) ?_
      refine sp (OpV.loadBox rfl pt_3 mq2 rfl) ?_
      refine sp (OpV.leq rfl rfl) ?_
      refine hkz10 _ ?_ ?_
      exact rfl
      repeat (first | exact Sub.refl _ | refine Sub.skip rfl ?_)
     case Fz10 =>
      intro hcz10 hkz10
      refine sk ?_
      refine sk ?_
      refine sk ?_
      refine hkz10 _ ?_
      repeat (first | exact Sub.refl _ | refine Sub.skip rfl ?_)
     case az10 => exact rfl
     case bz10 => exact rfl
     case cz10 => exact rfl
     case dz10 => exact rfl
     refine ag ?_
     refine WL.nil (En.next (WC.ret (En.then_ret ?_)))
     refine En.ret1 rfl (Res.tmp rfl) ?_
     obtain rfl := Option.some.inj h
     intro w' hs
     exact ⟨rfl, hs.below⟩
    ·
     intro hc_4
     replace h := ifO_f hc_4 h
     refine WC.skip (En.next (WC.seq (WC.sr ?_)))
     refine mv ?_
     refine sp (OpV.neq rfl rfl) ?_
     refine WL.nil (En.next ?_)
     refine WC.cond rfl ?_ ?_
     ·
      intro hc_5
      replace h := ifO_t hc_5 h
      refine WC.sr ?_
      refine ag ?_
      refine WL.nil (En.next (WC.ret (En.then_ret ?_)))
      refine En.ret1 rfl (Res.tmp rfl) ?_
      obtain rfl := Option.some.inj h
      intro w' hs
      exact ⟨rfl, hs.below⟩
     ·
      intro hc_5
      replace h := ifO_f hc_5 h
      refine WC.skip (En.next (WC.seq (WC.sr ?_)))
      refine ag ?_
      refine WL.nil (En.next (WC.block ?_))
      obtain ⟨zy0, ezy0, h⟩ := bnd h
      refine WC.cut (X := (Unit) × (Unit)) (.exit 0) (fun x => zy0 = .inl x.1) (fun x => match x with | ((), ()) => [(2, .int .i64 a_p2), (3, .int .i64 a_p3), (5, .pointer (some ⟨b0_0, 0, .none⟩)), (11, .bool ((((decide (a_p1.Orient = 0)) && (decide (a_p1.ToW = 0))) && (decide (a_p1.ToH = 0))) && (decide (a_p1.Alpha = 255))))]) (fun x => match x with | ((), ()) => [Chunk.box b0_0 61 [.bool a_p1.On, .int .i64 a_p1.X, .int .i64 a_p1.Y, .int .i64 a_p1.W, .int .i64 a_p1.H, .int .i64 a_p1.Layout, .slice q1_0 a_p1.Words.length k1_0, .int .i64 a_p1.Alpha, .int .i64 a_p1.Orient, .int .i64 a_p1.ToW, .int .i64 a_p1.ToH]]) ?_ ?_
      ·
       rintro ⟨⟨⟩, ⟨⟩⟩ hx
       replace hx : .inl () = zy0 := hx.symm
       subst hx
       replace h := fork_l h
       show En _ _ _ _ [(2, .int .i64 a_p2), (3, .int .i64 a_p3), (5, .pointer (some ⟨b0_0, 0, .none⟩)), (11, .bool ((((decide (a_p1.Orient = 0)) && (decide (a_p1.ToW = 0))) && (decide (a_p1.ToH = 0))) && (decide (a_p1.Alpha = 255))))] [Chunk.box b0_0 61 [.bool a_p1.On, .int .i64 a_p1.X, .int .i64 a_p1.Y, .int .i64 a_p1.W, .int .i64 a_p1.H, .int .i64 a_p1.Layout, .slice q1_0 a_p1.Words.length k1_0, .int .i64 a_p1.Alpha, .int .i64 a_p1.Orient, .int .i64 a_p1.ToW, .int .i64 a_p1.ToH]]
       refine En.block_exit (En.next (WC.sr ?_))
       refine mv ?_
       refine mv ?_
       refine Lt.ofWL.and 102 106 105 (p := ?pz11) (rest := ?qz11) (B := ?Bz11) rfl ?Tz11 ?Fz11 ?az11 ?bz11 ?cz11 ?dz11 ?ez11
       case Tz11 =>
        intro hcz11 hkz11
        refine sp (OpV.fieldAddr rfl fo_61_1) ?_
        refine sp (OpV.loadBox rfl pt_3 mq0 rfl) ?_
        refine sp (OpV.eql rfl rfl) ?_
        refine hkz11 _ ?_ ?_
        exact rfl
        repeat (first | exact Sub.refl _ | refine Sub.skip rfl ?_)
       case Fz11 =>
        intro hcz11 hkz11
        refine sk ?_
        refine sk ?_
        refine sk ?_
        refine hkz11 _ ?_
        repeat (first | exact Sub.refl _ | refine Sub.skip rfl ?_)
       case az11 => exact rfl
       case bz11 => exact rfl
       case cz11 => exact rfl
       case dz11 => exact rfl
       refine mv ?_
       refine Lt.ofWL.and 107 111 110 (p := ?pz12) (rest := ?qz12) (B := ?Bz12) rfl ?Tz12 ?Fz12 ?az12 ?bz12 ?cz12 ?dz12 ?ez12
       case Tz12 =>
        intro hcz12 hkz12
        refine sp (OpV.fieldAddr rfl fo_61_2) ?_
        refine sp (OpV.loadBox rfl pt_3 mq0 rfl) ?_
        refine sp (OpV.eql rfl rfl) ?_
        refine hkz12 _ ?_ ?_
        exact rfl
        repeat (first | exact Sub.refl _ | refine Sub.skip rfl ?_)
       case Fz12 =>
        intro hcz12 hkz12
        refine sk ?_
        refine sk ?_
        refine sk ?_
        refine hkz12 _ ?_
        repeat (first | exact Sub.refl _ | refine Sub.skip rfl ?_)
       case az12 => exact rfl
       case bz12 => exact rfl
       case cz12 => exact rfl
       case dz12 => exact rfl
       refine mv ?_
       refine Lt.ofWL.and 112 117 116 (p := ?pz13) (rest := ?qz13) (B := ?Bz13) rfl ?Tz13 ?Fz13 ?az13 ?bz13 ?cz13 ?dz13 ?ez13
       case Tz13 =>
        intro hcz13 hkz13
        refine sp (OpV.fieldAddr rfl fo_61_3) ?_
        refine sp (OpV.loadBox rfl pt_3 mq0 rfl) ?_
        refine mv ?_
        refine sp (OpV.eql rfl rfl) ?_
        refine hkz13 _ ?_ ?_
        exact rfl
        repeat (first | exact Sub.refl _ | refine Sub.skip rfl ?_)
       case Fz13 =>
        intro hcz13 hkz13
        refine sk ?_
        refine sk ?_
        refine sk ?_
        refine sk ?_
        refine hkz13 _ ?_
        repeat (first | exact Sub.refl _ | refine Sub.skip rfl ?_)
       case az13 => exact rfl
       case bz13 => exact rfl
       case cz13 => exact rfl
       case dz13 => exact rfl
       refine mv ?_
       refine Lt.ofWL.and 118 123 122 (p := ?pz14) (rest := ?qz14) (B := ?Bz14) rfl ?Tz14 ?Fz14 ?az14 ?bz14 ?cz14 ?dz14 ?ez14
       case Tz14 =>
        intro hcz14 hkz14
        refine sp (OpV.fieldAddr rfl fo_61_4) ?_
        refine sp (OpV.loadBox rfl pt_3 mq0 rfl) ?_
        refine mv ?_
        refine sp (OpV.eql rfl rfl) ?_
        refine hkz14 _ ?_ ?_
        exact rfl
        repeat (first | exact Sub.refl _ | refine Sub.skip rfl ?_)
       case Fz14 =>
        intro hcz14 hkz14
        refine sk ?_
        refine sk ?_
        refine sk ?_
        refine sk ?_
        refine hkz14 _ ?_
        repeat (first | exact Sub.refl _ | refine Sub.skip rfl ?_)
       case az14 => exact rfl
       case bz14 => exact rfl
       case cz14 => exact rfl
       case dz14 => exact rfl
       refine ag ?_
       refine WL.nil (En.next (WC.ret ?_))
       refine En.ret1 rfl (Res.tmp rfl) ?_
       obtain rfl := Option.some.inj h
       intro w' hs
       exact ⟨rfl, hs.below⟩
      ·
       intro zK0_0
       refine WC.loopP (G := Unit) (fun s g => match s, g with | v_0, () => [(2, .int .i64 a_p2), (3, .int .i64 a_p3), (5, .pointer (some ⟨b0_0, 0, .none⟩)), (9, .pointer (some ⟨b5_5, 0, .none⟩)), (11, .bool ((((decide (a_p1.Orient = 0)) && (decide (a_p1.ToW = 0))) && (decide (a_p1.ToH = 0))) && (decide (a_p1.Alpha = 255)))), (12, .int .i64 v_0)]) (fun s g => match s, g with | v_0, () => [Chunk.box b0_0 61 [.bool a_p1.On, .int .i64 a_p1.X, .int .i64 a_p1.Y, .int .i64 a_p1.W, .int .i64 a_p1.H, .int .i64 a_p1.Layout, .slice q1_0 a_p1.Words.length k1_0, .int .i64 a_p1.Alpha, .int .i64 a_p1.Orient, .int .i64 a_p1.ToW, .int .i64 a_p1.ToH], Chunk.box b5_5 107 [.int .i64 x5_1a.W, .int .i64 x5_1a.H, .slice a5_100 n5_100 c5_100], Chunk.own tInt f5_100 a5_100 n5_100 c5_100 x5_1a.Data]) 0 () ezy0 (by exact sc (sc (sc (sc (sc (sc sn)))))) (by exact (fun _ h => (((h).pm 1).pm 1).pm 2)) ?_
       rintro zm0 v_0 ⟨⟩ zo0 zf0 zb0 ze0
       have zh0 : spec_PlaneOk_L0 x5_1a v_0 = some zo0 := zf0
       unfold spec_PlaneOk_L0 at zh0
       show WC _ _ _ _ _ [(2, .int .i64 a_p2), (3, .int .i64 a_p3), (5, .pointer (some ⟨b0_0, 0, .none⟩)), (9, .pointer (some ⟨b5_5, 0, .none⟩)), (11, .bool ((((decide (a_p1.Orient = 0)) && (decide (a_p1.ToW = 0))) && (decide (a_p1.ToH = 0))) && (decide (a_p1.Alpha = 255)))), (12, .int .i64 v_0)] [Chunk.box b0_0 61 [.bool a_p1.On, .int .i64 a_p1.X, .int .i64 a_p1.Y, .int .i64 a_p1.W, .int .i64 a_p1.H, .int .i64 a_p1.Layout, .slice q1_0 a_p1.Words.length k1_0, .int .i64 a_p1.Alpha, .int .i64 a_p1.Orient, .int .i64 a_p1.ToW, .int .i64 a_p1.ToH], Chunk.box b5_5 107 [.int .i64 x5_1a.W, .int .i64 x5_1a.H, .slice a5_100 n5_100 c5_100], Chunk.own tInt f5_100 a5_100 n5_100 c5_100 x5_1a.Data]
       refine WC.seq (WC.sr ?_)
       refine mv ?_
       refine sp (OpV.fieldAddr rfl fo_107_2) ?_
       refine sp (OpV.loadBox rfl pt_23 mq1 rfl) ?_
       refine sp (OpV.inhF fun hin => OpV.lenO (xs := x5_1a.Data) rfl si_23 rfl (ownLen hin mq2)) ?_
       refine sp (OpV.lss rfl rfl) ?_
       refine WL.nil (En.next ?_)
       refine WC.cond rfl ?_ ?_
       ·
        intro hc_6
        replace zh0 := ifO_t hc_6 zh0
        refine WC.skip (En.next (WC.seq (WC.block (WC.seq ?_))))
        refine WC.inh fun hin16 => ?_
        obtain ⟨x16_3, e16_3, zh0⟩ := bnd zh0
        obtain ⟨g16_3, o16_3, ha16_3⟩ := ownAddr hin16 mq2 e16_3
        have hn16_3 := ownLen hin16 mq2
        obtain ⟨x16_5, e16_5, zh0⟩ := bnd zh0
        refine WC.region ?_
        refine sp (OpV.fieldAddr rfl fo_107_2) ?_
        refine sp (OpV.loadBox rfl pt_23 mq1 rfl) ?_
        refine mv ?_
        refine sp (OpV.idxA rfl rfl se_23 ha16_3 ⟨(idx_some e16_3).1, by rw [hn16_3]; exact (idx_some e16_3).2.1⟩) ?_
        refine sp (OpV.load1 rfl pt_3 (fun w hs => Rd.cell1 tInt_flat (Ow.rd (hs.mem mq2)) e16_3 ha16_3 rfl)) ?_
        refine sp (OpV.call (ec rfl e0) ca_136 (fun w hs => w_spec_l10Opaque e16_5)) ?_
        refine sp (OpV.not rfl) ?_
        refine WL.nil (En.next ?_)
        refine WC.cond rfl ?_ ?_
        ·
         intro hc_7
         replace zh0 := ifO_t hc_7 zh0
         refine WC.sr ?_
         refine ag ?_
         refine WL.nil (En.next (WC.ret (En.block_ret (En.then_ret (En.then_ret (En.block_ret (En.then_ret ?_)))))))
         refine En.ret1 rfl (Res.tmp rfl) ?_
         have hx := exitP ze0 zh0
         subst hx
         replace h := fork_r h
         obtain rfl := Option.some.inj h
         intro w' hs
         exact ⟨rfl, hs.below⟩
        ·
         intro hc_7
         replace zh0 := ifO_f hc_7 zh0
         refine WC.skip (En.block_norm (En.next (WC.region ?_)))
         refine mv ?_
         refine sp (OpV.addR rfl rfl) ?_
         refine ag ?_
         refine WL.nil ?_
         exact En.backP zb0 zh0 () (sc (sc (sc (sc (sc (sc sn)))))) (fun _ h => h)
       ·
        intro hc_6
        replace zh0 := ifO_f hc_6 zh0
        refine WC.exit (En.then_exit (En.then_exit ?_))
        have hx := exitP ze0 zh0
        exact En.wk _ _ (sc (sc (sc (sc sn)))) (fun _ h => (h).sub (.cons_cons _ (.cons _ (.cons _ (.slnil))))) (zK0_0 ((), ()) hx.symm)

theorem w_spec_PlanesOk {list_p0 : List PlaneT} {w_p1 : Int} {h_p2 : Int} {r : Bool} {q0_0 : Option Addr} {l0_0 k0_0 : Nat} (h : spec_PlanesOk list_p0 w_p1 h_p2 = some r) {w : World} (r0_0 : Rd tPlane w q0_0 l0_0 k0_0 list_p0)   :
    Calls Tryz.prog 86 #[.slice q0_0 l0_0 k0_0, .int .i64 w_p1, .int .i64 h_p2] w (fun en w' => en = .returned (.bool r) ∧ Ext w w') := by
 obtain rfl := r0_0.1
 unfold spec_PlanesOk at h
 refine enter (vs := [_, _, _]) Tryz.func86 rfl rfl rfl rfl ?_
 refine WC.sr ?_
 refine ag ?_
 refine WL.nil (En.next (WC.seq (WC.sr ?_)))
 refine mv ?_
 refine sp (OpV.len rfl si_36 rfl) ?_
 refine sp (OpV.neq rfl rfl) ?_
 refine WL.nil (En.next ?_)
 refine WC.cond rfl ?_ ?_
 ·
  intro hc_1
  replace h := ifO_t hc_1 h
  refine WC.sr ?_
  refine ag ?_
  refine WL.nil (En.next (WC.ret (En.then_ret ?_)))
  refine En.ret1 rfl (Res.tmp rfl) ?_
  obtain rfl := Option.some.inj h
  intro w' hs
  exact ⟨rfl, hs.below⟩
 ·
  intro hc_1
  replace h := ifO_f hc_1 h
  refine WC.skip (En.next (WC.seq (WC.sr ?_)))
  refine ag ?_
  refine WL.nil (En.next (WC.block ?_))
  obtain ⟨zy0, ezy0, h⟩ := bnd h
  refine WC.cut (X := (Unit) × (Unit)) (.exit 0) (fun x => zy0 = .inl x.1) (fun x => match x with | ((), ()) => [(0, .slice q0_0 list_p0.length k0_0)]) (fun x => match x with | ((), ()) => []) ?_ ?_
  ·
   rintro ⟨⟨⟩, ⟨⟩⟩ hx
   replace hx : .inl () = zy0 := hx.symm
   subst hx
   replace h := fork_l h
   show En _ _ _ _ [(0, .slice q0_0 list_p0.length k0_0)] []
   refine En.block_exit (En.next (WC.seq ?_))
   obtain ⟨x8_1, e8_1, h⟩ := bnd h
   obtain ⟨g8_1, o8_1, _, ha8_1, ⟨a8_1_1, c8_1_1, rfl, r8_1_1⟩, hd8_1⟩ := Rd.atIdx r0_0 e8_1
   replace hd8_1 : ∀ (j : Nat) v, ([.bool x8_1.On, .int .i64 x8_1.X, .int .i64 x8_1.Y, .int .i64 x8_1.W, .int .i64 x8_1.H, .int .i64 x8_1.Layout, .slice a8_1_1 x8_1.Words.length c8_1_1, .int .i64 x8_1.Alpha, .int .i64 x8_1.Orient, .int .i64 x8_1.ToW, .int .i64 x8_1.ToH] : List Value)[j]? = some v → w.cell? ⟨g8_1, o8_1 + (Int.toNat 1) * 11 + j, .none⟩ = some v := hd8_1
   obtain ⟨q8_11, e8_11, h⟩ := bnd h
   refine WC.region ?_
   refine mv ?_
   refine sp (OpV.idxA rfl rfl se_36 ha8_1 ⟨(idx_some e8_1).1, (idx_some e8_1).2.1⟩) ?_
   refine sp (OpV.fieldAddr rfl fo_61_9) ?_
   refine sp (OpV.load1 rfl pt_3 (fun w hs => hs.cell (hd8_1 9 _ rfl))) ?_
   refine sp (OpV.eql rfl rfl) ?_
   refine mv ?_
   refine Lt.ofWL.orQ 31 37 36 (p := ?pz1) (rest := ?qz1) (B := q8_11) rfl (fun hz => orO_t e8_11 hz) ?Tz1 ?Fz1 ?az1 ?bz1 ?cz1 ?dz1 ?ez1
   case Tz1 =>
    intro hcz1 hkz1
    refine sk ?_
    refine sk ?_
    refine sk ?_
    refine sk ?_
    refine sk ?_
    refine hkz1 _ ?_
    repeat (first | exact Sub.refl _ | refine Sub.skip rfl ?_)
   case Fz1 =>
    intro hcz1 hkz1
    have hqz1 := orO_f e8_11 hcz1
    obtain ⟨x8_7, e8_7, hqz1⟩ := bnd hqz1
    obtain ⟨g8_7, o8_7, _, ha8_7, ⟨a8_7_1, c8_7_1, rfl, r8_7_1⟩, hd8_7⟩ := Rd.atIdx r0_0 e8_7
    replace hd8_7 : ∀ (j : Nat) v, ([.bool x8_7.On, .int .i64 x8_7.X, .int .i64 x8_7.Y, .int .i64 x8_7.W, .int .i64 x8_7.H, .int .i64 x8_7.Layout, .slice a8_7_1 x8_7.Words.length c8_7_1, .int .i64 x8_7.Alpha, .int .i64 x8_7.Orient, .int .i64 x8_7.ToW, .int .i64 x8_7.ToH] : List Value)[j]? = some v → w.cell? ⟨g8_7, o8_7 + (Int.toNat 2) * 11 + j, .none⟩ = some v := hd8_7
    obtain rfl := Option.some.inj hqz1
    refine mv ?_
    refine sp (OpV.idxA rfl rfl se_36 ha8_7 ⟨(idx_some e8_7).1, (idx_some e8_7).2.1⟩) ?_
    refine sp (OpV.fieldAddr rfl fo_61_9) ?_
    refine sp (OpV.load1 rfl pt_3 (fun w hs => hs.cell (hd8_7 9 _ rfl))) ?_
    refine sp (OpV.eql rfl rfl) ?_
    refine hkz1 _ ?_ ?_
    exact rfl
    repeat (first | exact Sub.refl _ | refine Sub.skip rfl ?_)
   case az1 => exact rfl
   case bz1 => exact rfl
   case cz1 => exact rfl
   case dz1 => exact rfl
   refine ag ?_
   refine WL.nil (En.next (WC.ret ?_))
   refine En.ret1 rfl (Res.tmp rfl) ?_
   obtain rfl := Option.some.inj h
   intro w' hs
   exact ⟨rfl, hs.below⟩
  ·
   intro zK0_0
   refine WC.loopP (G := Unit) (fun s g => match s, g with | k_0, () => [(0, .slice q0_0 list_p0.length k0_0), (1, .int .i64 w_p1), (2, .int .i64 h_p2), (7, .int .i64 k_0)]) (fun s g => match s, g with | k_0, () => []) 0 () ezy0 (by exact sc (sc (sc (sc sn)))) (by exact (fun _ h => h)) ?_
   rintro zm0 k_0 ⟨⟩ zo0 zf0 zb0 ze0
   have zh0 : spec_PlanesOk_L0 list_p0 w_p1 h_p2 k_0 = some zo0 := zf0
   unfold spec_PlanesOk_L0 at zh0
   show WC _ _ _ _ _ [(0, .slice q0_0 list_p0.length k0_0), (1, .int .i64 w_p1), (2, .int .i64 h_p2), (7, .int .i64 k_0)] []
   refine WC.seq (WC.sr ?_)
   refine mv ?_
   refine mv ?_
   refine sp (OpV.len rfl si_36 rfl) ?_
   refine sp (OpV.lss rfl rfl) ?_
   refine WL.nil (En.next ?_)
   refine WC.cond rfl ?_ ?_
   ·
    intro hc_2
    replace zh0 := ifO_t hc_2 zh0
    refine WC.skip (En.next (WC.seq (WC.block (WC.seq ?_))))
    obtain ⟨x6_3, e6_3, zh0⟩ := bnd zh0
    obtain ⟨g6_3, o6_3, _, ha6_3, ⟨a6_3_1, c6_3_1, rfl, r6_3_1⟩, hd6_3⟩ := Rd.atIdx r0_0 e6_3
    replace hd6_3 : ∀ (j : Nat) v, ([.bool x6_3.On, .int .i64 x6_3.X, .int .i64 x6_3.Y, .int .i64 x6_3.W, .int .i64 x6_3.H, .int .i64 x6_3.Layout, .slice a6_3_1 x6_3.Words.length c6_3_1, .int .i64 x6_3.Alpha, .int .i64 x6_3.Orient, .int .i64 x6_3.ToW, .int .i64 x6_3.ToH] : List Value)[j]? = some v → w.cell? ⟨g6_3, o6_3 + k_0.toNat * 11 + j, .none⟩ = some v := hd6_3
    obtain ⟨x6_7, e6_7, zh0⟩ := bnd zh0
    refine WC.region ?_
    refine mv ?_
    refine mv ?_
    refine mv ?_
    refine sp (OpV.idxA rfl rfl se_36 ha6_3 ⟨(idx_some e6_3).1, (idx_some e6_3).2.1⟩) ?_
    refine sp (OpV.loadN rfl ag_61 rfl (fun w hs => hs.cellsAt hd6_3)) ?_
    refine mv ?_
    refine mv ?_
    refine sp (OpV.call (ec rfl (ec rfl (ec rfl (ec rfl e0)))) ca_120 (fun w hs => w_spec_PlaneOk e6_7 (r6_3_1.ext hs.below))) ?_
    refine sp (OpV.not rfl) ?_
    refine WL.nil (En.next ?_)
    refine WC.cond rfl ?_ ?_
    ·
     intro hc_3
     replace zh0 := ifO_t hc_3 zh0
     refine WC.sr ?_
     refine ag ?_
     refine WL.nil (En.next (WC.ret (En.block_ret (En.then_ret (En.then_ret (En.block_ret (En.then_ret ?_)))))))
     refine En.ret1 rfl (Res.tmp rfl) ?_
     have hx := exitP ze0 zh0
     subst hx
     replace h := fork_r h
     obtain rfl := Option.some.inj h
     intro w' hs
     exact ⟨rfl, hs.below⟩
    ·
     intro hc_3
     replace zh0 := ifO_f hc_3 zh0
     refine WC.skip (En.block_norm (En.next (WC.region ?_)))
     refine mv ?_
     refine sp (OpV.addR rfl rfl) ?_
     refine ag ?_
     refine WL.nil ?_
     exact En.backP zb0 zh0 () (sc (sc (sc (sc sn)))) (fun _ h => h)
   ·
    intro hc_2
    replace zh0 := ifO_f hc_2 zh0
    refine WC.exit (En.then_exit (En.then_exit ?_))
    have hx := exitP ze0 zh0
    exact En.wk _ _ (sc sn) (fun _ h => h) (zK0_0 ((), ()) hx.symm)

theorem w_spec_ColorOk {m_p0 : ColorMapT} {r : Bool} {q0_0 : Option Addr} {l0_0 k0_0 : Nat} {q0_1 : Option Addr} {l0_1 k0_1 : Nat} (h : spec_ColorOk m_p0 = some r) {w : World} (r0_0 : Rd tInt w q0_0 l0_0 k0_0 m_p0.Matrix) (r0_1 : Rd tInt w q0_1 l0_1 k0_1 m_p0.Curve)   :
    Calls Tryz.prog 111 #[.agg #[.slice q0_0 l0_0 k0_0, .slice q0_1 l0_1 k0_1]] w (fun en w' => en = .returned (.bool r) ∧ Ext w w') := by
 obtain rfl := r0_0.1
 obtain rfl := r0_1.1
 unfold spec_ColorOk at h
 refine enter (vs := [_]) Tryz.func111 rfl rfl rfl rfl ?_
 refine WC.sr ?_
 refine WL.heavy rfl rfl rfl (OpH.box rfl rfl ?_)
 intro b0_0
 refine ag ?_
 refine WL.nil (En.next (WC.seq (WC.sr ?_)))
 refine sp (OpV.fieldAddr rfl fo_37_0) ?_
 refine sp (OpV.loadBox rfl pt_23 mq0 rfl) ?_
 refine sp (OpV.len rfl si_23 rfl) ?_
 refine sp (OpV.neq rfl rfl) ?_
 refine mv ?_
 refine Lt.ofWL.or 9 14 13 (p := ?pz1) (rest := ?qz1) (B := ?Bz1) rfl ?Tz1 ?Fz1 ?az1 ?bz1 ?cz1 ?dz1 ?ez1
 case Tz1 =>
  intro hcz1 hkz1
  refine sk ?_
  refine sk ?_
  refine sk ?_
  refine sk ?_
  refine hkz1 _ ?_
  repeat (first | exact Sub.refl _ | refine Sub.skip rfl ?_)
 case Fz1 =>
  intro hcz1 hkz1
  refine sp (OpV.fieldAddr rfl fo_37_1) ?_
  refine sp (OpV.loadBox rfl pt_23 mq0 rfl) ?_
  refine sp (OpV.len rfl si_23 rfl) ?_
  refine sp (OpV.neq rfl rfl) ?_
  refine hkz1 _ ?_ ?_
  exact rfl
  repeat (first | exact Sub.refl _ | refine Sub.skip rfl ?_)
 case az1 => exact rfl
 case bz1 => exact rfl
 case cz1 => exact rfl
 case dz1 => exact rfl
 refine WL.nil (En.next ?_)
 refine WC.cond rfl ?_ ?_
 ·
  intro hc_1
  replace h := ifO_t hc_1 h
  refine WC.sr ?_
  refine ag ?_
  refine WL.nil (En.next (WC.ret (En.then_ret ?_)))
  refine En.ret1 rfl (Res.tmp rfl) ?_
  obtain rfl := Option.some.inj h
  intro w' hs
  exact ⟨rfl, hs.below⟩
 ·
  intro hc_1
  replace h := ifO_f hc_1 h
  refine WC.skip (En.next (WC.seq (WC.sr ?_)))
  refine ag ?_
  refine WL.nil (En.next (WC.block ?_))
  obtain ⟨zy0, ezy0, h⟩ := bnd h
  refine WC.cut (X := (Unit) × (Unit)) (.exit 0) (fun x => zy0 = .inl x.1) (fun x => match x with | ((), ()) => [(1, .pointer (some ⟨b0_0, 0, .none⟩))]) (fun x => match x with | ((), ()) => [Chunk.box b0_0 37 [.slice q0_0 m_p0.Matrix.length k0_0, .slice q0_1 m_p0.Curve.length k0_1]]) ?_ ?_
  ·
   rintro ⟨⟨⟩, ⟨⟩⟩ hx
   replace hx : .inl () = zy0 := hx.symm
   subst hx
   replace h := fork_l h
   show En _ _ _ _ [(1, .pointer (some ⟨b0_0, 0, .none⟩))] [Chunk.box b0_0 37 [.slice q0_0 m_p0.Matrix.length k0_0, .slice q0_1 m_p0.Curve.length k0_1]]
   refine En.block_exit (En.next (WC.seq (WC.sr ?_)))
   refine ag ?_
   refine WL.nil (En.next (WC.block ?_))
   obtain ⟨zy1, ezy1, h⟩ := bnd h
   refine WC.cut (X := (Unit) × (Unit)) (.exit 2) (fun x => zy1 = .inl x.1) (fun x => match x with | ((), ()) => []) (fun x => match x with | ((), ()) => []) ?_ ?_
   ·
    rintro ⟨⟨⟩, ⟨⟩⟩ hx
    replace hx : .inl () = zy1 := hx.symm
    subst hx
    replace h := fork_l h
    show En _ _ _ _ [] []
    refine En.block_exit (En.next (WC.sr ?_))
    refine ag ?_
    refine WL.nil (En.next (WC.ret ?_))
    refine En.ret1 rfl (Res.tmp rfl) ?_
    obtain rfl := Option.some.inj h
    intro w' hs
    exact ⟨rfl, hs.below⟩
   ·
    intro zK1_0
    refine WC.loopP (G := Unit) (fun s g => match s, g with | k_1, () => [(1, .pointer (some ⟨b0_0, 0, .none⟩)), (4, .int .i64 k_1)]) (fun s g => match s, g with | k_1, () => [Chunk.box b0_0 37 [.slice q0_0 m_p0.Matrix.length k0_0, .slice q0_1 m_p0.Curve.length k0_1]]) 0 () ezy1 (by exact sc (sc sn)) (by exact (fun _ h => h)) ?_
    rintro zm1 k_1 ⟨⟩ zo1 zf1 zb1 ze1
    have zh1 : spec_ColorOk_L1 m_p0 k_1 = some zo1 := zf1
    unfold spec_ColorOk_L1 at zh1
    show WC _ _ _ _ _ [(1, .pointer (some ⟨b0_0, 0, .none⟩)), (4, .int .i64 k_1)] [Chunk.box b0_0 37 [.slice q0_0 m_p0.Matrix.length k0_0, .slice q0_1 m_p0.Curve.length k0_1]]
    refine WC.seq (WC.sr ?_)
    refine mv ?_
    refine sp (OpV.lss rfl rfl) ?_
    refine WL.nil (En.next ?_)
    refine WC.cond rfl ?_ ?_
    ·
     intro hc_2
     replace zh1 := ifO_t hc_2 zh1
     refine WC.skip (En.next (WC.seq (WC.block (WC.seq ?_))))
     obtain ⟨x11_3, e11_3, zh1⟩ := bnd zh1
     obtain ⟨g11_3, o11_3, _, ha11_3, rfl, hd11_3⟩ := Rd.atIdx r0_1 e11_3
     replace hd11_3 : ∀ (j : Nat) v, ([.int .i64 x11_3] : List Value)[j]? = some v → w.cell? ⟨g11_3, o11_3 + k_1.toNat * 1 + j, .none⟩ = some v := hd11_3
     obtain ⟨x11_5, e11_5, zh1⟩ := bnd zh1
     refine WC.region ?_
     refine sp (OpV.fieldAddr rfl fo_37_1) ?_
     refine sp (OpV.loadBox rfl pt_23 mq0 rfl) ?_
     refine mv ?_
     refine sp (OpV.idxA rfl rfl se_23 ha11_3 ⟨(idx_some e11_3).1, (idx_some e11_3).2.1⟩) ?_
     refine sp (OpV.load1 rfl pt_3 (fun w hs => hs.cell (hd11_3 0 _ rfl))) ?_
     refine sp (OpV.call (ec rfl (ec rfl (ec rfl e0))) ca_64 (fun w hs => w_spec_l01In e11_5)) ?_
     refine sp (OpV.not rfl) ?_
     refine WL.nil (En.next ?_)
     refine WC.cond rfl ?_ ?_
     ·
      intro hc_3
      replace zh1 := ifO_t hc_3 zh1
      refine WC.sr ?_
      refine ag ?_
      refine WL.nil (En.next (WC.ret (En.block_ret (En.then_ret (En.then_ret (En.block_ret (En.then_ret ?_)))))))
      refine En.ret1 rfl (Res.tmp rfl) ?_
      have hx := exitP ze1 zh1
      subst hx
      replace h := fork_r h
      obtain rfl := Option.some.inj h
      intro w' hs
      exact ⟨rfl, hs.below⟩
     ·
      intro hc_3
      replace zh1 := ifO_f hc_3 zh1
      refine WC.skip (En.block_norm (En.next (WC.region ?_)))
      refine mv ?_
      refine sp (OpV.addR rfl rfl) ?_
      refine ag ?_
      refine WL.nil ?_
      exact En.backP zb1 zh1 () (sc (sc sn)) (fun _ h => h)
    ·
     intro hc_2
     replace zh1 := ifO_f hc_2 zh1
     refine WC.exit (En.then_exit (En.then_exit ?_))
     have hx := exitP ze1 zh1
     exact En.wk _ _ sn (fun _ h => (h).sub (.cons _ (.slnil))) (zK1_0 ((), ()) hx.symm)
  ·
   intro zK0_0
   refine WC.loopP (G := Unit) (fun s g => match s, g with | k_0, () => [(1, .pointer (some ⟨b0_0, 0, .none⟩)), (3, .int .i64 k_0)]) (fun s g => match s, g with | k_0, () => [Chunk.box b0_0 37 [.slice q0_0 m_p0.Matrix.length k0_0, .slice q0_1 m_p0.Curve.length k0_1]]) 0 () ezy0 (by exact sc (sc sn)) (by exact (fun _ h => h)) ?_
   rintro zm0 k_0 ⟨⟩ zo0 zf0 zb0 ze0
   have zh0 : spec_ColorOk_L0 m_p0 k_0 = some zo0 := zf0
   unfold spec_ColorOk_L0 at zh0
   show WC _ _ _ _ _ [(1, .pointer (some ⟨b0_0, 0, .none⟩)), (3, .int .i64 k_0)] [Chunk.box b0_0 37 [.slice q0_0 m_p0.Matrix.length k0_0, .slice q0_1 m_p0.Curve.length k0_1]]
   refine WC.seq (WC.sr ?_)
   refine mv ?_
   refine sp (OpV.lss rfl rfl) ?_
   refine WL.nil (En.next ?_)
   refine WC.cond rfl ?_ ?_
   ·
    intro hc_4
    replace zh0 := ifO_t hc_4 zh0
    refine WC.skip (En.next (WC.seq (WC.block (WC.seq ?_))))
    obtain ⟨x6_3, e6_3, zh0⟩ := bnd zh0
    obtain ⟨g6_3, o6_3, _, ha6_3, rfl, hd6_3⟩ := Rd.atIdx r0_0 e6_3
    replace hd6_3 : ∀ (j : Nat) v, ([.int .i64 x6_3] : List Value)[j]? = some v → w.cell? ⟨g6_3, o6_3 + k_0.toNat * 1 + j, .none⟩ = some v := hd6_3
    obtain ⟨x6_5, e6_5, zh0⟩ := bnd zh0
    refine WC.region ?_
    refine sp (OpV.fieldAddr rfl fo_37_0) ?_
    refine sp (OpV.loadBox rfl pt_23 mq0 rfl) ?_
    refine mv ?_
    refine sp (OpV.idxA rfl rfl se_23 ha6_3 ⟨(idx_some e6_3).1, (idx_some e6_3).2.1⟩) ?_
    refine sp (OpV.load1 rfl pt_3 (fun w hs => hs.cell (hd6_3 0 _ rfl))) ?_
    refine sp (OpV.call (ec rfl (ec rfl (ec rfl e0))) ca_64 (fun w hs => w_spec_l01In e6_5)) ?_
    refine sp (OpV.not rfl) ?_
    refine WL.nil (En.next ?_)
    refine WC.cond rfl ?_ ?_
    ·
     intro hc_5
     replace zh0 := ifO_t hc_5 zh0
     refine WC.sr ?_
     refine ag ?_
     refine WL.nil (En.next (WC.ret (En.block_ret (En.then_ret (En.then_ret (En.block_ret (En.then_ret ?_)))))))
     refine En.ret1 rfl (Res.tmp rfl) ?_
     have hx := exitP ze0 zh0
     subst hx
     replace h := fork_r h
     obtain rfl := Option.some.inj h
     intro w' hs
     exact ⟨rfl, hs.below⟩
    ·
     intro hc_5
     replace zh0 := ifO_f hc_5 zh0
     refine WC.skip (En.block_norm (En.next (WC.region ?_)))
     refine mv ?_
     refine sp (OpV.addR rfl rfl) ?_
     refine ag ?_
     refine WL.nil ?_
     exact En.backP zb0 zh0 () (sc (sc sn)) (fun _ h => h)
   ·
    intro hc_4
    replace zh0 := ifO_f hc_4 zh0
    refine WC.exit (En.then_exit (En.then_exit ?_))
    have hx := exitP ze0 zh0
    exact En.wk _ _ (sc sn) (fun _ h => h) (zK0_0 ((), ()) hx.symm)

theorem w_spec_CrtcOk {c_p0 : CrtcT} {r : Bool} {q0_0 : Option Addr} {l0_0 k0_0 : Nat} {q0_1 : Option Addr} {l0_1 k0_1 : Nat} {q0_2 : Option Addr} {l0_2 k0_2 : Nat} (h : spec_CrtcOk c_p0 = some r) {w : World} (r0_0 : Rd tPlane w q0_0 l0_0 k0_0 c_p0.Planes) (r0_1 : Rd tInt w q0_1 l0_1 k0_1 c_p0.Color.Matrix) (r0_2 : Rd tInt w q0_2 l0_2 k0_2 c_p0.Color.Curve)   :
    Calls Tryz.prog 72 #[.agg #[.int .i64 c_p0.W, .int .i64 c_p0.H, .slice q0_0 l0_0 k0_0, .slice q0_1 l0_1 k0_1, .slice q0_2 l0_2 k0_2]] w (fun en w' => en = .returned (.bool r) ∧ Ext w w') := by
 obtain rfl := r0_0.1
 obtain rfl := r0_1.1
 obtain rfl := r0_2.1
 unfold spec_CrtcOk at h
 refine enter (vs := [_]) Tryz.func72 rfl rfl rfl rfl ?_
 refine WC.sr ?_
 refine WL.heavy rfl rfl rfl (OpH.box rfl rfl ?_)
 intro b0_0
 refine ag ?_
 refine WL.nil (En.next (WC.seq ?_))
 obtain ⟨x1_6, e1_6, h⟩ := bnd h
 obtain ⟨q1_11, e1_11, h⟩ := bnd h
 refine WC.region ?_
 refine sp (OpV.fieldAddr rfl fo_39_2) ?_
 refine sp (OpV.loadBox rfl pt_36 mq0 rfl) ?_
 refine sp (OpV.fieldAddr rfl fo_39_0) ?_
 refine sp (OpV.loadBox rfl pt_3 mq0 rfl) ?_
 refine sp (OpV.fieldAddr rfl fo_39_1) ?_
 refine sp (OpV.loadBox rfl pt_3 mq0 rfl) ?_
 refine sp (OpV.call (ec rfl (ec rfl (ec rfl e0))) ca_86 (fun w hs => w_spec_PlanesOk e1_6 (r0_0.ext hs.below))) ?_
 refine mv ?_
 refine Lt.ofWL.andQ 10 14 13 (p := ?pz1) (rest := ?qz1) (B := q1_11) rfl (fun hz => andO_f e1_11 hz) ?Tz1 ?Fz1 ?az1 ?bz1 ?cz1 ?dz1 ?ez1
 case Tz1 =>
  intro hcz1 hkz1
  have hqz1 := andO_t e1_11 hcz1
  obtain ⟨x1_10, e1_10, hqz1⟩ := bnd hqz1
  obtain rfl := Option.some.inj hqz1
  refine sp (OpV.fieldAddr rfl fo_39_3) ?_
  refine sp (OpV.loadPart rfl mq0 ag_37 rfl rfl) ?_
  refine sp (OpV.call (ec rfl e0) ca_111 (fun w hs => w_spec_ColorOk e1_10 (r0_1.ext hs.below) (r0_2.ext hs.below))) ?_
  refine hkz1 _ ?_ ?_
  exact rfl
  repeat (first | exact Sub.refl _ | refine Sub.skip rfl ?_)
 case Fz1 =>
  intro hcz1 hkz1
  refine sk ?_
  refine sk ?_
  refine sk ?_
  refine hkz1 _ ?_
  repeat (first | exact Sub.refl _ | refine Sub.skip rfl ?_)
 case az1 => exact rfl
 case bz1 => exact rfl
 case cz1 => exact rfl
 case dz1 => exact rfl
 refine ag ?_
 refine WL.nil (En.next (WC.ret ?_))
 refine En.ret1 rfl (Res.tmp rfl) ?_
 obtain rfl := Option.some.inj h
 intro w' hs
 exact ⟨rfl, hs.below⟩

theorem w_spec_ChangeOk {x_p0 : ChangeT} {r : Bool} {q0_0 : Option Addr} {l0_0 k0_0 : Nat} {q0_1 : Option Addr} {l0_1 k0_1 : Nat} {q0_2 : Option Addr} {l0_2 k0_2 : Nat} (h : spec_ChangeOk x_p0 = some r) {w : World} (r0_0 : Rd tInt w q0_0 l0_0 k0_0 x_p0.Value.Words) (r0_1 : Rd tInt w q0_1 l0_1 k0_1 x_p0.Color.Matrix) (r0_2 : Rd tInt w q0_2 l0_2 k0_2 x_p0.Color.Curve)   :
    Calls Tryz.prog 73 #[.agg #[.int .i64 x_p0.Plane, .bool x_p0.Value.On, .int .i64 x_p0.Value.X, .int .i64 x_p0.Value.Y, .int .i64 x_p0.Value.W, .int .i64 x_p0.Value.H, .int .i64 x_p0.Value.Layout, .slice q0_0 l0_0 k0_0, .int .i64 x_p0.Value.Alpha, .int .i64 x_p0.Value.Orient, .int .i64 x_p0.Value.ToW, .int .i64 x_p0.Value.ToH, .slice q0_1 l0_1 k0_1, .slice q0_2 l0_2 k0_2]] w (fun en w' => en = .returned (.bool r) ∧ Ext w w') := by
 obtain rfl := r0_0.1
 obtain rfl := r0_1.1
 obtain rfl := r0_2.1
 unfold spec_ChangeOk at h
 refine enter (vs := [_]) Tryz.func73 rfl rfl rfl rfl ?_
 refine WC.sr ?_
 refine WL.heavy rfl rfl rfl (OpH.box rfl rfl ?_)
 intro b0_0
 refine ag ?_
 refine WL.nil (En.next (WC.seq (WC.seq ?_)))
 obtain ⟨x1_2, e1_2, h⟩ := bnd h
 refine WC.region ?_
 refine sp (OpV.fieldAddr rfl fo_63_0) ?_
 refine sp (OpV.loadBox rfl pt_3 mq0 rfl) ?_
 refine sp (OpV.call (ec rfl (ec rfl (ec rfl e0))) ca_64 (fun w hs => w_spec_l01In e1_2)) ?_
 refine sp (OpV.not rfl) ?_
 refine WL.nil (En.next ?_)
 refine WC.cond rfl ?_ ?_
 ·
  intro hc_1
  replace h := ifO_t hc_1 h
  refine WC.sr ?_
  refine ag ?_
  refine WL.nil (En.next (WC.ret (En.then_ret ?_)))
  refine En.ret1 rfl (Res.tmp rfl) ?_
  obtain rfl := Option.some.inj h
  intro w' hs
  exact ⟨rfl, hs.below⟩
 ·
  intro hc_1
  replace h := ifO_f hc_1 h
  refine WC.skip (En.next (WC.seq (WC.sr ?_)))
  refine sp (OpV.fieldAddr rfl fo_63_0) ?_
  refine sp (OpV.loadBox rfl pt_3 mq0 rfl) ?_
  refine sp (OpV.lss rfl rfl) ?_
  refine WL.nil (En.next ?_)
  refine WC.cond rfl ?_ ?_
  ·
   intro hc_2
   replace h := ifO_t hc_2 h
   refine WC.seq ?_
   obtain ⟨x4_2, e4_2, h⟩ := bnd h
   refine WC.region ?_
   refine sp (OpV.fieldAddr rfl fo_63_1) ?_
   refine sp (OpV.loadPart rfl mq0 ag_61 rfl rfl) ?_
   refine sp (OpV.call (ec rfl e0) ca_112 (fun w hs => w_spec_l19Zero e4_2 (r0_0.ext hs.below))) ?_
   refine mv ?_
   refine Lt.ofWL.and 13 18 17 (p := ?pz1) (rest := ?qz1) (B := ?Bz1) rfl ?Tz1 ?Fz1 ?az1 ?bz1 ?cz1 ?dz1 ?ez1
   case Tz1 =>
    intro hcz1 hkz1
    refine sp (OpV.fieldAddr rfl fo_63_1) ?_
    refine sp (OpV.fieldAddr rfl fo_61_0) ?_
    refine sp (OpV.loadBox rfl pt_4 mq0 rfl) ?_
    refine sp (OpV.not rfl) ?_
    refine hkz1 _ ?_ ?_
    exact rfl
    repeat (first | exact Sub.refl _ | refine Sub.skip rfl ?_)
   case Fz1 =>
    intro hcz1 hkz1
    refine sk ?_
    refine sk ?_
    refine sk ?_
    refine sk ?_
    refine hkz1 _ ?_
    repeat (first | exact Sub.refl _ | refine Sub.skip rfl ?_)
   case az1 => exact rfl
   case bz1 => exact rfl
   case cz1 => exact rfl
   case dz1 => exact rfl
   refine ag ?_
   refine WL.nil (En.next (WC.ret (En.then_ret ?_)))
   refine En.ret1 rfl (Res.tmp rfl) ?_
   obtain rfl := Option.some.inj h
   intro w' hs
   exact ⟨rfl, hs.below⟩
  ·
   intro hc_2
   replace h := ifO_f hc_2 h
   refine WC.skip (En.next (WC.sr ?_))
   refine sp (OpV.fieldAddr rfl fo_63_2) ?_
   refine sp (OpV.fieldAddr rfl fo_37_0) ?_
   refine sp (OpV.loadBox rfl pt_23 mq0 rfl) ?_
   refine sp (OpV.len rfl si_23 rfl) ?_
   refine sp (OpV.eql rfl rfl) ?_
   refine mv ?_
   refine Lt.ofWL.and 24 30 29 (p := ?pz2) (rest := ?qz2) (B := ?Bz2) rfl ?Tz2 ?Fz2 ?az2 ?bz2 ?cz2 ?dz2 ?ez2
   case Tz2 =>
    intro hcz2 hkz2
    refine sp (OpV.fieldAddr rfl fo_63_2) ?_
    refine sp (OpV.fieldAddr rfl fo_37_1) ?_
    refine sp (OpV.loadBox rfl pt_23 mq0 rfl) ?_
    refine sp (OpV.len rfl si_23 rfl) ?_
    refine sp (OpV.eql rfl rfl) ?_
    refine hkz2 _ ?_ ?_
    exact rfl
    repeat (first | exact Sub.refl _ | refine Sub.skip rfl ?_)
   case Fz2 =>
    intro hcz2 hkz2
    refine sk ?_
    refine sk ?_
    refine sk ?_
    refine sk ?_
    refine sk ?_
    refine hkz2 _ ?_
    repeat (first | exact Sub.refl _ | refine Sub.skip rfl ?_)
   case az2 => exact rfl
   case bz2 => exact rfl
   case cz2 => exact rfl
   case dz2 => exact rfl
   refine ag ?_
   refine WL.nil (En.next (WC.ret ?_))
   refine En.ret1 rfl (Res.tmp rfl) ?_
   obtain rfl := Option.some.inj h
   intro w' hs
   exact ⟨rfl, hs.below⟩

theorem w_spec_TestChanges {c_p0 : CrtcT} {list_p1 : List ChangeT} {r : CrtcT × Bool} {q0_0 : Option Addr} {l0_0 k0_0 : Nat} {q0_1 : Option Addr} {l0_1 k0_1 : Nat} {q0_2 : Option Addr} {l0_2 k0_2 : Nat} {q1_0 : Option Addr} {l1_0 k1_0 : Nat} (h : spec_TestChanges c_p0 list_p1 = some r) {w : World} (r0_0 : Rd tPlane w q0_0 l0_0 k0_0 c_p0.Planes) (r0_1 : Rd tInt w q0_1 l0_1 k0_1 c_p0.Color.Matrix) (r0_2 : Rd tInt w q0_2 l0_2 k0_2 c_p0.Color.Curve) (r1_0 : Rd tChange w q1_0 l1_0 k1_0 list_p1)   :
    Calls Tryz.prog 23 #[.agg #[.int .i64 c_p0.W, .int .i64 c_p0.H, .slice q0_0 l0_0 k0_0, .slice q0_1 l0_1 k0_1, .slice q0_2 l0_2 k0_2], .slice q1_0 l1_0 k1_0] w (fun en w' => ∃ rv G, en = .returned rv ∧ (∃ (a0_0 : Option Addr) (n0_0 : Nat) (c0_0 : Nat) (f0_0 : List Nat) (a0_1 : Option Addr) (n0_1 : Nat) (c0_1 : Nat) (f0_1 : List Nat) (a0_2 : Option Addr) (n0_2 : Nat) (c0_2 : Nat) (f0_2 : List Nat), rv = .tuple #[.agg #[.int .i64 r.1.W, .int .i64 r.1.H, .slice a0_0 n0_0 c0_0, .slice a0_1 n0_1 c0_1, .slice a0_2 n0_2 c0_2], .bool r.2] ∧ G = [Chunk.own tPlane f0_0 a0_0 n0_0 c0_0 r.1.Planes, Chunk.own tInt f0_1 a0_1 n0_1 c0_1 r.1.Color.Matrix, Chunk.own tInt f0_2 a0_2 n0_2 c0_2 r.1.Color.Curve]) ∧ St w G w') := by
 obtain rfl := r0_0.1
 obtain rfl := r0_1.1
 obtain rfl := r0_2.1
 obtain rfl := r1_0.1
 unfold spec_TestChanges at h
 refine enter (vs := [_, _]) Tryz.func23 rfl rfl rfl rfl ?_
 refine WC.sr ?_
 refine WL.heavy rfl rfl rfl (OpH.box rfl rfl ?_)
 intro b0_0
 refine WL.heavy rfl rfl rfl (OpH.alloc zc_39 ?_)
 intro b0_1
 refine ag ?_
 refine WL.nil (En.next (WC.seq ?_))
 obtain ⟨x1_1, e1_1, h⟩ := bnd h
 refine WC.region ?_
 refine sp (OpV.loadAll rfl mq1 ag_39) ?_
 refine WL.heavy rfl rfl rfl (OpH.callR (ec rfl e0) ca_44 (fun w hs => w_spec_l22Copy e1_1 (r0_0.ext hs.below) (r0_1.ext hs.below) (r0_2.ext hs.below)) ?_)
 rintro _ _ ⟨a1_100, n1_100, c1_100, f1_100, a1_101, n1_101, c1_101, f1_101, a1_102, n1_102, c1_102, f1_102, rfl, rfl⟩
 refine WL.heavy rfl rfl rfl (OpH.alloc zc_39 ?_)
 intro b1_2
 refine WL.heavy0 rfl rfl (OpH.storeTo (A := []) [_, _, _, _, _] rfl rfl rfl ts_39 rfl rfl rfl ?_)
 refine WL.nil (En.next (WC.seq (WC.seq ?_)))
 obtain ⟨x2_1, e2_1, h⟩ := bnd h
 refine WC.region ?_
 refine sp (OpV.loadAll rfl mq5 ag_39) ?_
 refine sp (OpV.call (ec rfl e0) ca_72 (fun w hs => w_spec_CrtcOk e2_1 (r0_0.ext hs.below) (r0_1.ext hs.below) (r0_2.ext hs.below))) ?_
 refine sp (OpV.not rfl) ?_
 refine WL.nil (En.next ?_)
 refine WC.cond rfl ?_ ?_
 ·
  intro hc_1
  replace h := ifO_t hc_1 h
  refine WC.sr ?_
  refine sp (OpV.loadAll rfl mq0 ag_39) ?_
  refine WL.heavy0 rfl rfl (OpH.storeTo (A := [_, _, _, _]) [_, _, _, _, _] rfl rfl rfl ts_39 rfl rfl rfl ?_)
  refine ag ?_
  refine WL.nil (En.next (WC.ret (En.then_ret ?_)))
  refine En.ret2 rfl (Res.cell rfl mq4 ag_39) (Res.tmp rfl) ?_
  obtain rfl := Option.some.inj h
  intro w' hs
  have hs := ((((hs).pm 3).pm 3).pm 3).sub (.cons_cons _ (.cons_cons _ (.cons_cons _ (.cons _ (.cons _ (.cons _ (.slnil)))))))
  exact ⟨_, _, rfl, ⟨a1_100, n1_100, c1_100, f1_100, a1_101, n1_101, c1_101, f1_101, a1_102, n1_102, c1_102, f1_102, rfl, rfl⟩, hs⟩
 ·
  intro hc_1
  replace h := ifO_f hc_1 h
  refine WC.skip (En.next (WC.seq (WC.sr ?_)))
  refine ag ?_
  refine WL.nil (En.next (WC.block ?_))
  obtain ⟨zy0, ezy0, h⟩ := bnd h
  refine WC.cut (X := ((List PlaneT) × (List Int) × (List Int)) × ((List Nat) × (Option Addr) × Nat × Nat × (List Nat) × (Option Addr) × Nat × Nat × (List Nat))) (.exit 0) (fun x => zy0 = .inl x.1) (fun x => match x with | ((out_0e, out1_0e, out2_0e), (fout_0e, aout_0e, nout_0e, cout_0e, fout1_0e, aout1_0e, nout1_0e, cout1_0e, fout2_0e)) => [(2, .pointer (some ⟨b0_0, 0, .none⟩)), (4, .pointer (some ⟨b0_1, 0, .none⟩)), (6, .pointer (some ⟨b1_2, 0, .none⟩))]) (fun x => match x with | ((out_0e, out1_0e, out2_0e), (fout_0e, aout_0e, nout_0e, cout_0e, fout1_0e, aout1_0e, nout1_0e, cout1_0e, fout2_0e)) => [Chunk.box b0_0 39 [.int .i64 c_p0.W, .int .i64 c_p0.H, .slice q0_0 c_p0.Planes.length k0_0, .slice q0_1 c_p0.Color.Matrix.length k0_1, .slice q0_2 c_p0.Color.Curve.length k0_2], Chunk.box b0_1 39 [.int .i64 0, .int .i64 0, .slice .none 0 0, .slice .none 0 0, .slice .none 0 0], Chunk.box b1_2 39 [.int .i64 x1_1.W, .int .i64 x1_1.H, .slice a1_100 n1_100 c1_100, .slice aout_0e nout_0e cout_0e, .slice aout1_0e nout1_0e cout1_0e], Chunk.own tPlane fout_0e a1_100 n1_100 c1_100 out_0e, Chunk.own tInt fout1_0e aout_0e nout_0e cout_0e out1_0e, Chunk.own tInt fout2_0e aout1_0e nout1_0e cout1_0e out2_0e]) ?_ ?_
  ·
   rintro ⟨⟨out_0e, out1_0e, out2_0e⟩, ⟨fout_0e, aout_0e, nout_0e, cout_0e, fout1_0e, aout1_0e, nout1_0e, cout1_0e, fout2_0e⟩⟩ hx
   replace hx : .inl (out_0e, out1_0e, out2_0e) = zy0 := hx.symm
   subst hx
   replace h := fork_l h
   show En _ _ _ _ [(2, .pointer (some ⟨b0_0, 0, .none⟩)), (4, .pointer (some ⟨b0_1, 0, .none⟩)), (6, .pointer (some ⟨b1_2, 0, .none⟩))] [Chunk.box b0_0 39 [.int .i64 c_p0.W, .int .i64 c_p0.H, .slice q0_0 c_p0.Planes.length k0_0, .slice q0_1 c_p0.Color.Matrix.length k0_1, .slice q0_2 c_p0.Color.Curve.length k0_2], Chunk.box b0_1 39 [.int .i64 0, .int .i64 0, .slice .none 0 0, .slice .none 0 0, .slice .none 0 0], Chunk.box b1_2 39 [.int .i64 x1_1.W, .int .i64 x1_1.H, .slice a1_100 n1_100 c1_100, .slice aout_0e nout_0e cout_0e, .slice aout1_0e nout1_0e cout1_0e], Chunk.own tPlane fout_0e a1_100 n1_100 c1_100 out_0e, Chunk.own tInt fout1_0e aout_0e nout_0e cout_0e out1_0e, Chunk.own tInt fout2_0e aout1_0e nout1_0e cout1_0e out2_0e]
   refine En.block_exit (En.next (WC.seq (WC.seq ?_)))
   obtain ⟨x12_1, e12_1, h⟩ := bnd h
   refine WC.region ?_
   refine sp (OpV.loadAll rfl mq2 ag_39) ?_
   refine sp (OpV.call (ec rfl e0) ca_72 (fun w hs => w_spec_CrtcOk e12_1 (Ow.rd (hs.mem mq3)) (Ow.rd (hs.mem mq4)) (Ow.rd (hs.mem mq5)))) ?_
   refine sp (OpV.not rfl) ?_
   refine WL.nil (En.next ?_)
   refine WC.cond rfl ?_ ?_
   ·
    intro hc_2
    replace h := ifO_t hc_2 h
    refine WC.seq ?_
    obtain ⟨x13_1, e13_1, h⟩ := bnd h
    refine WC.region ?_
    refine sp (OpV.loadAll rfl mq0 ag_39) ?_
    refine WL.heavy rfl rfl rfl (OpH.callR (ec rfl e0) ca_44 (fun w hs => w_spec_l22Copy e13_1 (r0_0.ext hs.below) (r0_1.ext hs.below) (r0_2.ext hs.below)) ?_)
    rintro _ _ ⟨a13_100, n13_100, c13_100, f13_100, a13_101, n13_101, c13_101, f13_101, a13_102, n13_102, c13_102, f13_102, rfl, rfl⟩
    refine WL.heavy0 rfl rfl (OpH.storeTo (A := [_, _, _, _]) [_, _, _, _, _] rfl rfl rfl ts_39 rfl rfl rfl ?_)
    refine ag ?_
    refine WL.nil (En.next (WC.ret (En.then_ret ?_)))
    refine En.ret2 rfl (Res.cell rfl mq4 ag_39) (Res.tmp rfl) ?_
    obtain rfl := Option.some.inj h
    intro w' hs
    have hs := (hs).sub (.cons_cons _ (.cons_cons _ (.cons_cons _ (.cons _ (.cons _ (.cons _ (.cons _ (.cons _ (.cons _ (.slnil))))))))))
    exact ⟨_, _, rfl, ⟨a13_100, n13_100, c13_100, f13_100, a13_101, n13_101, c13_101, f13_101, a13_102, n13_102, c13_102, f13_102, rfl, rfl⟩, hs⟩
   ·
    intro hc_2
    replace h := ifO_f hc_2 h
    refine WC.skip (En.next (WC.sr ?_))
    refine sp (OpV.loadAll rfl mq2 ag_39) ?_
    refine WL.heavy0 rfl rfl (OpH.storeTo (A := [_]) [_, _, _, _, _] rfl rfl rfl ts_39 rfl rfl rfl ?_)
    refine ag ?_
    refine WL.nil (En.next (WC.ret ?_))
    refine En.ret2 rfl (Res.cell rfl mq1 ag_39) (Res.tmp rfl) ?_
    obtain rfl := Option.some.inj h
    intro w' hs
    have hs := ((((hs).pm 5).pm 5).pm 5).sub (.cons_cons _ (.cons_cons _ (.cons_cons _ (.cons _ (.cons _ (.cons _ (.slnil)))))))
    exact ⟨_, _, rfl, ⟨a1_100, n1_100, c1_100, fout_0e, aout_0e, nout_0e, cout_0e, fout1_0e, aout1_0e, nout1_0e, cout1_0e, fout2_0e, rfl, rfl⟩, hs⟩
  ·
   intro zK0_0
   refine WC.loopP (G := (List Nat) × (Option Addr) × Nat × Nat × (List Nat) × (Option Addr) × Nat × Nat × (List Nat)) (fun s g => match s, g with | (out_0, out1_0, out2_0, k_0), (fout_0, aout_0, nout_0, cout_0, fout1_0, aout1_0, nout1_0, cout1_0, fout2_0) => [(1, .slice q1_0 list_p1.length k1_0), (2, .pointer (some ⟨b0_0, 0, .none⟩)), (4, .pointer (some ⟨b0_1, 0, .none⟩)), (6, .pointer (some ⟨b1_2, 0, .none⟩)), (7, .int .i64 k_0)]) (fun s g => match s, g with | (out_0, out1_0, out2_0, k_0), (fout_0, aout_0, nout_0, cout_0, fout1_0, aout1_0, nout1_0, cout1_0, fout2_0) => [Chunk.box b0_0 39 [.int .i64 c_p0.W, .int .i64 c_p0.H, .slice q0_0 c_p0.Planes.length k0_0, .slice q0_1 c_p0.Color.Matrix.length k0_1, .slice q0_2 c_p0.Color.Curve.length k0_2], Chunk.box b0_1 39 [.int .i64 0, .int .i64 0, .slice .none 0 0, .slice .none 0 0, .slice .none 0 0], Chunk.box b1_2 39 [.int .i64 x1_1.W, .int .i64 x1_1.H, .slice a1_100 n1_100 c1_100, .slice aout_0 nout_0 cout_0, .slice aout1_0 nout1_0 cout1_0], Chunk.own tPlane fout_0 a1_100 n1_100 c1_100 out_0, Chunk.own tInt fout1_0 aout_0 nout_0 cout_0 out1_0, Chunk.own tInt fout2_0 aout1_0 nout1_0 cout1_0 out2_0]) (x1_1.Planes, x1_1.Color.Matrix, x1_1.Color.Curve, 0) (f1_100, a1_101, n1_101, c1_101, f1_101, a1_102, n1_102, c1_102, f1_102) ezy0 (by exact sc (sc (sc (sc (sc sn))))) (by exact (fun _ h => ((((((h).pm 3).pm 3).pm 3).pm 3).pm 4).pm 5)) ?_
   rintro zm0 ⟨out_0, out1_0, out2_0, k_0⟩ ⟨fout_0, aout_0, nout_0, cout_0, fout1_0, aout1_0, nout1_0, cout1_0, fout2_0⟩ zo0 zf0 zb0 ze0
   have zh0 : spec_TestChanges_L0 c_p0 list_p1 out_0 out1_0 out2_0 k_0 = some zo0 := zf0
   unfold spec_TestChanges_L0 at zh0
   show WC _ _ _ _ _ [(1, .slice q1_0 list_p1.length k1_0), (2, .pointer (some ⟨b0_0, 0, .none⟩)), (4, .pointer (some ⟨b0_1, 0, .none⟩)), (6, .pointer (some ⟨b1_2, 0, .none⟩)), (7, .int .i64 k_0)] [Chunk.box b0_0 39 [.int .i64 c_p0.W, .int .i64 c_p0.H, .slice q0_0 c_p0.Planes.length k0_0, .slice q0_1 c_p0.Color.Matrix.length k0_1, .slice q0_2 c_p0.Color.Curve.length k0_2], Chunk.box b0_1 39 [.int .i64 0, .int .i64 0, .slice .none 0 0, .slice .none 0 0, .slice .none 0 0], Chunk.box b1_2 39 [.int .i64 x1_1.W, .int .i64 x1_1.H, .slice a1_100 n1_100 c1_100, .slice aout_0 nout_0 cout_0, .slice aout1_0 nout1_0 cout1_0], Chunk.own tPlane fout_0 a1_100 n1_100 c1_100 out_0, Chunk.own tInt fout1_0 aout_0 nout_0 cout_0 out1_0, Chunk.own tInt fout2_0 aout1_0 nout1_0 cout1_0 out2_0]
   refine WC.seq (WC.sr ?_)
   refine mv ?_
   refine mv ?_
   refine sp (OpV.len rfl si_53 rfl) ?_
   refine sp (OpV.lss rfl rfl) ?_
   refine WL.nil (En.next ?_)
   refine WC.cond rfl ?_ ?_
   ·
    intro hc_3
    replace zh0 := ifO_t hc_3 zh0
    refine WC.skip (En.next (WC.seq (WC.block (WC.seq (WC.seq ?_)))))
    obtain ⟨x7_2, e7_2, zh0⟩ := bnd zh0
    obtain ⟨g7_2, o7_2, _, ha7_2, ⟨a7_2_1, c7_2_1, a7_2_2, c7_2_2, a7_2_3, c7_2_3, rfl, r7_2_1, r7_2_2, r7_2_3⟩, hd7_2⟩ := Rd.atIdx r1_0 e7_2
    replace hd7_2 : ∀ (j : Nat) v, ([.int .i64 x7_2.Plane, .bool x7_2.Value.On, .int .i64 x7_2.Value.X, .int .i64 x7_2.Value.Y, .int .i64 x7_2.Value.W, .int .i64 x7_2.Value.H, .int .i64 x7_2.Value.Layout, .slice a7_2_1 x7_2.Value.Words.length c7_2_1, .int .i64 x7_2.Value.Alpha, .int .i64 x7_2.Value.Orient, .int .i64 x7_2.Value.ToW, .int .i64 x7_2.Value.ToH, .slice a7_2_2 x7_2.Color.Matrix.length c7_2_2, .slice a7_2_3 x7_2.Color.Curve.length c7_2_3] : List Value)[j]? = some v → w.cell? ⟨g7_2, o7_2 + k_0.toNat * 14 + j, .none⟩ = some v := hd7_2
    obtain ⟨x7_4, e7_4, zh0⟩ := bnd zh0
    refine WC.region ?_
    refine mv ?_
    refine mv ?_
    refine sp (OpV.idxA rfl rfl se_53 ha7_2 ⟨(idx_some e7_2).1, (idx_some e7_2).2.1⟩) ?_
    refine sp (OpV.loadN rfl ag_63 rfl (fun w hs => hs.cellsAt hd7_2)) ?_
    refine sp (OpV.call (ec rfl e0) ca_73 (fun w hs => w_spec_ChangeOk e7_4 (r7_2_1.ext hs.below) (r7_2_2.ext hs.below) (r7_2_3.ext hs.below))) ?_
    refine sp (OpV.not rfl) ?_
    refine WL.nil (En.next ?_)
    refine WC.cond rfl ?_ ?_
    ·
     intro hc_4
     replace zh0 := ifO_t hc_4 zh0
     refine WC.seq ?_
     obtain ⟨x8_1, e8_1, zh0⟩ := bnd zh0
     refine WC.region ?_
     refine sp (OpV.loadAll rfl mq0 ag_39) ?_
     refine WL.heavy rfl rfl rfl (OpH.callR (ec rfl e0) ca_44 (fun w hs => w_spec_l22Copy e8_1 (r0_0.ext hs.below) (r0_1.ext hs.below) (r0_2.ext hs.below)) ?_)
     rintro _ _ ⟨a8_100, n8_100, c8_100, f8_100, a8_101, n8_101, c8_101, f8_101, a8_102, n8_102, c8_102, f8_102, rfl, rfl⟩
     refine WL.heavy0 rfl rfl (OpH.storeTo (A := [_, _, _, _]) [_, _, _, _, _] rfl rfl rfl ts_39 rfl rfl rfl ?_)
     refine ag ?_
     refine WL.nil (En.next (WC.ret (En.then_ret (En.block_ret (En.then_ret (En.then_ret (En.block_ret (En.then_ret ?_))))))))
     refine En.ret2 rfl (Res.cell rfl mq4 ag_39) (Res.tmp rfl) ?_
     have hx := exitP ze0 zh0
     subst hx
     replace h := fork_r h
     obtain rfl := Option.some.inj h
     intro w' hs
     have hs := (hs).sub (.cons_cons _ (.cons_cons _ (.cons_cons _ (.cons _ (.cons _ (.cons _ (.cons _ (.cons _ (.cons _ (.slnil))))))))))
     exact ⟨_, _, rfl, ⟨a8_100, n8_100, c8_100, f8_100, a8_101, n8_101, c8_101, f8_101, a8_102, n8_102, c8_102, f8_102, rfl, rfl⟩, hs⟩
    ·
     intro hc_4
     replace zh0 := ifO_f hc_4 zh0
     refine WC.skip (En.next (WC.seq ?_))
     obtain ⟨x9_2, e9_2, zh0⟩ := bnd zh0
     obtain ⟨g9_2, o9_2, _, ha9_2, ⟨a9_2_1, c9_2_1, a9_2_2, c9_2_2, a9_2_3, c9_2_3, rfl, r9_2_1, r9_2_2, r9_2_3⟩, hd9_2⟩ := Rd.atIdx r1_0 e9_2
     replace hd9_2 : ∀ (j : Nat) v, ([.int .i64 x9_2.Plane, .bool x9_2.Value.On, .int .i64 x9_2.Value.X, .int .i64 x9_2.Value.Y, .int .i64 x9_2.Value.W, .int .i64 x9_2.Value.H, .int .i64 x9_2.Value.Layout, .slice a9_2_1 x9_2.Value.Words.length c9_2_1, .int .i64 x9_2.Value.Alpha, .int .i64 x9_2.Value.Orient, .int .i64 x9_2.Value.ToW, .int .i64 x9_2.Value.ToH, .slice a9_2_2 x9_2.Color.Matrix.length c9_2_2, .slice a9_2_3 x9_2.Color.Curve.length c9_2_3] : List Value)[j]? = some v → w.cell? ⟨g9_2, o9_2 + k_0.toNat * 14 + j, .none⟩ = some v := hd9_2
     refine WC.region ?_
     refine mv ?_
     refine mv ?_
     refine sp (OpV.idxA rfl rfl se_53 ha9_2 ⟨(idx_some e9_2).1, (idx_some e9_2).2.1⟩) ?_
     refine sp (OpV.fieldAddr rfl fo_63_0) ?_
     refine sp (OpV.load1 rfl pt_3 (fun w hs => hs.cell (hd9_2 0 _ rfl))) ?_
     refine sp (OpV.lss rfl rfl) ?_
     refine WL.nil (En.next ?_)
     refine WC.cond rfl ?_ ?_
     ·
      intro hc_5
      replace zh0 := ifO_t hc_5 zh0
      obtain ⟨x10_2, e10_2, zh0⟩ := bnd zh0
      obtain ⟨g10_2, o10_2, _, ha10_2, ⟨a10_2_1, c10_2_1, a10_2_2, c10_2_2, a10_2_3, c10_2_3, rfl, r10_2_1, r10_2_2, r10_2_3⟩, hd10_2⟩ := Rd.atIdx r1_0 e10_2
      replace hd10_2 : ∀ (j : Nat) v, ([.int .i64 x10_2.Plane, .bool x10_2.Value.On, .int .i64 x10_2.Value.X, .int .i64 x10_2.Value.Y, .int .i64 x10_2.Value.W, .int .i64 x10_2.Value.H, .int .i64 x10_2.Value.Layout, .slice a10_2_1 x10_2.Value.Words.length c10_2_1, .int .i64 x10_2.Value.Alpha, .int .i64 x10_2.Value.Orient, .int .i64 x10_2.Value.ToW, .int .i64 x10_2.Value.ToH, .slice a10_2_2 x10_2.Color.Matrix.length c10_2_2, .slice a10_2_3 x10_2.Color.Curve.length c10_2_3] : List Value)[j]? = some v → w.cell? ⟨g10_2, o10_2 + k_0.toNat * 14 + j, .none⟩ = some v := hd10_2
      obtain ⟨x10_5, e10_5, zh0⟩ := bnd zh0
      refine WC.region ?_
      refine mv ?_
      refine mv ?_
      refine sp (OpV.idxA rfl rfl se_53 ha10_2 ⟨(idx_some e10_2).1, (idx_some e10_2).2.1⟩) ?_
      refine sp (OpV.fieldAddr rfl fo_63_2) ?_
      refine sp (OpV.loadN rfl ag_37 rfl (fun w hs => hs.cellsAt (l := [.slice a10_2_2 x10_2.Color.Matrix.length c10_2_2, .slice a10_2_3 x10_2.Color.Curve.length c10_2_3]) (cellsPart (off := 12) hd10_2 rfl))) ?_
      refine WL.heavy rfl rfl rfl (OpH.callR (ec rfl e0) ca_74 (fun w hs => w_spec_l22CopyColor e10_5 (r10_2_2.ext hs.below) (r10_2_3.ext hs.below)) ?_)
      rintro _ _ ⟨a10_500, n10_500, c10_500, f10_500, a10_501, n10_501, c10_501, f10_501, rfl, rfl⟩
      refine sp (OpV.fieldAddr rfl fo_39_3) ?_
      refine WL.heavy0 rfl rfl (OpH.storeTo (A := [_, _, _, _]) [_, _, _, _, _] rfl rfl rfl ts_37 rfl rfl rfl ?_)
      refine WL.nil (En.block_norm (En.next (WC.region ?_)))
      refine mv ?_
      refine sp (OpV.addR rfl rfl) ?_
      refine ag ?_
      refine WL.nil ?_
      exact En.backP zb0 zh0 (fout_0, a10_500, n10_500, c10_500, f10_500, a10_501, n10_501, c10_501, f10_501) (sc (sc (sc (sc (sc sn))))) (fun _ h => (((((((h).pm 1).pm 1).pm 5).pm 5).pm 5).pm 5).sub (.cons_cons _ (.cons_cons _ (.cons_cons _ (.cons_cons _ (.cons_cons _ (.cons_cons _ (.cons _ (.cons _ (.slnil))))))))))
     ·
      intro hc_5
      replace zh0 := ifO_f hc_5 zh0
      refine WC.inh fun hin11 => ?_
      obtain ⟨x11_4, e11_4, zh0⟩ := bnd zh0
      obtain ⟨g11_4, o11_4, _, ha11_4, ⟨a11_4_1, c11_4_1, a11_4_2, c11_4_2, a11_4_3, c11_4_3, rfl, r11_4_1, r11_4_2, r11_4_3⟩, hd11_4⟩ := Rd.atIdx r1_0 e11_4
      replace hd11_4 : ∀ (j : Nat) v, ([.int .i64 x11_4.Plane, .bool x11_4.Value.On, .int .i64 x11_4.Value.X, .int .i64 x11_4.Value.Y, .int .i64 x11_4.Value.W, .int .i64 x11_4.Value.H, .int .i64 x11_4.Value.Layout, .slice a11_4_1 x11_4.Value.Words.length c11_4_1, .int .i64 x11_4.Value.Alpha, .int .i64 x11_4.Value.Orient, .int .i64 x11_4.Value.ToW, .int .i64 x11_4.Value.ToH, .slice a11_4_2 x11_4.Color.Matrix.length c11_4_2, .slice a11_4_3 x11_4.Color.Curve.length c11_4_3] : List Value)[j]? = some v → w.cell? ⟨g11_4, o11_4 + k_0.toNat * 14 + j, .none⟩ = some v := hd11_4
      obtain ⟨x11_9, e11_9, zh0⟩ := bnd zh0
      obtain ⟨g11_9, o11_9, _, ha11_9, ⟨a11_9_1, c11_9_1, a11_9_2, c11_9_2, a11_9_3, c11_9_3, rfl, r11_9_1, r11_9_2, r11_9_3⟩, hd11_9⟩ := Rd.atIdx r1_0 e11_9
      replace hd11_9 : ∀ (j : Nat) v, ([.int .i64 x11_9.Plane, .bool x11_9.Value.On, .int .i64 x11_9.Value.X, .int .i64 x11_9.Value.Y, .int .i64 x11_9.Value.W, .int .i64 x11_9.Value.H, .int .i64 x11_9.Value.Layout, .slice a11_9_1 x11_9.Value.Words.length c11_9_1, .int .i64 x11_9.Value.Alpha, .int .i64 x11_9.Value.Orient, .int .i64 x11_9.Value.ToW, .int .i64 x11_9.Value.ToH, .slice a11_9_2 x11_9.Color.Matrix.length c11_9_2, .slice a11_9_3 x11_9.Color.Curve.length c11_9_3] : List Value)[j]? = some v → w.cell? ⟨g11_9, o11_9 + k_0.toNat * 14 + j, .none⟩ = some v := hd11_9
      obtain ⟨x11_12, e11_12, zh0⟩ := bnd zh0
      have hn11_13 := ownLen hin11 mq3
      obtain ⟨x11_14, e11_14, zh0⟩ := bnd zh0
      obtain ⟨g11_13, o11_13, ha11_13⟩ := ownAddrU hin11 mq3 e11_14
      refine WC.wkF (fun _ h => h.pm 3) ?_
      refine WC.drawnH [_] ([_, _, _, _, _]) (fun _ h => h) (by kernel_rfl) ?_
      refine tk 0 rfl (OpV.fieldAddr rfl fo_39_2) ?_
      refine tk 1 rfl (OpV.loadBox rfl pt_36 mq2 rfl) ?_
      refine tk 2 rfl (OpV.move rfl) ?_
      refine tk 3 rfl (OpV.move rfl) ?_
      refine tk 4 rfl (OpV.idxA rfl rfl se_53 ha11_4 ⟨(idx_some e11_4).1, (idx_some e11_4).2.1⟩) ?_
      refine tk 5 rfl (OpV.fieldAddr rfl fo_63_0) ?_
      refine tk 6 rfl (OpV.load1 rfl pt_3 (fun w hs => hs.cell (hd11_4 0 _ rfl))) ?_
      refine tk 7 rfl (OpV.move rfl) ?_
      refine tk 8 rfl (OpV.move rfl) ?_
      refine tk 9 rfl (OpV.idxA rfl rfl se_53 ha11_9 ⟨(idx_some e11_9).1, (idx_some e11_9).2.1⟩) ?_
      refine tk 10 rfl (OpV.fieldAddr rfl fo_63_1) ?_
      refine tk 11 rfl (OpV.loadN rfl ag_61 rfl (fun w hs => hs.cellsAt (l := [.bool x11_9.Value.On, .int .i64 x11_9.Value.X, .int .i64 x11_9.Value.Y, .int .i64 x11_9.Value.W, .int .i64 x11_9.Value.H, .int .i64 x11_9.Value.Layout, .slice a11_9_1 x11_9.Value.Words.length c11_9_1, .int .i64 x11_9.Value.Alpha, .int .i64 x11_9.Value.Orient, .int .i64 x11_9.Value.ToW, .int .i64 x11_9.Value.ToH]) (cellsPart (off := 1) hd11_9 rfl))) ?_
      refine al1 12 rfl ?_
      refine OpH.callR (ec rfl e0) ca_75 (fun w hs => w_spec_l19Copy e11_12 (r11_9_1.ext hs.below)) ?_
      rintro _ _ ⟨a11_1200, n11_1200, c11_1200, f11_1200, rfl, rfl⟩
      refine ⟨[_, _], rfl, ?_⟩
      refine tk 13 rfl (OpV.idxA rfl rfl se_36 ha11_13 ⟨(upd_some e11_14).1.1, by rw [hn11_13]; exact (upd_some e11_14).1.2⟩) ?_
      refine al0 14 rfl ?_
      refine OpH.wkF (fun _ h => tPlane_mk x11_12.On x11_12.X x11_12.Y x11_12.W x11_12.H x11_12.Layout x11_12.Words x11_12.Alpha x11_12.Orient x11_12.ToW x11_12.ToH h) ?_
      refine OpH.setEl (A := tPlane) ha11_13 rfl rfl rfl ts_61 e11_14 ?_
      intro f11_14
      refine ⟨[_], rfl, ?_⟩
      refine WAE.rebase (H := []) ?_
      refine WAE.done (by kernel_rfl) ?_ _
      refine En.block_norm (En.next (WC.region ?_))
      refine mv ?_
      refine sp (OpV.addR rfl rfl) ?_
      refine ag ?_
      refine WL.nil ?_
      exact En.backP zb0 zh0 (f11_14, aout_0, nout_0, cout_0, fout1_0, aout1_0, nout1_0, cout1_0, fout2_0) (sc (sc (sc (sc (sc sn))))) (fun _ h => ((((((h).pm 5).pm 5).pm 2).pm 5).pm 5).pm 5)
   ·
    intro hc_3
    replace zh0 := ifO_f hc_3 zh0
    refine WC.exit (En.then_exit (En.then_exit ?_))
    have hx := exitP ze0 zh0
    exact En.wk _ _ (sc (sc (sc sn))) (fun _ h => h) (zK0_0 ((out_0, out1_0, out2_0), (fout_0, aout_0, nout_0, cout_0, fout1_0, aout1_0, nout1_0, cout1_0, fout2_0)) hx.symm)

theorem w_slices_Clone_S_int_int {s_p0 : List Int} {r : List Int} {q0_0 : Option Addr} {n0_0 k0_0 : Nat} (h : slices_Clone_S_int_int s_p0 = some r) {w : World} (r0_0 : Rd tInt w q0_0 n0_0 k0_0 s_p0) :
    Calls Tryz.prog 98 #[.slice q0_0 n0_0 k0_0] w (fun en w' => ∃ rv G, en = .returned rv ∧ (∃ (a0_0 : Option Addr) (n0_0 : Nat) (c0_0 : Nat) (f0_0 : List Nat), rv = .slice a0_0 n0_0 c0_0 ∧ G = [Chunk.own tInt f0_0 a0_0 n0_0 c0_0 r]) ∧ St w G w') := by
  obtain rfl := r0_0.1
  obtain ⟨hn, h⟩ := need_some h
  obtain rfl := Option.some.inj h
  refine enter (vs := [_]) Tryz.func98 rfl rfl rfl rfl ?_
  refine WC.sr ?_
  refine ag ?_
  refine WL.nil (En.next (WC.seq (WC.sr ?_)))
  refine mv ?_
  refine sp (OpV.eqNil rfl si_23) ?_
  refine WL.nil (En.next ?_)
  refine WC.cond rfl ?_ ?_
  · intro hc
    have hnil := Rd.isNil r0_0 hc
    refine WC.sr ?_
    refine ag ?_
    refine WL.nil (En.next (WC.ret (En.then_ret ?_)))
    refine En.ret1 rfl (Res.tmp rfl) ?_
    intro w' hs
    refine ⟨_, _, rfl, ⟨.none, 0, 0, [], rfl, rfl⟩, ?_⟩
    rw [hnil]; exact hs.ownNil
  · intro hc
    refine WC.skip (En.next (WC.sr ?_))
    refine WL.heavy rfl rfl rfl (OpH.lit0 (A := tInt) evps.nil bs_23_0_ ?_)
    intro b
    refine mv ?_
    refine WL.heavy rfl rfl rfl (OpH.appS (F := []) (A := tInt) tInt_flat rfl rfl rfl mi_23 rfl (by decide) (fun w hs => r0_0.ext hs.below) (app_nil hn) ?_)
    intro fp a c
    refine ag ?_
    refine WL.nil (En.next (WC.ret ?_))
    refine En.ret1 rfl (Res.tmp rfl) ?_
    intro w' hs
    exact ⟨_, _, rfl, ⟨_, _, _, _, rfl, rfl⟩, hs⟩

theorem w_impl_copyPlanes {list_p0 : List PlaneT} {r : List PlaneT} {q0_0 : Option Addr} {n0_0 k0_0 : Nat} (h : impl_copyPlanes list_p0 = some r) {w : World} (r0_0 : Rd tPlane w q0_0 n0_0 k0_0 list_p0) :
    Calls Tryz.prog 76 #[.slice q0_0 n0_0 k0_0] w (fun en w' => ∃ rv G, en = .returned rv ∧ (∃ (a0_0 : Option Addr) (n0_0 : Nat) (c0_0 : Nat) (f0_0 : List Nat), rv = .slice a0_0 n0_0 c0_0 ∧ G = [Chunk.own tPlane f0_0 a0_0 n0_0 c0_0 r]) ∧ St w G w') := by
 unfold impl_copyPlanes at h
 obtain ⟨⟨h1, h2⟩, h⟩ := need_some h
 obtain rfl := Option.some.inj h
 exact w_copyPlanesO h1 h2 r0_0 (fun s q n k w hs hr => w_slices_Clone_S_int_int (show slices_Clone_S_int_int s = some s from need_t hs _) hr)

end Go.Proofs.YtmhalmnbgkpmnaaGreat
