/- Walks: the program computes the pure functions. -/
import Derived.Test.YtmhalmnbgkpmnaaW1
namespace Go.Proofs.Ytmhalmnbgkpmnaa
open Go.RowKit K
set_option maxRecDepth 100000
set_option maxHeartbeats 4000000

theorem w_spec_l10Scene {c_p0 : L01CurT} {r : SceneT × L01CurT} {b0 : Nat} {q0_0 : Option Addr} {l0_0 k0_0 : Nat} (h : spec_l10Scene c_p0 = some r) {w0 w : World} {C : List Chunk} (hs0 : St w0 (Chunk.box b0 142 [.slice q0_0 l0_0 k0_0, .int .i64 c_p0.i, .int .i64 c_p0.h] :: C) w) (r0_0 : ∀ w, St w0 C w → Rd tU8 w q0_0 l0_0 k0_0 c_p0.b) :
    Calls Try.prog 76 #[.pointer (some ⟨b0, 0, .none⟩)] w (fun en w' => ∃ rv G, en = .returned rv ∧ (∃ (a0_0 : Option Addr) (n0_0 : Nat) (c0_0 : Nat) (f0_0 : List Nat), rv = .agg #[.int .i64 r.1.W, .int .i64 r.1.H, .int .i64 r.1.Back, .slice a0_0 n0_0 c0_0] ∧ G = Chunk.lie tSurface f0_0 a0_0 n0_0 c0_0 r.1.Surfaces :: Chunk.box b0 142 [.slice q0_0 l0_0 k0_0, .int .i64 r.2.i, .int .i64 r.2.h] :: C) ∧ St w0 G w') := by
 obtain rfl := (r0_0 _ (St.tl (F := [_]) hs0)).1
 unfold spec_l10Scene at h
 refine enterF hs0 (vs := [_]) Try.func76 rfl rfl rfl rfl ?_
 refine WC.sr ?_
 refine WL.heavy rfl rfl rfl (OpH.alloc zc_62 ?_)
 intro b0_0
 refine WL.nil (En.next (WC.seq ?_))
 obtain ⟨⟨x1_1a, x1_1b⟩, e1_1, h⟩ := bnd h
 obtain ⟨⟨x1_4a, x1_4b⟩, e1_4, h⟩ := bnd h
 obtain ⟨⟨x1_7a, x1_7b⟩, e1_7, h⟩ := bnd h
 refine WC.region ?_
 refine mv ?_
 refine WL.wkF (fun _ h => h.pm 1) ?_
 refine WL.heavy rfl rfl rfl (OpH.callX (ec rfl (ec rfl e0)) ca_81 (fun w hs => w_spec_l01Below e1_1 hs (fun w hs => (r0_0 _ (St.tl (F := [_]) hs)))) ?_)
 rintro _ _ ⟨rfl, rfl⟩
 refine sp (OpV.addR rfl rfl) ?_
 refine mv ?_
 refine WL.heavy rfl rfl rfl (OpH.callX (ec rfl (ec rfl e0)) ca_81 (fun w hs => w_spec_l01Below e1_4 hs (fun w hs => (r0_0 _ (St.tl (F := [_]) hs)))) ?_)
 rintro _ _ ⟨rfl, rfl⟩
 refine sp (OpV.addR rfl rfl) ?_
 refine mv ?_
 refine WL.heavy rfl rfl rfl (OpH.callX (ec rfl e0) ca_116 (fun w hs => w_spec_l04Draw e1_7 hs (fun w hs => (r0_0 _ (St.tl (F := [_]) hs)))) ?_)
 rintro _ _ ⟨rfl, rfl⟩
 refine sp (OpV.orR rfl rfl) ?_
 refine sp (OpV.build (evps.cons rfl (evps.cons rfl (evps.cons rfl (evps.nil)))) (bd_62_0_1_2 _ _ _)) ?_
 refine WL.heavy rfl rfl rfl (OpH.alloc zc_62 ?_)
 intro b1_10
 refine WL.heavy0 rfl rfl (OpH.storeTo (A := []) [_, _, _, _] rfl rfl rfl ts_62 rfl rfl rfl ?_)
 refine WL.nil (En.next (WC.seq (WC.seq ?_)))
 obtain ⟨⟨x2_1a, x2_1b⟩, e2_1, h⟩ := bnd h
 refine WC.region ?_
 refine mv ?_
 refine WL.wkF (fun _ h => h.pm 1) ?_
 refine WL.heavy rfl rfl rfl (OpH.callX (ec rfl (ec rfl e0)) ca_81 (fun w hs => w_spec_l01Below e2_1 hs (fun w hs => (r0_0 _ (St.tl (F := [_, _]) hs)))) ?_)
 rintro _ _ ⟨rfl, rfl⟩
 refine ag ?_
 refine WL.nil (En.next (WC.block ?_))
 obtain ⟨zy0, ezy0, h⟩ := bnd h
 refine WC.cut (X := (Int × Int × Int × Int × Int × (List SurfaceT)) × ((Option Addr) × Nat × Nat × (List Nat))) (.exit 0) (fun x => zy0 = x.1) (fun x => match x with | ((c_0e, c1_0e, s_0e, s1_0e, s2_0e, s3_0e), (as_0e, ns_0e, cs_0e, fs_0e)) => [(0, .pointer (some ⟨b0, 0, .none⟩)), (2, .pointer (some ⟨b0_0, 0, .none⟩)), (3, .pointer (some ⟨b1_10, 0, .none⟩))]) (fun x => match x with | ((c_0e, c1_0e, s_0e, s1_0e, s2_0e, s3_0e), (as_0e, ns_0e, cs_0e, fs_0e)) => (Chunk.box b0 142 [.slice q0_0 c_p0.b.length k0_0, .int .i64 c_0e, .int .i64 c1_0e] :: Chunk.box b0_0 62 [.int .i64 0, .int .i64 0, .int .i64 0, .slice .none 0 0] :: Chunk.box b1_10 62 [.int .i64 s_0e, .int .i64 s1_0e, .int .i64 s2_0e, .slice as_0e ns_0e cs_0e] :: Chunk.lie tSurface fs_0e as_0e ns_0e cs_0e s3_0e :: C)) ?_ ?_
 ·
  rintro ⟨⟨c_0e, c1_0e, s_0e, s1_0e, s2_0e, s3_0e⟩, ⟨as_0e, ns_0e, cs_0e, fs_0e⟩⟩ hx
  replace hx : (c_0e, c1_0e, s_0e, s1_0e, s2_0e, s3_0e) = zy0 := hx.symm
  subst hx
  show En _ _ _ _ [(0, .pointer (some ⟨b0, 0, .none⟩)), (2, .pointer (some ⟨b0_0, 0, .none⟩)), (3, .pointer (some ⟨b1_10, 0, .none⟩))] (Chunk.box b0 142 [.slice q0_0 c_p0.b.length k0_0, .int .i64 c_0e, .int .i64 c1_0e] :: Chunk.box b0_0 62 [.int .i64 0, .int .i64 0, .int .i64 0, .slice .none 0 0] :: Chunk.box b1_10 62 [.int .i64 s_0e, .int .i64 s1_0e, .int .i64 s2_0e, .slice as_0e ns_0e cs_0e] :: Chunk.lie tSurface fs_0e as_0e ns_0e cs_0e s3_0e :: C)
  refine En.block_exit (En.next (WC.seq (WC.seq ?_)))
  obtain ⟨⟨x6_1a, x6_1b⟩, e6_1, h⟩ := bnd h
  refine WC.region ?_
  refine mv ?_
  refine WL.heavy rfl rfl rfl (OpH.callX (ec rfl (ec rfl e0)) ca_81 (fun w hs => w_spec_l01Below e6_1 hs (fun w hs => (r0_0 _ (St.tl (F := [_, _, _]) hs)))) ?_)
  rintro _ _ ⟨rfl, rfl⟩
  refine ag ?_
  refine WL.nil (En.next (WC.block ?_))
  obtain ⟨zy1, ezy1, h⟩ := bnd h
  refine WC.cut (X := (Int × Int × Int × (List SurfaceT) × Int × Int) × ((Option Addr) × Nat × Nat × (List Nat))) (.exit 2) (fun x => zy1 = x.1) (fun x => match x with | ((s_1e, s1_1e, s2_1e, s3_1e, c_1e, c1_1e), (as_1e, ns_1e, cs_1e, fs_1e)) => [(2, .pointer (some ⟨b0_0, 0, .none⟩)), (3, .pointer (some ⟨b1_10, 0, .none⟩))]) (fun x => match x with | ((s_1e, s1_1e, s2_1e, s3_1e, c_1e, c1_1e), (as_1e, ns_1e, cs_1e, fs_1e)) => (Chunk.box b0_0 62 [.int .i64 0, .int .i64 0, .int .i64 0, .slice .none 0 0] :: Chunk.box b1_10 62 [.int .i64 s_1e, .int .i64 s1_1e, .int .i64 s2_1e, .slice as_1e ns_1e cs_1e] :: Chunk.lie tSurface fs_1e as_1e ns_1e cs_1e s3_1e :: Chunk.box b0 142 [.slice q0_0 c_p0.b.length k0_0, .int .i64 c_1e, .int .i64 c1_1e] :: C)) ?_ ?_
  ·
   rintro ⟨⟨s_1e, s1_1e, s2_1e, s3_1e, c_1e, c1_1e⟩, ⟨as_1e, ns_1e, cs_1e, fs_1e⟩⟩ hx
   replace hx : (s_1e, s1_1e, s2_1e, s3_1e, c_1e, c1_1e) = zy1 := hx.symm
   subst hx
   show En _ _ _ _ [(2, .pointer (some ⟨b0_0, 0, .none⟩)), (3, .pointer (some ⟨b1_10, 0, .none⟩))] (Chunk.box b0_0 62 [.int .i64 0, .int .i64 0, .int .i64 0, .slice .none 0 0] :: Chunk.box b1_10 62 [.int .i64 s_1e, .int .i64 s1_1e, .int .i64 s2_1e, .slice as_1e ns_1e cs_1e] :: Chunk.lie tSurface fs_1e as_1e ns_1e cs_1e s3_1e :: Chunk.box b0 142 [.slice q0_0 c_p0.b.length k0_0, .int .i64 c_1e, .int .i64 c1_1e] :: C)
   refine En.block_exit (En.next (WC.sr ?_))
   refine sp (OpV.loadAll rfl mq1 ag_62) ?_
   refine WL.heavy0 rfl rfl (OpH.storeTo (A := []) [_, _, _, _] rfl rfl rfl ts_62 rfl rfl rfl ?_)
   refine WL.nil (En.next (WC.ret ?_))
   refine En.ret1 rfl (Res.cell rfl mq0 ag_62) ?_
   obtain rfl := Option.some.inj h
   intro w' hs
   have hs := (((hs).pm 3).pm 3).sub (.cons_cons _ (.cons_cons _ (.cons _ (.cons _ (List.Sublist.refl _)))))
   exact ⟨_, _, rfl, ⟨as_1e, ns_1e, cs_1e, fs_1e, rfl, rfl⟩, hs⟩
  ·
   intro zK1_0
   refine WC.loopP (G := (Option Addr) × Nat × Nat × (List Nat)) (fun s g => match s, g with | (c_1, c1_1, s_1, s1_1, s2_1, s3_1, k_1), (as_1, ns_1, cs_1, fs_1) => [(0, .pointer (some ⟨b0, 0, .none⟩)), (2, .pointer (some ⟨b0_0, 0, .none⟩)), (3, .pointer (some ⟨b1_10, 0, .none⟩)), (5, .int .i64 k_1)]) (fun s g => match s, g with | (c_1, c1_1, s_1, s1_1, s2_1, s3_1, k_1), (as_1, ns_1, cs_1, fs_1) => (Chunk.box b0 142 [.slice q0_0 c_p0.b.length k0_0, .int .i64 c_1, .int .i64 c1_1] :: Chunk.box b0_0 62 [.int .i64 0, .int .i64 0, .int .i64 0, .slice .none 0 0] :: Chunk.box b1_10 62 [.int .i64 s_1, .int .i64 s1_1, .int .i64 s2_1, .slice as_1 ns_1 cs_1] :: Chunk.lie tSurface fs_1 as_1 ns_1 cs_1 s3_1 :: C)) (x6_1b.i, x6_1b.h, s_0e, s1_0e, s2_0e, s3_0e, x6_1a) (as_0e, ns_0e, cs_0e, fs_0e) ezy1 (by exact sc (sc (sc (sc sn)))) (by exact (fun _ h => h)) ?_
   rintro zm1 ⟨c_1, c1_1, s_1, s1_1, s2_1, s3_1, k_1⟩ ⟨as_1, ns_1, cs_1, fs_1⟩ zo1 zf1 zb1 ze1
   have zh1 : spec_l10Scene_L1 c_p0 c_1 c1_1 s_1 s1_1 s2_1 s3_1 k_1 = some zo1 := zf1
   unfold spec_l10Scene_L1 at zh1
   show WC _ _ _ _ _ [(0, .pointer (some ⟨b0, 0, .none⟩)), (2, .pointer (some ⟨b0_0, 0, .none⟩)), (3, .pointer (some ⟨b1_10, 0, .none⟩)), (5, .int .i64 k_1)] (Chunk.box b0 142 [.slice q0_0 c_p0.b.length k0_0, .int .i64 c_1, .int .i64 c1_1] :: Chunk.box b0_0 62 [.int .i64 0, .int .i64 0, .int .i64 0, .slice .none 0 0] :: Chunk.box b1_10 62 [.int .i64 s_1, .int .i64 s1_1, .int .i64 s2_1, .slice as_1 ns_1 cs_1] :: Chunk.lie tSurface fs_1 as_1 ns_1 cs_1 s3_1 :: C)
   refine WC.seq (WC.sr ?_)
   refine mv ?_
   refine sp (OpV.gtr rfl rfl) ?_
   refine WL.nil (En.next ?_)
   refine WC.cond rfl ?_ ?_
   ·
    intro hc_1
    replace zh1 := ifO_t hc_1 zh1
    refine WC.skip (En.next (WC.seq (WC.block ?_)))
    obtain ⟨⟨x9_2a, x9_2b⟩, e9_2, zh1⟩ := bnd zh1
    obtain ⟨⟨x9_3a, x9_3b⟩, e9_3, zh1⟩ := bnd zh1
    refine WC.wkF (fun _ h => h.pm 2) ?_
    refine WC.wkF (fun _ h => h.pm 1) ?_
    refine WC.drawnH [_, _] (_ :: _ :: C) (fun _ h => h) (by kernel_rfl) ?_
    refine tk 1 rfl (OpV.move rfl) ?_
    refine WAE.all (rs := [0, 2]) (by kernel_rfl) rfl (AllR.cons rfl rfl rfl rfl ?_ (AllR.cons rfl rfl rfl rfl ?_ AllR.nil))
    ·
     refine OpH.light (OpV.loadAll rfl mq1 ag_62) ?_
     refine ⟨[_, _], rfl, ?_⟩
     refine al1 2 rfl ?_
     refine OpH.callX (ec rfl e0) ca_118 (fun w hs => w_spec_l10Edit e9_2 hs (fun w hs => (r0_0 _ (St.tl (F := [_, _, _]) hs)))) ?_
     rintro _ _ ⟨a9_200, n9_200, c9_200, f9_200, rfl, rfl⟩
     refine ⟨[_, _, _], rfl, ?_⟩
     refine al1 3 rfl ?_
     refine OpH.callR (ec rfl (ec rfl e0)) ca_47 (fun w hs => w_spec_DoEdit e9_3 ((hs.mem mq4).2 _ (fun _ _ => rfl)) (Ow.rd (hs.mem mq0))) ?_
     rintro _ _ ⟨a9_300, n9_300, c9_300, f9_300, rfl, rfl⟩
     refine ⟨[_, _, _, _], rfl, ?_⟩
     refine tk 4 rfl (OpV.move rfl) ?_
     refine tk 5 rfl (OpV.extract rfl rfl) ?_
     refine tk 6 rfl (OpV.extract rfl rfl) ?_
     refine al0 7 rfl ?_
     refine OpH.storeTo (A := [_, _, _]) [_, _, _, _] rfl rfl rfl ts_62 rfl rfl rfl ?_
     refine ⟨[_, _, _, _], rfl, ?_⟩
     refine WAE.rebase (H := []) ?_
     refine WAE.done (by kernel_rfl) ?_ _
     refine En.block_norm (En.next (WC.region ?_))
     refine mv ?_
     refine sp (OpV.subR rfl rfl) ?_
     refine ag ?_
     refine WL.nil ?_
     exact En.backP zb1 zh1 (a9_300, n9_300, c9_300, f9_300) (sc (sc (sc (sc sn)))) (fun _ h => ((((h).pm 3).pm 4).pm 4).sub (.cons_cons _ (.cons_cons _ (.cons_cons _ (.cons_cons _ (.cons _ (.cons _ (List.Sublist.refl _))))))))
    ·
     refine OpH.callX (ec rfl e0) ca_118 (fun w hs => w_spec_l10Edit e9_2 hs (fun w hs => (r0_0 _ (St.tl (F := [_, _, _]) hs)))) ?_
     rintro _ _ ⟨a9_200, n9_200, c9_200, f9_200, rfl, rfl⟩
     refine ⟨[_, _, _], rfl, ?_⟩
     refine al1 0 rfl ?_
     refine OpH.light (OpV.loadAll rfl mq2 ag_62) ?_
     refine ⟨[_, _, _], rfl, ?_⟩
     refine al1 3 rfl ?_
     refine OpH.callR (ec rfl (ec rfl e0)) ca_47 (fun w hs => w_spec_DoEdit e9_3 ((hs.mem mq4).2 _ (fun _ _ => rfl)) (Ow.rd (hs.mem mq0))) ?_
     rintro _ _ ⟨a9_300, n9_300, c9_300, f9_300, rfl, rfl⟩
     refine ⟨[_, _, _, _], rfl, ?_⟩
     refine tk 4 rfl (OpV.move rfl) ?_
     refine tk 5 rfl (OpV.extract rfl rfl) ?_
     refine tk 6 rfl (OpV.extract rfl rfl) ?_
     refine al0 7 rfl ?_
     refine OpH.storeTo (A := [_, _, _]) [_, _, _, _] rfl rfl rfl ts_62 rfl rfl rfl ?_
     refine ⟨[_, _, _, _], rfl, ?_⟩
     refine WAE.rebase (H := []) ?_
     refine WAE.done (by kernel_rfl) ?_ _
     refine En.block_norm (En.next (WC.region ?_))
     refine mv ?_
     refine sp (OpV.subR rfl rfl) ?_
     refine ag ?_
     refine WL.nil ?_
     exact En.backP zb1 zh1 (a9_300, n9_300, c9_300, f9_300) (sc (sc (sc (sc sn)))) (fun _ h => ((((h).pm 3).pm 4).pm 4).sub (.cons_cons _ (.cons_cons _ (.cons_cons _ (.cons_cons _ (.cons _ (.cons _ (List.Sublist.refl _))))))))
   ·
    intro hc_1
    replace zh1 := ifO_f hc_1 zh1
    refine WC.exit (En.then_exit (En.then_exit ?_))
    have hx := exitP ze1 zh1
    exact En.wk _ _ (sc (sc sn)) (fun _ h => (((h).pm 3).pm 3).pm 3) (zK1_0 ((s_1, s1_1, s2_1, s3_1, c_1, c1_1), (as_1, ns_1, cs_1, fs_1)) hx.symm)
 ·
  intro zK0_0
  refine WC.loopP (G := (Option Addr) × Nat × Nat × (List Nat)) (fun s g => match s, g with | (c_0, c1_0, s_0, s1_0, s2_0, s3_0, k_0), (as_0, ns_0, cs_0, fs_0) => [(0, .pointer (some ⟨b0, 0, .none⟩)), (2, .pointer (some ⟨b0_0, 0, .none⟩)), (3, .pointer (some ⟨b1_10, 0, .none⟩)), (4, .int .i64 k_0)]) (fun s g => match s, g with | (c_0, c1_0, s_0, s1_0, s2_0, s3_0, k_0), (as_0, ns_0, cs_0, fs_0) => (Chunk.box b0 142 [.slice q0_0 c_p0.b.length k0_0, .int .i64 c_0, .int .i64 c1_0] :: Chunk.box b0_0 62 [.int .i64 0, .int .i64 0, .int .i64 0, .slice .none 0 0] :: Chunk.box b1_10 62 [.int .i64 s_0, .int .i64 s1_0, .int .i64 s2_0, .slice as_0 ns_0 cs_0] :: Chunk.lie tSurface fs_0 as_0 ns_0 cs_0 s3_0 :: C)) (x2_1b.i, x2_1b.h, (wr (4 + x1_1a)), (wr (3 + x1_4a)), (or64 x1_7a 4278190080), [], x2_1a) (.none, 0, 0, []) ezy0 (by exact sc (sc (sc (sc sn)))) (by exact (fun _ h => ((((h).lieNil (A := tSurface)).pm 2).pm 3).pm 3)) ?_
  rintro zm0 ⟨c_0, c1_0, s_0, s1_0, s2_0, s3_0, k_0⟩ ⟨as_0, ns_0, cs_0, fs_0⟩ zo0 zf0 zb0 ze0
  have zh0 : spec_l10Scene_L0 c_p0 c_0 c1_0 s_0 s1_0 s2_0 s3_0 k_0 = some zo0 := zf0
  unfold spec_l10Scene_L0 at zh0
  show WC _ _ _ _ _ [(0, .pointer (some ⟨b0, 0, .none⟩)), (2, .pointer (some ⟨b0_0, 0, .none⟩)), (3, .pointer (some ⟨b1_10, 0, .none⟩)), (4, .int .i64 k_0)] (Chunk.box b0 142 [.slice q0_0 c_p0.b.length k0_0, .int .i64 c_0, .int .i64 c1_0] :: Chunk.box b0_0 62 [.int .i64 0, .int .i64 0, .int .i64 0, .slice .none 0 0] :: Chunk.box b1_10 62 [.int .i64 s_0, .int .i64 s1_0, .int .i64 s2_0, .slice as_0 ns_0 cs_0] :: Chunk.lie tSurface fs_0 as_0 ns_0 cs_0 s3_0 :: C)
  refine WC.seq (WC.sr ?_)
  refine mv ?_
  refine sp (OpV.gtr rfl rfl) ?_
  refine WL.nil (En.next ?_)
  refine WC.cond rfl ?_ ?_
  ·
   intro hc_2
   replace zh0 := ifO_t hc_2 zh0
   refine WC.skip (En.next (WC.seq (WC.block ?_)))
   obtain ⟨⟨x5_3a, x5_3b⟩, e5_3, zh0⟩ := bnd zh0
   obtain ⟨⟨x5_6a, x5_6b⟩, e5_6, zh0⟩ := bnd zh0
   obtain ⟨⟨x5_9a, x5_9b⟩, e5_9, zh0⟩ := bnd zh0
   obtain ⟨⟨x5_11a, x5_11b⟩, e5_11, zh0⟩ := bnd zh0
   refine WC.wkF (fun _ h => h.pm 2) ?_
   refine WC.wkF (fun _ h => h.pm 1) ?_
   refine WC.drawnH [_, _] (_ :: _ :: C) (fun _ h => h) (by kernel_rfl) ?_
   refine tk 1 rfl (OpV.move rfl) ?_
   refine tk 2 rfl (OpV.move rfl) ?_
   refine tk 5 rfl (OpV.move rfl) ?_
   refine tk 8 rfl (OpV.move rfl) ?_
   refine WAE.all (rs := [0, 3]) (by kernel_rfl) rfl (AllR.cons rfl rfl rfl rfl ?_ (AllR.cons rfl rfl rfl rfl ?_ AllR.nil))
   ·
    refine OpH.light (OpV.loadAll rfl mq1 ag_62) ?_
    refine ⟨[_, _], rfl, ?_⟩
    refine al1 3 rfl ?_
    refine OpH.callX (ec rfl (ec rfl e0)) ca_81 (fun w hs => w_spec_l01Below e5_3 hs (fun w hs => (r0_0 _ (St.tl (F := [_, _, _]) hs)))) ?_
    rintro _ _ ⟨rfl, rfl⟩
    refine ⟨[_, _], rfl, ?_⟩
    refine tk 4 rfl (OpV.subR rfl rfl) ?_
    refine al1 6 rfl ?_
    refine OpH.callX (ec rfl (ec rfl e0)) ca_81 (fun w hs => w_spec_l01Below e5_6 hs (fun w hs => (r0_0 _ (St.tl (F := [_, _, _]) hs)))) ?_
    rintro _ _ ⟨rfl, rfl⟩
    refine ⟨[_, _], rfl, ?_⟩
    refine tk 7 rfl (OpV.subR rfl rfl) ?_
    refine al1 9 rfl ?_
    refine OpH.callX (ec rfl (ec rfl e0)) ca_117 (fun w hs => w_spec_l05Image e5_9 hs (fun w hs => (r0_0 _ (St.tl (F := [_, _, _]) hs)))) ?_
    rintro _ _ ⟨a5_900, n5_900, c5_900, f5_900, rfl, rfl⟩
    refine ⟨[_, _, _], rfl, ?_⟩
    refine tk 10 rfl (OpV.build (evps.cons rfl (evps.cons rfl (evps.cons rfl (evps.cons rfl (evps.nil))))) (bd_91_1_2_3_4 _ _ _ _ _ _ _ _)) ?_
    refine al1 11 rfl ?_
    refine OpH.callR (ec rfl (ec rfl e0)) ca_47 (fun w hs => w_spec_DoEdit e5_11 ((hs.mem mq4).2 _ (fun _ _ => rfl)) (Ow.rd (hs.mem mq0))) ?_
    rintro _ _ ⟨a5_1100, n5_1100, c5_1100, f5_1100, rfl, rfl⟩
    refine ⟨[_, _, _, _], rfl, ?_⟩
    refine tk 12 rfl (OpV.move rfl) ?_
    refine tk 13 rfl (OpV.extract rfl rfl) ?_
    refine tk 14 rfl (OpV.extract rfl rfl) ?_
    refine al0 15 rfl ?_
    refine OpH.storeTo (A := [_, _, _]) [_, _, _, _] rfl rfl rfl ts_62 rfl rfl rfl ?_
    refine ⟨[_, _, _, _], rfl, ?_⟩
    refine WAE.rebase (H := []) ?_
    refine WAE.done (by kernel_rfl) ?_ _
    refine En.block_norm (En.next (WC.region ?_))
    refine mv ?_
    refine sp (OpV.subR rfl rfl) ?_
    refine ag ?_
    refine WL.nil ?_
    exact En.backP zb0 zh0 (a5_1100, n5_1100, c5_1100, f5_1100) (sc (sc (sc (sc sn)))) (fun _ h => ((((h).pm 3).pm 4).pm 4).sub (.cons_cons _ (.cons_cons _ (.cons_cons _ (.cons_cons _ (.cons _ (.cons _ (List.Sublist.refl _))))))))
   ·
    refine OpH.callX (ec rfl (ec rfl e0)) ca_81 (fun w hs => w_spec_l01Below e5_3 hs (fun w hs => (r0_0 _ (St.tl (F := [_, _, _]) hs)))) ?_
    rintro _ _ ⟨rfl, rfl⟩
    refine ⟨[_, _], rfl, ?_⟩
    refine tk 4 rfl (OpV.subR rfl rfl) ?_
    refine WAE.all (rs := [0, 6]) (by kernel_rfl) rfl (AllR.cons rfl rfl rfl rfl ?_ (AllR.cons rfl rfl rfl rfl ?_ AllR.nil))
    ·
     refine OpH.light (OpV.loadAll rfl mq1 ag_62) ?_
     refine ⟨[_, _], rfl, ?_⟩
     refine al1 6 rfl ?_
     refine OpH.callX (ec rfl (ec rfl e0)) ca_81 (fun w hs => w_spec_l01Below e5_6 hs (fun w hs => (r0_0 _ (St.tl (F := [_, _, _]) hs)))) ?_
     rintro _ _ ⟨rfl, rfl⟩
     refine ⟨[_, _], rfl, ?_⟩
     refine tk 7 rfl (OpV.subR rfl rfl) ?_
     refine al1 9 rfl ?_
     refine OpH.callX (ec rfl (ec rfl e0)) ca_117 (fun w hs => w_spec_l05Image e5_9 hs (fun w hs => (r0_0 _ (St.tl (F := [_, _, _]) hs)))) ?_
     rintro _ _ ⟨a5_900, n5_900, c5_900, f5_900, rfl, rfl⟩
     refine ⟨[_, _, _], rfl, ?_⟩
     refine tk 10 rfl (OpV.build (evps.cons rfl (evps.cons rfl (evps.cons rfl (evps.cons rfl (evps.nil))))) (bd_91_1_2_3_4 _ _ _ _ _ _ _ _)) ?_
     refine al1 11 rfl ?_
     refine OpH.callR (ec rfl (ec rfl e0)) ca_47 (fun w hs => w_spec_DoEdit e5_11 ((hs.mem mq4).2 _ (fun _ _ => rfl)) (Ow.rd (hs.mem mq0))) ?_
     rintro _ _ ⟨a5_1100, n5_1100, c5_1100, f5_1100, rfl, rfl⟩
     refine ⟨[_, _, _, _], rfl, ?_⟩
     refine tk 12 rfl (OpV.move rfl) ?_
     refine tk 13 rfl (OpV.extract rfl rfl) ?_
     refine tk 14 rfl (OpV.extract rfl rfl) ?_
     refine al0 15 rfl ?_
     refine OpH.storeTo (A := [_, _, _]) [_, _, _, _] rfl rfl rfl ts_62 rfl rfl rfl ?_
     refine ⟨[_, _, _, _], rfl, ?_⟩
     refine WAE.rebase (H := []) ?_
     refine WAE.done (by kernel_rfl) ?_ _
     refine En.block_norm (En.next (WC.region ?_))
     refine mv ?_
     refine sp (OpV.subR rfl rfl) ?_
     refine ag ?_
     refine WL.nil ?_
     exact En.backP zb0 zh0 (a5_1100, n5_1100, c5_1100, f5_1100) (sc (sc (sc (sc sn)))) (fun _ h => ((((h).pm 3).pm 4).pm 4).sub (.cons_cons _ (.cons_cons _ (.cons_cons _ (.cons_cons _ (.cons _ (.cons _ (List.Sublist.refl _))))))))
    ·
     refine OpH.callX (ec rfl (ec rfl e0)) ca_81 (fun w hs => w_spec_l01Below e5_6 hs (fun w hs => (r0_0 _ (St.tl (F := [_, _, _]) hs)))) ?_
     rintro _ _ ⟨rfl, rfl⟩
     refine ⟨[_, _], rfl, ?_⟩
     refine tk 7 rfl (OpV.subR rfl rfl) ?_
     refine WAE.all (rs := [0, 9]) (by kernel_rfl) rfl (AllR.cons rfl rfl rfl rfl ?_ (AllR.cons rfl rfl rfl rfl ?_ AllR.nil))
     ·
      refine OpH.light (OpV.loadAll rfl mq1 ag_62) ?_
      refine ⟨[_, _], rfl, ?_⟩
      refine al1 9 rfl ?_
      refine OpH.callX (ec rfl (ec rfl e0)) ca_117 (fun w hs => w_spec_l05Image e5_9 hs (fun w hs => (r0_0 _ (St.tl (F := [_, _, _]) hs)))) ?_
      rintro _ _ ⟨a5_900, n5_900, c5_900, f5_900, rfl, rfl⟩
      refine ⟨[_, _, _], rfl, ?_⟩
      refine tk 10 rfl (OpV.build (evps.cons rfl (evps.cons rfl (evps.cons rfl (evps.cons rfl (evps.nil))))) (bd_91_1_2_3_4 _ _ _ _ _ _ _ _)) ?_
      refine al1 11 rfl ?_
      refine OpH.callR (ec rfl (ec rfl e0)) ca_47 (fun w hs => w_spec_DoEdit e5_11 ((hs.mem mq4).2 _ (fun _ _ => rfl)) (Ow.rd (hs.mem mq0))) ?_
      rintro _ _ ⟨a5_1100, n5_1100, c5_1100, f5_1100, rfl, rfl⟩
      refine ⟨[_, _, _, _], rfl, ?_⟩
      refine tk 12 rfl (OpV.move rfl) ?_
      refine tk 13 rfl (OpV.extract rfl rfl) ?_
      refine tk 14 rfl (OpV.extract rfl rfl) ?_
      refine al0 15 rfl ?_
      refine OpH.storeTo (A := [_, _, _]) [_, _, _, _] rfl rfl rfl ts_62 rfl rfl rfl ?_
      refine ⟨[_, _, _, _], rfl, ?_⟩
      refine WAE.rebase (H := []) ?_
      refine WAE.done (by kernel_rfl) ?_ _
      refine En.block_norm (En.next (WC.region ?_))
      refine mv ?_
      refine sp (OpV.subR rfl rfl) ?_
      refine ag ?_
      refine WL.nil ?_
      exact En.backP zb0 zh0 (a5_1100, n5_1100, c5_1100, f5_1100) (sc (sc (sc (sc sn)))) (fun _ h => ((((h).pm 3).pm 4).pm 4).sub (.cons_cons _ (.cons_cons _ (.cons_cons _ (.cons_cons _ (.cons _ (.cons _ (List.Sublist.refl _))))))))
     ·
      refine OpH.callX (ec rfl (ec rfl e0)) ca_117 (fun w hs => w_spec_l05Image e5_9 hs (fun w hs => (r0_0 _ (St.tl (F := [_, _, _]) hs)))) ?_
      rintro _ _ ⟨a5_900, n5_900, c5_900, f5_900, rfl, rfl⟩
      refine ⟨[_, _, _], rfl, ?_⟩
      refine tk 10 rfl (OpV.build (evps.cons rfl (evps.cons rfl (evps.cons rfl (evps.cons rfl (evps.nil))))) (bd_91_1_2_3_4 _ _ _ _ _ _ _ _)) ?_
      refine al1 0 rfl ?_
      refine OpH.light (OpV.loadAll rfl mq2 ag_62) ?_
      refine ⟨[_, _, _], rfl, ?_⟩
      refine al1 11 rfl ?_
      refine OpH.callR (ec rfl (ec rfl e0)) ca_47 (fun w hs => w_spec_DoEdit e5_11 ((hs.mem mq4).2 _ (fun _ _ => rfl)) (Ow.rd (hs.mem mq0))) ?_
      rintro _ _ ⟨a5_1100, n5_1100, c5_1100, f5_1100, rfl, rfl⟩
      refine ⟨[_, _, _, _], rfl, ?_⟩
      refine tk 12 rfl (OpV.move rfl) ?_
      refine tk 13 rfl (OpV.extract rfl rfl) ?_
      refine tk 14 rfl (OpV.extract rfl rfl) ?_
      refine al0 15 rfl ?_
      refine OpH.storeTo (A := [_, _, _]) [_, _, _, _] rfl rfl rfl ts_62 rfl rfl rfl ?_
      refine ⟨[_, _, _, _], rfl, ?_⟩
      refine WAE.rebase (H := []) ?_
      refine WAE.done (by kernel_rfl) ?_ _
      refine En.block_norm (En.next (WC.region ?_))
      refine mv ?_
      refine sp (OpV.subR rfl rfl) ?_
      refine ag ?_
      refine WL.nil ?_
      exact En.backP zb0 zh0 (a5_1100, n5_1100, c5_1100, f5_1100) (sc (sc (sc (sc sn)))) (fun _ h => ((((h).pm 3).pm 4).pm 4).sub (.cons_cons _ (.cons_cons _ (.cons_cons _ (.cons_cons _ (.cons _ (.cons _ (List.Sublist.refl _))))))))
  ·
   intro hc_2
   replace zh0 := ifO_f hc_2 zh0
   refine WC.exit (En.then_exit (En.then_exit ?_))
   have hx := exitP ze0 zh0
   exact En.wk _ _ (sc (sc (sc sn))) (fun _ h => h) (zK0_0 ((c_0, c1_0, s_0, s1_0, s2_0, s3_0), (as_0, ns_0, cs_0, fs_0)) hx.symm)

theorem w_spec_l21Options {c_p0 : L01CurT} {r : OptionsT × L01CurT} {b0 : Nat} {q0_0 : Option Addr} {l0_0 k0_0 : Nat} (h : spec_l21Options c_p0 = some r) {w0 w : World} {C : List Chunk} (hs0 : St w0 (Chunk.box b0 142 [.slice q0_0 l0_0 k0_0, .int .i64 c_p0.i, .int .i64 c_p0.h] :: C) w) (r0_0 : ∀ w, St w0 C w → Rd tU8 w q0_0 l0_0 k0_0 c_p0.b) :
    Calls Try.prog 77 #[.pointer (some ⟨b0, 0, .none⟩)] w (fun en w' => ∃ rv G, en = .returned rv ∧ (rv = .agg #[.int .i64 r.1.Overlays, .bool r.1.Cursor, .int .i64 r.1.Layout, .bool r.1.Partial, .bool r.1.Sleep, .bool r.1.Secret] ∧ G = Chunk.box b0 142 [.slice q0_0 l0_0 k0_0, .int .i64 r.2.i, .int .i64 r.2.h] :: C) ∧ St w0 G w') := by
 obtain rfl := (r0_0 _ (St.tl (F := [_]) hs0)).1
 unfold spec_l21Options at h
 refine enterF hs0 (vs := [_]) Try.func77 rfl rfl rfl rfl ?_
 refine WC.sr ?_
 refine WL.heavy rfl rfl rfl (OpH.alloc zc_64 ?_)
 intro b0_0
 refine WL.nil (En.next (WC.seq ?_))
 obtain ⟨⟨x1_1a, x1_1b⟩, e1_1, h⟩ := bnd h
 obtain ⟨⟨x1_3a, x1_3b⟩, e1_3, h⟩ := bnd h
 obtain ⟨⟨x1_5a, x1_5b⟩, e1_5, h⟩ := bnd h
 refine WC.region ?_
 refine mv ?_
 refine WL.wkF (fun _ h => h.pm 1) ?_
 refine WL.heavy rfl rfl rfl (OpH.callX (ec rfl (ec rfl e0)) ca_81 (fun w hs => w_spec_l01Below e1_1 hs (fun w hs => (r0_0 _ (St.tl (F := [_]) hs)))) ?_)
 rintro _ _ ⟨rfl, rfl⟩
 refine mv ?_
 refine WL.heavy rfl rfl rfl (OpH.callX (ec rfl (ec rfl e0)) ca_114 (fun w hs => w_spec_l01Once e1_3 hs (fun w hs => (r0_0 _ (St.tl (F := [_]) hs)))) ?_)
 rintro _ _ ⟨rfl, rfl⟩
 refine mv ?_
 refine WL.heavy rfl rfl rfl (OpH.callX (ec rfl (ec rfl e0)) ca_81 (fun w hs => w_spec_l01Below e1_5 hs (fun w hs => (r0_0 _ (St.tl (F := [_]) hs)))) ?_)
 rintro _ _ ⟨rfl, rfl⟩
 refine sp (OpV.build (evps.cons rfl (evps.cons rfl (evps.cons rfl (evps.nil)))) (bd_64_0_1_2 _ _ _)) ?_
 refine WL.heavy rfl rfl rfl (OpH.alloc zc_64 ?_)
 intro b1_7
 refine WL.heavy0 rfl rfl (OpH.storeTo (A := []) [_, _, _, _, _, _] rfl rfl rfl ts_64 rfl rfl rfl ?_)
 refine WL.nil (En.next (WC.seq ?_))
 obtain ⟨⟨x2_1a, x2_1b⟩, e2_1, h⟩ := bnd h
 refine WC.region ?_
 refine mv ?_
 refine WL.wkF (fun _ h => h.pm 1) ?_
 refine WL.heavy rfl rfl rfl (OpH.callX (ec rfl (ec rfl e0)) ca_114 (fun w hs => w_spec_l01Once e2_1 hs (fun w hs => (r0_0 _ (St.tl (F := [_, _]) hs)))) ?_)
 rintro _ _ ⟨rfl, rfl⟩
 refine sp (OpV.fieldAddr rfl fo_64_3) ?_
 refine WL.heavy0 rfl rfl (OpH.storeTo (A := [_]) [_, _, _, _, _, _] rfl rfl rfl ts_4 rfl rfl rfl ?_)
 refine WL.nil (En.next (WC.seq ?_))
 obtain ⟨⟨x3_1a, x3_1b⟩, e3_1, h⟩ := bnd h
 refine WC.region ?_
 refine mv ?_
 refine WL.heavy rfl rfl rfl (OpH.callX (ec rfl (ec rfl e0)) ca_114 (fun w hs => w_spec_l01Once e3_1 hs (fun w hs => (r0_0 _ (St.tl (F := [_, _]) hs)))) ?_)
 rintro _ _ ⟨rfl, rfl⟩
 refine sp (OpV.fieldAddr rfl fo_64_4) ?_
 refine WL.heavy0 rfl rfl (OpH.storeTo (A := [_]) [_, _, _, _, _, _] rfl rfl rfl ts_4 rfl rfl rfl ?_)
 refine WL.nil (En.next (WC.seq ?_))
 obtain ⟨⟨x4_1a, x4_1b⟩, e4_1, h⟩ := bnd h
 refine WC.region ?_
 refine mv ?_
 refine WL.heavy rfl rfl rfl (OpH.callX (ec rfl (ec rfl e0)) ca_114 (fun w hs => w_spec_l01Once e4_1 hs (fun w hs => (r0_0 _ (St.tl (F := [_, _]) hs)))) ?_)
 rintro _ _ ⟨rfl, rfl⟩
 refine sp (OpV.fieldAddr rfl fo_64_5) ?_
 refine WL.heavy0 rfl rfl (OpH.storeTo (A := [_]) [_, _, _, _, _, _] rfl rfl rfl ts_4 rfl rfl rfl ?_)
 refine WL.nil (En.next (WC.sr ?_))
 refine sp (OpV.loadAll rfl mq1 ag_64) ?_
 refine WL.heavy0 rfl rfl (OpH.storeTo (A := [_, _]) [_, _, _, _, _, _] rfl rfl rfl ts_64 rfl rfl rfl ?_)
 refine WL.nil (En.next (WC.ret ?_))
 refine En.ret1 rfl (Res.cell rfl mq2 ag_64) ?_
 obtain rfl := Option.some.inj h
 intro w' hs
 have hs := (hs).sub (.cons_cons _ (.cons _ (.cons _ (List.Sublist.refl _))))
 exact ⟨_, _, rfl, ⟨rfl, rfl⟩, hs⟩

theorem w_spec_DrawAssignment {code_p0 : List Int} {r : SceneT × OptionsT} {q0_0 : Option Addr} {l0_0 k0_0 : Nat} (h : spec_DrawAssignment code_p0 = some r) {w : World} (r0_0 : Rd tU8 w q0_0 l0_0 k0_0 code_p0)   :
    Calls Try.prog 31 #[.slice q0_0 l0_0 k0_0] w (fun en w' => ∃ rv G, en = .returned rv ∧ (∃ (a0_0 : Option Addr) (n0_0 : Nat) (c0_0 : Nat) (f0_0 : List Nat), rv = .tuple #[.agg #[.int .i64 r.1.W, .int .i64 r.1.H, .int .i64 r.1.Back, .slice a0_0 n0_0 c0_0], .agg #[.int .i64 r.2.Overlays, .bool r.2.Cursor, .int .i64 r.2.Layout, .bool r.2.Partial, .bool r.2.Sleep, .bool r.2.Secret]] ∧ G = [Chunk.lie tSurface f0_0 a0_0 n0_0 c0_0 r.1.Surfaces]) ∧ St w G w') := by
 obtain rfl := r0_0.1
 unfold spec_DrawAssignment at h
 refine enter (vs := [_]) Try.func31 rfl rfl rfl rfl ?_
 refine WC.sr ?_
 refine WL.heavy rfl rfl rfl (OpH.alloc zc_62 ?_)
 intro b0_0
 refine WL.heavy rfl rfl rfl (OpH.alloc zc_64 ?_)
 intro b0_1
 refine WL.nil (En.next (WC.seq ?_))
 obtain ⟨x1_1, e1_1, h⟩ := bnd h
 refine WC.region ?_
 refine mv ?_
 refine WL.heavy rfl rfl rfl (OpH.callR (ec rfl e0) ca_69 (fun w hs => w_spec_l01New e1_1 (r0_0.ext hs.below)) ?_)
 rintro _ _ ⟨b1_10p, rfl, rfl⟩
 refine ag ?_
 refine WL.nil (En.next (WC.seq ?_))
 obtain ⟨⟨x2_1a, x2_1b⟩, e2_1, h⟩ := bnd h
 refine WC.region ?_
 refine mv ?_
 refine WL.heavy rfl rfl rfl (OpH.callX (ec rfl e0) ca_76 (fun w hs => w_spec_l10Scene e2_1 hs (fun w hs => (r0_0.ext hs.below))) ?_)
 rintro _ _ ⟨a2_100, n2_100, c2_100, f2_100, rfl, rfl⟩
 refine WL.heavy rfl rfl rfl (OpH.alloc zc_62 ?_)
 intro b2_2
 refine WL.heavy0 rfl rfl (OpH.storeTo (A := []) [_, _, _, _] rfl rfl rfl ts_62 rfl rfl rfl ?_)
 refine WL.nil (En.next (WC.seq ?_))
 obtain ⟨⟨x3_2a, x3_2b⟩, e3_2, h⟩ := bnd h
 refine WC.wkF (fun _ h => h.pm 4) ?_
 refine WC.wkF (fun _ h => h.pm 4) ?_
 refine WC.wkF (fun _ h => h.pm 4) ?_
 refine WC.drawnH [_, _, _] ([_, _]) (fun _ h => h) (by kernel_rfl) ?_
 refine tk 0 rfl (OpV.loadAll rfl mq0 ag_62) ?_
 refine tk 1 rfl (OpV.move rfl) ?_
 refine al1 2 rfl ?_
 refine OpH.callX (ec rfl e0) ca_77 (fun w hs => w_spec_l21Options e3_2 hs (fun w hs => (r0_0.ext hs.below))) ?_
 rintro _ _ ⟨rfl, rfl⟩
 refine ⟨[_, _, _], rfl, ?_⟩
 refine al0 3 rfl ?_
 refine OpH.storeTo (A := [_, _]) [_, _, _, _] rfl rfl rfl ts_62 rfl rfl rfl ?_
 refine ⟨[_, _, _], rfl, ?_⟩
 refine al0 4 rfl ?_
 refine OpH.storeTo (A := [_]) [_, _, _, _, _, _] rfl rfl rfl ts_64 rfl rfl rfl ?_
 refine ⟨[_, _, _], rfl, ?_⟩
 refine WAE.rebase (H := []) ?_
 refine WAE.done (by kernel_rfl) ?_ _
 refine En.next (WC.ret ?_)
 refine En.ret2 rfl (Res.cell rfl mq2 ag_62) (Res.cell rfl mq1 ag_64) ?_
 obtain rfl := Option.some.inj h
 intro w' hs
 have hs := ((hs).pm 4).sub (.cons_cons _ (.cons _ (.cons _ (.cons _ (.cons _ (.slnil))))))
 exact ⟨_, _, rfl, ⟨a2_100, n2_100, c2_100, f2_100, rfl, rfl⟩, hs⟩

theorem w_laws_at {code_p0 : List Int} {i_p1 : Int} {r : Int} {q0_0 : Option Addr} {l0_0 k0_0 : Nat} (h : laws_at code_p0 i_p1 = some r) {w : World} (r0_0 : Rd tU8 w q0_0 l0_0 k0_0 code_p0)   :
    Calls Try.prog 32 #[.slice q0_0 l0_0 k0_0, .int .i64 i_p1] w (fun en w' => en = .returned (.int .i64 r) ∧ Ext w w') := by
 obtain rfl := r0_0.1
 unfold laws_at at h
 refine enter (vs := [_, _]) Try.func32 rfl rfl rfl rfl ?_
 refine WC.sr ?_
 refine ag ?_
 refine WL.nil (En.next (WC.seq (WC.sr ?_)))
 refine mv ?_
 refine sp (OpV.len rfl si_49 rfl) ?_
 refine sp (OpV.eql rfl rfl) ?_
 refine WL.nil (En.next ?_)
 refine WC.cond rfl ?_ ?_
 ·
  intro hc_1
  replace h := ifO_t hc_1 h
  refine WC.sr ?_
  refine ag ?_
  refine WL.nil (En.next (WC.ret (En.then_ret ?_)))
  refine En.ret1 rfl (Res.tmp rfl) ?_
  obtain rfl := Option.some.inj h
  intro w' hs
  exact ⟨rfl, hs.below⟩
 ·
  intro hc_1
  replace h := ifO_f hc_1 h
  refine WC.skip (En.next (WC.seq ?_))
  obtain ⟨x3_6, e3_6, h⟩ := bnd h
  obtain ⟨x3_7, e3_7, h⟩ := bnd h
  obtain ⟨g3_7, o3_7, _, ha3_7, rfl, hd3_7⟩ := Rd.atIdx r0_0 e3_7
  replace hd3_7 : ∀ (j : Nat) v, ([.int .u8 x3_7] : List Value)[j]? = some v → w.cell? ⟨g3_7, o3_7 + x3_6.toNat * 1 + j, .none⟩ = some v := hd3_7
  refine WC.region ?_
  refine mv ?_
  refine mv ?_
  refine sp (OpV.mulR rfl rfl) ?_
  refine sp (OpV.addR rfl rfl) ?_
  refine mv ?_
  refine sp (OpV.len rfl si_49 rfl) ?_
  refine sp (OpV.remR rfl rfl e3_6) ?_
  refine sp (OpV.idxA rfl rfl se_49 ha3_7 ⟨(idx_some e3_7).1, (idx_some e3_7).2.1⟩) ?_
  refine sp (OpV.load1 rfl pt_5 (fun w hs => hs.cell (hd3_7 0 _ rfl))) ?_
  refine sp (OpV.convR rfl uS_5 ui_3_i64) ?_
  refine ag ?_
  refine WL.nil (En.next (WC.ret ?_))
  refine En.ret1 rfl (Res.tmp rfl) ?_
  obtain rfl := Option.some.inj h
  intro w' hs
  exact ⟨rfl, hs.below⟩

theorem w_impl_within {n_p0 : Int} {low_p1 : Int} {high_p2 : Int} {r : Bool}  (h : impl_within n_p0 low_p1 high_p2 = some r) {w : World}    :
    Calls Try.prog 87 #[.int .i64 n_p0, .int .i64 low_p1, .int .i64 high_p2] w (fun en w' => en = .returned (.bool r) ∧ Ext w w') := by
 unfold impl_within at h
 refine enter (vs := [_, _, _]) Try.func87 rfl rfl rfl rfl ?_
 refine WC.sr ?_
 refine ag ?_
 refine WL.nil (En.next (WC.sr ?_))
 refine mv ?_
 refine mv ?_
 refine sp (OpV.leq rfl rfl) ?_
 refine mv ?_
 refine Lt.ofWL.and 10 14 13 (p := ?pz1) (rest := ?qz1) (B := ?Bz1) rfl ?Tz1 ?Fz1 ?az1 ?bz1 ?cz1 ?dz1 ?ez1
 case Tz1 =>
  intro hcz1 hkz1
  refine mv ?_
  refine mv ?_
  refine sp (OpV.leq rfl rfl) ?_
  refine hkz1 _ ?_ ?_
  exact rfl
  repeat (first | exact Sub.refl _ | refine Sub.skip rfl ?_)
 case Fz1 =>
  intro hcz1 hkz1
  refine sk ?_
  refine sk ?_
  refine sk ?_
  refine hkz1 _ ?_
  repeat (first | exact Sub.refl _ | refine Sub.skip rfl ?_)
 case az1 => exact rfl
 case bz1 => exact rfl
 case cz1 => exact rfl
 case dz1 => exact rfl
 refine ag ?_
 refine WL.nil (En.next (WC.ret ?_))
 refine En.ret1 rfl (Res.tmp rfl) ?_
 obtain rfl := Option.some.inj h
 intro w' hs
 exact ⟨rfl, hs.below⟩

theorem w_impl_isSide {n_p0 : Int} {r : Bool}  (h : impl_isSide n_p0 = some r) {w : World}    :
    Calls Try.prog 88 #[.int .i64 n_p0] w (fun en w' => en = .returned (.bool r) ∧ Ext w w') := by
 unfold impl_isSide at h
 refine enter (vs := [_]) Try.func88 rfl rfl rfl rfl ?_
 refine WC.sr ?_
 refine ag ?_
 refine WL.nil (En.next (WC.seq ?_))
 obtain ⟨x1_1, e1_1, h⟩ := bnd h
 refine WC.region ?_
 refine mv ?_
 refine sp (OpV.call (ec rfl (ec rfl (ec rfl e0))) ca_87 (fun w hs => w_impl_within e1_1)) ?_
 refine ag ?_
 refine WL.nil (En.next (WC.ret ?_))
 refine En.ret1 rfl (Res.tmp rfl) ?_
 obtain rfl := Option.some.inj h
 intro w' hs
 exact ⟨rfl, hs.below⟩

theorem w_impl_isPixel {p_p0 : Int} {r : Bool}  (h : impl_isPixel p_p0 = some r) {w : World}    :
    Calls Try.prog 134 #[.int .i64 p_p0] w (fun en w' => en = .returned (.bool r) ∧ Ext w w') := by
 unfold impl_isPixel at h
 refine enter (vs := [_]) Try.func134 rfl rfl rfl rfl ?_
 refine WC.sr ?_
 refine ag ?_
 refine WL.nil (En.next (WC.seq ?_))
 obtain ⟨x1_1, e1_1, h⟩ := bnd h
 refine WC.region ?_
 refine mv ?_
 refine sp (OpV.call (ec rfl (ec rfl (ec rfl e0))) ca_87 (fun w hs => w_impl_within e1_1)) ?_
 refine ag ?_
 refine WL.nil (En.next (WC.ret ?_))
 refine En.ret1 rfl (Res.tmp rfl) ?_
 obtain rfl := Option.some.inj h
 intro w' hs
 exact ⟨rfl, hs.below⟩

theorem w_impl_channel {p_p0 : Int} {k_p1 : Int} {r : Int}  (h : impl_channel p_p0 k_p1 = some r) {w : World}    :
    Calls Try.prog 135 #[.int .i64 p_p0, .int .i64 k_p1] w (fun en w' => en = .returned (.int .i64 r) ∧ Ext w w') := by
 unfold impl_channel at h
 refine enter (vs := [_, _]) Try.func135 rfl rfl rfl rfl ?_
 refine WC.sr ?_
 refine ag ?_
 refine WL.nil (En.next (WC.seq ?_))
 obtain ⟨x1_4, e1_4, h⟩ := bnd h
 refine WC.region ?_
 refine mv ?_
 refine mv ?_
 refine sp (OpV.mulR rfl rfl) ?_
 refine sp (OpV.subR rfl rfl) ?_
 refine sp (OpV.shrR rfl rfl e1_4) ?_
 refine sp (OpV.andR rfl rfl) ?_
 refine ag ?_
 refine WL.nil (En.next (WC.ret ?_))
 refine En.ret1 rfl (Res.tmp rfl) ?_
 obtain rfl := Option.some.inj h
 intro w' hs
 exact ⟨rfl, hs.below⟩

theorem w_impl_isOpaquePixel {p_p0 : Int} {r : Bool}  (h : impl_isOpaquePixel p_p0 = some r) {w : World}    :
    Calls Try.prog 92 #[.int .i64 p_p0] w (fun en w' => en = .returned (.bool r) ∧ Ext w w') := by
 unfold impl_isOpaquePixel at h
 refine enter (vs := [_]) Try.func92 rfl rfl rfl rfl ?_
 refine WC.sr ?_
 refine ag ?_
 refine WL.nil (En.next (WC.seq ?_))
 obtain ⟨x1_1, e1_1, h⟩ := bnd h
 obtain ⟨q1_6, e1_6, h⟩ := bnd h
 refine WC.region ?_
 refine mv ?_
 refine sp (OpV.call (ec rfl e0) ca_134 (fun w hs => w_impl_isPixel e1_1)) ?_
 refine mv ?_
 refine Lt.ofWL.andQ 5 9 8 (p := ?pz1) (rest := ?qz1) (B := q1_6) rfl (fun hz => andO_f e1_6 hz) ?Tz1 ?Fz1 ?az1 ?bz1 ?cz1 ?dz1 ?ez1
 case Tz1 =>
  intro hcz1 hkz1
  have hqz1 := andO_t e1_6 hcz1
  obtain ⟨x1_4, e1_4, hqz1⟩ := bnd hqz1
  obtain rfl := Option.some.inj hqz1
  refine mv ?_
  refine sp (OpV.call (ec rfl (ec rfl e0)) ca_135 (fun w hs => w_impl_channel e1_4)) ?_
  refine sp (OpV.eql rfl rfl) ?_
  refine hkz1 _ ?_ ?_
  exact rfl
  repeat (first | exact Sub.refl _ | refine Sub.skip rfl ?_)
 case Fz1 =>
  intro hcz1 hkz1
  refine sk ?_
  refine sk ?_
  refine sk ?_
  refine hkz1 _ ?_
  repeat (first | exact Sub.refl _ | refine Sub.skip rfl ?_)
 case az1 => exact rfl
 case bz1 => exact rfl
 case cz1 => exact rfl
 case dz1 => exact rfl
 refine ag ?_
 refine WL.nil (En.next (WC.ret ?_))
 refine En.ret1 rfl (Res.tmp rfl) ?_
 obtain rfl := Option.some.inj h
 intro w' hs
 exact ⟨rfl, hs.below⟩

theorem w_impl_isOrient {o_p0 : Int} {r : Bool}  (h : impl_isOrient o_p0 = some r) {w : World}    :
    Calls Try.prog 153 #[.int .i64 o_p0] w (fun en w' => en = .returned (.bool r) ∧ Ext w w') := by
 unfold impl_isOrient at h
 refine enter (vs := [_]) Try.func153 rfl rfl rfl rfl ?_
 refine WC.sr ?_
 refine ag ?_
 refine WL.nil (En.next (WC.seq ?_))
 obtain ⟨x1_1, e1_1, h⟩ := bnd h
 refine WC.region ?_
 refine mv ?_
 refine sp (OpV.call (ec rfl (ec rfl (ec rfl e0))) ca_87 (fun w hs => w_impl_within e1_1)) ?_
 refine ag ?_
 refine WL.nil (En.next (WC.ret ?_))
 refine En.ret1 rfl (Res.tmp rfl) ?_
 obtain rfl := Option.some.inj h
 intro w' hs
 exact ⟨rfl, hs.below⟩

theorem w_impl_ImageOk {i_p0 : ImageT} {r : Bool} {q0_0 : Option Addr} {l0_0 k0_0 : Nat} (h : impl_ImageOk i_p0 = some r) {w : World} (r0_0 : Rd tInt w q0_0 l0_0 k0_0 i_p0.Data)   :
    Calls Try.prog 95 #[.agg #[.int .i64 i_p0.W, .int .i64 i_p0.H, .slice q0_0 l0_0 k0_0]] w (fun en w' => en = .returned (.bool r) ∧ Ext w w') := by
 obtain rfl := r0_0.1
 unfold impl_ImageOk at h
 refine enter (vs := [_]) Try.func95 rfl rfl rfl rfl ?_
 refine WC.sr ?_
 refine WL.heavy rfl rfl rfl (OpH.box rfl rfl ?_)
 intro b0_0
 refine ag ?_
 refine WL.nil (En.next (WC.seq (WC.seq ?_)))
 obtain ⟨x1_2, e1_2, h⟩ := bnd h
 obtain ⟨q1_9, e1_9, h⟩ := bnd h
 refine WC.region ?_
 refine sp (OpV.fieldAddr rfl fo_71_0) ?_
 refine sp (OpV.loadBox rfl pt_3 mq0 rfl) ?_
 refine sp (OpV.call (ec rfl e0) ca_88 (fun w hs => w_impl_isSide e1_2)) ?_
 refine sp (OpV.not rfl) ?_
 refine mv ?_
 refine Lt.ofWL.orQ 9 14 13 (p := ?pz1) (rest := ?qz1) (B := q1_9) rfl (fun hz => orO_t e1_9 hz) ?Tz1 ?Fz1 ?az1 ?bz1 ?cz1 ?dz1 ?ez1
 case Tz1 =>
  intro hcz1 hkz1
  refine sk ?_
  refine sk ?_
  refine sk ?_
  refine sk ?_
  refine hkz1 _ ?_
  repeat (first | exact Sub.refl _ | refine Sub.skip rfl ?_)
 case Fz1 =>
  intro hcz1 hkz1
  have hqz1 := orO_f e1_9 hcz1
  obtain ⟨x1_7, e1_7, hqz1⟩ := bnd hqz1
  obtain rfl := Option.some.inj hqz1
  refine sp (OpV.fieldAddr rfl fo_71_1) ?_
  refine sp (OpV.loadBox rfl pt_3 mq0 rfl) ?_
  refine sp (OpV.call (ec rfl e0) ca_88 (fun w hs => w_impl_isSide e1_7)) ?_
  refine sp (OpV.not rfl) ?_
  refine hkz1 _ ?_ ?_
  exact rfl
  repeat (first | exact Sub.refl _ | refine Sub.skip rfl ?_)
 case az1 => exact rfl
 case bz1 => exact rfl
 case cz1 => exact rfl
 case dz1 => exact rfl
 refine mv ?_
 refine Lt.ofWL.or 15 25 24 (p := ?pz2) (rest := ?qz2) (B := ?Bz2) rfl ?Tz2 ?Fz2 ?az2 ?bz2 ?cz2 ?dz2 ?ez2
 case Tz2 =>
  intro hcz2 hkz2
  refine sk ?_
  refine sk ?_
  refine sk ?_
  refine sk ?_
  refine sk ?_
  refine sk ?_
  refine sk ?_
  refine sk ?_
  refine sk ?_
  refine hkz2 _ ?_
  repeat (first | exact Sub.refl _ | refine Sub.skip rfl ?_)
 case Fz2 =>
  intro hcz2 hkz2
  refine sp (OpV.fieldAddr rfl fo_71_2) ?_
  refine sp (OpV.loadBox rfl pt_23 mq0 rfl) ?_
  refine sp (OpV.len rfl si_23 rfl) ?_
  refine sp (OpV.fieldAddr rfl fo_71_0) ?_
  refine sp (OpV.loadBox rfl pt_3 mq0 rfl) ?_
  refine sp (OpV.fieldAddr rfl fo_71_1) ?_
  refine sp (OpV.loadBox rfl pt_3 mq0 rfl) ?_
  refine sp (OpV.mulR rfl rfl) ?_
  refine sp (OpV.neq rfl rfl) ?_
  refine hkz2 _ ?_ ?_
  exact rfl
  repeat (first | exact Sub.refl _ | refine Sub.skip rfl ?_)
 case az2 => exact rfl
 case bz2 => exact rfl
 case cz2 => exact rfl
 case dz2 => exact rfl
 refine WL.nil (En.next ?_)
 refine WC.cond rfl ?_ ?_
 ·
  intro hc_1
  replace h := ifO_t hc_1 h
  refine WC.sr ?_
  refine ag ?_
  refine WL.nil (En.next (WC.ret (En.then_ret ?_)))
  refine En.ret1 rfl (Res.tmp rfl) ?_
  obtain rfl := Option.some.inj h
  intro w' hs
  exact ⟨rfl, hs.below⟩
 ·
  intro hc_1
  replace h := ifO_f hc_1 h
  refine WC.skip (En.next (WC.seq (WC.sr ?_)))
  refine sp (OpV.fieldAddr rfl fo_71_2) ?_
  refine sp (OpV.loadBox rfl pt_23 mq0 rfl) ?_
  refine sp (OpV.len rfl si_23 rfl) ?_
  refine mv ?_
  refine WL.nil (En.next (WC.block ?_))
  obtain ⟨zy0, ezy0, h⟩ := bnd h
  refine WC.cut (X := (Unit) × (Unit)) (.exit 0) (fun x => zy0 = .inl x.1) (fun x => match x with | ((), ()) => []) (fun x => match x with | ((), ()) => []) ?_ ?_
  ·
   rintro ⟨⟨⟩, ⟨⟩⟩ hx
   replace hx : .inl () = zy0 := hx.symm
   subst hx
   replace h := fork_l h
   show En _ _ _ _ [] []
   refine En.block_exit (En.next (WC.sr ?_))
   refine ag ?_
   refine WL.nil (En.next (WC.ret ?_))
   refine En.ret1 rfl (Res.tmp rfl) ?_
   obtain rfl := Option.some.inj h
   intro w' hs
   exact ⟨rfl, hs.below⟩
  ·
   intro zK0_0
   refine WC.loopP (G := Unit) (fun s g => match s, g with | v_0, () => [(27, .slice q0_0 i_p0.Data.length k0_0), (28, .int .i64 (i_p0.Data.length : Int)), (29, .int .i64 v_0)]) (fun s g => match s, g with | v_0, () => []) 0 () ezy0 (by exact sc (sc (sc sn))) (by exact (fun _ h => (h).sub (.cons _ (.slnil)))) ?_
   rintro zm0 v_0 ⟨⟩ zo0 zf0 zb0 ze0
   have zh0 : impl_ImageOk_L0 i_p0 v_0 = some zo0 := zf0
   unfold impl_ImageOk_L0 at zh0
   show WC _ _ _ _ _ [(27, .slice q0_0 i_p0.Data.length k0_0), (28, .int .i64 (i_p0.Data.length : Int)), (29, .int .i64 v_0)] []
   refine WC.sr ?_
   refine sp (OpV.lss rfl rfl) ?_
   refine WL.nil (En.next (WC.seq ?_))
   refine WC.cond rfl ?_ ?_
   ·
    intro hc_2
    replace zh0 := ifO_t hc_2 zh0
    refine WC.skip (En.next (WC.seq (WC.block (WC.seq ?_))))
    obtain ⟨x5_0, e5_0, zh0⟩ := bnd zh0
    obtain ⟨g5_0, o5_0, _, ha5_0, rfl, hd5_0⟩ := Rd.atIdx r0_0 e5_0
    replace hd5_0 : ∀ (j : Nat) v, ([.int .i64 x5_0] : List Value)[j]? = some v → w.cell? ⟨g5_0, o5_0 + v_0.toNat * 1 + j, .none⟩ = some v := hd5_0
    refine WC.region ?_
    refine sp (OpV.idxA rfl rfl se_23 ha5_0 ⟨(idx_some e5_0).1, (idx_some e5_0).2.1⟩) ?_
    refine sp (OpV.load1 rfl pt_3 (fun w hs => hs.cell (hd5_0 0 _ rfl))) ?_
    refine ag ?_
    refine WL.nil (En.next (WC.seq ?_))
    obtain ⟨x6_1, e6_1, zh0⟩ := bnd zh0
    refine WC.region ?_
    refine mv ?_
    refine sp (OpV.call (ec rfl e0) ca_134 (fun w hs => w_impl_isPixel e6_1)) ?_
    refine sp (OpV.not rfl) ?_
    refine WL.nil (En.next ?_)
    refine WC.cond rfl ?_ ?_
    ·
     intro hc_3
     replace zh0 := ifO_t hc_3 zh0
     refine WC.sr ?_
     refine ag ?_
     refine WL.nil (En.next (WC.ret (En.block_ret (En.then_ret (En.then_ret (En.block_ret (En.then_ret ?_)))))))
     refine En.ret1 rfl (Res.tmp rfl) ?_
     have hx := exitP ze0 zh0
     subst hx
     replace h := fork_r h
     obtain rfl := Option.some.inj h
     intro w' hs
     exact ⟨rfl, hs.below⟩
    ·
     intro hc_3
     replace zh0 := ifO_f hc_3 zh0
     refine WC.skip (En.block_norm (En.next (WC.region ?_)))
     refine sp (OpV.addR rfl rfl) ?_
     refine mv ?_
     refine WL.nil ?_
     exact En.backP zb0 zh0 () (sc (sc (sc sn))) (fun _ h => h)
   ·
    intro hc_2
    replace zh0 := ifO_f hc_2 zh0
    refine WC.exit (En.then_exit (En.then_exit ?_))
    have hx := exitP ze0 zh0
    exact En.wk _ _ sn (fun _ h => h) (zK0_0 ((), ()) hx.symm)

theorem w_impl_SurfaceOk {s_p0 : SurfaceT} {r : Bool} {q0_0 : Option Addr} {l0_0 k0_0 : Nat} (h : impl_SurfaceOk s_p0 = some r) {w : World} (r0_0 : Rd tInt w q0_0 l0_0 k0_0 s_p0.Buffer.Data)   :
    Calls Try.prog 119 #[.agg #[.int .i64 s_p0.Id, .int .i64 s_p0.X, .int .i64 s_p0.Y, .int .i64 s_p0.W, .int .i64 s_p0.H, .int .i64 s_p0.Alpha, .int .i64 s_p0.Orient, .bool s_p0.Visible, .int .i64 s_p0.Buffer.W, .int .i64 s_p0.Buffer.H, .slice q0_0 l0_0 k0_0]] w (fun en w' => en = .returned (.bool r) ∧ Ext w w') := by
 obtain rfl := r0_0.1
 unfold impl_SurfaceOk at h
 refine enter (vs := [_]) Try.func119 rfl rfl rfl rfl ?_
 refine WC.sr ?_
 refine WL.heavy rfl rfl rfl (OpH.box rfl rfl ?_)
 intro b0_0
 refine ag ?_
 refine WL.nil (En.next (WC.seq ?_))
 obtain ⟨x1_2, e1_2, h⟩ := bnd h
 obtain ⟨q1_7, e1_7, h⟩ := bnd h
 refine WC.region ?_
 refine sp (OpV.fieldAddr rfl fo_73_3) ?_
 refine sp (OpV.loadBox rfl pt_3 mq0 rfl) ?_
 refine sp (OpV.call (ec rfl e0) ca_88 (fun w hs => w_impl_isSide e1_2)) ?_
 refine mv ?_
 refine Lt.ofWL.andQ 7 11 10 (p := ?pz1) (rest := ?qz1) (B := q1_7) rfl (fun hz => andO_f e1_7 hz) ?Tz1 ?Fz1 ?az1 ?bz1 ?cz1 ?dz1 ?ez1
 case Tz1 =>
  intro hcz1 hkz1
  have hqz1 := andO_t e1_7 hcz1
  obtain ⟨x1_6, e1_6, hqz1⟩ := bnd hqz1
  obtain rfl := Option.some.inj hqz1
  refine sp (OpV.fieldAddr rfl fo_73_4) ?_
  refine sp (OpV.loadBox rfl pt_3 mq0 rfl) ?_
  refine sp (OpV.call (ec rfl e0) ca_88 (fun w hs => w_impl_isSide e1_6)) ?_
  refine hkz1 _ ?_ ?_
  exact rfl
  repeat (first | exact Sub.refl _ | refine Sub.skip rfl ?_)
 case Fz1 =>
  intro hcz1 hkz1
  refine sk ?_
  refine sk ?_
  refine sk ?_
  refine hkz1 _ ?_
  repeat (first | exact Sub.refl _ | refine Sub.skip rfl ?_)
 case az1 => exact rfl
 case bz1 => exact rfl
 case cz1 => exact rfl
 case dz1 => exact rfl
 refine mv ?_
 refine Lt.ofWL.or 12 21 20 (p := ?pz2) (rest := ?qz2) (B := ?Bz2) rfl ?Tz2 ?Fz2 ?az2 ?bz2 ?cz2 ?dz2 ?ez2
 case Tz2 =>
  intro hcz2 hkz2
  refine sk ?_
  refine sk ?_
  refine sk ?_
  refine sk ?_
  refine sk ?_
  refine sk ?_
  refine sk ?_
  refine sk ?_
  refine hkz2 _ ?_
  repeat (first | exact Sub.refl _ | refine Sub.skip rfl ?_)
 case Fz2 =>
  intro hcz2 hkz2
  refine sp (OpV.fieldAddr rfl fo_73_3) ?_
  refine sp (OpV.loadBox rfl pt_3 mq0 rfl) ?_
  refine sp (OpV.eql rfl rfl) ?_
  refine mv ?_
  refine Lt.ofWL.and 16 20 19 (p := ?pz3) (rest := ?qz3) (B := ?Bz3) rfl ?Tz3 ?Fz3 ?az3 ?bz3 ?cz3 ?dz3 ?ez3
  case Tz3 =>
   intro hcz3 hkz3
   refine sp (OpV.fieldAddr rfl fo_73_4) ?_
   refine sp (OpV.loadBox rfl pt_3 mq0 rfl) ?_
   refine sp (OpV.eql rfl rfl) ?_
   refine hkz3 _ ?_ ?_
   exact rfl
   repeat (first | exact Sub.refl _ | refine Sub.skip rfl ?_)
  case Fz3 =>
   intro hcz3 hkz3
   refine sk ?_
   refine sk ?_
   refine sk ?_
   refine hkz3 _ ?_
   repeat (first | exact Sub.refl _ | refine Sub.skip rfl ?_)
  case az3 => exact rfl
  case bz3 => exact rfl
  case cz3 => exact rfl
  case dz3 => exact rfl
  refine hkz2 _ ?_ ?_
  exact rfl
  repeat (first | exact Sub.refl _ | refine Sub.skip rfl ?_)
 case az2 => exact rfl
 case bz2 => exact rfl
 case cz2 => exact rfl
 case dz2 => exact rfl
 refine ag ?_
 refine WL.nil (En.next (WC.seq ?_))
 obtain ⟨x2_2, e2_2, h⟩ := bnd h
 obtain ⟨q2_7, e2_7, h⟩ := bnd h
 obtain ⟨q2_12, e2_12, h⟩ := bnd h
 obtain ⟨q2_20, e2_20, h⟩ := bnd h
 obtain ⟨q2_25, e2_25, h⟩ := bnd h
 obtain ⟨q2_30, e2_30, h⟩ := bnd h
 refine WC.region ?_
 refine sp (OpV.fieldAddr rfl fo_73_0) ?_
 refine sp (OpV.loadBox rfl pt_3 mq0 rfl) ?_
 refine sp (OpV.call (ec rfl (ec rfl (ec rfl e0))) ca_87 (fun w hs => w_impl_within e2_2)) ?_
 refine mv ?_
 refine Lt.ofWL.andQ 25 29 28 (p := ?pz4) (rest := ?qz4) (B := q2_7) rfl (fun hz => andO_f e2_7 hz) ?Tz4 ?Fz4 ?az4 ?bz4 ?cz4 ?dz4 ?ez4
 case Tz4 =>
  intro hcz4 hkz4
  have hqz4 := andO_t e2_7 hcz4
  obtain ⟨x2_6, e2_6, hqz4⟩ := bnd hqz4
  obtain rfl := Option.some.inj hqz4
  refine sp (OpV.fieldAddr rfl fo_73_1) ?_
  refine sp (OpV.loadBox rfl pt_3 mq0 rfl) ?_
  refine sp (OpV.call (ec rfl (ec rfl (ec rfl e0))) ca_87 (fun w hs => w_impl_within e2_6)) ?_
  refine hkz4 _ ?_ ?_
  exact rfl
  repeat (first | exact Sub.refl _ | refine Sub.skip rfl ?_)
 case Fz4 =>
  intro hcz4 hkz4
  refine sk ?_
  refine sk ?_
  refine sk ?_
  refine hkz4 _ ?_
  repeat (first | exact Sub.refl _ | refine Sub.skip rfl ?_)
 case az4 => exact rfl
 case bz4 => exact rfl
 case cz4 => exact rfl
 case dz4 => exact rfl
 refine mv ?_
 refine Lt.ofWL.andQ 30 34 33 (p := ?pz5) (rest := ?qz5) (B := q2_12) rfl (fun hz => andO_f e2_12 hz) ?Tz5 ?Fz5 ?az5 ?bz5 ?cz5 ?dz5 ?ez5
 case Tz5 =>
  intro hcz5 hkz5
  have hqz5 := andO_t e2_12 hcz5
  obtain ⟨x2_11, e2_11, hqz5⟩ := bnd hqz5
  obtain rfl := Option.some.inj hqz5
  refine sp (OpV.fieldAddr rfl fo_73_2) ?_
  refine sp (OpV.loadBox rfl pt_3 mq0 rfl) ?_
  refine sp (OpV.call (ec rfl (ec rfl (ec rfl e0))) ca_87 (fun w hs => w_impl_within e2_11)) ?_
  refine hkz5 _ ?_ ?_
  exact rfl
  repeat (first | exact Sub.refl _ | refine Sub.skip rfl ?_)
 case Fz5 =>
  intro hcz5 hkz5
  refine sk ?_
  refine sk ?_
  refine sk ?_
  refine hkz5 _ ?_
  repeat (first | exact Sub.refl _ | refine Sub.skip rfl ?_)
 case az5 => exact rfl
 case bz5 => exact rfl
 case cz5 => exact rfl
 case dz5 => exact rfl
 refine mv ?_
 refine Lt.ofWL.and 35 37 36 (p := ?pz6) (rest := ?qz6) (B := ?Bz6) rfl ?Tz6 ?Fz6 ?az6 ?bz6 ?cz6 ?dz6 ?ez6
 case Tz6 =>
  intro hcz6 hkz6
  refine mv ?_
  refine hkz6 _ ?_ ?_
  exact rfl
  repeat (first | exact Sub.refl _ | refine Sub.skip rfl ?_)
 case Fz6 =>
  intro hcz6 hkz6
  refine sk ?_
  refine hkz6 _ ?_
  repeat (first | exact Sub.refl _ | refine Sub.skip rfl ?_)
 case az6 => exact rfl
 case bz6 => exact rfl
 case cz6 => exact rfl
 case dz6 => exact rfl
 refine mv ?_
 refine Lt.ofWL.andQ 38 42 41 (p := ?pz7) (rest := ?qz7) (B := q2_20) rfl (fun hz => andO_f e2_20 hz) ?Tz7 ?Fz7 ?az7 ?bz7 ?cz7 ?dz7 ?ez7
 case Tz7 =>
  intro hcz7 hkz7
  have hqz7 := andO_t e2_20 hcz7
  obtain ⟨x2_19, e2_19, hqz7⟩ := bnd hqz7
  obtain rfl := Option.some.inj hqz7
  refine sp (OpV.fieldAddr rfl fo_73_5) ?_
  refine sp (OpV.loadBox rfl pt_3 mq0 rfl) ?_
  refine sp (OpV.call (ec rfl (ec rfl (ec rfl e0))) ca_87 (fun w hs => w_impl_within e2_19)) ?_
  refine hkz7 _ ?_ ?_
  exact rfl
  repeat (first | exact Sub.refl _ | refine Sub.skip rfl ?_)
 case Fz7 =>
  intro hcz7 hkz7
  refine sk ?_
  refine sk ?_
  refine sk ?_
  refine hkz7 _ ?_
  repeat (first | exact Sub.refl _ | refine Sub.skip rfl ?_)
 case az7 => exact rfl
 case bz7 => exact rfl
 case cz7 => exact rfl
 case dz7 => exact rfl
 refine mv ?_
 refine Lt.ofWL.andQ 43 47 46 (p := ?pz8) (rest := ?qz8) (B := q2_25) rfl (fun hz => andO_f e2_25 hz) ?Tz8 ?Fz8 ?az8 ?bz8 ?cz8 ?dz8 ?ez8
 case Tz8 =>
  intro hcz8 hkz8
  have hqz8 := andO_t e2_25 hcz8
  obtain ⟨x2_24, e2_24, hqz8⟩ := bnd hqz8
  obtain rfl := Option.some.inj hqz8
  refine sp (OpV.fieldAddr rfl fo_73_6) ?_
  refine sp (OpV.loadBox rfl pt_3 mq0 rfl) ?_
  refine sp (OpV.call (ec rfl e0) ca_153 (fun w hs => w_impl_isOrient e2_24)) ?_
  refine hkz8 _ ?_ ?_
  exact rfl
  repeat (first | exact Sub.refl _ | refine Sub.skip rfl ?_)
 case Fz8 =>
  intro hcz8 hkz8
  refine sk ?_
  refine sk ?_
  refine sk ?_
  refine hkz8 _ ?_
  repeat (first | exact Sub.refl _ | refine Sub.skip rfl ?_)
 case az8 => exact rfl
 case bz8 => exact rfl
 case cz8 => exact rfl
 case dz8 => exact rfl
 refine mv ?_
 refine Lt.ofWL.andQ 48 52 51 (p := ?pz9) (rest := ?qz9) (B := q2_30) rfl (fun hz => andO_f e2_30 hz) ?Tz9 ?Fz9 ?az9 ?bz9 ?cz9 ?dz9 ?ez9
 case Tz9 =>
  intro hcz9 hkz9
  have hqz9 := andO_t e2_30 hcz9
  obtain ⟨x2_29, e2_29, hqz9⟩ := bnd hqz9
  obtain rfl := Option.some.inj hqz9
  refine sp (OpV.fieldAddr rfl fo_73_8) ?_
  refine sp (OpV.loadPart rfl mq0 ag_71 rfl rfl) ?_
  refine sp (OpV.call (ec rfl e0) ca_95 (fun w hs => w_impl_ImageOk e2_29 (r0_0.ext hs.below))) ?_
  refine hkz9 _ ?_ ?_
  exact rfl
  repeat (first | exact Sub.refl _ | refine Sub.skip rfl ?_)
 case Fz9 =>
  intro hcz9 hkz9
  refine sk ?_
  refine sk ?_
  refine sk ?_
  refine hkz9 _ ?_
  repeat (first | exact Sub.refl _ | refine Sub.skip rfl ?_)
 case az9 => exact rfl
 case bz9 => exact rfl
 case cz9 => exact rfl
 case dz9 => exact rfl
 refine ag ?_
 refine WL.nil (En.next (WC.ret ?_))
 refine En.ret1 rfl (Res.tmp rfl) ?_
 obtain rfl := Option.some.inj h
 intro w' hs
 exact ⟨rfl, hs.below⟩

theorem w_impl_SceneOk {s_p0 : SceneT} {r : Bool} {q0_0 : Option Addr} {l0_0 k0_0 : Nat} (h : impl_SceneOk s_p0 = some r) {w : World} (r0_0 : Rd tSurface w q0_0 l0_0 k0_0 s_p0.Surfaces)   :
    Calls Try.prog 78 #[.agg #[.int .i64 s_p0.W, .int .i64 s_p0.H, .int .i64 s_p0.Back, .slice q0_0 l0_0 k0_0]] w (fun en w' => en = .returned (.bool r) ∧ Ext w w') := by
 obtain rfl := r0_0.1
 unfold impl_SceneOk at h
 refine enter (vs := [_]) Try.func78 rfl rfl rfl rfl ?_
 refine WC.sr ?_
 refine WL.heavy rfl rfl rfl (OpH.box rfl rfl ?_)
 intro b0_0
 refine ag ?_
 refine WL.nil (En.next (WC.seq (WC.seq ?_)))
 obtain ⟨x1_2, e1_2, h⟩ := bnd h
 obtain ⟨q1_9, e1_9, h⟩ := bnd h
 obtain ⟨q1_15, e1_15, h⟩ := bnd h
 refine WC.region ?_
 refine sp (OpV.fieldAddr rfl fo_62_0) ?_
 refine sp (OpV.loadBox rfl pt_3 mq0 rfl) ?_
 refine sp (OpV.call (ec rfl e0) ca_88 (fun w hs => w_impl_isSide e1_2)) ?_
 refine sp (OpV.not rfl) ?_
 refine mv ?_
 refine Lt.ofWL.orQ 10 15 14 (p := ?pz1) (rest := ?qz1) (B := q1_9) rfl (fun hz => orO_t e1_9 hz) ?Tz1 ?Fz1 ?az1 ?bz1 ?cz1 ?dz1 ?ez1
 case Tz1 =>
  intro hcz1 hkz1
  refine sk ?_
  refine sk ?_
  refine sk ?_
  refine sk ?_
  refine hkz1 _ ?_
  repeat (first | exact Sub.refl _ | refine Sub.skip rfl ?_)
 case Fz1 =>
  intro hcz1 hkz1
  have hqz1 := orO_f e1_9 hcz1
  obtain ⟨x1_7, e1_7, hqz1⟩ := bnd hqz1
  obtain rfl := Option.some.inj hqz1
  refine sp (OpV.fieldAddr rfl fo_62_1) ?_
  refine sp (OpV.loadBox rfl pt_3 mq0 rfl) ?_
  refine sp (OpV.call (ec rfl e0) ca_88 (fun w hs => w_impl_isSide e1_7)) ?_
  refine sp (OpV.not rfl) ?_
  refine hkz1 _ ?_ ?_
  exact rfl
  repeat (first | exact Sub.refl _ | refine Sub.skip rfl ?_)
 case az1 => exact rfl
 case bz1 => exact rfl
 case cz1 => exact rfl
 case dz1 => exact rfl
 refine mv ?_
 refine Lt.ofWL.orQ 16 21 20 (p := ?pz2) (rest := ?qz2) (B := q1_15) rfl (fun hz => orO_t e1_15 hz) ?Tz2 ?Fz2 ?az2 ?bz2 ?cz2 ?dz2 ?ez2
 case Tz2 =>
  intro hcz2 hkz2
  refine sk ?_
  refine sk ?_
  refine sk ?_
  refine sk ?_
  refine hkz2 _ ?_
  repeat (first | exact Sub.refl _ | refine Sub.skip rfl ?_)
 case Fz2 =>
  intro hcz2 hkz2
  have hqz2 := orO_f e1_15 hcz2
  obtain ⟨x1_13, e1_13, hqz2⟩ := bnd hqz2
  obtain rfl := Option.some.inj hqz2
  refine sp (OpV.fieldAddr rfl fo_62_2) ?_
  refine sp (OpV.loadBox rfl pt_3 mq0 rfl) ?_
  refine sp (OpV.call (ec rfl e0) ca_92 (fun w hs => w_impl_isOpaquePixel e1_13)) ?_
  refine sp (OpV.not rfl) ?_
  refine hkz2 _ ?_ ?_
  exact rfl
  repeat (first | exact Sub.refl _ | refine Sub.skip rfl ?_)
 case az2 => exact rfl
 case bz2 => exact rfl
 case cz2 => exact rfl
 case dz2 => exact rfl
 refine mv ?_
 refine Lt.ofWL.or 22 27 26 (p := ?pz3) (rest := ?qz3) (B := ?Bz3) rfl ?Tz3 ?Fz3 ?az3 ?bz3 ?cz3 ?dz3 ?ez3
 case Tz3 =>
  intro hcz3 hkz3
  refine sk ?_
  refine sk ?_
  refine sk ?_
  refine sk ?_
  refine hkz3 _ ?_
  repeat (first | exact Sub.refl _ | refine Sub.skip rfl ?_)
 case Fz3 =>
  intro hcz3 hkz3
  refine sp (OpV.fieldAddr rfl fo_62_3) ?_
  refine sp (OpV.loadBox rfl pt_60 mq0 rfl) ?_
  refine sp (OpV.len rfl si_60 rfl) ?_
  refine sp (OpV.gtr rfl rfl) ?_
  refine hkz3 _ ?_ ?_
  exact rfl
  repeat (first | exact Sub.refl _ | refine Sub.skip rfl ?_)
 case az3 => exact rfl
 case bz3 => exact rfl
 case cz3 => exact rfl
 case dz3 => exact rfl
 refine WL.nil (En.next ?_)
 refine WC.cond rfl ?_ ?_
 ·
  intro hc_1
  replace h := ifO_t hc_1 h
  refine WC.sr ?_
  refine ag ?_
  refine WL.nil (En.next (WC.ret (En.then_ret ?_)))
  refine En.ret1 rfl (Res.tmp rfl) ?_
  obtain rfl := Option.some.inj h
  intro w' hs
  exact ⟨rfl, hs.below⟩
 ·
  intro hc_1
  replace h := ifO_f hc_1 h
  refine WC.skip (En.next (WC.sr ?_))
  refine WL.heavy rfl rfl rfl (OpH.makeMap ?_)
  intro b3_0
  refine ag ?_
  refine WL.nil (En.next (WC.seq (WC.sr ?_)))
  refine sp (OpV.fieldAddr rfl fo_62_3) ?_
  refine sp (OpV.loadBox rfl pt_60 mq1 rfl) ?_
  refine sp (OpV.len rfl si_60 rfl) ?_
  refine mv ?_
  refine WL.nil (En.next (WC.block ?_))
  obtain ⟨zy0, ezy0, h⟩ := bnd h
  refine WC.cut (X := (Unit) × (Unit)) (.exit 0) (fun x => zy0 = .inl x.1) (fun x => match x with | ((), ()) => []) (fun x => match x with | ((), ()) => []) ?_ ?_
  ·
   rintro ⟨⟨⟩, ⟨⟩⟩ hx
   replace hx : .inl () = zy0 := hx.symm
   subst hx
   replace h := fork_l h
   show En _ _ _ _ [] []
   refine En.block_exit (En.next (WC.sr ?_))
   refine ag ?_
   refine WL.nil (En.next (WC.ret ?_))
   refine En.ret1 rfl (Res.tmp rfl) ?_
   obtain rfl := Option.some.inj h
   intro w' hs
   exact ⟨rfl, hs.below⟩
  ·
   intro zK0_0
   refine WC.loopP (G := Unit) (fun s g => match s, g with | (seen_0, v_0), () => [(3, .map (some b3_0)), (30, .slice q0_0 s_p0.Surfaces.length k0_0), (31, .int .i64 (s_p0.Surfaces.length : Int)), (32, .int .i64 v_0)]) (fun s g => match s, g with | (seen_0, v_0), () => [Chunk.mapc b3_0 seen_0]) (([] : List (Int × Bool)), 0) () ezy0 (by exact sc (sc (sc (sc sn)))) (by exact (fun _ h => (h).sub (.cons_cons _ (.cons _ (.slnil))))) ?_
   rintro zm0 ⟨seen_0, v_0⟩ ⟨⟩ zo0 zf0 zb0 ze0
   have zh0 : impl_SceneOk_L0 s_p0 seen_0 v_0 = some zo0 := zf0
   unfold impl_SceneOk_L0 at zh0
   show WC _ _ _ _ _ [(3, .map (some b3_0)), (30, .slice q0_0 s_p0.Surfaces.length k0_0), (31, .int .i64 (s_p0.Surfaces.length : Int)), (32, .int .i64 v_0)] [Chunk.mapc b3_0 seen_0]
   refine WC.sr ?_
   refine sp (OpV.lss rfl rfl) ?_
   refine WL.nil (En.next (WC.seq ?_))
   refine WC.cond rfl ?_ ?_
   ·
    intro hc_2
    replace zh0 := ifO_t hc_2 zh0
    refine WC.skip (En.next (WC.seq (WC.block (WC.seq ?_))))
    obtain ⟨x6_0, e6_0, zh0⟩ := bnd zh0
    obtain ⟨g6_0, o6_0, _, ha6_0, ⟨a6_0_1, c6_0_1, rfl, r6_0_1⟩, hd6_0⟩ := Rd.atIdx r0_0 e6_0
    replace hd6_0 : ∀ (j : Nat) v, ([.int .i64 x6_0.Id, .int .i64 x6_0.X, .int .i64 x6_0.Y, .int .i64 x6_0.W, .int .i64 x6_0.H, .int .i64 x6_0.Alpha, .int .i64 x6_0.Orient, .bool x6_0.Visible, .int .i64 x6_0.Buffer.W, .int .i64 x6_0.Buffer.H, .slice a6_0_1 x6_0.Buffer.Data.length c6_0_1] : List Value)[j]? = some v → w.cell? ⟨g6_0, o6_0 + v_0.toNat * 11 + j, .none⟩ = some v := hd6_0
    refine WC.region ?_
    refine sp (OpV.idxA rfl rfl se_60 ha6_0 ⟨(idx_some e6_0).1, (idx_some e6_0).2.1⟩) ?_
    refine sp (OpV.loadN rfl ag_73 rfl (fun w hs => hs.cellsAt hd6_0)) ?_
    refine WL.heavy rfl rfl rfl (OpH.alloc zc_73 ?_)
    intro b6_2
    refine WL.heavy0 rfl rfl (OpH.storeTo (A := []) [_, _, _, _, _, _, _, _, _, _, _] rfl rfl rfl ts_73 rfl rfl rfl ?_)
    refine WL.nil (En.next (WC.seq (WC.seq ?_)))
    obtain ⟨q7_8, e7_8, zh0⟩ := bnd zh0
    refine WC.region ?_
    refine mv ?_
    refine sp (OpV.fieldAddr rfl fo_73_0) ?_
    refine sp (OpV.loadBox rfl pt_3 mq0 rfl) ?_
    refine sp (OpV.lookup rfl rfl mu_148 ui_3_i64 zv_4 mq1) ?_
    refine mv ?_
    refine Lt.ofWL.orQ 40 44 43 (p := ?pz4) (rest := ?qz4) (B := q7_8) rfl (fun hz => orO_t e7_8 hz) ?Tz4 ?Fz4 ?az4 ?bz4 ?cz4 ?dz4 ?ez4
    case Tz4 =>
     intro hcz4 hkz4
     refine sk ?_
     refine sk ?_
     refine sk ?_
     refine hkz4 _ ?_
     repeat (first | exact Sub.refl _ | refine Sub.skip rfl ?_)
    case Fz4 =>
     intro hcz4 hkz4
     have hqz4 := orO_f e7_8 hcz4
     obtain ⟨x7_6, e7_6, hqz4⟩ := bnd hqz4
     obtain rfl := Option.some.inj hqz4
     refine sp (OpV.loadAll rfl mq0 ag_73) ?_
     refine sp (OpV.call (ec rfl e0) ca_119 (fun w hs => w_impl_SurfaceOk e7_6 (r6_0_1.ext hs.below))) ?_
     refine sp (OpV.not rfl) ?_
     refine hkz4 _ ?_ ?_
     exact rfl
     repeat (first | exact Sub.refl _ | refine Sub.skip rfl ?_)
    case az4 => exact rfl
    case bz4 => exact rfl
    case cz4 => exact rfl
    case dz4 => exact rfl
    refine WL.nil (En.next ?_)
    refine WC.cond rfl ?_ ?_
    ·
     intro hc_3
     replace zh0 := ifO_t hc_3 zh0
     refine WC.sr ?_
     refine ag ?_
     refine WL.nil (En.next (WC.ret (En.then_ret (En.block_ret (En.then_ret (En.then_ret (En.block_ret (En.then_ret ?_))))))))
     refine En.ret1 rfl (Res.tmp rfl) ?_
     have hx := exitP ze0 zh0
     subst hx
     replace h := fork_r h
     obtain rfl := Option.some.inj h
     intro w' hs
     exact ⟨rfl, hs.below⟩
    ·
     intro hc_3
     replace zh0 := ifO_f hc_3 zh0
     refine WC.skip (En.next (WC.region ?_))
     refine mv ?_
     refine sp (OpV.fieldAddr rfl fo_73_0) ?_
     refine sp (OpV.loadBox rfl pt_3 mq0 rfl) ?_
     refine WL.heavy0 rfl rfl (OpH.mapUpdate (F := [_]) rfl rfl rfl mu_148 ui_3_i64 ?_)
     refine WL.nil (En.block_norm (En.next (WC.region ?_)))
     refine sp (OpV.addR rfl rfl) ?_
     refine mv ?_
     refine WL.nil ?_
     exact En.backP zb0 zh0 () (sc (sc (sc (sc sn)))) (fun _ h => ((h).pm 1).sub (.cons_cons _ (.cons _ (.slnil))))
   ·
    intro hc_2
    replace zh0 := ifO_f hc_2 zh0
    refine WC.exit (En.then_exit (En.then_exit ?_))
    have hx := exitP ze0 zh0
    exact En.wk _ _ sn (fun _ h => (h).sub (.cons _ (.slnil))) (zK0_0 ((), ()) hx.symm)

theorem w_impl_OptionsOk {o_p0 : OptionsT} {r : Bool}  (h : impl_OptionsOk o_p0 = some r) {w : World}    :
    Calls Try.prog 79 #[.agg #[.int .i64 o_p0.Overlays, .bool o_p0.Cursor, .int .i64 o_p0.Layout, .bool o_p0.Partial, .bool o_p0.Sleep, .bool o_p0.Secret]] w (fun en w' => en = .returned (.bool r) ∧ Ext w w') := by
 unfold impl_OptionsOk at h
 refine enter (vs := [_]) Try.func79 rfl rfl rfl rfl ?_
 refine WC.sr ?_
 refine WL.heavy rfl rfl rfl (OpH.box rfl rfl ?_)
 intro b0_0
 refine ag ?_
 refine WL.nil (En.next (WC.seq ?_))
 obtain ⟨x1_2, e1_2, h⟩ := bnd h
 obtain ⟨q1_7, e1_7, h⟩ := bnd h
 refine WC.region ?_
 refine sp (OpV.fieldAddr rfl fo_64_0) ?_
 refine sp (OpV.loadBox rfl pt_3 mq0 rfl) ?_
 refine sp (OpV.call (ec rfl (ec rfl (ec rfl e0))) ca_87 (fun w hs => w_impl_within e1_2)) ?_
 refine mv ?_
 refine Lt.ofWL.andQ 6 10 9 (p := ?pz1) (rest := ?qz1) (B := q1_7) rfl (fun hz => andO_f e1_7 hz) ?Tz1 ?Fz1 ?az1 ?bz1 ?cz1 ?dz1 ?ez1
 case Tz1 =>
  intro hcz1 hkz1
  have hqz1 := andO_t e1_7 hcz1
  obtain ⟨x1_6, e1_6, hqz1⟩ := bnd hqz1
  obtain rfl := Option.some.inj hqz1
  refine sp (OpV.fieldAddr rfl fo_64_2) ?_
  refine sp (OpV.loadBox rfl pt_3 mq0 rfl) ?_
  refine sp (OpV.call (ec rfl (ec rfl (ec rfl e0))) ca_87 (fun w hs => w_impl_within e1_6)) ?_
  refine hkz1 _ ?_ ?_
  exact rfl
  repeat (first | exact Sub.refl _ | refine Sub.skip rfl ?_)
 case Fz1 =>
  intro hcz1 hkz1
  refine sk ?_
  refine sk ?_
  refine sk ?_
  refine hkz1 _ ?_
  repeat (first | exact Sub.refl _ | refine Sub.skip rfl ?_)
 case az1 => exact rfl
 case bz1 => exact rfl
 case cz1 => exact rfl
 case dz1 => exact rfl
 refine ag ?_
 refine WL.nil (En.next (WC.ret ?_))
 refine En.ret1 rfl (Res.tmp rfl) ?_
 obtain rfl := Option.some.inj h
 intro w' hs
 exact ⟨rfl, hs.below⟩

theorem w_impl_TopVisible {s_p0 : SceneT} {n_p1 : Int} {r : Int} {q0_0 : Option Addr} {l0_0 k0_0 : Nat} (h : impl_TopVisible s_p0 n_p1 = some r) {w : World} (r0_0 : Rd tSurface w q0_0 l0_0 k0_0 s_p0.Surfaces)   :
    Calls Try.prog 35 #[.agg #[.int .i64 s_p0.W, .int .i64 s_p0.H, .int .i64 s_p0.Back, .slice q0_0 l0_0 k0_0], .int .i64 n_p1] w (fun en w' => en = .returned (.int .i64 r) ∧ Ext w w') := by
 obtain rfl := r0_0.1
 unfold impl_TopVisible at h
 refine enter (vs := [_, _]) Try.func35 rfl rfl rfl rfl ?_
 refine WC.sr ?_
 refine WL.heavy rfl rfl rfl (OpH.box rfl rfl ?_)
 intro b0_0
 refine ag ?_
 refine WL.nil (En.next (WC.seq (WC.seq ?_)))
 obtain ⟨x1_1, e1_1, h⟩ := bnd h
 refine WC.region ?_
 refine sp (OpV.loadAll rfl mq0 ag_62) ?_
 refine sp (OpV.call (ec rfl e0) ca_78 (fun w hs => w_impl_SceneOk e1_1 (r0_0.ext hs.below))) ?_
 refine sp (OpV.not rfl) ?_
 refine mv ?_
 refine Lt.ofWL.or 9 12 11 (p := ?pz1) (rest := ?qz1) (B := ?Bz1) rfl ?Tz1 ?Fz1 ?az1 ?bz1 ?cz1 ?dz1 ?ez1
 case Tz1 =>
  intro hcz1 hkz1
  refine sk ?_
  refine sk ?_
  refine hkz1 _ ?_
  repeat (first | exact Sub.refl _ | refine Sub.skip rfl ?_)
 case Fz1 =>
  intro hcz1 hkz1
  refine mv ?_
  refine sp (OpV.lss rfl rfl) ?_
  refine hkz1 _ ?_ ?_
  exact rfl
  repeat (first | exact Sub.refl _ | refine Sub.skip rfl ?_)
 case az1 => exact rfl
 case bz1 => exact rfl
 case cz1 => exact rfl
 case dz1 => exact rfl
 refine WL.nil (En.next ?_)
 refine WC.cond rfl ?_ ?_
 ·
  intro hc_1
  replace h := ifO_t hc_1 h
  refine WC.sr ?_
  refine ag ?_
  refine WL.nil (En.next (WC.ret (En.then_ret ?_)))
  refine En.ret1 rfl (Res.tmp rfl) ?_
  obtain rfl := Option.some.inj h
  intro w' hs
  exact ⟨rfl, hs.below⟩
 ·
  intro hc_1
  replace h := ifO_f hc_1 h
  refine WC.skip (En.next (WC.seq (WC.sr ?_)))
  refine sp (OpV.fieldAddr rfl fo_62_3) ?_
  refine sp (OpV.loadBox rfl pt_60 mq0 rfl) ?_
  refine sp (OpV.len rfl si_60 rfl) ?_
  refine sp (OpV.subR rfl rfl) ?_
  refine ag ?_
  refine WL.nil (En.next (WC.block ?_))
  obtain ⟨zy0, ezy0, h⟩ := bnd h
  refine WC.cut (X := (Unit) × (Unit)) (.exit 0) (fun x => zy0 = .inl x.1) (fun x => match x with | ((), ()) => []) (fun x => match x with | ((), ()) => []) ?_ ?_
  ·
   rintro ⟨⟨⟩, ⟨⟩⟩ hx
   replace hx : .inl () = zy0 := hx.symm
   subst hx
   replace h := fork_l h
   show En _ _ _ _ [] []
   refine En.block_exit (En.next (WC.sr ?_))
   refine ag ?_
   refine WL.nil (En.next (WC.ret ?_))
   refine En.ret1 rfl (Res.tmp rfl) ?_
   obtain rfl := Option.some.inj h
   intro w' hs
   exact ⟨rfl, hs.below⟩
  ·
   intro zK0_0
   refine WC.loopP (G := Unit) (fun s g => match s, g with | (n_0, k_0), () => [(1, .int .i64 n_0), (2, .pointer (some ⟨b0_0, 0, .none⟩)), (5, .int .i64 k_0)]) (fun s g => match s, g with | (n_0, k_0), () => [Chunk.box b0_0 62 [.int .i64 s_p0.W, .int .i64 s_p0.H, .int .i64 s_p0.Back, .slice q0_0 s_p0.Surfaces.length k0_0]]) (n_p1, (wr ((s_p0.Surfaces.length : Int) - 1))) () ezy0 (by exact sc (sc (sc sn))) (by exact (fun _ h => h)) ?_
   rintro zm0 ⟨n_0, k_0⟩ ⟨⟩ zo0 zf0 zb0 ze0
   have zh0 : impl_TopVisible_L0 s_p0 n_0 k_0 = some zo0 := zf0
   unfold impl_TopVisible_L0 at zh0
   show WC _ _ _ _ _ [(1, .int .i64 n_0), (2, .pointer (some ⟨b0_0, 0, .none⟩)), (5, .int .i64 k_0)] [Chunk.box b0_0 62 [.int .i64 s_p0.W, .int .i64 s_p0.H, .int .i64 s_p0.Back, .slice q0_0 s_p0.Surfaces.length k0_0]]
   refine WC.seq (WC.sr ?_)
   refine mv ?_
   refine sp (OpV.geq rfl rfl) ?_
   refine WL.nil (En.next ?_)
   refine WC.cond rfl ?_ ?_
   ·
    intro hc_2
    replace zh0 := ifO_t hc_2 zh0
    refine WC.skip (En.next (WC.seq (WC.block (WC.seq (WC.seq ?_)))))
    obtain ⟨x6_3, e6_3, zh0⟩ := bnd zh0
    obtain ⟨g6_3, o6_3, _, ha6_3, ⟨a6_3_1, c6_3_1, rfl, r6_3_1⟩, hd6_3⟩ := Rd.atIdx r0_0 e6_3
    replace hd6_3 : ∀ (j : Nat) v, ([.int .i64 x6_3.Id, .int .i64 x6_3.X, .int .i64 x6_3.Y, .int .i64 x6_3.W, .int .i64 x6_3.H, .int .i64 x6_3.Alpha, .int .i64 x6_3.Orient, .bool x6_3.Visible, .int .i64 x6_3.Buffer.W, .int .i64 x6_3.Buffer.H, .slice a6_3_1 x6_3.Buffer.Data.length c6_3_1] : List Value)[j]? = some v → w.cell? ⟨g6_3, o6_3 + k_0.toNat * 11 + j, .none⟩ = some v := hd6_3
    refine WC.region ?_
    refine sp (OpV.fieldAddr rfl fo_62_3) ?_
    refine sp (OpV.loadBox rfl pt_60 mq0 rfl) ?_
    refine mv ?_
    refine sp (OpV.idxA rfl rfl se_60 ha6_3 ⟨(idx_some e6_3).1, (idx_some e6_3).2.1⟩) ?_
    refine sp (OpV.fieldAddr rfl fo_73_7) ?_
    refine sp (OpV.load1 rfl pt_4 (fun w hs => hs.cell (hd6_3 7 _ rfl))) ?_
    refine sp (OpV.not rfl) ?_
    refine WL.nil (En.next ?_)
    refine WC.cond rfl ?_ ?_
    ·
     intro hc_3
     replace zh0 := ifO_t hc_3 zh0
     refine WC.exit (En.then_exit (En.block_exit (En.next (WC.region ?_))))
     refine mv ?_
     refine sp (OpV.subR rfl rfl) ?_
     refine ag ?_
     refine WL.nil ?_
     exact En.backP zb0 zh0 () (sc (sc (sc sn))) (fun _ h => h)
    ·
     intro hc_3
     replace zh0 := ifO_f hc_3 zh0
     refine WC.skip (En.next (WC.seq (WC.sr ?_)))
     refine mv ?_
     refine sp (OpV.eql rfl rfl) ?_
     refine WL.nil (En.next ?_)
     refine WC.cond rfl ?_ ?_
     ·
      intro hc_4
      replace zh0 := ifO_t hc_4 zh0
      refine WC.sr ?_
      refine mv ?_
      refine ag ?_
      refine WL.nil (En.next (WC.ret (En.then_ret (En.block_ret (En.then_ret (En.then_ret (En.block_ret (En.then_ret ?_))))))))
      refine En.ret1 rfl (Res.tmp rfl) ?_
      have hx := exitP ze0 zh0
      subst hx
      replace h := fork_r h
      obtain rfl := Option.some.inj h
      intro w' hs
      exact ⟨rfl, hs.below⟩
     ·
      intro hc_4
      replace zh0 := ifO_f hc_4 zh0
      refine WC.skip (En.next (WC.region ?_))
      refine mv ?_
      refine sp (OpV.subR rfl rfl) ?_
      refine ag ?_
      refine WL.nil (En.block_norm (En.next (WC.region ?_)))
      refine mv ?_
      refine sp (OpV.subR rfl rfl) ?_
      refine ag ?_
      refine WL.nil ?_
      exact En.backP zb0 zh0 () (sc (sc (sc sn))) (fun _ h => h)
   ·
    intro hc_2
    replace zh0 := ifO_f hc_2 zh0
    refine WC.exit (En.then_exit (En.then_exit ?_))
    have hx := exitP ze0 zh0
    exact En.wk _ _ sn (fun _ h => (h).sub (.cons _ (.slnil))) (zK0_0 ((), ()) hx.symm)

theorem w_impl_FitsCursor {s_p0 : SurfaceT} {r : Bool} {q0_0 : Option Addr} {l0_0 k0_0 : Nat} (h : impl_FitsCursor s_p0 = some r) {w : World} (r0_0 : Rd tInt w q0_0 l0_0 k0_0 s_p0.Buffer.Data)   :
    Calls Try.prog 80 #[.agg #[.int .i64 s_p0.Id, .int .i64 s_p0.X, .int .i64 s_p0.Y, .int .i64 s_p0.W, .int .i64 s_p0.H, .int .i64 s_p0.Alpha, .int .i64 s_p0.Orient, .bool s_p0.Visible, .int .i64 s_p0.Buffer.W, .int .i64 s_p0.Buffer.H, .slice q0_0 l0_0 k0_0]] w (fun en w' => en = .returned (.bool r) ∧ Ext w w') := by
 obtain rfl := r0_0.1
 unfold impl_FitsCursor at h
 refine enter (vs := [_]) Try.func80 rfl rfl rfl rfl ?_
 refine WC.sr ?_
 refine WL.heavy rfl rfl rfl (OpH.box rfl rfl ?_)
 intro b0_0
 refine ag ?_
 refine WL.nil (En.next (WC.seq ?_))
 obtain ⟨x1_1, e1_1, h⟩ := bnd h
 refine WC.region ?_
 refine sp (OpV.loadAll rfl mq0 ag_73) ?_
 refine sp (OpV.call (ec rfl e0) ca_119 (fun w hs => w_impl_SurfaceOk e1_1 (r0_0.ext hs.below))) ?_
 refine mv ?_
 refine Lt.ofWL.and 5 9 8 (p := ?pz1) (rest := ?qz1) (B := ?Bz1) rfl ?Tz1 ?Fz1 ?az1 ?bz1 ?cz1 ?dz1 ?ez1
 case Tz1 =>
  intro hcz1 hkz1
  refine sp (OpV.fieldAddr rfl fo_73_5) ?_
  refine sp (OpV.loadBox rfl pt_3 mq0 rfl) ?_
  refine sp (OpV.eql rfl rfl) ?_
  refine hkz1 _ ?_ ?_
  exact rfl
  repeat (first | exact Sub.refl _ | refine Sub.skip rfl ?_)
 case Fz1 =>
  intro hcz1 hkz1
  refine sk ?_
  refine sk ?_
  refine sk ?_
  refine hkz1 _ ?_
  repeat (first | exact Sub.refl _ | refine Sub.skip rfl ?_)
 case az1 => exact rfl
 case bz1 => exact rfl
 case cz1 => exact rfl
 case dz1 => exact rfl
 refine mv ?_
 refine Lt.ofWL.and 10 14 13 (p := ?pz2) (rest := ?qz2) (B := ?Bz2) rfl ?Tz2 ?Fz2 ?az2 ?bz2 ?cz2 ?dz2 ?ez2
 case Tz2 =>
  intro hcz2 hkz2
  refine sp (OpV.fieldAddr rfl fo_73_6) ?_
  refine sp (OpV.loadBox rfl pt_3 mq0 rfl) ?_
  refine sp (OpV.eql rfl rfl) ?_
  refine hkz2 _ ?_ ?_
  exact rfl
  repeat (first | exact Sub.refl _ | refine Sub.skip rfl ?_)
 case Fz2 =>
  intro hcz2 hkz2
  refine sk ?_
  refine sk ?_
  refine sk ?_
  refine hkz2 _ ?_
  repeat (first | exact Sub.refl _ | refine Sub.skip rfl ?_)
 case az2 => exact rfl
 case bz2 => exact rfl
 case cz2 => exact rfl
 case dz2 => exact rfl
 refine mv ?_
 refine Lt.ofWL.and 15 19 18 (p := ?pz3) (rest := ?qz3) (B := ?Bz3) rfl ?Tz3 ?Fz3 ?az3 ?bz3 ?cz3 ?dz3 ?ez3
 case Tz3 =>
  intro hcz3 hkz3
  refine sp (OpV.fieldAddr rfl fo_73_3) ?_
  refine sp (OpV.loadBox rfl pt_3 mq0 rfl) ?_
  refine sp (OpV.eql rfl rfl) ?_
  refine hkz3 _ ?_ ?_
  exact rfl
  repeat (first | exact Sub.refl _ | refine Sub.skip rfl ?_)
 case Fz3 =>
  intro hcz3 hkz3
  refine sk ?_
  refine sk ?_
  refine sk ?_
  refine hkz3 _ ?_
  repeat (first | exact Sub.refl _ | refine Sub.skip rfl ?_)
 case az3 => exact rfl
 case bz3 => exact rfl
 case cz3 => exact rfl
 case dz3 => exact rfl
 refine mv ?_
 refine Lt.ofWL.and 20 24 23 (p := ?pz4) (rest := ?qz4) (B := ?Bz4) rfl ?Tz4 ?Fz4 ?az4 ?bz4 ?cz4 ?dz4 ?ez4
 case Tz4 =>
  intro hcz4 hkz4
  refine sp (OpV.fieldAddr rfl fo_73_4) ?_
  refine sp (OpV.loadBox rfl pt_3 mq0 rfl) ?_
  refine sp (OpV.eql rfl rfl) ?_
  refine hkz4 _ ?_ ?_
  exact rfl
  repeat (first | exact Sub.refl _ | refine Sub.skip rfl ?_)
 case Fz4 =>
  intro hcz4 hkz4
  refine sk ?_
  refine sk ?_
  refine sk ?_
  refine hkz4 _ ?_
  repeat (first | exact Sub.refl _ | refine Sub.skip rfl ?_)
 case az4 => exact rfl
 case bz4 => exact rfl
 case cz4 => exact rfl
 case dz4 => exact rfl
 refine mv ?_
 refine Lt.ofWL.and 25 30 29 (p := ?pz5) (rest := ?qz5) (B := ?Bz5) rfl ?Tz5 ?Fz5 ?az5 ?bz5 ?cz5 ?dz5 ?ez5
 case Tz5 =>
  intro hcz5 hkz5
  refine sp (OpV.fieldAddr rfl fo_73_8) ?_
  refine sp (OpV.fieldAddr rfl fo_71_0) ?_
  refine sp (OpV.loadBox rfl pt_3 mq0 rfl) ?_
  refine sp (OpV.leq rfl rfl) ?_
  refine hkz5 _ ?_ ?_
  exact rfl
  repeat (first | exact Sub.refl _ | refine Sub.skip rfl ?_)
 case Fz5 =>
  intro hcz5 hkz5
  refine sk ?_
  refine sk ?_
  refine sk ?_
  refine sk ?_
  refine hkz5 _ ?_
  repeat (first | exact Sub.refl _ | refine Sub.skip rfl ?_)
 case az5 => exact rfl
 case bz5 => exact rfl
 case cz5 => exact rfl
 case dz5 => exact rfl
 refine mv ?_
 refine Lt.ofWL.and 31 36 35 (p := ?pz6) (rest := ?qz6) (B := ?Bz6) rfl ?Tz6 ?Fz6 ?az6 ?bz6 ?cz6 ?dz6 ?ez6
 case Tz6 =>
  intro hcz6 hkz6
  refine sp (OpV.fieldAddr rfl fo_73_8) ?_
  refine sp (OpV.fieldAddr rfl fo_71_1) ?_
  refine sp (OpV.loadBox rfl pt_3 mq0 rfl) ?_
  refine sp (OpV.leq rfl rfl) ?_
  refine hkz6 _ ?_ ?_
  exact rfl
  repeat (first | exact Sub.refl _ | refine Sub.skip rfl ?_)
 case Fz6 =>
  intro hcz6 hkz6
  refine sk ?_
  refine sk ?_
  refine sk ?_
  refine sk ?_
  refine hkz6 _ ?_
  repeat (first | exact Sub.refl _ | refine Sub.skip rfl ?_)
 case az6 => exact rfl
 case bz6 => exact rfl
 case cz6 => exact rfl
 case dz6 => exact rfl
 refine ag ?_
 refine WL.nil (En.next (WC.ret ?_))
 refine En.ret1 rfl (Res.tmp rfl) ?_
 obtain rfl := Option.some.inj h
 intro w' hs
 exact ⟨rfl, hs.below⟩

theorem w_impl_AssignedOf {a_p0 : SceneT} {a_p1 : OptionsT} {r : (List Int) × Int} {q0_0 : Option Addr} {l0_0 k0_0 : Nat} (h : impl_AssignedOf a_p0 a_p1 = some r) {w : World} (r0_0 : Rd tSurface w q0_0 l0_0 k0_0 a_p0.Surfaces)   :
    Calls Try.prog 33 #[.agg #[.int .i64 a_p0.W, .int .i64 a_p0.H, .int .i64 a_p0.Back, .slice q0_0 l0_0 k0_0], .agg #[.int .i64 a_p1.Overlays, .bool a_p1.Cursor, .int .i64 a_p1.Layout, .bool a_p1.Partial, .bool a_p1.Sleep, .bool a_p1.Secret]] w (fun en w' => ∃ rv G, en = .returned rv ∧ (∃ (a0_0 : Option Addr) (n0_0 : Nat) (c0_0 : Nat) (f0_0 : List Nat), rv = .tuple #[.slice a0_0 n0_0 c0_0, .int .i64 r.2] ∧ G = [Chunk.own tInt f0_0 a0_0 n0_0 c0_0 r.1]) ∧ St w G w') := by
 obtain rfl := r0_0.1
 unfold impl_AssignedOf at h
 refine enter (vs := [_, _]) Try.func33 rfl rfl rfl rfl ?_
 refine WC.sr ?_
 refine WL.heavy rfl rfl rfl (OpH.box rfl rfl ?_)
 intro b0_0
 refine WL.heavy rfl rfl rfl (OpH.box rfl rfl ?_)
 intro b0_1
 refine ag ?_
 refine ag ?_
 refine WL.nil (En.next (WC.seq (WC.seq ?_)))
 obtain ⟨x1_1, e1_1, h⟩ := bnd h
 obtain ⟨q1_7, e1_7, h⟩ := bnd h
 refine WC.region ?_
 refine sp (OpV.loadAll rfl mq1 ag_62) ?_
 refine sp (OpV.call (ec rfl e0) ca_78 (fun w hs => w_impl_SceneOk e1_1 (r0_0.ext hs.below))) ?_
 refine sp (OpV.not rfl) ?_
 refine mv ?_
 refine Lt.ofWL.orQ 14 18 17 (p := ?pz1) (rest := ?qz1) (B := q1_7) rfl (fun hz => orO_t e1_7 hz) ?Tz1 ?Fz1 ?az1 ?bz1 ?cz1 ?dz1 ?ez1
 case Tz1 =>
  intro hcz1 hkz1
  refine sk ?_
  refine sk ?_
  refine sk ?_
  refine hkz1 _ ?_
  repeat (first | exact Sub.refl _ | refine Sub.skip rfl ?_)
 case Fz1 =>
  intro hcz1 hkz1
  have hqz1 := orO_f e1_7 hcz1
  obtain ⟨x1_5, e1_5, hqz1⟩ := bnd hqz1
  obtain rfl := Option.some.inj hqz1
  refine sp (OpV.loadAll rfl mq0 ag_64) ?_
  refine sp (OpV.call (ec rfl e0) ca_79 (fun w hs => w_impl_OptionsOk e1_5)) ?_
  refine sp (OpV.not rfl) ?_
  refine hkz1 _ ?_ ?_
  exact rfl
  repeat (first | exact Sub.refl _ | refine Sub.skip rfl ?_)
 case az1 => exact rfl
 case bz1 => exact rfl
 case cz1 => exact rfl
 case dz1 => exact rfl
 refine WL.nil (En.next ?_)
 refine WC.cond rfl ?_ ?_
 ·
  intro hc_1
  replace h := ifO_t hc_1 h
  refine WC.sr ?_
  refine ag ?_
  refine ag ?_
  refine WL.nil (En.next (WC.ret (En.then_ret ?_)))
  refine En.ret2 rfl (Res.tmp rfl) (Res.tmp rfl) ?_
  obtain rfl := Option.some.inj h
  intro w' hs
  have hs := ((hs).ownNil (A := tInt)).sub (.cons_cons _ (.cons _ (.cons _ (.slnil))))
  exact ⟨_, _, rfl, ⟨.none, 0, 0, [], rfl, rfl⟩, hs⟩
 ·
  intro hc_1
  replace h := ifO_f hc_1 h
  refine WC.skip (En.next (WC.sr ?_))
  refine WL.heavy rfl rfl rfl (OpH.litF (A := tInt) (xs := [(-1), (-1), (-1)]) tInt_flat (evps.cons rfl (evps.cons rfl (evps.cons rfl (evps.nil)))) (bs_23_3_0_1_2 _ _ _) rfl rfl (Nat.le_of_ble_eq_true rfl) ?_)
  intro b3_0
  refine ag ?_
  refine WL.nil (En.next (WC.sr ?_))
  refine ag ?_
  refine WL.nil (En.next (WC.seq ?_))
  obtain ⟨x5_1, e5_1, h⟩ := bnd h
  refine WC.region ?_
  refine sp (OpV.loadAll rfl mq2 ag_62) ?_
  refine sp (OpV.call (ec rfl (ec rfl e0)) ca_35 (fun w hs => w_impl_TopVisible e5_1 (r0_0.ext hs.below))) ?_
  refine ag ?_
  refine WL.nil (En.next (WC.seq (WC.seq ?_)))
  obtain ⟨q6_13, e6_13, h⟩ := bnd h
  refine WC.region ?_
  refine sp (OpV.fieldAddr rfl fo_64_1) ?_
  refine sp (OpV.loadBox rfl pt_4 mq1 rfl) ?_
  refine mv ?_
  refine Lt.ofWL.and 24 27 26 (p := ?pz2) (rest := ?qz2) (B := ?Bz2) rfl ?Tz2 ?Fz2 ?az2 ?bz2 ?cz2 ?dz2 ?ez2
  case Tz2 =>
   intro hcz2 hkz2
   refine mv ?_
   refine sp (OpV.geq rfl rfl) ?_
   refine hkz2 _ ?_ ?_
   exact rfl
   repeat (first | exact Sub.refl _ | refine Sub.skip rfl ?_)
  case Fz2 =>
   intro hcz2 hkz2
   refine sk ?_
   refine sk ?_
   refine hkz2 _ ?_
   repeat (first | exact Sub.refl _ | refine Sub.skip rfl ?_)
  case az2 => exact rfl
  case bz2 => exact rfl
  case cz2 => exact rfl
  case dz2 => exact rfl
  refine mv ?_
  refine Lt.ofWL.andQ 28 35 34 (p := ?pz3) (rest := ?qz3) (B := q6_13) rfl (fun hz => andO_f e6_13 hz) ?Tz3 ?Fz3 ?az3 ?bz3 ?cz3 ?dz3 ?ez3
  case Tz3 =>
   intro hcz3 hkz3
   have hqz3 := andO_t e6_13 hcz3
   obtain ⟨x6_10, e6_10, hqz3⟩ := bnd hqz3
   obtain ⟨g6_10, o6_10, _, ha6_10, ⟨a6_10_1, c6_10_1, rfl, r6_10_1⟩, hd6_10⟩ := Rd.atIdx r0_0 e6_10
   replace hd6_10 : ∀ (j : Nat) v, ([.int .i64 x6_10.Id, .int .i64 x6_10.X, .int .i64 x6_10.Y, .int .i64 x6_10.W, .int .i64 x6_10.H, .int .i64 x6_10.Alpha, .int .i64 x6_10.Orient, .bool x6_10.Visible, .int .i64 x6_10.Buffer.W, .int .i64 x6_10.Buffer.H, .slice a6_10_1 x6_10.Buffer.Data.length c6_10_1] : List Value)[j]? = some v → w.cell? ⟨g6_10, o6_10 + x5_1.toNat * 11 + j, .none⟩ = some v := hd6_10
   obtain ⟨x6_12, e6_12, hqz3⟩ := bnd hqz3
   obtain rfl := Option.some.inj hqz3
   refine sp (OpV.fieldAddr rfl fo_62_3) ?_
   refine sp (OpV.loadBox rfl pt_60 mq2 rfl) ?_
   refine mv ?_
   refine sp (OpV.idxA rfl rfl se_60 ha6_10 ⟨(idx_some e6_10).1, (idx_some e6_10).2.1⟩) ?_
   refine sp (OpV.loadN rfl ag_73 rfl (fun w hs => hs.cellsAt hd6_10)) ?_
   refine sp (OpV.call (ec rfl e0) ca_80 (fun w hs => w_impl_FitsCursor e6_12 (r6_10_1.ext hs.below))) ?_
   refine hkz3 _ ?_ ?_
   exact rfl
   repeat (first | exact Sub.refl _ | refine Sub.skip rfl ?_)
  case Fz3 =>
   intro hcz3 hkz3
   refine sk ?_
   refine sk ?_
   refine sk ?_
   refine sk ?_
   refine sk ?_
   refine sk ?_
   refine hkz3 _ ?_
   repeat (first | exact Sub.refl _ | refine Sub.skip rfl ?_)
  case az3 => exact rfl
  case bz3 => exact rfl
  case cz3 => exact rfl
  case dz3 => exact rfl
  refine WL.nil (En.next ?_)
  refine WC.cond rfl ?_ ?_
  ·
   intro hc_2
   replace h := ifO_t hc_2 h
   refine WC.seq ?_
   refine WC.inh fun hin7 => ?_
   have hn7_2 := ownLen hin7 mq0
   obtain ⟨x7_3, e7_3, h⟩ := bnd h
   obtain ⟨g7_2, o7_2, ha7_2⟩ := ownAddrU hin7 mq0 e7_3
   refine WC.region ?_
   refine mv ?_
   refine mv ?_
   refine sp (OpV.idxA rfl rfl se_23 ha7_2 ⟨(upd_some e7_3).1.1, by rw [hn7_2]; exact (upd_some e7_3).1.2⟩) ?_
   refine WL.wkF (fun _ h => St.elFlat tInt_flat x5_1 h) ?_
   refine WL.heavy0 rfl rfl (OpH.setEl (A := tInt) ha7_2 rfl rfl rfl ts_3 e7_3 ?_)
   intro f7_3
   refine WL.nil (En.next (WC.sr ?_))
   refine mv ?_
   refine sp (OpV.addR rfl rfl) ?_
   refine ag ?_
   refine WL.nil (En.next ?_)
   obtain ⟨x9_2, e9_2, h⟩ := bnd h
   refine WC.region ?_
   refine sp (OpV.loadAll rfl mq2 ag_62) ?_
   refine mv ?_
   refine sp (OpV.call (ec rfl (ec rfl e0)) ca_35 (fun w hs => w_impl_TopVisible e9_2 (r0_0.ext hs.below))) ?_
   refine ag ?_
   refine WL.nil (En.next (WC.sr ?_))
   refine ag ?_
   refine WL.nil (En.next (WC.seq (WC.sr ?_)))
   refine sp (OpV.fieldAddr rfl fo_64_0) ?_
   refine sp (OpV.loadBox rfl pt_3 mq1 rfl) ?_
   refine ag ?_
   refine WL.nil (En.next (WC.block ?_))
   obtain ⟨zy0, ezy0, h⟩ := bnd h
   refine WC.cut (X := ((List Int) × Int) × ((List Nat))) (.exit 0) (fun x => zy0 = x.1) (fun x => match x with | ((v_0e, v1_0e), fv_0e) => [(6, .slice (some ⟨b3_0, 0, .none⟩) 3 3), (7, .int .i64 v1_0e)]) (fun x => match x with | ((v_0e, v1_0e), fv_0e) => [Chunk.own tInt fv_0e (some ⟨b3_0, 0, .none⟩) 3 3 v_0e]) ?_ ?_
   ·
    rintro ⟨⟨v_0e, v1_0e⟩, fv_0e⟩ hx
    replace hx : (v_0e, v1_0e) = zy0 := hx.symm
    subst hx
    show En _ _ _ _ [(6, .slice (some ⟨b3_0, 0, .none⟩) 3 3), (7, .int .i64 v1_0e)] [Chunk.own tInt fv_0e (some ⟨b3_0, 0, .none⟩) 3 3 v_0e]
    refine En.block_exit (En.next (WC.sr ?_))
    refine mv ?_
    refine mv ?_
    refine ag ?_
    refine ag ?_
    refine WL.nil (En.next (WC.ret ?_))
    refine En.ret2 rfl (Res.tmp rfl) (Res.tmp rfl) ?_
    obtain rfl := Option.some.inj h
    intro w' hs
    have hs := hs
    exact ⟨_, _, rfl, ⟨(some ⟨b3_0, 0, .none⟩), 3, 3, fv_0e, rfl, rfl⟩, hs⟩
   ·
    intro zK0_0
    refine WC.loopP (G := (List Nat)) (fun s g => match s, g with | (v_0, v1_0, v2_0, v3_0, v4_0), fv_0 => [(2, .pointer (some ⟨b0_0, 0, .none⟩)), (6, .slice (some ⟨b3_0, 0, .none⟩) 3 3), (7, .int .i64 v1_0), (8, .int .i64 v2_0), (9, .bool v3_0), (10, .int .i64 v4_0)]) (fun s g => match s, g with | (v_0, v1_0, v2_0, v3_0, v4_0), fv_0 => [Chunk.box b0_0 62 [.int .i64 a_p0.W, .int .i64 a_p0.H, .int .i64 a_p0.Back, .slice q0_0 a_p0.Surfaces.length k0_0], Chunk.own tInt fv_0 (some ⟨b3_0, 0, .none⟩) 3 3 v_0]) (x7_3, (wr (0 + 1)), x9_2, false, a_p1.Overlays) f7_3 ezy0 (by exact sc (sc (sc (sc (sc (sc sn)))))) (by exact (fun _ h => ((h).pm 2).sub (.cons_cons _ (.cons_cons _ (.cons _ (.slnil)))))) ?_
    rintro zm0 ⟨v_0, v1_0, v2_0, v3_0, v4_0⟩ fv_0 zo0 zf0 zb0 ze0
    have zh0 : impl_AssignedOf_L0 a_p0 v_0 v1_0 v2_0 v3_0 v4_0 = some zo0 := zf0
    unfold impl_AssignedOf_L0 at zh0
    show WC _ _ _ _ _ [(2, .pointer (some ⟨b0_0, 0, .none⟩)), (6, .slice (some ⟨b3_0, 0, .none⟩) 3 3), (7, .int .i64 v1_0), (8, .int .i64 v2_0), (9, .bool v3_0), (10, .int .i64 v4_0)] [Chunk.box b0_0 62 [.int .i64 a_p0.W, .int .i64 a_p0.H, .int .i64 a_p0.Back, .slice q0_0 a_p0.Surfaces.length k0_0], Chunk.own tInt fv_0 (some ⟨b3_0, 0, .none⟩) 3 3 v_0]
    refine WC.seq (WC.sr ?_)
    refine mv ?_
    refine sp (OpV.geq rfl rfl) ?_
    refine WL.nil (En.next ?_)
    refine WC.cond rfl ?_ ?_
    ·
     intro hc_3
     replace zh0 := ifO_t hc_3 zh0
     refine WC.skip (En.next (WC.seq (WC.block (WC.seq (WC.seq ?_)))))
     obtain ⟨q14_13, e14_13, zh0⟩ := bnd zh0
     refine WC.region ?_
     refine mv ?_
     refine sp (OpV.lss rfl rfl) ?_
     refine mv ?_
     refine Lt.ofWL.orQ 52 63 62 (p := ?pz4) (rest := ?qz4) (B := q14_13) rfl (fun hz => orO_t e14_13 hz) ?Tz4 ?Fz4 ?az4 ?bz4 ?cz4 ?dz4 ?ez4
     case Tz4 =>
      intro hcz4 hkz4
      refine sk ?_
      refine sk ?_
      refine sk ?_
      refine sk ?_
      refine sk ?_
      refine sk ?_
      refine sk ?_
      refine sk ?_
      refine sk ?_
      refine sk ?_
      refine hkz4 _ ?_
      repeat (first | exact Sub.refl _ | refine Sub.skip rfl ?_)
     case Fz4 =>
      intro hcz4 hkz4
      have hqz4 := orO_f e14_13 hcz4
      obtain ⟨x14_6, e14_6, hqz4⟩ := bnd hqz4
      obtain ⟨g14_6, o14_6, _, ha14_6, ⟨a14_6_1, c14_6_1, rfl, r14_6_1⟩, hd14_6⟩ := Rd.atIdx r0_0 e14_6
      replace hd14_6 : ∀ (j : Nat) v, ([.int .i64 x14_6.Id, .int .i64 x14_6.X, .int .i64 x14_6.Y, .int .i64 x14_6.W, .int .i64 x14_6.H, .int .i64 x14_6.Alpha, .int .i64 x14_6.Orient, .bool x14_6.Visible, .int .i64 x14_6.Buffer.W, .int .i64 x14_6.Buffer.H, .slice a14_6_1 x14_6.Buffer.Data.length c14_6_1] : List Value)[j]? = some v → w.cell? ⟨g14_6, o14_6 + v2_0.toNat * 11 + j, .none⟩ = some v := hd14_6
      obtain rfl := Option.some.inj hqz4
      refine sp (OpV.fieldAddr rfl fo_62_3) ?_
      refine sp (OpV.loadBox rfl pt_60 mq0 rfl) ?_
      refine mv ?_
      refine sp (OpV.idxA rfl rfl se_60 ha14_6 ⟨(idx_some e14_6).1, (idx_some e14_6).2.1⟩) ?_
      refine sp (OpV.fieldAddr rfl fo_73_3) ?_
      refine sp (OpV.load1 rfl pt_3 (fun w hs => hs.cell (hd14_6 3 _ rfl))) ?_
      refine sp (OpV.neq rfl rfl) ?_
      refine mv ?_
      refine Lt.ofWL.and 60 62 61 (p := ?pz5) (rest := ?qz5) (B := ?Bz5) rfl ?Tz5 ?Fz5 ?az5 ?bz5 ?cz5 ?dz5 ?ez5
      case Tz5 =>
       intro hcz5 hkz5
       refine mv ?_
       refine hkz5 _ ?_ ?_
       exact rfl
       repeat (first | exact Sub.refl _ | refine Sub.skip rfl ?_)
      case Fz5 =>
       intro hcz5 hkz5
       refine sk ?_
       refine hkz5 _ ?_
       repeat (first | exact Sub.refl _ | refine Sub.skip rfl ?_)
      case az5 => exact rfl
      case bz5 => exact rfl
      case cz5 => exact rfl
      case dz5 => exact rfl
      refine hkz4 _ ?_ ?_
      exact rfl
      repeat (first | exact Sub.refl _ | refine Sub.skip rfl ?_)
     case az4 => exact rfl
     case bz4 => exact rfl
     case cz4 => exact rfl
     case dz4 => exact rfl
     refine WL.nil (En.next ?_)
     refine WC.cond rfl ?_ ?_
     ·
      intro hc_4
      replace zh0 := ifO_t hc_4 zh0
      refine WC.exit (En.then_exit ?_)
      refine En.block_exit' rfl ?_
      refine En.then_exit (En.then_exit ?_)
      have hx := exitP ze0 zh0
      exact En.wk _ _ (sc (sc sn)) (fun _ h => ((h).pm 1).sub (.cons_cons _ (.cons _ (.slnil)))) (zK0_0 ((v_0, v1_0), fv_0) hx.symm)
     ·
      intro hc_4
      replace zh0 := ifO_f hc_4 zh0
      refine WC.skip (En.next (WC.seq ?_))
      obtain ⟨q15_9, e15_9, zh0⟩ := bnd zh0
      refine WC.region ?_
      refine mv ?_
      refine mv ?_
      refine Lt.ofWL.orQ 65 73 72 (p := ?pz6) (rest := ?qz6) (B := q15_9) rfl (fun hz => orO_t e15_9 hz) ?Tz6 ?Fz6 ?az6 ?bz6 ?cz6 ?dz6 ?ez6
      case Tz6 =>
       intro hcz6 hkz6
       refine sk ?_
       refine sk ?_
       refine sk ?_
       refine sk ?_
       refine sk ?_
       refine sk ?_
       refine sk ?_
       refine hkz6 _ ?_
       repeat (first | exact Sub.refl _ | refine Sub.skip rfl ?_)
      case Fz6 =>
       intro hcz6 hkz6
       have hqz6 := orO_f e15_9 hcz6
       obtain ⟨x15_5, e15_5, hqz6⟩ := bnd hqz6
       obtain ⟨g15_5, o15_5, _, ha15_5, ⟨a15_5_1, c15_5_1, rfl, r15_5_1⟩, hd15_5⟩ := Rd.atIdx r0_0 e15_5
       replace hd15_5 : ∀ (j : Nat) v, ([.int .i64 x15_5.Id, .int .i64 x15_5.X, .int .i64 x15_5.Y, .int .i64 x15_5.W, .int .i64 x15_5.H, .int .i64 x15_5.Alpha, .int .i64 x15_5.Orient, .bool x15_5.Visible, .int .i64 x15_5.Buffer.W, .int .i64 x15_5.Buffer.H, .slice a15_5_1 x15_5.Buffer.Data.length c15_5_1] : List Value)[j]? = some v → w.cell? ⟨g15_5, o15_5 + v2_0.toNat * 11 + j, .none⟩ = some v := hd15_5
       obtain rfl := Option.some.inj hqz6
       refine sp (OpV.fieldAddr rfl fo_62_3) ?_
       refine sp (OpV.loadBox rfl pt_60 mq0 rfl) ?_
       refine mv ?_
       refine sp (OpV.idxA rfl rfl se_60 ha15_5 ⟨(idx_some e15_5).1, (idx_some e15_5).2.1⟩) ?_
       refine sp (OpV.fieldAddr rfl fo_73_3) ?_
       refine sp (OpV.load1 rfl pt_3 (fun w hs => hs.cell (hd15_5 3 _ rfl))) ?_
       refine sp (OpV.neq rfl rfl) ?_
       refine hkz6 _ ?_ ?_
       exact rfl
       repeat (first | exact Sub.refl _ | refine Sub.skip rfl ?_)
      case az6 => exact rfl
      case bz6 => exact rfl
      case cz6 => exact rfl
      case dz6 => exact rfl
      refine ag ?_
      refine WL.nil (En.next (WC.seq ?_))
      refine WC.inh fun hin16 => ?_
      have hn16_4 := ownLen hin16 mq1
      obtain ⟨x16_5, e16_5, zh0⟩ := bnd zh0
      obtain ⟨g16_4, o16_4, ha16_4⟩ := ownAddrU hin16 mq1 e16_5
      refine WC.region ?_
      refine mv ?_
      refine mv ?_
      refine sp (OpV.subR rfl rfl) ?_
      refine mv ?_
      refine sp (OpV.idxA rfl rfl se_23 ha16_4 ⟨(upd_some e16_5).1.1, by rw [hn16_4]; exact (upd_some e16_5).1.2⟩) ?_
      refine WL.wkF (fun _ h => St.elFlat tInt_flat v2_0 h) ?_
      refine WL.wkF (fun _ h => h.pm 2) ?_
      refine WL.wkF (fun _ h => h.pm 1) ?_
      refine WL.heavy0 rfl rfl (OpH.setEl (A := tInt) ha16_4 rfl rfl rfl ts_3 e16_5 ?_)
      intro f16_5
      refine WL.nil (En.next (WC.sr ?_))
      refine mv ?_
      refine sp (OpV.addR rfl rfl) ?_
      refine ag ?_
      refine WL.nil (En.next ?_)
      obtain ⟨x18_2, e18_2, zh0⟩ := bnd zh0
      refine WC.region ?_
      refine sp (OpV.loadAll rfl mq1 ag_62) ?_
      refine mv ?_
      refine sp (OpV.call (ec rfl (ec rfl e0)) ca_35 (fun w hs => w_impl_TopVisible e18_2 (r0_0.ext hs.below))) ?_
      refine ag ?_
      refine WL.nil (En.block_norm (En.next (WC.region ?_)))
      refine mv ?_
      refine sp (OpV.subR rfl rfl) ?_
      refine ag ?_
      refine WL.nil ?_
      exact En.backP zb0 zh0 f16_5 (sc (sc (sc (sc (sc (sc sn)))))) (fun _ h => (h).pm 1)
    ·
     intro hc_3
     replace zh0 := ifO_f hc_3 zh0
     refine WC.exit (En.then_exit (En.then_exit ?_))
     have hx := exitP ze0 zh0
     exact En.wk _ _ (sc (sc sn)) (fun _ h => ((h).pm 1).sub (.cons_cons _ (.cons _ (.slnil)))) (zK0_0 ((v_0, v1_0), fv_0) hx.symm)
  ·
   intro hc_2
   replace h := ifO_f hc_2 h
   refine WC.skip (En.next (WC.sr ?_))
   refine ag ?_
   refine WL.nil (En.next (WC.seq (WC.sr ?_)))
   refine sp (OpV.fieldAddr rfl fo_64_0) ?_
   refine sp (OpV.loadBox rfl pt_3 mq1 rfl) ?_
   refine ag ?_
   refine WL.nil (En.next (WC.block ?_))
   obtain ⟨zy1, ezy1, h⟩ := bnd h
   refine WC.cut (X := ((List Int) × Int) × ((List Nat))) (.exit 0) (fun x => zy1 = x.1) (fun x => match x with | ((v_1e, v1_1e), fv_1e) => [(6, .slice (some ⟨b3_0, 0, .none⟩) 3 3), (7, .int .i64 v1_1e)]) (fun x => match x with | ((v_1e, v1_1e), fv_1e) => [Chunk.own tInt fv_1e (some ⟨b3_0, 0, .none⟩) 3 3 v_1e]) ?_ ?_
   ·
    rintro ⟨⟨v_1e, v1_1e⟩, fv_1e⟩ hx
    replace hx : (v_1e, v1_1e) = zy1 := hx.symm
    subst hx
    show En _ _ _ _ [(6, .slice (some ⟨b3_0, 0, .none⟩) 3 3), (7, .int .i64 v1_1e)] [Chunk.own tInt fv_1e (some ⟨b3_0, 0, .none⟩) 3 3 v_1e]
    refine En.block_exit (En.next (WC.sr ?_))
    refine mv ?_
    refine mv ?_
    refine ag ?_
    refine ag ?_
    refine WL.nil (En.next (WC.ret ?_))
    refine En.ret2 rfl (Res.tmp rfl) (Res.tmp rfl) ?_
    obtain rfl := Option.some.inj h
    intro w' hs
    have hs := hs
    exact ⟨_, _, rfl, ⟨(some ⟨b3_0, 0, .none⟩), 3, 3, fv_1e, rfl, rfl⟩, hs⟩
   ·
    intro zK1_0
    refine WC.loopP (G := (List Nat)) (fun s g => match s, g with | (v_1, v1_1, v2_1, v3_1, v4_1), fv_1 => [(2, .pointer (some ⟨b0_0, 0, .none⟩)), (6, .slice (some ⟨b3_0, 0, .none⟩) 3 3), (7, .int .i64 v1_1), (8, .int .i64 v2_1), (9, .bool v3_1), (10, .int .i64 v4_1)]) (fun s g => match s, g with | (v_1, v1_1, v2_1, v3_1, v4_1), fv_1 => [Chunk.box b0_0 62 [.int .i64 a_p0.W, .int .i64 a_p0.H, .int .i64 a_p0.Back, .slice q0_0 a_p0.Surfaces.length k0_0], Chunk.own tInt fv_1 (some ⟨b3_0, 0, .none⟩) 3 3 v_1]) ([(-1), (-1), (-1)], 0, x5_1, false, a_p1.Overlays) [b3_0] ezy1 (by exact sc (sc (sc (sc (sc (sc sn)))))) (by exact (fun _ h => ((h).pm 2).sub (.cons_cons _ (.cons_cons _ (.cons _ (.slnil)))))) ?_
    rintro zm1 ⟨v_1, v1_1, v2_1, v3_1, v4_1⟩ fv_1 zo1 zf1 zb1 ze1
    have zh1 : impl_AssignedOf_L1 a_p0 v_1 v1_1 v2_1 v3_1 v4_1 = some zo1 := zf1
    unfold impl_AssignedOf_L1 at zh1
    show WC _ _ _ _ _ [(2, .pointer (some ⟨b0_0, 0, .none⟩)), (6, .slice (some ⟨b3_0, 0, .none⟩) 3 3), (7, .int .i64 v1_1), (8, .int .i64 v2_1), (9, .bool v3_1), (10, .int .i64 v4_1)] [Chunk.box b0_0 62 [.int .i64 a_p0.W, .int .i64 a_p0.H, .int .i64 a_p0.Back, .slice q0_0 a_p0.Surfaces.length k0_0], Chunk.own tInt fv_1 (some ⟨b3_0, 0, .none⟩) 3 3 v_1]
    refine WC.seq (WC.sr ?_)
    refine mv ?_
    refine sp (OpV.geq rfl rfl) ?_
    refine WL.nil (En.next ?_)
    refine WC.cond rfl ?_ ?_
    ·
     intro hc_5
     replace zh1 := ifO_t hc_5 zh1
     refine WC.skip (En.next (WC.seq (WC.block (WC.seq (WC.seq ?_)))))
     obtain ⟨q14_13, e14_13, zh1⟩ := bnd zh1
     refine WC.region ?_
     refine mv ?_
     refine sp (OpV.lss rfl rfl) ?_
     refine mv ?_
     refine Lt.ofWL.orQ 52 63 62 (p := ?pz7) (rest := ?qz7) (B := q14_13) rfl (fun hz => orO_t e14_13 hz) ?Tz7 ?Fz7 ?az7 ?bz7 ?cz7 ?dz7 ?ez7
     case Tz7 =>
      intro hcz7 hkz7
      refine sk ?_
      refine sk ?_
      refine sk ?_
      refine sk ?_
      refine sk ?_
      refine sk ?_
      refine sk ?_
      refine sk ?_
      refine sk ?_
      refine sk ?_
      refine hkz7 _ ?_
      repeat (first | exact Sub.refl _ | refine Sub.skip rfl ?_)
     case Fz7 =>
      intro hcz7 hkz7
      have hqz7 := orO_f e14_13 hcz7
      obtain ⟨x14_6, e14_6, hqz7⟩ := bnd hqz7
      obtain ⟨g14_6, o14_6, _, ha14_6, ⟨a14_6_1, c14_6_1, rfl, r14_6_1⟩, hd14_6⟩ := Rd.atIdx r0_0 e14_6
      replace hd14_6 : ∀ (j : Nat) v, ([.int .i64 x14_6.Id, .int .i64 x14_6.X, .int .i64 x14_6.Y, .int .i64 x14_6.W, .int .i64 x14_6.H, .int .i64 x14_6.Alpha, .int .i64 x14_6.Orient, .bool x14_6.Visible, .int .i64 x14_6.Buffer.W, .int .i64 x14_6.Buffer.H, .slice a14_6_1 x14_6.Buffer.Data.length c14_6_1] : List Value)[j]? = some v → w.cell? ⟨g14_6, o14_6 + v2_1.toNat * 11 + j, .none⟩ = some v := hd14_6
      obtain rfl := Option.some.inj hqz7
      refine sp (OpV.fieldAddr rfl fo_62_3) ?_
      refine sp (OpV.loadBox rfl pt_60 mq0 rfl) ?_
      refine mv ?_
      refine sp (OpV.idxA rfl rfl se_60 ha14_6 ⟨(idx_some e14_6).1, (idx_some e14_6).2.1⟩) ?_
      refine sp (OpV.fieldAddr rfl fo_73_3) ?_
      refine sp (OpV.load1 rfl pt_3 (fun w hs => hs.cell (hd14_6 3 _ rfl))) ?_
      refine sp (OpV.neq rfl rfl) ?_
      refine mv ?_
      refine Lt.ofWL.and 60 62 61 (p := ?pz8) (rest := ?qz8) (B := ?Bz8) rfl ?Tz8 ?Fz8 ?az8 ?bz8 ?cz8 ?dz8 ?ez8
      case Tz8 =>
       intro hcz8 hkz8
       refine mv ?_
       refine hkz8 _ ?_ ?_
       exact rfl
       repeat (first | exact Sub.refl _ | refine Sub.skip rfl ?_)
      case Fz8 =>
       intro hcz8 hkz8
       refine sk ?_
       refine hkz8 _ ?_
       repeat (first | exact Sub.refl _ | refine Sub.skip rfl ?_)
      case az8 => exact rfl
      case bz8 => exact rfl
      case cz8 => exact rfl
      case dz8 => exact rfl
      refine hkz7 _ ?_ ?_
      exact rfl
      repeat (first | exact Sub.refl _ | refine Sub.skip rfl ?_)
     case az7 => exact rfl
     case bz7 => exact rfl
     case cz7 => exact rfl
     case dz7 => exact rfl
     refine WL.nil (En.next ?_)
     refine WC.cond rfl ?_ ?_
     ·
      intro hc_6
      replace zh1 := ifO_t hc_6 zh1
      refine WC.exit (En.then_exit ?_)
      refine En.block_exit' rfl ?_
      refine En.then_exit (En.then_exit ?_)
      have hx := exitP ze1 zh1
      exact En.wk _ _ (sc (sc sn)) (fun _ h => ((h).pm 1).sub (.cons_cons _ (.cons _ (.slnil)))) (zK1_0 ((v_1, v1_1), fv_1) hx.symm)
     ·
      intro hc_6
      replace zh1 := ifO_f hc_6 zh1
      refine WC.skip (En.next (WC.seq ?_))
      obtain ⟨q15_9, e15_9, zh1⟩ := bnd zh1
      refine WC.region ?_
      refine mv ?_
      refine mv ?_
      refine Lt.ofWL.orQ 65 73 72 (p := ?pz9) (rest := ?qz9) (B := q15_9) rfl (fun hz => orO_t e15_9 hz) ?Tz9 ?Fz9 ?az9 ?bz9 ?cz9 ?dz9 ?ez9
      case Tz9 =>
       intro hcz9 hkz9
       refine sk ?_
       refine sk ?_
       refine sk ?_
       refine sk ?_
       refine sk ?_
       refine sk ?_
       refine sk ?_
       refine hkz9 _ ?_
       repeat (first | exact Sub.refl _ | refine Sub.skip rfl ?_)
      case Fz9 =>
       intro hcz9 hkz9
       have hqz9 := orO_f e15_9 hcz9
       obtain ⟨x15_5, e15_5, hqz9⟩ := bnd hqz9
       obtain ⟨g15_5, o15_5, _, ha15_5, ⟨a15_5_1, c15_5_1, rfl, r15_5_1⟩, hd15_5⟩ := Rd.atIdx r0_0 e15_5
       replace hd15_5 : ∀ (j : Nat) v, ([.int .i64 x15_5.Id, .int .i64 x15_5.X, .int .i64 x15_5.Y, .int .i64 x15_5.W, .int .i64 x15_5.H, .int .i64 x15_5.Alpha, .int .i64 x15_5.Orient, .bool x15_5.Visible, .int .i64 x15_5.Buffer.W, .int .i64 x15_5.Buffer.H, .slice a15_5_1 x15_5.Buffer.Data.length c15_5_1] : List Value)[j]? = some v → w.cell? ⟨g15_5, o15_5 + v2_1.toNat * 11 + j, .none⟩ = some v := hd15_5
       obtain rfl := Option.some.inj hqz9
       refine sp (OpV.fieldAddr rfl fo_62_3) ?_
       refine sp (OpV.loadBox rfl pt_60 mq0 rfl) ?_
       refine mv ?_
       refine sp (OpV.idxA rfl rfl se_60 ha15_5 ⟨(idx_some e15_5).1, (idx_some e15_5).2.1⟩) ?_
       refine sp (OpV.fieldAddr rfl fo_73_3) ?_
       refine sp (OpV.load1 rfl pt_3 (fun w hs => hs.cell (hd15_5 3 _ rfl))) ?_
       refine sp (OpV.neq rfl rfl) ?_
       refine hkz9 _ ?_ ?_
       exact rfl
       repeat (first | exact Sub.refl _ | refine Sub.skip rfl ?_)
      case az9 => exact rfl
      case bz9 => exact rfl
      case cz9 => exact rfl
      case dz9 => exact rfl
      refine ag ?_
      refine WL.nil (En.next (WC.seq ?_))
      refine WC.inh fun hin16 => ?_
      have hn16_4 := ownLen hin16 mq1
      obtain ⟨x16_5, e16_5, zh1⟩ := bnd zh1
      obtain ⟨g16_4, o16_4, ha16_4⟩ := ownAddrU hin16 mq1 e16_5
      refine WC.region ?_
      refine mv ?_
      refine mv ?_
      refine sp (OpV.subR rfl rfl) ?_
      refine mv ?_
      refine sp (OpV.idxA rfl rfl se_23 ha16_4 ⟨(upd_some e16_5).1.1, by rw [hn16_4]; exact (upd_some e16_5).1.2⟩) ?_
      refine WL.wkF (fun _ h => St.elFlat tInt_flat v2_1 h) ?_
      refine WL.wkF (fun _ h => h.pm 2) ?_
      refine WL.wkF (fun _ h => h.pm 1) ?_
      refine WL.heavy0 rfl rfl (OpH.setEl (A := tInt) ha16_4 rfl rfl rfl ts_3 e16_5 ?_)
      intro f16_5
      refine WL.nil (En.next (WC.sr ?_))
      refine mv ?_
      refine sp (OpV.addR rfl rfl) ?_
      refine ag ?_
      refine WL.nil (En.next ?_)
      obtain ⟨x18_2, e18_2, zh1⟩ := bnd zh1
      refine WC.region ?_
      refine sp (OpV.loadAll rfl mq1 ag_62) ?_
      refine mv ?_
      refine sp (OpV.call (ec rfl (ec rfl e0)) ca_35 (fun w hs => w_impl_TopVisible e18_2 (r0_0.ext hs.below))) ?_
      refine ag ?_
      refine WL.nil (En.block_norm (En.next (WC.region ?_)))
      refine mv ?_
      refine sp (OpV.subR rfl rfl) ?_
      refine ag ?_
      refine WL.nil ?_
      exact En.backP zb1 zh1 f16_5 (sc (sc (sc (sc (sc (sc sn)))))) (fun _ h => (h).pm 1)
    ·
     intro hc_5
     replace zh1 := ifO_f hc_5 zh1
     refine WC.exit (En.then_exit (En.then_exit ?_))
     have hx := exitP ze1 zh1
     exact En.wk _ _ (sc (sc sn)) (fun _ h => ((h).pm 1).sub (.cons_cons _ (.cons _ (.slnil)))) (zK1_0 ((v_1, v1_1), fv_1) hx.symm)

theorem w_laws_get {list_p0 : List Int} {i_p1 : Int} {r : Int} {q0_0 : Option Addr} {l0_0 k0_0 : Nat} (h : laws_get list_p0 i_p1 = some r) {w : World} (r0_0 : Rd tInt w q0_0 l0_0 k0_0 list_p0)   :
    Calls Try.prog 48 #[.slice q0_0 l0_0 k0_0, .int .i64 i_p1] w (fun en w' => en = .returned (.int .i64 r) ∧ Ext w w') := by
 obtain rfl := r0_0.1
 unfold laws_get at h
 refine enter (vs := [_, _]) Try.func48 rfl rfl rfl rfl ?_
 refine WC.sr ?_
 refine ag ?_
 refine WL.nil (En.next (WC.seq (WC.sr ?_)))
 refine mv ?_
 refine sp (OpV.lss rfl rfl) ?_
 refine mv ?_
 refine Lt.ofWL.or 7 12 11 (p := ?pz1) (rest := ?qz1) (B := ?Bz1) rfl ?Tz1 ?Fz1 ?az1 ?bz1 ?cz1 ?dz1 ?ez1
 case Tz1 =>
  intro hcz1 hkz1
  refine sk ?_
  refine sk ?_
  refine sk ?_
  refine sk ?_
  refine hkz1 _ ?_
  repeat (first | exact Sub.refl _ | refine Sub.skip rfl ?_)
 case Fz1 =>
  intro hcz1 hkz1
  refine mv ?_
  refine mv ?_
  refine sp (OpV.len rfl si_23 rfl) ?_
  refine sp (OpV.geq rfl rfl) ?_
  refine hkz1 _ ?_ ?_
  exact rfl
  repeat (first | exact Sub.refl _ | refine Sub.skip rfl ?_)
 case az1 => exact rfl
 case bz1 => exact rfl
 case cz1 => exact rfl
 case dz1 => exact rfl
 refine WL.nil (En.next ?_)
 refine WC.cond rfl ?_ ?_
 ·
  intro hc_1
  replace h := ifO_t hc_1 h
  refine WC.sr ?_
  refine ag ?_
  refine WL.nil (En.next (WC.ret (En.then_ret ?_)))
  refine En.ret1 rfl (Res.tmp rfl) ?_
  obtain rfl := Option.some.inj h
  intro w' hs
  exact ⟨rfl, hs.below⟩
 ·
  intro hc_1
  replace h := ifO_f hc_1 h
  refine WC.skip (En.next (WC.seq ?_))
  obtain ⟨x3_2, e3_2, h⟩ := bnd h
  obtain ⟨g3_2, o3_2, _, ha3_2, rfl, hd3_2⟩ := Rd.atIdx r0_0 e3_2
  replace hd3_2 : ∀ (j : Nat) v, ([.int .i64 x3_2] : List Value)[j]? = some v → w.cell? ⟨g3_2, o3_2 + i_p1.toNat * 1 + j, .none⟩ = some v := hd3_2
  refine WC.region ?_
  refine mv ?_
  refine mv ?_
  refine sp (OpV.idxA rfl rfl se_23 ha3_2 ⟨(idx_some e3_2).1, (idx_some e3_2).2.1⟩) ?_
  refine sp (OpV.load1 rfl pt_3 (fun w hs => hs.cell (hd3_2 0 _ rfl))) ?_
  refine ag ?_
  refine WL.nil (En.next (WC.ret ?_))
  refine En.ret1 rfl (Res.tmp rfl) ?_
  obtain rfl := Option.some.inj h
  intro w' hs
  exact ⟨rfl, hs.below⟩

theorem w_slices_Index_S_int_int {s_p0 : List Int} {v_p1 : Int} {r : Int} {q0_0 : Option Addr} {l0_0 k0_0 : Nat} (h : slices_Index_S_int_int s_p0 v_p1 = some r) {w : World} (r0_0 : Rd tInt w q0_0 l0_0 k0_0 s_p0)   :
    Calls Try.prog 136 #[.slice q0_0 l0_0 k0_0, .int .i64 v_p1] w (fun en w' => en = .returned (.int .i64 r) ∧ Ext w w') := by
 obtain rfl := r0_0.1
 unfold slices_Index_S_int_int at h
 refine enter (vs := [_, _]) Try.func136 rfl rfl rfl rfl ?_
 refine WC.sr ?_
 refine ag ?_
 refine WL.nil (En.next (WC.seq (WC.sr ?_)))
 refine mv ?_
 refine sp (OpV.len rfl si_23 rfl) ?_
 refine mv ?_
 refine WL.nil (En.next (WC.block ?_))
 obtain ⟨zy0, ezy0, h⟩ := bnd h
 refine WC.cut (X := (Unit) × (Unit)) (.exit 0) (fun x => zy0 = .inl x.1) (fun x => match x with | ((), ()) => []) (fun x => match x with | ((), ()) => []) ?_ ?_
 ·
  rintro ⟨⟨⟩, ⟨⟩⟩ hx
  replace hx : .inl () = zy0 := hx.symm
  subst hx
  replace h := fork_l h
  show En _ _ _ _ [] []
  refine En.block_exit (En.next (WC.sr ?_))
  refine ag ?_
  refine WL.nil (En.next (WC.ret ?_))
  refine En.ret1 rfl (Res.tmp rfl) ?_
  obtain rfl := Option.some.inj h
  intro w' hs
  exact ⟨rfl, hs.below⟩
 ·
  intro zK0_0
  refine WC.loopP (G := Unit) (fun s g => match s, g with | v_0, () => [(0, .slice q0_0 s_p0.length k0_0), (1, .int .i64 v_p1), (7, .int .i64 (s_p0.length : Int)), (8, .int .i64 v_0)]) (fun s g => match s, g with | v_0, () => []) 0 () ezy0 (by exact sc (sc (sc (sc sn)))) (by exact (fun _ h => h)) ?_
  rintro zm0 v_0 ⟨⟩ zo0 zf0 zb0 ze0
  have zh0 : slices_Index_S_int_int_L0 s_p0 v_p1 v_0 = some zo0 := zf0
  unfold slices_Index_S_int_int_L0 at zh0
  show WC _ _ _ _ _ [(0, .slice q0_0 s_p0.length k0_0), (1, .int .i64 v_p1), (7, .int .i64 (s_p0.length : Int)), (8, .int .i64 v_0)] []
  refine WC.sr ?_
  refine sp (OpV.lss rfl rfl) ?_
  refine WL.nil (En.next (WC.seq ?_))
  refine WC.cond rfl ?_ ?_
  ·
   intro hc_1
   replace zh0 := ifO_t hc_1 zh0
   refine WC.skip (En.next (WC.seq (WC.block (WC.sr ?_))))
   refine mv ?_
   refine ag ?_
   refine WL.nil (En.next (WC.seq ?_))
   obtain ⟨x4_3, e4_3, zh0⟩ := bnd zh0
   obtain ⟨g4_3, o4_3, _, ha4_3, rfl, hd4_3⟩ := Rd.atIdx r0_0 e4_3
   replace hd4_3 : ∀ (j : Nat) v, ([.int .i64 x4_3] : List Value)[j]? = some v → w.cell? ⟨g4_3, o4_3 + v_0.toNat * 1 + j, .none⟩ = some v := hd4_3
   refine WC.region ?_
   refine mv ?_
   refine mv ?_
   refine mv ?_
   refine sp (OpV.idxA rfl rfl se_23 ha4_3 ⟨(idx_some e4_3).1, (idx_some e4_3).2.1⟩) ?_
   refine sp (OpV.load1 rfl pt_3 (fun w hs => hs.cell (hd4_3 0 _ rfl))) ?_
   refine sp (OpV.eql rfl rfl) ?_
   refine WL.nil (En.next ?_)
   refine WC.cond rfl ?_ ?_
   ·
    intro hc_2
    replace zh0 := ifO_t hc_2 zh0
    refine WC.sr ?_
    refine mv ?_
    refine ag ?_
    refine WL.nil (En.next (WC.ret (En.block_ret (En.then_ret (En.then_ret (En.block_ret (En.then_ret ?_)))))))
    refine En.ret1 rfl (Res.tmp rfl) ?_
    have hx := exitP ze0 zh0
    subst hx
    replace h := fork_r h
    obtain rfl := Option.some.inj h
    intro w' hs
    exact ⟨rfl, hs.below⟩
   ·
    intro hc_2
    replace zh0 := ifO_f hc_2 zh0
    refine WC.skip (En.block_norm (En.next (WC.region ?_)))
    refine sp (OpV.addR rfl rfl) ?_
    refine mv ?_
    refine WL.nil ?_
    exact En.backP zb0 zh0 () (sc (sc (sc (sc sn)))) (fun _ h => h)
  ·
   intro hc_1
   replace zh0 := ifO_f hc_1 zh0
   refine WC.exit (En.then_exit (En.then_exit ?_))
   have hx := exitP ze0 zh0
   exact En.wk _ _ sn (fun _ h => h) (zK0_0 ((), ()) hx.symm)

theorem w_slices_Contains_S_int_int {s_p0 : List Int} {v_p1 : Int} {r : Bool} {q0_0 : Option Addr} {l0_0 k0_0 : Nat} (h : slices_Contains_S_int_int s_p0 v_p1 = some r) {w : World} (r0_0 : Rd tInt w q0_0 l0_0 k0_0 s_p0)   :
    Calls Try.prog 93 #[.slice q0_0 l0_0 k0_0, .int .i64 v_p1] w (fun en w' => en = .returned (.bool r) ∧ Ext w w') := by
 obtain rfl := r0_0.1
 unfold slices_Contains_S_int_int at h
 refine enter (vs := [_, _]) Try.func93 rfl rfl rfl rfl ?_
 refine WC.sr ?_
 refine ag ?_
 refine WL.nil (En.next (WC.seq ?_))
 obtain ⟨x1_2, e1_2, h⟩ := bnd h
 refine WC.region ?_
 refine mv ?_
 refine mv ?_
 refine sp (OpV.call (ec rfl (ec rfl e0)) ca_136 (fun w hs => w_slices_Index_S_int_int e1_2 (r0_0.ext hs.below))) ?_
 refine sp (OpV.geq rfl rfl) ?_
 refine ag ?_
 refine WL.nil (En.next (WC.ret ?_))
 refine En.ret1 rfl (Res.tmp rfl) ?_
 obtain rfl := Option.some.inj h
 intro w' hs
 exact ⟨rfl, hs.below⟩

theorem w_slices_Clone_S_int_int {s_p0 : List Int} {r : List Int} {q0_0 : Option Addr} {n0_0 k0_0 : Nat} (h : slices_Clone_S_int_int s_p0 = some r) {w : World} (r0_0 : Rd tInt w q0_0 n0_0 k0_0 s_p0) :
    Calls Try.prog 110 #[.slice q0_0 n0_0 k0_0] w (fun en w' => ∃ rv G, en = .returned rv ∧ (∃ (a0_0 : Option Addr) (n0_0 : Nat) (c0_0 : Nat) (f0_0 : List Nat), rv = .slice a0_0 n0_0 c0_0 ∧ G = [Chunk.own tInt f0_0 a0_0 n0_0 c0_0 r]) ∧ St w G w') := by
  obtain rfl := r0_0.1
  obtain ⟨hn, h⟩ := need_some h
  obtain rfl := Option.some.inj h
  refine enter (vs := [_]) Try.func110 rfl rfl rfl rfl ?_
  refine WC.sr ?_
  refine ag ?_
  refine WL.nil (En.next (WC.seq (WC.sr ?_)))
  refine mv ?_
  refine sp (OpV.eqNil rfl si_23) ?_
  refine WL.nil (En.next ?_)
  refine WC.cond rfl ?_ ?_
  · intro hc
    have hnil := Rd.isNil r0_0 hc
    refine WC.sr ?_
    refine ag ?_
    refine WL.nil (En.next (WC.ret (En.then_ret ?_)))
    refine En.ret1 rfl (Res.tmp rfl) ?_
    intro w' hs
    refine ⟨_, _, rfl, ⟨.none, 0, 0, [], rfl, rfl⟩, ?_⟩
    rw [hnil]; exact hs.ownNil
  · intro hc
    refine WC.skip (En.next (WC.sr ?_))
    refine WL.heavy rfl rfl rfl (OpH.lit0 (A := tInt) evps.nil bs_23_0_ ?_)
    intro b
    refine mv ?_
    refine WL.heavy rfl rfl rfl (OpH.appS (F := []) (A := tInt) tInt_flat rfl rfl rfl mi_23 rfl (by decide) (fun w hs => r0_0.ext hs.below) (app_nil hn) ?_)
    intro fp a c
    refine ag ?_
    refine WL.nil (En.next (WC.ret ?_))
    refine En.ret1 rfl (Res.tmp rfl) ?_
    intro w' hs
    exact ⟨_, _, rfl, ⟨_, _, _, _, rfl, rfl⟩, hs⟩

theorem w_impl_copyImage {i_p0 : ImageT} {r : ImageT} {q0_0 : Option Addr} {l0_0 k0_0 : Nat} (h : impl_copyImage i_p0 = some r) {w : World} (r0_0 : Rd tInt w q0_0 l0_0 k0_0 i_p0.Data)   :
    Calls Try.prog 137 #[.agg #[.int .i64 i_p0.W, .int .i64 i_p0.H, .slice q0_0 l0_0 k0_0]] w (fun en w' => ∃ rv G, en = .returned rv ∧ (∃ (a0_0 : Option Addr) (n0_0 : Nat) (c0_0 : Nat) (f0_0 : List Nat), rv = .agg #[.int .i64 r.W, .int .i64 r.H, .slice a0_0 n0_0 c0_0] ∧ G = [Chunk.own tInt f0_0 a0_0 n0_0 c0_0 r.Data]) ∧ St w G w') := by
 obtain rfl := r0_0.1
 unfold impl_copyImage at h
 refine enter (vs := [_]) Try.func137 rfl rfl rfl rfl ?_
 refine WC.sr ?_
 refine WL.heavy rfl rfl rfl (OpH.box rfl rfl ?_)
 intro b0_0
 refine WL.heavy rfl rfl rfl (OpH.alloc zc_71 ?_)
 intro b0_1
 refine WL.nil (En.next (WC.seq ?_))
 obtain ⟨x1_6, e1_6, h⟩ := bnd h
 refine WC.drawnH [_] ([_]) (fun _ h => h) (by kernel_rfl) ?_
 refine tk 0 rfl (OpV.fieldAddr rfl fo_71_0) ?_
 refine tk 1 rfl (OpV.loadBox rfl pt_3 mq0 rfl) ?_
 refine tk 2 rfl (OpV.fieldAddr rfl fo_71_1) ?_
 refine tk 3 rfl (OpV.loadBox rfl pt_3 mq0 rfl) ?_
 refine tk 4 rfl (OpV.fieldAddr rfl fo_71_2) ?_
 refine tk 5 rfl (OpV.loadBox rfl pt_23 mq0 rfl) ?_
 refine al1 6 rfl ?_
 refine OpH.callR (ec rfl e0) ca_110 (fun w hs => w_slices_Clone_S_int_int e1_6 (r0_0.ext hs.below)) ?_
 rintro _ _ ⟨a1_600, n1_600, c1_600, f1_600, rfl, rfl⟩
 refine ⟨[_, _], rfl, ?_⟩
 refine tk 7 rfl (OpV.build (evps.cons rfl (evps.cons rfl (evps.cons rfl (evps.nil)))) (bd_71_0_1_2 _ _ _ _ _)) ?_
 refine al0 8 rfl ?_
 refine OpH.storeTo (A := [_]) [_, _, _] rfl rfl rfl ts_71 rfl rfl rfl ?_
 refine ⟨[_, _], rfl, ?_⟩
 refine WAE.rebase (H := []) ?_
 refine WAE.done (by kernel_rfl) ?_ _
 refine En.next (WC.ret ?_)
 refine En.ret1 rfl (Res.cell rfl mq1 ag_71) ?_
 obtain rfl := Option.some.inj h
 intro w' hs
 have hs := (hs).sub (.cons_cons _ (.cons _ (.cons _ (.slnil))))
 exact ⟨_, _, rfl, ⟨a1_600, n1_600, c1_600, f1_600, rfl, rfl⟩, hs⟩

theorem w_impl_copySurface {s_p0 : SurfaceT} {r : SurfaceT} {q0_0 : Option Addr} {l0_0 k0_0 : Nat} (h : impl_copySurface s_p0 = some r) {w : World} (r0_0 : Rd tInt w q0_0 l0_0 k0_0 s_p0.Buffer.Data)   :
    Calls Try.prog 94 #[.agg #[.int .i64 s_p0.Id, .int .i64 s_p0.X, .int .i64 s_p0.Y, .int .i64 s_p0.W, .int .i64 s_p0.H, .int .i64 s_p0.Alpha, .int .i64 s_p0.Orient, .bool s_p0.Visible, .int .i64 s_p0.Buffer.W, .int .i64 s_p0.Buffer.H, .slice q0_0 l0_0 k0_0]] w (fun en w' => ∃ rv G, en = .returned rv ∧ (∃ (a0_0 : Option Addr) (n0_0 : Nat) (c0_0 : Nat) (f0_0 : List Nat), rv = .agg #[.int .i64 r.Id, .int .i64 r.X, .int .i64 r.Y, .int .i64 r.W, .int .i64 r.H, .int .i64 r.Alpha, .int .i64 r.Orient, .bool r.Visible, .int .i64 r.Buffer.W, .int .i64 r.Buffer.H, .slice a0_0 n0_0 c0_0] ∧ G = [Chunk.own tInt f0_0 a0_0 n0_0 c0_0 r.Buffer.Data]) ∧ St w G w') := by
 obtain rfl := r0_0.1
 unfold impl_copySurface at h
 refine enter (vs := [_]) Try.func94 rfl rfl rfl rfl ?_
 refine WC.sr ?_
 refine WL.heavy rfl rfl rfl (OpH.box rfl rfl ?_)
 intro b0_0
 refine WL.heavy rfl rfl rfl (OpH.alloc zc_73 ?_)
 intro b0_1
 refine WL.nil (En.next (WC.seq ?_))
 obtain ⟨x1_2, e1_2, h⟩ := bnd h
 refine WC.region ?_
 refine sp (OpV.fieldAddr rfl fo_73_8) ?_
 refine sp (OpV.loadPart rfl mq1 ag_71 rfl rfl) ?_
 refine WL.heavy rfl rfl rfl (OpH.callR (ec rfl e0) ca_137 (fun w hs => w_impl_copyImage e1_2 (r0_0.ext hs.below)) ?_)
 rintro _ _ ⟨a1_200, n1_200, c1_200, f1_200, rfl, rfl⟩
 refine sp (OpV.fieldAddr rfl fo_73_8) ?_
 refine WL.heavy0 rfl rfl (OpH.storeTo (A := [_, _]) [_, _, _, _, _, _, _, _, _, _, _] rfl rfl rfl ts_71 rfl rfl rfl ?_)
 refine WL.nil (En.next (WC.sr ?_))
 refine sp (OpV.loadAll rfl mq2 ag_73) ?_
 refine WL.heavy0 rfl rfl (OpH.storeTo (A := [_]) [_, _, _, _, _, _, _, _, _, _, _] rfl rfl rfl ts_73 rfl rfl rfl ?_)
 refine WL.nil (En.next (WC.ret ?_))
 refine En.ret1 rfl (Res.cell rfl mq1 ag_73) ?_
 obtain rfl := Option.some.inj h
 intro w' hs
 have hs := (hs).sub (.cons_cons _ (.cons _ (.cons _ (.slnil))))
 exact ⟨_, _, rfl, ⟨a1_200, n1_200, c1_200, f1_200, rfl, rfl⟩, hs⟩

theorem w_impl_RestOf {s_p0 : SceneT} {o_p1 : OptionsT} {r : SceneT} {q0_0 : Option Addr} {l0_0 k0_0 : Nat} (h : impl_RestOf s_p0 o_p1 = some r) {w : World} (r0_0 : Rd tSurface w q0_0 l0_0 k0_0 s_p0.Surfaces)   :
    Calls Try.prog 42 #[.agg #[.int .i64 s_p0.W, .int .i64 s_p0.H, .int .i64 s_p0.Back, .slice q0_0 l0_0 k0_0], .agg #[.int .i64 o_p1.Overlays, .bool o_p1.Cursor, .int .i64 o_p1.Layout, .bool o_p1.Partial, .bool o_p1.Sleep, .bool o_p1.Secret]] w (fun en w' => ∃ rv G, en = .returned rv ∧ (∃ (a0_0 : Option Addr) (n0_0 : Nat) (c0_0 : Nat) (f0_0 : List Nat), rv = .agg #[.int .i64 r.W, .int .i64 r.H, .int .i64 r.Back, .slice a0_0 n0_0 c0_0] ∧ G = [Chunk.own tSurface f0_0 a0_0 n0_0 c0_0 r.Surfaces]) ∧ St w G w') := by
 obtain rfl := r0_0.1
 unfold impl_RestOf at h
 refine enter (vs := [_, _]) Try.func42 rfl rfl rfl rfl ?_
 refine WC.sr ?_
 refine WL.heavy rfl rfl rfl (OpH.box rfl rfl ?_)
 intro b0_0
 refine WL.heavy rfl rfl rfl (OpH.box rfl rfl ?_)
 intro b0_1
 refine WL.heavy rfl rfl rfl (OpH.alloc zc_62 ?_)
 intro b0_2
 refine WL.nil (En.next (WC.seq (WC.seq ?_)))
 obtain ⟨x1_1, e1_1, h⟩ := bnd h
 obtain ⟨q1_7, e1_7, h⟩ := bnd h
 refine WC.region ?_
 refine sp (OpV.loadAll rfl mq2 ag_62) ?_
 refine sp (OpV.call (ec rfl e0) ca_78 (fun w hs => w_impl_SceneOk e1_1 (r0_0.ext hs.below))) ?_
 refine sp (OpV.not rfl) ?_
 refine mv ?_
 refine Lt.ofWL.orQ 13 17 16 (p := ?pz1) (rest := ?qz1) (B := q1_7) rfl (fun hz => orO_t e1_7 hz) ?Tz1 ?Fz1 ?az1 ?bz1 ?cz1 ?dz1 ?ez1
 case Tz1 =>
  intro hcz1 hkz1
  refine sk ?_
  refine sk ?_
  refine sk ?_
  refine hkz1 _ ?_
  repeat (first | exact Sub.refl _ | refine Sub.skip rfl ?_)
 case Fz1 =>
  intro hcz1 hkz1
  have hqz1 := orO_f e1_7 hcz1
  obtain ⟨x1_5, e1_5, hqz1⟩ := bnd hqz1
  obtain rfl := Option.some.inj hqz1
  refine sp (OpV.loadAll rfl mq1 ag_64) ?_
  refine sp (OpV.call (ec rfl e0) ca_79 (fun w hs => w_impl_OptionsOk e1_5)) ?_
  refine sp (OpV.not rfl) ?_
  refine hkz1 _ ?_ ?_
  exact rfl
  repeat (first | exact Sub.refl _ | refine Sub.skip rfl ?_)
 case az1 => exact rfl
 case bz1 => exact rfl
 case cz1 => exact rfl
 case dz1 => exact rfl
 refine WL.nil (En.next ?_)
 refine WC.cond rfl ?_ ?_
 ·
  intro hc_1
  replace h := ifO_t hc_1 h
  refine WC.sr ?_
  refine sp (OpV.build (evps.nil) bd_62_) ?_
  refine WL.heavy0 rfl rfl (OpH.storeTo (A := []) [_, _, _, _] rfl rfl rfl ts_62 rfl rfl rfl ?_)
  refine WL.nil (En.next (WC.ret (En.then_ret ?_)))
  refine En.ret1 rfl (Res.cell rfl mq0 ag_62) ?_
  obtain rfl := Option.some.inj h
  intro w' hs
  have hs := ((hs).ownNil (A := tSurface)).sub (.cons_cons _ (.cons _ (.cons _ (.cons _ (.slnil)))))
  exact ⟨_, _, rfl, ⟨.none, 0, 0, [], rfl, rfl⟩, hs⟩
 ·
  intro hc_1
  replace h := ifO_f hc_1 h
  refine WC.skip (En.next (WC.seq ?_))
  obtain ⟨⟨x3_2a, x3_2b⟩, e3_2, h⟩ := bnd h
  refine WC.region ?_
  refine sp (OpV.loadAll rfl mq2 ag_62) ?_
  refine sp (OpV.loadAll rfl mq1 ag_64) ?_
  refine WL.heavy rfl rfl rfl (OpH.callR (ec rfl (ec rfl e0)) ca_33 (fun w hs => w_impl_AssignedOf e3_2 (r0_0.ext hs.below)) ?_)
  rintro _ _ ⟨a3_200, n3_200, c3_200, f3_200, rfl, rfl⟩
  refine mv ?_
  refine sp (OpV.extract rfl rfl) ?_
  refine sp (OpV.extract rfl rfl) ?_
  refine ag ?_
  refine ag ?_
  refine WL.nil (En.next (WC.sr ?_))
  refine sp (OpV.fieldAddr rfl fo_62_0) ?_
  refine sp (OpV.loadBox rfl pt_3 mq3 rfl) ?_
  refine sp (OpV.fieldAddr rfl fo_62_1) ?_
  refine sp (OpV.loadBox rfl pt_3 mq3 rfl) ?_
  refine sp (OpV.fieldAddr rfl fo_62_2) ?_
  refine sp (OpV.loadBox rfl pt_3 mq3 rfl) ?_
  refine sp (OpV.build (evps.cons rfl (evps.cons rfl (evps.cons rfl (evps.nil)))) (bd_62_0_1_2 _ _ _)) ?_
  refine WL.heavy rfl rfl rfl (OpH.alloc zc_62 ?_)
  intro b4_7
  refine WL.heavy0 rfl rfl (OpH.storeTo (A := []) [_, _, _, _] rfl rfl rfl ts_62 rfl rfl rfl ?_)
  refine WL.nil (En.next (WC.seq (WC.sr ?_)))
  refine sp (OpV.fieldAddr rfl fo_62_3) ?_
  refine sp (OpV.loadBox rfl pt_60 mq4 rfl) ?_
  refine sp (OpV.len rfl si_60 rfl) ?_
  refine mv ?_
  refine WL.nil (En.next (WC.block ?_))
  obtain ⟨zy0, ezy0, h⟩ := bnd h
  refine WC.cut (X := ((List SurfaceT)) × ((Option Addr) × Nat × Nat × (List Nat))) (.exit 0) (fun x => zy0 = x.1) (fun x => match x with | (out_0e, (aout_0e, nout_0e, cout_0e, fout_0e)) => [(4, .pointer (some ⟨b0_2, 0, .none⟩)), (7, .pointer (some ⟨b4_7, 0, .none⟩))]) (fun x => match x with | (out_0e, (aout_0e, nout_0e, cout_0e, fout_0e)) => [Chunk.box b0_2 62 [.int .i64 0, .int .i64 0, .int .i64 0, .slice .none 0 0], Chunk.box b4_7 62 [.int .i64 s_p0.W, .int .i64 s_p0.H, .int .i64 s_p0.Back, .slice aout_0e nout_0e cout_0e], Chunk.own tSurface fout_0e aout_0e nout_0e cout_0e out_0e]) ?_ ?_
  ·
   rintro ⟨out_0e, ⟨aout_0e, nout_0e, cout_0e, fout_0e⟩⟩ hx
   replace hx : out_0e = zy0 := hx.symm
   subst hx
   show En _ _ _ _ [(4, .pointer (some ⟨b0_2, 0, .none⟩)), (7, .pointer (some ⟨b4_7, 0, .none⟩))] [Chunk.box b0_2 62 [.int .i64 0, .int .i64 0, .int .i64 0, .slice .none 0 0], Chunk.box b4_7 62 [.int .i64 s_p0.W, .int .i64 s_p0.H, .int .i64 s_p0.Back, .slice aout_0e nout_0e cout_0e], Chunk.own tSurface fout_0e aout_0e nout_0e cout_0e out_0e]
   refine En.block_exit (En.next (WC.sr ?_))
   refine sp (OpV.loadAll rfl mq1 ag_62) ?_
   refine WL.heavy0 rfl rfl (OpH.storeTo (A := []) [_, _, _, _] rfl rfl rfl ts_62 rfl rfl rfl ?_)
   refine WL.nil (En.next (WC.ret ?_))
   refine En.ret1 rfl (Res.cell rfl mq0 ag_62) ?_
   obtain rfl := Option.some.inj h
   intro w' hs
   have hs := ((hs).pm 2).sub (.cons_cons _ (.cons _ (.cons _ (.slnil))))
   exact ⟨_, _, rfl, ⟨aout_0e, nout_0e, cout_0e, fout_0e, rfl, rfl⟩, hs⟩
  ·
   intro zK0_0
   refine WC.loopP (G := (Option Addr) × Nat × Nat × (List Nat)) (fun s g => match s, g with | (out_0, v_0), (aout_0, nout_0, cout_0, fout_0) => [(4, .pointer (some ⟨b0_2, 0, .none⟩)), (5, .slice a3_200 n3_200 c3_200), (7, .pointer (some ⟨b4_7, 0, .none⟩)), (33, .slice q0_0 s_p0.Surfaces.length k0_0), (34, .int .i64 (s_p0.Surfaces.length : Int)), (35, .int .i64 v_0)]) (fun s g => match s, g with | (out_0, v_0), (aout_0, nout_0, cout_0, fout_0) => [Chunk.box b0_2 62 [.int .i64 0, .int .i64 0, .int .i64 0, .slice .none 0 0], Chunk.own tInt f3_200 a3_200 n3_200 c3_200 x3_2a, Chunk.box b4_7 62 [.int .i64 s_p0.W, .int .i64 s_p0.H, .int .i64 s_p0.Back, .slice aout_0 nout_0 cout_0], Chunk.own tSurface fout_0 aout_0 nout_0 cout_0 out_0]) ([], 0) (.none, 0, 0, []) ezy0 (by exact sc (sc (sc (sc (sc (sc sn)))))) (by exact (fun _ h => (((((h).ownNil (A := tSurface)).pm 1).pm 2).pm 3).sub (.cons_cons _ (.cons_cons _ (.cons_cons _ (.cons_cons _ (.cons _ (.cons _ (.slnil))))))))) ?_
   rintro zm0 ⟨out_0, v_0⟩ ⟨aout_0, nout_0, cout_0, fout_0⟩ zo0 zf0 zb0 ze0
   have zh0 : impl_RestOf_L0 s_p0 x3_2a out_0 v_0 = some zo0 := zf0
   unfold impl_RestOf_L0 at zh0
   show WC _ _ _ _ _ [(4, .pointer (some ⟨b0_2, 0, .none⟩)), (5, .slice a3_200 n3_200 c3_200), (7, .pointer (some ⟨b4_7, 0, .none⟩)), (33, .slice q0_0 s_p0.Surfaces.length k0_0), (34, .int .i64 (s_p0.Surfaces.length : Int)), (35, .int .i64 v_0)] [Chunk.box b0_2 62 [.int .i64 0, .int .i64 0, .int .i64 0, .slice .none 0 0], Chunk.own tInt f3_200 a3_200 n3_200 c3_200 x3_2a, Chunk.box b4_7 62 [.int .i64 s_p0.W, .int .i64 s_p0.H, .int .i64 s_p0.Back, .slice aout_0 nout_0 cout_0], Chunk.own tSurface fout_0 aout_0 nout_0 cout_0 out_0]
   refine WC.sr ?_
   refine sp (OpV.lss rfl rfl) ?_
   refine WL.nil (En.next (WC.seq ?_))
   refine WC.cond rfl ?_ ?_
   ·
    intro hc_2
    replace zh0 := ifO_t hc_2 zh0
    refine WC.skip (En.next (WC.seq ?_))
    obtain ⟨zy1, ej1, zh0⟩ := bnd zh0
    refine WC.cut (X := ((List SurfaceT)) × ((Option Addr) × Nat × Nat × (List Nat))) .normal (fun x => zy1 = x.1) (fun x => match x with | (out_1j, (aout_1j, nout_1j, cout_1j, fout_1j)) => [(4, .pointer (some ⟨b0_2, 0, .none⟩)), (5, .slice a3_200 n3_200 c3_200), (7, .pointer (some ⟨b4_7, 0, .none⟩)), (33, .slice q0_0 s_p0.Surfaces.length k0_0), (34, .int .i64 (s_p0.Surfaces.length : Int)), (35, .int .i64 v_0)]) (fun x => match x with | (out_1j, (aout_1j, nout_1j, cout_1j, fout_1j)) => [Chunk.box b0_2 62 [.int .i64 0, .int .i64 0, .int .i64 0, .slice .none 0 0], Chunk.own tInt f3_200 a3_200 n3_200 c3_200 x3_2a, Chunk.box b4_7 62 [.int .i64 s_p0.W, .int .i64 s_p0.H, .int .i64 s_p0.Back, .slice aout_1j nout_1j cout_1j], Chunk.own tSurface fout_1j aout_1j nout_1j cout_1j out_1j]) ?_ ?_
    ·
     rintro ⟨out_1j, ⟨aout_1j, nout_1j, cout_1j, fout_1j⟩⟩ hx
     replace hx : out_1j = zy1 := hx.symm
     subst hx
     show En _ _ _ _ [(4, .pointer (some ⟨b0_2, 0, .none⟩)), (5, .slice a3_200 n3_200 c3_200), (7, .pointer (some ⟨b4_7, 0, .none⟩)), (33, .slice q0_0 s_p0.Surfaces.length k0_0), (34, .int .i64 (s_p0.Surfaces.length : Int)), (35, .int .i64 v_0)] [Chunk.box b0_2 62 [.int .i64 0, .int .i64 0, .int .i64 0, .slice .none 0 0], Chunk.own tInt f3_200 a3_200 n3_200 c3_200 x3_2a, Chunk.box b4_7 62 [.int .i64 s_p0.W, .int .i64 s_p0.H, .int .i64 s_p0.Back, .slice aout_1j nout_1j cout_1j], Chunk.own tSurface fout_1j aout_1j nout_1j cout_1j out_1j]
     refine En.next (WC.region ?_)
     refine sp (OpV.addR rfl rfl) ?_
     refine mv ?_
     refine WL.nil ?_
     exact En.backP zb0 zh0 (aout_1j, nout_1j, cout_1j, fout_1j) (sc (sc (sc (sc (sc (sc sn)))))) (fun _ h => h)
    ·
     intro zK1
     refine WC.block (WC.seq ?_)
     obtain ⟨x7_1, e7_1, ej1⟩ := bnd ej1
     obtain ⟨g7_1, o7_1, _, ha7_1, ⟨a7_1_1, c7_1_1, rfl, r7_1_1⟩, hd7_1⟩ := Rd.atIdx r0_0 e7_1
     replace hd7_1 : ∀ (j : Nat) v, ([.int .i64 x7_1.Id, .int .i64 x7_1.X, .int .i64 x7_1.Y, .int .i64 x7_1.W, .int .i64 x7_1.H, .int .i64 x7_1.Alpha, .int .i64 x7_1.Orient, .bool x7_1.Visible, .int .i64 x7_1.Buffer.W, .int .i64 x7_1.Buffer.H, .slice a7_1_1 x7_1.Buffer.Data.length c7_1_1] : List Value)[j]? = some v → w.cell? ⟨g7_1, o7_1 + v_0.toNat * 11 + j, .none⟩ = some v := hd7_1
     refine WC.region ?_
     refine mv ?_
     refine sp (OpV.idxA rfl rfl se_60 ha7_1 ⟨(idx_some e7_1).1, (idx_some e7_1).2.1⟩) ?_
     refine sp (OpV.loadN rfl ag_73 rfl (fun w hs => hs.cellsAt hd7_1)) ?_
     refine WL.heavy rfl rfl rfl (OpH.alloc zc_73 ?_)
     intro b7_3
     refine ag ?_
     refine WL.heavy0 rfl rfl (OpH.storeTo (A := []) [_, _, _, _, _, _, _, _, _, _, _] rfl rfl rfl ts_73 rfl rfl rfl ?_)
     refine WL.nil (En.next (WC.seq ?_))
     obtain ⟨x8_2, e8_2, ej1⟩ := bnd ej1
     refine WC.region ?_
     refine mv ?_
     refine mv ?_
     refine sp (OpV.call (ec rfl (ec rfl e0)) ca_93 (fun w hs => w_slices_Contains_S_int_int e8_2 (Ow.rd (hs.mem mq2)))) ?_
     refine sp (OpV.not rfl) ?_
     refine WL.nil (En.next ?_)
     refine WC.cond rfl ?_ ?_
     ·
      intro hc_3
      replace ej1 := ifO_t hc_3 ej1
      obtain ⟨x9_3, e9_3, ej1⟩ := bnd ej1
      obtain ⟨x9_5, e9_5, ej1⟩ := bnd ej1
      refine WC.wkF (fun _ h => h.pm 4) ?_
      refine WC.wkF (fun _ h => h.pm 4) ?_
      refine WC.drawnH [_, _] ([_, _, _]) (fun _ h => h) (by kernel_rfl) ?_
      refine tk 0 rfl (OpV.fieldAddr rfl fo_62_3) ?_
      refine tk 2 rfl (OpV.loadAll rfl mq0 ag_73) ?_
      refine WAE.all (rs := [1, 3]) (by kernel_rfl) rfl (AllR.cons rfl rfl rfl rfl ?_ (AllR.cons rfl rfl rfl rfl ?_ AllR.nil))
      ·
       refine OpH.light (OpV.loadBox rfl pt_60 mq0 rfl) ?_
       refine ⟨[_, _], rfl, ?_⟩
       refine al1 3 rfl ?_
       refine OpH.callR (ec rfl e0) ca_94 (fun w hs => w_impl_copySurface e9_3 (r7_1_1.ext hs.below)) ?_
       rintro _ _ ⟨a9_300, n9_300, c9_300, f9_300, rfl, rfl⟩
       refine ⟨[_, _, _], rfl, ?_⟩
       refine al1 4 rfl ?_
       refine OpH.buildSlice (evps.cons rfl (evps.nil)) (bs_60_1_0 _ _ _ _ _ _ _ _ _ _ _ _ _) ?_
       intro b9_4
       refine ⟨[_, _, _, _], rfl, ?_⟩
       refine al1 5 rfl ?_
       refine OpH.wkF (fun _ h => h.pm 1) ?_
       refine OpH.wkF (fun _ h => tSurface_mk x9_3.Id x9_3.X x9_3.Y x9_3.W x9_3.H x9_3.Alpha x9_3.Orient x9_3.Visible x9_3.Buffer h) ?_
       refine OpH.wkF (fun _ h => h.pm 3) ?_
       refine OpH.wkF (fun _ h => h.pm 1) ?_
       refine OpH.push (A := tSurface) rfl rfl rfl mi_60 rfl (by decide) mq0 e9_5 ?_
       intro f9_5 a9_5 c9_5
       refine ⟨[_, _, _], rfl, ?_⟩
       refine tk 6 rfl (OpV.fieldAddr rfl fo_62_3) ?_
       refine al0 7 rfl ?_
       refine OpH.storeTo (A := [_, _]) [_, _, _, _] rfl rfl rfl ts_60 rfl rfl rfl ?_
       refine ⟨[_, _, _], rfl, ?_⟩
       refine WAE.rebase (H := []) ?_
       refine WAE.done (by kernel_rfl) ?_ _
       refine En.block_norm ?_
       exact En.wk _ _ (sc (sc (sc (sc (sc (sc sn)))))) (fun _ h => ((((h).pm 2).pm 5).pm 5).sub (.cons_cons _ (.cons_cons _ (.cons_cons _ (.cons_cons _ (.cons _ (.cons _ (.slnil)))))))) (zK1 (x9_5, (a9_5, x9_5.length, c9_5, f9_5)) (Option.some.inj ej1).symm)
      ·
       refine OpH.callR (ec rfl e0) ca_94 (fun w hs => w_impl_copySurface e9_3 (r7_1_1.ext hs.below)) ?_
       rintro _ _ ⟨a9_300, n9_300, c9_300, f9_300, rfl, rfl⟩
       refine ⟨[_, _, _], rfl, ?_⟩
       refine WAE.all (rs := [1, 4]) (by kernel_rfl) rfl (AllR.cons rfl rfl rfl rfl ?_ (AllR.cons rfl rfl rfl rfl ?_ AllR.nil))
       ·
        refine OpH.light (OpV.loadBox rfl pt_60 mq1 rfl) ?_
        refine ⟨[_, _, _], rfl, ?_⟩
        refine al1 4 rfl ?_
        refine OpH.buildSlice (evps.cons rfl (evps.nil)) (bs_60_1_0 _ _ _ _ _ _ _ _ _ _ _ _ _) ?_
        intro b9_4
        refine ⟨[_, _, _, _], rfl, ?_⟩
        refine al1 5 rfl ?_
        refine OpH.wkF (fun _ h => h.pm 1) ?_
        refine OpH.wkF (fun _ h => tSurface_mk x9_3.Id x9_3.X x9_3.Y x9_3.W x9_3.H x9_3.Alpha x9_3.Orient x9_3.Visible x9_3.Buffer h) ?_
        refine OpH.wkF (fun _ h => h.pm 3) ?_
        refine OpH.wkF (fun _ h => h.pm 1) ?_
        refine OpH.push (A := tSurface) rfl rfl rfl mi_60 rfl (by decide) mq0 e9_5 ?_
        intro f9_5 a9_5 c9_5
        refine ⟨[_, _, _], rfl, ?_⟩
        refine tk 6 rfl (OpV.fieldAddr rfl fo_62_3) ?_
        refine al0 7 rfl ?_
        refine OpH.storeTo (A := [_, _]) [_, _, _, _] rfl rfl rfl ts_60 rfl rfl rfl ?_
        refine ⟨[_, _, _], rfl, ?_⟩
        refine WAE.rebase (H := []) ?_
        refine WAE.done (by kernel_rfl) ?_ _
        refine En.block_norm ?_
        exact En.wk _ _ (sc (sc (sc (sc (sc (sc sn)))))) (fun _ h => ((((h).pm 2).pm 5).pm 5).sub (.cons_cons _ (.cons_cons _ (.cons_cons _ (.cons_cons _ (.cons _ (.cons _ (.slnil)))))))) (zK1 (x9_5, (a9_5, x9_5.length, c9_5, f9_5)) (Option.some.inj ej1).symm)
       ·
        refine OpH.buildSlice (evps.cons rfl (evps.nil)) (bs_60_1_0 _ _ _ _ _ _ _ _ _ _ _ _ _) ?_
        intro b9_4
        refine ⟨[_, _, _, _], rfl, ?_⟩
        refine al1 1 rfl ?_
        refine OpH.light (OpV.loadBox rfl pt_60 mq2 rfl) ?_
        refine ⟨[_, _, _, _], rfl, ?_⟩
        refine al1 5 rfl ?_
        refine OpH.wkF (fun _ h => h.pm 1) ?_
        refine OpH.wkF (fun _ h => tSurface_mk x9_3.Id x9_3.X x9_3.Y x9_3.W x9_3.H x9_3.Alpha x9_3.Orient x9_3.Visible x9_3.Buffer h) ?_
        refine OpH.wkF (fun _ h => h.pm 3) ?_
        refine OpH.wkF (fun _ h => h.pm 1) ?_
        refine OpH.push (A := tSurface) rfl rfl rfl mi_60 rfl (by decide) mq0 e9_5 ?_
        intro f9_5 a9_5 c9_5
        refine ⟨[_, _, _], rfl, ?_⟩
        refine tk 6 rfl (OpV.fieldAddr rfl fo_62_3) ?_
        refine al0 7 rfl ?_
        refine OpH.storeTo (A := [_, _]) [_, _, _, _] rfl rfl rfl ts_60 rfl rfl rfl ?_
        refine ⟨[_, _, _], rfl, ?_⟩
        refine WAE.rebase (H := []) ?_
        refine WAE.done (by kernel_rfl) ?_ _
        refine En.block_norm ?_
        exact En.wk _ _ (sc (sc (sc (sc (sc (sc sn)))))) (fun _ h => ((((h).pm 2).pm 5).pm 5).sub (.cons_cons _ (.cons_cons _ (.cons_cons _ (.cons_cons _ (.cons _ (.cons _ (.slnil)))))))) (zK1 (x9_5, (a9_5, x9_5.length, c9_5, f9_5)) (Option.some.inj ej1).symm)
     ·
      intro hc_3
      replace ej1 := ifO_f hc_3 ej1
      refine WC.skip (En.block_norm ?_)
      exact En.wk _ _ (sc (sc (sc (sc (sc (sc sn)))))) (fun _ h => (((((h).pm 4).pm 4).pm 4).pm 4).sub (.cons_cons _ (.cons_cons _ (.cons_cons _ (.cons_cons _ (.cons _ (.slnil))))))) (zK1 (out_0, (aout_0, nout_0, cout_0, fout_0)) (Option.some.inj ej1).symm)
   ·
    intro hc_2
    replace zh0 := ifO_f hc_2 zh0
    refine WC.exit (En.then_exit (En.then_exit ?_))
    have hx := exitP ze0 zh0
    exact En.wk _ _ (sc (sc sn)) (fun _ h => ((((h).pm 3).pm 3).pm 2).sub (.cons_cons _ (.cons_cons _ (.cons_cons _ (.cons _ (.slnil)))))) (zK0_0 (out_0, (aout_0, nout_0, cout_0, fout_0)) hx.symm)

theorem w_spec_l05Ints {a_p0 : List Int} {b_p1 : List Int} {r : Bool} {q0_0 : Option Addr} {l0_0 k0_0 : Nat} {q1_0 : Option Addr} {l1_0 k1_0 : Nat} (h : spec_l05Ints a_p0 b_p1 = some r) {w : World} (r0_0 : Rd tInt w q0_0 l0_0 k0_0 a_p0) (r1_0 : Rd tInt w q1_0 l1_0 k1_0 b_p1)   :
    Calls Try.prog 108 #[.slice q0_0 l0_0 k0_0, .slice q1_0 l1_0 k1_0] w (fun en w' => en = .returned (.bool r) ∧ Ext w w') := by
 obtain rfl := r0_0.1
 obtain rfl := r1_0.1
 unfold spec_l05Ints at h
 refine enter (vs := [_, _]) Try.func108 rfl rfl rfl rfl ?_
 refine WC.sr ?_
 refine ag ?_
 refine WL.nil (En.next (WC.seq (WC.sr ?_)))
 refine mv ?_
 refine sp (OpV.len rfl si_23 rfl) ?_
 refine mv ?_
 refine sp (OpV.len rfl si_23 rfl) ?_
 refine sp (OpV.neq rfl rfl) ?_
 refine WL.nil (En.next ?_)
 refine WC.cond rfl ?_ ?_
 ·
  intro hc_1
  replace h := ifO_t hc_1 h
  refine WC.sr ?_
  refine ag ?_
  refine WL.nil (En.next (WC.ret (En.then_ret ?_)))
  refine En.ret1 rfl (Res.tmp rfl) ?_
  obtain rfl := Option.some.inj h
  intro w' hs
  exact ⟨rfl, hs.below⟩
 ·
  intro hc_1
  replace h := ifO_f hc_1 h
  refine WC.skip (En.next (WC.seq (WC.sr ?_)))
  refine ag ?_
  refine WL.nil (En.next (WC.block ?_))
  obtain ⟨zy0, ezy0, h⟩ := bnd h
  refine WC.cut (X := (Unit) × (Unit)) (.exit 0) (fun x => zy0 = .inl x.1) (fun x => match x with | ((), ()) => []) (fun x => match x with | ((), ()) => []) ?_ ?_
  ·
   rintro ⟨⟨⟩, ⟨⟩⟩ hx
   replace hx : .inl () = zy0 := hx.symm
   subst hx
   replace h := fork_l h
   show En _ _ _ _ [] []
   refine En.block_exit (En.next (WC.sr ?_))
   refine ag ?_
   refine WL.nil (En.next (WC.ret ?_))
   refine En.ret1 rfl (Res.tmp rfl) ?_
   obtain rfl := Option.some.inj h
   intro w' hs
   exact ⟨rfl, hs.below⟩
  ·
   intro zK0_0
   refine WC.loopP (G := Unit) (fun s g => match s, g with | k_0, () => [(0, .slice q0_0 a_p0.length k0_0), (1, .slice q1_0 b_p1.length k1_0), (5, .int .i64 k_0)]) (fun s g => match s, g with | k_0, () => []) 0 () ezy0 (by exact sc (sc (sc sn))) (by exact (fun _ h => h)) ?_
   rintro zm0 k_0 ⟨⟩ zo0 zf0 zb0 ze0
   have zh0 : spec_l05Ints_L0 a_p0 b_p1 k_0 = some zo0 := zf0
   unfold spec_l05Ints_L0 at zh0
   show WC _ _ _ _ _ [(0, .slice q0_0 a_p0.length k0_0), (1, .slice q1_0 b_p1.length k1_0), (5, .int .i64 k_0)] []
   refine WC.seq (WC.sr ?_)
   refine mv ?_
   refine mv ?_
   refine sp (OpV.len rfl si_23 rfl) ?_
   refine sp (OpV.lss rfl rfl) ?_
   refine WL.nil (En.next ?_)
   refine WC.cond rfl ?_ ?_
   ·
    intro hc_2
    replace zh0 := ifO_t hc_2 zh0
    refine WC.skip (En.next (WC.seq (WC.block (WC.seq ?_))))
    obtain ⟨x6_2, e6_2, zh0⟩ := bnd zh0
    obtain ⟨g6_2, o6_2, _, ha6_2, rfl, hd6_2⟩ := Rd.atIdx r0_0 e6_2
    replace hd6_2 : ∀ (j : Nat) v, ([.int .i64 x6_2] : List Value)[j]? = some v → w.cell? ⟨g6_2, o6_2 + k_0.toNat * 1 + j, .none⟩ = some v := hd6_2
    obtain ⟨x6_6, e6_6, zh0⟩ := bnd zh0
    obtain ⟨g6_6, o6_6, _, ha6_6, rfl, hd6_6⟩ := Rd.atIdx r1_0 e6_6
    replace hd6_6 : ∀ (j : Nat) v, ([.int .i64 x6_6] : List Value)[j]? = some v → w.cell? ⟨g6_6, o6_6 + k_0.toNat * 1 + j, .none⟩ = some v := hd6_6
    refine WC.drawn [(0, ?r6q3v0), (1, ?r6q3v1), (5, ?r6q3v5), (25, ?r6q3v25)] (by kernel_rfl) (by kernel_rfl) ?dH6q3 ?dK6q3
    case dH6q3 =>
     intro W hW hk
     refine hW.mv ?_
     refine hW.mv ?_
     refine hW.sp (OpV.idxA rfl rfl se_23 ha6_2 ⟨(idx_some e6_2).1, (idx_some e6_2).2.1⟩) ?_
     refine hW.sp (OpV.load1 rfl pt_3 (fun w hs => hs.cell (hd6_2 0 _ rfl))) ?_
     refine hW.mv ?_
     refine hW.mv ?_
     refine hW.sp (OpV.idxA rfl rfl se_23 ha6_6 ⟨(idx_some e6_6).1, (idx_some e6_6).2.1⟩) ?_
     refine hW.sp (OpV.load1 rfl pt_3 (fun w hs => hs.cell (hd6_6 0 _ rfl))) ?_
     refine hW.sp (OpV.neq rfl rfl) ?_
     refine hk _ ?_
     refine Sub.cons ?_ (Sub.cons ?_ (Sub.cons ?_ (Sub.cons ?_ sn)))
     all_goals exact rfl
    refine En.next ?_
    refine WC.cond rfl ?_ ?_
    ·
     intro hc_3
     replace zh0 := ifO_t hc_3 zh0
     refine WC.sr ?_
     refine ag ?_
     refine WL.nil (En.next (WC.ret (En.block_ret (En.then_ret (En.then_ret (En.block_ret (En.then_ret ?_)))))))
     refine En.ret1 rfl (Res.tmp rfl) ?_
     have hx := exitP ze0 zh0
     subst hx
     replace h := fork_r h
     obtain rfl := Option.some.inj h
     intro w' hs
     exact ⟨rfl, hs.below⟩
    ·
     intro hc_3
     replace zh0 := ifO_f hc_3 zh0
     refine WC.skip (En.block_norm (En.next (WC.region ?_)))
     refine mv ?_
     refine sp (OpV.addR rfl rfl) ?_
     refine ag ?_
     refine WL.nil ?_
     exact En.backP zb0 zh0 () (sc (sc (sc sn))) (fun _ h => h)
   ·
    intro hc_2
    replace zh0 := ifO_f hc_2 zh0
    refine WC.exit (En.then_exit (En.then_exit ?_))
    have hx := exitP ze0 zh0
    exact En.wk _ _ sn (fun _ h => h) (zK0_0 ((), ()) hx.symm)

theorem w_spec_SameImage {a_p0 : ImageT} {b_p1 : ImageT} {r : Bool} {q0_0 : Option Addr} {l0_0 k0_0 : Nat} {q1_0 : Option Addr} {l1_0 k1_0 : Nat} (h : spec_SameImage a_p0 b_p1 = some r) {w : World} (r0_0 : Rd tInt w q0_0 l0_0 k0_0 a_p0.Data) (r1_0 : Rd tInt w q1_0 l1_0 k1_0 b_p1.Data)   :
    Calls Try.prog 142 #[.agg #[.int .i64 a_p0.W, .int .i64 a_p0.H, .slice q0_0 l0_0 k0_0], .agg #[.int .i64 b_p1.W, .int .i64 b_p1.H, .slice q1_0 l1_0 k1_0]] w (fun en w' => en = .returned (.bool r) ∧ Ext w w') := by
 obtain rfl := r0_0.1
 obtain rfl := r1_0.1
 unfold spec_SameImage at h
 refine enter (vs := [_, _]) Try.func142 rfl rfl rfl rfl ?_
 refine WC.sr ?_
 refine WL.heavy rfl rfl rfl (OpH.box rfl rfl ?_)
 intro b0_0
 refine WL.heavy rfl rfl rfl (OpH.box rfl rfl ?_)
 intro b0_1
 refine ag ?_
 refine WL.nil (En.next (WC.seq ?_))
 obtain ⟨q1_18, e1_18, h⟩ := bnd h
 refine WC.region ?_
 refine sp (OpV.fieldAddr rfl fo_71_0) ?_
 refine sp (OpV.loadBox rfl pt_3 mq1 rfl) ?_
 refine sp (OpV.fieldAddr rfl fo_71_0) ?_
 refine sp (OpV.loadBox rfl pt_3 mq0 rfl) ?_
 refine sp (OpV.eql rfl rfl) ?_
 refine mv ?_
 refine Lt.ofWL.and 10 16 15 (p := ?pz1) (rest := ?qz1) (B := ?Bz1) rfl ?Tz1 ?Fz1 ?az1 ?bz1 ?cz1 ?dz1 ?ez1
 case Tz1 =>
  intro hcz1 hkz1
  refine sp (OpV.fieldAddr rfl fo_71_1) ?_
  refine sp (OpV.loadBox rfl pt_3 mq1 rfl) ?_
  refine sp (OpV.fieldAddr rfl fo_71_1) ?_
  refine sp (OpV.loadBox rfl pt_3 mq0 rfl) ?_
  refine sp (OpV.eql rfl rfl) ?_
  refine hkz1 _ ?_ ?_
  exact rfl
  repeat (first | exact Sub.refl _ | refine Sub.skip rfl ?_)
 case Fz1 =>
  intro hcz1 hkz1
  refine sk ?_
  refine sk ?_
  refine sk ?_
  refine sk ?_
  refine sk ?_
  refine hkz1 _ ?_
  repeat (first | exact Sub.refl _ | refine Sub.skip rfl ?_)
 case az1 => exact rfl
 case bz1 => exact rfl
 case cz1 => exact rfl
 case dz1 => exact rfl
 refine mv ?_
 refine Lt.ofWL.andQ 17 23 22 (p := ?pz2) (rest := ?qz2) (B := q1_18) rfl (fun hz => andO_f e1_18 hz) ?Tz2 ?Fz2 ?az2 ?bz2 ?cz2 ?dz2 ?ez2
 case Tz2 =>
  intro hcz2 hkz2
  have hqz2 := andO_t e1_18 hcz2
  obtain ⟨x1_17, e1_17, hqz2⟩ := bnd hqz2
  obtain rfl := Option.some.inj hqz2
  refine sp (OpV.fieldAddr rfl fo_71_2) ?_
  refine sp (OpV.loadBox rfl pt_23 mq1 rfl) ?_
  refine sp (OpV.fieldAddr rfl fo_71_2) ?_
  refine sp (OpV.loadBox rfl pt_23 mq0 rfl) ?_
  refine sp (OpV.call (ec rfl (ec rfl e0)) ca_108 (fun w hs => w_spec_l05Ints e1_17 (r0_0.ext hs.below) (r1_0.ext hs.below))) ?_
  refine hkz2 _ ?_ ?_
  exact rfl
  repeat (first | exact Sub.refl _ | refine Sub.skip rfl ?_)
 case Fz2 =>
  intro hcz2 hkz2
  refine sk ?_
  refine sk ?_
  refine sk ?_
  refine sk ?_
  refine sk ?_
  refine hkz2 _ ?_
  repeat (first | exact Sub.refl _ | refine Sub.skip rfl ?_)
 case az2 => exact rfl
 case bz2 => exact rfl
 case cz2 => exact rfl
 case dz2 => exact rfl
 refine ag ?_
 refine WL.nil (En.next (WC.ret ?_))
 refine En.ret1 rfl (Res.tmp rfl) ?_
 obtain rfl := Option.some.inj h
 intro w' hs
 exact ⟨rfl, hs.below⟩

theorem w_spec_SameSurface {a_p0 : SurfaceT} {a_p1 : SurfaceT} {r : Bool} {q0_0 : Option Addr} {l0_0 k0_0 : Nat} {q1_0 : Option Addr} {l1_0 k1_0 : Nat} (h : spec_SameSurface a_p0 a_p1 = some r) {w : World} (r0_0 : Rd tInt w q0_0 l0_0 k0_0 a_p0.Buffer.Data) (r1_0 : Rd tInt w q1_0 l1_0 k1_0 a_p1.Buffer.Data)   :
    Calls Try.prog 102 #[.agg #[.int .i64 a_p0.Id, .int .i64 a_p0.X, .int .i64 a_p0.Y, .int .i64 a_p0.W, .int .i64 a_p0.H, .int .i64 a_p0.Alpha, .int .i64 a_p0.Orient, .bool a_p0.Visible, .int .i64 a_p0.Buffer.W, .int .i64 a_p0.Buffer.H, .slice q0_0 l0_0 k0_0], .agg #[.int .i64 a_p1.Id, .int .i64 a_p1.X, .int .i64 a_p1.Y, .int .i64 a_p1.W, .int .i64 a_p1.H, .int .i64 a_p1.Alpha, .int .i64 a_p1.Orient, .bool a_p1.Visible, .int .i64 a_p1.Buffer.W, .int .i64 a_p1.Buffer.H, .slice q1_0 l1_0 k1_0]] w (fun en w' => en = .returned (.bool r) ∧ Ext w w') := by
 obtain rfl := r0_0.1
 obtain rfl := r1_0.1
 unfold spec_SameSurface at h
 refine enter (vs := [_, _]) Try.func102 rfl rfl rfl rfl ?_
 refine WC.sr ?_
 refine WL.heavy rfl rfl rfl (OpH.box rfl rfl ?_)
 intro b0_0
 refine WL.heavy rfl rfl rfl (OpH.box rfl rfl ?_)
 intro b0_1
 refine ag ?_
 refine WL.nil (En.next (WC.seq ?_))
 obtain ⟨q1_60, e1_60, h⟩ := bnd h
 refine WC.region ?_
 refine sp (OpV.fieldAddr rfl fo_73_0) ?_
 refine sp (OpV.loadBox rfl pt_3 mq1 rfl) ?_
 refine sp (OpV.fieldAddr rfl fo_73_0) ?_
 refine sp (OpV.loadBox rfl pt_3 mq0 rfl) ?_
 refine sp (OpV.eql rfl rfl) ?_
 refine mv ?_
 refine Lt.ofWL.and 10 16 15 (p := ?pz1) (rest := ?qz1) (B := ?Bz1) rfl ?Tz1 ?Fz1 ?az1 ?bz1 ?cz1 ?dz1 ?ez1
 case Tz1 =>
  intro hcz1 hkz1
  refine sp (OpV.fieldAddr rfl fo_73_1) ?_
  refine sp (OpV.loadBox rfl pt_3 mq1 rfl) ?_
  refine sp (OpV.fieldAddr rfl fo_73_1) ?_
  refine sp (OpV.loadBox rfl pt_3 mq0 rfl) ?_
  refine sp (OpV.eql rfl rfl) ?_
  refine hkz1 _ ?_ ?_
  exact rfl
  repeat (first | exact Sub.refl _ | refine Sub.skip rfl ?_)
 case Fz1 =>
  intro hcz1 hkz1
  refine sk ?_
  refine sk ?_
  refine sk ?_
  refine sk ?_
  refine sk ?_
  refine hkz1 _ ?_
  repeat (first | exact Sub.refl _ | refine Sub.skip rfl ?_)
 case az1 => exact rfl
 case bz1 => exact rfl
 case cz1 => exact rfl
 case dz1 => exact rfl
 refine mv ?_
 refine Lt.ofWL.and 17 23 22 (p := ?pz2) (rest := ?qz2) (B := ?Bz2) rfl ?Tz2 ?Fz2 ?az2 ?bz2 ?cz2 ?dz2 ?ez2
 case Tz2 =>
  intro hcz2 hkz2
  refine sp (OpV.fieldAddr rfl fo_73_2) ?_
  refine sp (OpV.loadBox rfl pt_3 mq1 rfl) ?_
  refine sp (OpV.fieldAddr rfl fo_73_2) ?_
  refine sp (OpV.loadBox rfl pt_3 mq0 rfl) ?_
  refine sp (OpV.eql rfl rfl) ?_
  refine hkz2 _ ?_ ?_
  exact rfl
  repeat (first | exact Sub.refl _ | refine Sub.skip rfl ?_)
 case Fz2 =>
  intro hcz2 hkz2
  refine sk ?_
  refine sk ?_
  refine sk ?_
  refine sk ?_
  refine sk ?_
  refine hkz2 _ ?_
  repeat (first | exact Sub.refl _ | refine Sub.skip rfl ?_)
 case az2 => exact rfl
 case bz2 => exact rfl
 case cz2 => exact rfl
 case dz2 => exact rfl
 refine mv ?_
 refine Lt.ofWL.and 24 30 29 (p := ?pz3) (rest := ?qz3) (B := ?Bz3) rfl ?Tz3 ?Fz3 ?az3 ?bz3 ?cz3 ?dz3 ?ez3
 case Tz3 =>
  intro hcz3 hkz3
  refine sp (OpV.fieldAddr rfl fo_73_3) ?_
  refine sp (OpV.loadBox rfl pt_3 mq1 rfl) ?_
  refine sp (OpV.fieldAddr rfl fo_73_3) ?_
  refine sp (OpV.loadBox rfl pt_3 mq0 rfl) ?_
  refine sp (OpV.eql rfl rfl) ?_
  refine hkz3 _ ?_ ?_
  exact rfl
  repeat (first | exact Sub.refl _ | refine Sub.skip rfl ?_)
 case Fz3 =>
  intro hcz3 hkz3
  refine sk ?_
  refine sk ?_
  refine sk ?_
  refine sk ?_
  refine sk ?_
  refine hkz3 _ ?_
  repeat (first | exact Sub.refl _ | refine Sub.skip rfl ?_)
 case az3 => exact rfl
 case bz3 => exact rfl
 case cz3 => exact rfl
 case dz3 => exact rfl
 refine mv ?_
 refine Lt.ofWL.and 31 37 36 (p := ?pz4) (rest := ?qz4) (B := ?Bz4) rfl ?Tz4 ?Fz4 ?az4 ?bz4 ?cz4 ?dz4 ?ez4
 case Tz4 =>
  intro hcz4 hkz4
  refine sp (OpV.fieldAddr rfl fo_73_4) ?_
  refine sp (OpV.loadBox rfl pt_3 mq1 rfl) ?_
  refine sp (OpV.fieldAddr rfl fo_73_4) ?_
  refine sp (OpV.loadBox rfl pt_3 mq0 rfl) ?_
  refine sp (OpV.eql rfl rfl) ?_
  refine hkz4 _ ?_ ?_
  exact rfl
  repeat (first | exact Sub.refl _ | refine Sub.skip rfl ?_)
 case Fz4 =>
  intro hcz4 hkz4
  refine sk ?_
  refine sk ?_
  refine sk ?_
  refine sk ?_
  refine sk ?_
  refine hkz4 _ ?_
  repeat (first | exact Sub.refl _ | refine Sub.skip rfl ?_)
 case az4 => exact rfl
 case bz4 => exact rfl
 case cz4 => exact rfl
 case dz4 => exact rfl
 refine mv ?_
 refine Lt.ofWL.and 38 44 43 (p := ?pz5) (rest := ?qz5) (B := ?Bz5) rfl ?Tz5 ?Fz5 ?az5 ?bz5 ?cz5 ?dz5 ?ez5
 case Tz5 =>
  intro hcz5 hkz5
  refine sp (OpV.fieldAddr rfl fo_73_5) ?_
  refine sp (OpV.loadBox rfl pt_3 mq1 rfl) ?_
  refine sp (OpV.fieldAddr rfl fo_73_5) ?_
  refine sp (OpV.loadBox rfl pt_3 mq0 rfl) ?_
  refine sp (OpV.eql rfl rfl) ?_
  refine hkz5 _ ?_ ?_
  exact rfl
  repeat (first | exact Sub.refl _ | refine Sub.skip rfl ?_)
 case Fz5 =>
  intro hcz5 hkz5
  refine sk ?_
  refine sk ?_
  refine sk ?_
  refine sk ?_
  refine sk ?_
  refine hkz5 _ ?_
  repeat (first | exact Sub.refl _ | refine Sub.skip rfl ?_)
 case az5 => exact rfl
 case bz5 => exact rfl
 case cz5 => exact rfl
 case dz5 => exact rfl
 refine mv ?_
 refine Lt.ofWL.and 45 51 50 (p := ?pz6) (rest := ?qz6) (B := ?Bz6) rfl ?Tz6 ?Fz6 ?az6 ?bz6 ?cz6 ?dz6 ?ez6
 case Tz6 =>
  intro hcz6 hkz6
  refine sp (OpV.fieldAddr rfl fo_73_6) ?_
  refine sp (OpV.loadBox rfl pt_3 mq1 rfl) ?_
  refine sp (OpV.fieldAddr rfl fo_73_6) ?_
  refine sp (OpV.loadBox rfl pt_3 mq0 rfl) ?_
  refine sp (OpV.eql rfl rfl) ?_
  refine hkz6 _ ?_ ?_
  exact rfl
  repeat (first | exact Sub.refl _ | refine Sub.skip rfl ?_)
 case Fz6 =>
  intro hcz6 hkz6
  refine sk ?_
  refine sk ?_
  refine sk ?_
  refine sk ?_
  refine sk ?_
  refine hkz6 _ ?_
  repeat (first | exact Sub.refl _ | refine Sub.skip rfl ?_)
 case az6 => exact rfl
 case bz6 => exact rfl
 case cz6 => exact rfl
 case dz6 => exact rfl
 refine mv ?_
 refine Lt.ofWL.and 52 58 57 (p := ?pz7) (rest := ?qz7) (B := ?Bz7) rfl ?Tz7 ?Fz7 ?az7 ?bz7 ?cz7 ?dz7 ?ez7
 case Tz7 =>
  intro hcz7 hkz7
  refine sp (OpV.fieldAddr rfl fo_73_7) ?_
  refine sp (OpV.loadBox rfl pt_4 mq1 rfl) ?_
  refine sp (OpV.fieldAddr rfl fo_73_7) ?_
  refine sp (OpV.loadBox rfl pt_4 mq0 rfl) ?_
  refine sp (OpV.beql rfl rfl ub_4) ?_
  refine hkz7 _ ?_ ?_
  exact rfl
  repeat (first | exact Sub.refl _ | refine Sub.skip rfl ?_)
 case Fz7 =>
  intro hcz7 hkz7
  refine sk ?_
  refine sk ?_
  refine sk ?_
  refine sk ?_
  refine sk ?_
  refine hkz7 _ ?_
  repeat (first | exact Sub.refl _ | refine Sub.skip rfl ?_)
 case az7 => exact rfl
 case bz7 => exact rfl
 case cz7 => exact rfl
 case dz7 => exact rfl
 refine mv ?_
 refine Lt.ofWL.andQ 59 65 64 (p := ?pz8) (rest := ?qz8) (B := q1_60) rfl (fun hz => andO_f e1_60 hz) ?Tz8 ?Fz8 ?az8 ?bz8 ?cz8 ?dz8 ?ez8
 case Tz8 =>
  intro hcz8 hkz8
  have hqz8 := andO_t e1_60 hcz8
  obtain ⟨x1_59, e1_59, hqz8⟩ := bnd hqz8
  obtain rfl := Option.some.inj hqz8
  refine sp (OpV.fieldAddr rfl fo_73_8) ?_
  refine sp (OpV.loadPart rfl mq1 ag_71 rfl rfl) ?_
  refine sp (OpV.fieldAddr rfl fo_73_8) ?_
  refine sp (OpV.loadPart rfl mq0 ag_71 rfl rfl) ?_
  refine sp (OpV.call (ec rfl (ec rfl e0)) ca_142 (fun w hs => w_spec_SameImage e1_59 (r0_0.ext hs.below) (r1_0.ext hs.below))) ?_
  refine hkz8 _ ?_ ?_
  exact rfl
  repeat (first | exact Sub.refl _ | refine Sub.skip rfl ?_)
 case Fz8 =>
  intro hcz8 hkz8
  refine sk ?_
  refine sk ?_
  refine sk ?_
  refine sk ?_
  refine sk ?_
  refine hkz8 _ ?_
  repeat (first | exact Sub.refl _ | refine Sub.skip rfl ?_)
 case az8 => exact rfl
 case bz8 => exact rfl
 case cz8 => exact rfl
 case dz8 => exact rfl
 refine ag ?_
 refine WL.nil (En.next (WC.ret ?_))
 refine En.ret1 rfl (Res.tmp rfl) ?_
 obtain rfl := Option.some.inj h
 intro w' hs
 exact ⟨rfl, hs.below⟩

theorem w_laws_sameScene {a_p0 : SceneT} {b_p1 : SceneT} {r : Bool} {q0_0 : Option Addr} {l0_0 k0_0 : Nat} {q1_0 : Option Addr} {l1_0 k1_0 : Nat} (h : laws_sameScene a_p0 b_p1 = some r) {w : World} (r0_0 : Rd tSurface w q0_0 l0_0 k0_0 a_p0.Surfaces) (r1_0 : Rd tSurface w q1_0 l1_0 k1_0 b_p1.Surfaces)   :
    Calls Try.prog 49 #[.agg #[.int .i64 a_p0.W, .int .i64 a_p0.H, .int .i64 a_p0.Back, .slice q0_0 l0_0 k0_0], .agg #[.int .i64 b_p1.W, .int .i64 b_p1.H, .int .i64 b_p1.Back, .slice q1_0 l1_0 k1_0]] w (fun en w' => en = .returned (.bool r) ∧ Ext w w') := by
 obtain rfl := r0_0.1
 obtain rfl := r1_0.1
 unfold laws_sameScene at h
 refine enter (vs := [_, _]) Try.func49 rfl rfl rfl rfl ?_
 refine WC.sr ?_
 refine WL.heavy rfl rfl rfl (OpH.box rfl rfl ?_)
 intro b0_0
 refine WL.heavy rfl rfl rfl (OpH.box rfl rfl ?_)
 intro b0_1
 refine ag ?_
 refine WL.nil (En.next (WC.seq (WC.sr ?_)))
 refine sp (OpV.fieldAddr rfl fo_62_0) ?_
 refine sp (OpV.loadBox rfl pt_3 mq1 rfl) ?_
 refine sp (OpV.fieldAddr rfl fo_62_0) ?_
 refine sp (OpV.loadBox rfl pt_3 mq0 rfl) ?_
 refine sp (OpV.neq rfl rfl) ?_
 refine mv ?_
 refine Lt.ofWL.or 11 17 16 (p := ?pz1) (rest := ?qz1) (B := ?Bz1) rfl ?Tz1 ?Fz1 ?az1 ?bz1 ?cz1 ?dz1 ?ez1
 case Tz1 =>
  intro hcz1 hkz1
  refine sk ?_
  refine sk ?_
  refine sk ?_
  refine sk ?_
  refine sk ?_
  refine hkz1 _ ?_
  repeat (first | exact Sub.refl _ | refine Sub.skip rfl ?_)
 case Fz1 =>
  intro hcz1 hkz1
  refine sp (OpV.fieldAddr rfl fo_62_1) ?_
  refine sp (OpV.loadBox rfl pt_3 mq1 rfl) ?_
  refine sp (OpV.fieldAddr rfl fo_62_1) ?_
  refine sp (OpV.loadBox rfl pt_3 mq0 rfl) ?_
  refine sp (OpV.neq rfl rfl) ?_
  refine hkz1 _ ?_ ?_
  exact rfl
  repeat (first | exact Sub.refl _ | refine Sub.skip rfl ?_)
 case az1 => exact rfl
 case bz1 => exact rfl
 case cz1 => exact rfl
 case dz1 => exact rfl
 refine mv ?_
 refine Lt.ofWL.or 18 24 23 (p := ?pz2) (rest := ?qz2) (B := ?Bz2) rfl ?Tz2 ?Fz2 ?az2 ?bz2 ?cz2 ?dz2 ?ez2
 case Tz2 =>
  intro hcz2 hkz2
  refine sk ?_
  refine sk ?_
  refine sk ?_
  refine sk ?_
  refine sk ?_
  refine hkz2 _ ?_
  repeat (first | exact Sub.refl _ | refine Sub.skip rfl ?_)
 case Fz2 =>
  intro hcz2 hkz2
  refine sp (OpV.fieldAddr rfl fo_62_2) ?_
  refine sp (OpV.loadBox rfl pt_3 mq1 rfl) ?_
  refine sp (OpV.fieldAddr rfl fo_62_2) ?_
  refine sp (OpV.loadBox rfl pt_3 mq0 rfl) ?_
  refine sp (OpV.neq rfl rfl) ?_
  refine hkz2 _ ?_ ?_
  exact rfl
  repeat (first | exact Sub.refl _ | refine Sub.skip rfl ?_)
 case az2 => exact rfl
 case bz2 => exact rfl
 case cz2 => exact rfl
 case dz2 => exact rfl
 refine mv ?_
 refine Lt.ofWL.or 25 33 32 (p := ?pz3) (rest := ?qz3) (B := ?Bz3) rfl ?Tz3 ?Fz3 ?az3 ?bz3 ?cz3 ?dz3 ?ez3
 case Tz3 =>
  intro hcz3 hkz3
  refine sk ?_
  refine sk ?_
  refine sk ?_
  refine sk ?_
  refine sk ?_
  refine sk ?_
  refine sk ?_
  refine hkz3 _ ?_
  repeat (first | exact Sub.refl _ | refine Sub.skip rfl ?_)
 case Fz3 =>
  intro hcz3 hkz3
  refine sp (OpV.fieldAddr rfl fo_62_3) ?_
  refine sp (OpV.loadBox rfl pt_60 mq1 rfl) ?_
  refine sp (OpV.len rfl si_60 rfl) ?_
  refine sp (OpV.fieldAddr rfl fo_62_3) ?_
  refine sp (OpV.loadBox rfl pt_60 mq0 rfl) ?_
  refine sp (OpV.len rfl si_60 rfl) ?_
  refine sp (OpV.neq rfl rfl) ?_
  refine hkz3 _ ?_ ?_
  exact rfl
  repeat (first | exact Sub.refl _ | refine Sub.skip rfl ?_)
 case az3 => exact rfl
 case bz3 => exact rfl
 case cz3 => exact rfl
 case dz3 => exact rfl
 refine WL.nil (En.next ?_)
 refine WC.cond rfl ?_ ?_
 ·
  intro hc_1
  replace h := ifO_t hc_1 h
  refine WC.sr ?_
  refine ag ?_
  refine WL.nil (En.next (WC.ret (En.then_ret ?_)))
  refine En.ret1 rfl (Res.tmp rfl) ?_
  obtain rfl := Option.some.inj h
  intro w' hs
  exact ⟨rfl, hs.below⟩
 ·
  intro hc_1
  replace h := ifO_f hc_1 h
  refine WC.skip (En.next (WC.seq (WC.sr ?_)))
  refine ag ?_
  refine WL.nil (En.next (WC.block ?_))
  obtain ⟨zy0, ezy0, h⟩ := bnd h
  refine WC.cut (X := (Unit) × (Unit)) (.exit 0) (fun x => zy0 = .inl x.1) (fun x => match x with | ((), ()) => []) (fun x => match x with | ((), ()) => []) ?_ ?_
  ·
   rintro ⟨⟨⟩, ⟨⟩⟩ hx
   replace hx : .inl () = zy0 := hx.symm
   subst hx
   replace h := fork_l h
   show En _ _ _ _ [] []
   refine En.block_exit (En.next (WC.sr ?_))
   refine ag ?_
   refine WL.nil (En.next (WC.ret ?_))
   refine En.ret1 rfl (Res.tmp rfl) ?_
   obtain rfl := Option.some.inj h
   intro w' hs
   exact ⟨rfl, hs.below⟩
  ·
   intro zK0_0
   refine WC.loopP (G := Unit) (fun s g => match s, g with | k_0, () => [(2, .pointer (some ⟨b0_0, 0, .none⟩)), (3, .pointer (some ⟨b0_1, 0, .none⟩)), (5, .int .i64 k_0)]) (fun s g => match s, g with | k_0, () => [Chunk.box b0_0 62 [.int .i64 a_p0.W, .int .i64 a_p0.H, .int .i64 a_p0.Back, .slice q0_0 a_p0.Surfaces.length k0_0], Chunk.box b0_1 62 [.int .i64 b_p1.W, .int .i64 b_p1.H, .int .i64 b_p1.Back, .slice q1_0 b_p1.Surfaces.length k1_0]]) 0 () ezy0 (by exact sc (sc (sc sn))) (by exact (fun _ h => (h).pm 1)) ?_
   rintro zm0 k_0 ⟨⟩ zo0 zf0 zb0 ze0
   have zh0 : laws_sameScene_L0 a_p0 b_p1 k_0 = some zo0 := zf0
   unfold laws_sameScene_L0 at zh0
   show WC _ _ _ _ _ [(2, .pointer (some ⟨b0_0, 0, .none⟩)), (3, .pointer (some ⟨b0_1, 0, .none⟩)), (5, .int .i64 k_0)] [Chunk.box b0_0 62 [.int .i64 a_p0.W, .int .i64 a_p0.H, .int .i64 a_p0.Back, .slice q0_0 a_p0.Surfaces.length k0_0], Chunk.box b0_1 62 [.int .i64 b_p1.W, .int .i64 b_p1.H, .int .i64 b_p1.Back, .slice q1_0 b_p1.Surfaces.length k1_0]]
   refine WC.seq (WC.sr ?_)
   refine mv ?_
   refine sp (OpV.fieldAddr rfl fo_62_3) ?_
   refine sp (OpV.loadBox rfl pt_60 mq0 rfl) ?_
   refine sp (OpV.len rfl si_60 rfl) ?_
   refine sp (OpV.lss rfl rfl) ?_
   refine WL.nil (En.next ?_)
   refine WC.cond rfl ?_ ?_
   ·
    intro hc_2
    replace zh0 := ifO_t hc_2 zh0
    refine WC.skip (En.next (WC.seq (WC.block (WC.seq ?_))))
    obtain ⟨x6_3, e6_3, zh0⟩ := bnd zh0
    obtain ⟨g6_3, o6_3, _, ha6_3, ⟨a6_3_1, c6_3_1, rfl, r6_3_1⟩, hd6_3⟩ := Rd.atIdx r0_0 e6_3
    replace hd6_3 : ∀ (j : Nat) v, ([.int .i64 x6_3.Id, .int .i64 x6_3.X, .int .i64 x6_3.Y, .int .i64 x6_3.W, .int .i64 x6_3.H, .int .i64 x6_3.Alpha, .int .i64 x6_3.Orient, .bool x6_3.Visible, .int .i64 x6_3.Buffer.W, .int .i64 x6_3.Buffer.H, .slice a6_3_1 x6_3.Buffer.Data.length c6_3_1] : List Value)[j]? = some v → w.cell? ⟨g6_3, o6_3 + k_0.toNat * 11 + j, .none⟩ = some v := hd6_3
    obtain ⟨x6_8, e6_8, zh0⟩ := bnd zh0
    obtain ⟨g6_8, o6_8, _, ha6_8, ⟨a6_8_1, c6_8_1, rfl, r6_8_1⟩, hd6_8⟩ := Rd.atIdx r1_0 e6_8
    replace hd6_8 : ∀ (j : Nat) v, ([.int .i64 x6_8.Id, .int .i64 x6_8.X, .int .i64 x6_8.Y, .int .i64 x6_8.W, .int .i64 x6_8.H, .int .i64 x6_8.Alpha, .int .i64 x6_8.Orient, .bool x6_8.Visible, .int .i64 x6_8.Buffer.W, .int .i64 x6_8.Buffer.H, .slice a6_8_1 x6_8.Buffer.Data.length c6_8_1] : List Value)[j]? = some v → w.cell? ⟨g6_8, o6_8 + k_0.toNat * 11 + j, .none⟩ = some v := hd6_8
    obtain ⟨x6_10, e6_10, zh0⟩ := bnd zh0
    refine WC.drawn [(2, ?r6q3v2), (3, ?r6q3v3), (5, ?r6q3v5), (52, ?r6q3v52)] (by kernel_rfl) (by kernel_rfl) ?dH6q3 ?dK6q3
    case dH6q3 =>
     intro W hW hk
     refine hW.sp (OpV.fieldAddr rfl fo_62_3) ?_
     refine hW.sp (OpV.loadBox rfl pt_60 mq0 rfl) ?_
     refine hW.mv ?_
     refine hW.sp (OpV.idxA rfl rfl se_60 ha6_3 ⟨(idx_some e6_3).1, (idx_some e6_3).2.1⟩) ?_
     refine hW.sp (OpV.loadN rfl ag_73 rfl (fun w hs => hs.cellsAt hd6_3)) ?_
     refine hW.sp (OpV.fieldAddr rfl fo_62_3) ?_
     refine hW.sp (OpV.loadBox rfl pt_60 mq1 rfl) ?_
     refine hW.mv ?_
     refine hW.sp (OpV.idxA rfl rfl se_60 ha6_8 ⟨(idx_some e6_8).1, (idx_some e6_8).2.1⟩) ?_
     refine hW.sp (OpV.loadN rfl ag_73 rfl (fun w hs => hs.cellsAt hd6_8)) ?_
     refine hW.sp (OpV.call (ec rfl (ec rfl e0)) ca_102 (fun w hs => w_spec_SameSurface e6_10 (r6_3_1.ext hs.below) (r6_8_1.ext hs.below))) ?_
     refine hW.sp (OpV.not rfl) ?_
     refine hk _ ?_
     refine Sub.cons ?_ (Sub.cons ?_ (Sub.cons ?_ (Sub.cons ?_ sn)))
     all_goals exact rfl
    refine En.next ?_
    refine WC.cond rfl ?_ ?_
    ·
     intro hc_3
     replace zh0 := ifO_t hc_3 zh0
     refine WC.sr ?_
     refine ag ?_
     refine WL.nil (En.next (WC.ret (En.block_ret (En.then_ret (En.then_ret (En.block_ret (En.then_ret ?_)))))))
     refine En.ret1 rfl (Res.tmp rfl) ?_
     have hx := exitP ze0 zh0
     subst hx
     replace h := fork_r h
     obtain rfl := Option.some.inj h
     intro w' hs
     exact ⟨rfl, hs.below⟩
    ·
     intro hc_3
     replace zh0 := ifO_f hc_3 zh0
     refine WC.skip (En.block_norm (En.next (WC.region ?_)))
     refine mv ?_
     refine sp (OpV.addR rfl rfl) ?_
     refine ag ?_
     refine WL.nil ?_
     exact En.backP zb0 zh0 () (sc (sc (sc sn))) (fun _ h => h)
   ·
    intro hc_2
    replace zh0 := ifO_f hc_2 zh0
    refine WC.exit (En.then_exit (En.then_exit ?_))
    have hx := exitP ze0 zh0
    exact En.wk _ _ sn (fun _ h => (h).sub (.cons _ (.cons _ (.slnil)))) (zK0_0 ((), ()) hx.symm)

theorem w_spec_OptionsOk {o_p0 : OptionsT} {r : Bool}  (h : spec_OptionsOk o_p0 = some r) {w : World}    :
    Calls Try.prog 147 #[.agg #[.int .i64 o_p0.Overlays, .bool o_p0.Cursor, .int .i64 o_p0.Layout, .bool o_p0.Partial, .bool o_p0.Sleep, .bool o_p0.Secret]] w (fun en w' => en = .returned (.bool r) ∧ Ext w w') := by
 unfold spec_OptionsOk at h
 refine enter (vs := [_]) Try.func147 rfl rfl rfl rfl ?_
 refine WC.sr ?_
 refine WL.heavy rfl rfl rfl (OpH.box rfl rfl ?_)
 intro b0_0
 refine ag ?_
 refine WL.nil (En.next (WC.seq ?_))
 obtain ⟨x1_2, e1_2, h⟩ := bnd h
 obtain ⟨q1_7, e1_7, h⟩ := bnd h
 refine WC.region ?_
 refine sp (OpV.fieldAddr rfl fo_64_0) ?_
 refine sp (OpV.loadBox rfl pt_3 mq0 rfl) ?_
 refine sp (OpV.call (ec rfl (ec rfl (ec rfl e0))) ca_84 (fun w hs => w_spec_l01In e1_2)) ?_
 refine mv ?_
 refine Lt.ofWL.andQ 6 10 9 (p := ?pz1) (rest := ?qz1) (B := q1_7) rfl (fun hz => andO_f e1_7 hz) ?Tz1 ?Fz1 ?az1 ?bz1 ?cz1 ?dz1 ?ez1
 case Tz1 =>
  intro hcz1 hkz1
  have hqz1 := andO_t e1_7 hcz1
  obtain ⟨x1_6, e1_6, hqz1⟩ := bnd hqz1
  obtain rfl := Option.some.inj hqz1
  refine sp (OpV.fieldAddr rfl fo_64_2) ?_
  refine sp (OpV.loadBox rfl pt_3 mq0 rfl) ?_
  refine sp (OpV.call (ec rfl (ec rfl (ec rfl e0))) ca_84 (fun w hs => w_spec_l01In e1_6)) ?_
  refine hkz1 _ ?_ ?_
  exact rfl
  repeat (first | exact Sub.refl _ | refine Sub.skip rfl ?_)
 case Fz1 =>
  intro hcz1 hkz1
  refine sk ?_
  refine sk ?_
  refine sk ?_
  refine hkz1 _ ?_
  repeat (first | exact Sub.refl _ | refine Sub.skip rfl ?_)
 case az1 => exact rfl
 case bz1 => exact rfl
 case cz1 => exact rfl
 case dz1 => exact rfl
 refine ag ?_
 refine WL.nil (En.next (WC.ret ?_))
 refine En.ret1 rfl (Res.tmp rfl) ?_
 obtain rfl := Option.some.inj h
 intro w' hs
 exact ⟨rfl, hs.below⟩

theorem w_spec_TopVisible {s_p0 : SceneT} {n_p1 : Int} {r : Int} {q0_0 : Option Addr} {l0_0 k0_0 : Nat} (h : spec_TopVisible s_p0 n_p1 = some r) {w : World} (r0_0 : Rd tSurface w q0_0 l0_0 k0_0 s_p0.Surfaces)   :
    Calls Try.prog 148 #[.agg #[.int .i64 s_p0.W, .int .i64 s_p0.H, .int .i64 s_p0.Back, .slice q0_0 l0_0 k0_0], .int .i64 n_p1] w (fun en w' => en = .returned (.int .i64 r) ∧ Ext w w') := by
 obtain rfl := r0_0.1
 unfold spec_TopVisible at h
 refine enter (vs := [_, _]) Try.func148 rfl rfl rfl rfl ?_
 refine WC.sr ?_
 refine WL.heavy rfl rfl rfl (OpH.box rfl rfl ?_)
 intro b0_0
 refine ag ?_
 refine WL.nil (En.next (WC.seq (WC.seq ?_)))
 obtain ⟨x1_1, e1_1, h⟩ := bnd h
 refine WC.region ?_
 refine sp (OpV.loadAll rfl mq0 ag_62) ?_
 refine sp (OpV.call (ec rfl e0) ca_96 (fun w hs => w_spec_SceneOk e1_1 (r0_0.ext hs.below))) ?_
 refine sp (OpV.not rfl) ?_
 refine mv ?_
 refine Lt.ofWL.or 9 12 11 (p := ?pz1) (rest := ?qz1) (B := ?Bz1) rfl ?Tz1 ?Fz1 ?az1 ?bz1 ?cz1 ?dz1 ?ez1
 case Tz1 =>
  intro hcz1 hkz1
  refine sk ?_
  refine sk ?_
  refine hkz1 _ ?_
  repeat (first | exact Sub.refl _ | refine Sub.skip rfl ?_)
 case Fz1 =>
  intro hcz1 hkz1
  refine mv ?_
  refine sp (OpV.lss rfl rfl) ?_
  refine hkz1 _ ?_ ?_
  exact rfl
  repeat (first | exact Sub.refl _ | refine Sub.skip rfl ?_)
 case az1 => exact rfl
 case bz1 => exact rfl
 case cz1 => exact rfl
 case dz1 => exact rfl
 refine WL.nil (En.next ?_)
 refine WC.cond rfl ?_ ?_
 ·
  intro hc_1
  replace h := ifO_t hc_1 h
  refine WC.sr ?_
  refine ag ?_
  refine WL.nil (En.next (WC.ret (En.then_ret ?_)))
  refine En.ret1 rfl (Res.tmp rfl) ?_
  obtain rfl := Option.some.inj h
  intro w' hs
  exact ⟨rfl, hs.below⟩
 ·
  intro hc_1
  replace h := ifO_f hc_1 h
  refine WC.skip (En.next (WC.seq (WC.sr ?_)))
  refine sp (OpV.fieldAddr rfl fo_62_3) ?_
  refine sp (OpV.loadBox rfl pt_60 mq0 rfl) ?_
  refine sp (OpV.len rfl si_60 rfl) ?_
  refine sp (OpV.subR rfl rfl) ?_
  refine ag ?_
  refine WL.nil (En.next (WC.block ?_))
  obtain ⟨zy0, ezy0, h⟩ := bnd h
  refine WC.cut (X := (Unit) × (Unit)) (.exit 0) (fun x => zy0 = .inl x.1) (fun x => match x with | ((), ()) => []) (fun x => match x with | ((), ()) => []) ?_ ?_
  ·
   rintro ⟨⟨⟩, ⟨⟩⟩ hx
   replace hx : .inl () = zy0 := hx.symm
   subst hx
   replace h := fork_l h
   show En _ _ _ _ [] []
   refine En.block_exit (En.next (WC.sr ?_))
   refine ag ?_
   refine WL.nil (En.next (WC.ret ?_))
   refine En.ret1 rfl (Res.tmp rfl) ?_
   obtain rfl := Option.some.inj h
   intro w' hs
   exact ⟨rfl, hs.below⟩
  ·
   intro zK0_0
   refine WC.loopP (G := Unit) (fun s g => match s, g with | (n_0, k_0), () => [(1, .int .i64 n_0), (2, .pointer (some ⟨b0_0, 0, .none⟩)), (5, .int .i64 k_0)]) (fun s g => match s, g with | (n_0, k_0), () => [Chunk.box b0_0 62 [.int .i64 s_p0.W, .int .i64 s_p0.H, .int .i64 s_p0.Back, .slice q0_0 s_p0.Surfaces.length k0_0]]) (n_p1, (wr ((s_p0.Surfaces.length : Int) - 1))) () ezy0 (by exact sc (sc (sc sn))) (by exact (fun _ h => h)) ?_
   rintro zm0 ⟨n_0, k_0⟩ ⟨⟩ zo0 zf0 zb0 ze0
   have zh0 : spec_TopVisible_L0 s_p0 n_0 k_0 = some zo0 := zf0
   unfold spec_TopVisible_L0 at zh0
   show WC _ _ _ _ _ [(1, .int .i64 n_0), (2, .pointer (some ⟨b0_0, 0, .none⟩)), (5, .int .i64 k_0)] [Chunk.box b0_0 62 [.int .i64 s_p0.W, .int .i64 s_p0.H, .int .i64 s_p0.Back, .slice q0_0 s_p0.Surfaces.length k0_0]]
   refine WC.seq (WC.sr ?_)
   refine mv ?_
   refine sp (OpV.geq rfl rfl) ?_
   refine WL.nil (En.next ?_)
   refine WC.cond rfl ?_ ?_
   ·
    intro hc_2
    replace zh0 := ifO_t hc_2 zh0
    refine WC.skip (En.next (WC.seq (WC.block (WC.seq ?_))))
    obtain ⟨x6_3, e6_3, zh0⟩ := bnd zh0
    obtain ⟨g6_3, o6_3, _, ha6_3, ⟨a6_3_1, c6_3_1, rfl, r6_3_1⟩, hd6_3⟩ := Rd.atIdx r0_0 e6_3
    replace hd6_3 : ∀ (j : Nat) v, ([.int .i64 x6_3.Id, .int .i64 x6_3.X, .int .i64 x6_3.Y, .int .i64 x6_3.W, .int .i64 x6_3.H, .int .i64 x6_3.Alpha, .int .i64 x6_3.Orient, .bool x6_3.Visible, .int .i64 x6_3.Buffer.W, .int .i64 x6_3.Buffer.H, .slice a6_3_1 x6_3.Buffer.Data.length c6_3_1] : List Value)[j]? = some v → w.cell? ⟨g6_3, o6_3 + k_0.toNat * 11 + j, .none⟩ = some v := hd6_3
    refine WC.region ?_
    refine sp (OpV.fieldAddr rfl fo_62_3) ?_
    refine sp (OpV.loadBox rfl pt_60 mq0 rfl) ?_
    refine mv ?_
    refine sp (OpV.idxA rfl rfl se_60 ha6_3 ⟨(idx_some e6_3).1, (idx_some e6_3).2.1⟩) ?_
    refine sp (OpV.fieldAddr rfl fo_73_7) ?_
    refine sp (OpV.load1 rfl pt_4 (fun w hs => hs.cell (hd6_3 7 _ rfl))) ?_
    refine WL.nil (En.next ?_)
    refine WC.cond rfl ?_ ?_
    ·
     intro hc_3
     replace zh0 := ifO_t hc_3 zh0
     refine WC.seq (WC.sr ?_)
     refine mv ?_
     refine sp (OpV.eql rfl rfl) ?_
     refine WL.nil (En.next ?_)
     refine WC.cond rfl ?_ ?_
     ·
      intro hc_4
      replace zh0 := ifO_t hc_4 zh0
      refine WC.sr ?_
      refine mv ?_
      refine ag ?_
      refine WL.nil (En.next (WC.ret (En.then_ret (En.block_ret (En.then_ret (En.then_ret (En.block_ret (En.then_ret ?_))))))))
      refine En.ret1 rfl (Res.tmp rfl) ?_
      have hx := exitP ze0 zh0
      subst hx
      replace h := fork_r h
      obtain rfl := Option.some.inj h
      intro w' hs
      exact ⟨rfl, hs.below⟩
     ·
      intro hc_4
      replace zh0 := ifO_f hc_4 zh0
      refine WC.skip (En.next (WC.region ?_))
      refine mv ?_
      refine sp (OpV.subR rfl rfl) ?_
      refine ag ?_
      refine WL.nil (En.block_norm (En.next (WC.region ?_)))
      refine mv ?_
      refine sp (OpV.subR rfl rfl) ?_
      refine ag ?_
      refine WL.nil ?_
      exact En.backP zb0 zh0 () (sc (sc (sc sn))) (fun _ h => h)
    ·
     intro hc_3
     replace zh0 := ifO_f hc_3 zh0
     refine WC.skip (En.block_norm (En.next (WC.region ?_)))
     refine mv ?_
     refine sp (OpV.subR rfl rfl) ?_
     refine ag ?_
     refine WL.nil ?_
     exact En.backP zb0 zh0 () (sc (sc (sc sn))) (fun _ h => h)
   ·
    intro hc_2
    replace zh0 := ifO_f hc_2 zh0
    refine WC.exit (En.then_exit (En.then_exit ?_))
    have hx := exitP ze0 zh0
    exact En.wk _ _ sn (fun _ h => (h).sub (.cons _ (.slnil))) (zK0_0 ((), ()) hx.symm)

theorem w_spec_FitsCursor {s_p0 : SurfaceT} {r : Bool} {q0_0 : Option Addr} {l0_0 k0_0 : Nat} (h : spec_FitsCursor s_p0 = some r) {w : World} (r0_0 : Rd tInt w q0_0 l0_0 k0_0 s_p0.Buffer.Data)   :
    Calls Try.prog 149 #[.agg #[.int .i64 s_p0.Id, .int .i64 s_p0.X, .int .i64 s_p0.Y, .int .i64 s_p0.W, .int .i64 s_p0.H, .int .i64 s_p0.Alpha, .int .i64 s_p0.Orient, .bool s_p0.Visible, .int .i64 s_p0.Buffer.W, .int .i64 s_p0.Buffer.H, .slice q0_0 l0_0 k0_0]] w (fun en w' => en = .returned (.bool r) ∧ Ext w w') := by
 obtain rfl := r0_0.1
 unfold spec_FitsCursor at h
 refine enter (vs := [_]) Try.func149 rfl rfl rfl rfl ?_
 refine WC.sr ?_
 refine WL.heavy rfl rfl rfl (OpH.box rfl rfl ?_)
 intro b0_0
 refine ag ?_
 refine WL.nil (En.next (WC.seq ?_))
 obtain ⟨x1_1, e1_1, h⟩ := bnd h
 refine WC.region ?_
 refine sp (OpV.loadAll rfl mq0 ag_73) ?_
 refine sp (OpV.call (ec rfl e0) ca_139 (fun w hs => w_spec_SurfaceOk e1_1 (r0_0.ext hs.below))) ?_
 refine mv ?_
 refine Lt.ofWL.and 5 9 8 (p := ?pz1) (rest := ?qz1) (B := ?Bz1) rfl ?Tz1 ?Fz1 ?az1 ?bz1 ?cz1 ?dz1 ?ez1
 case Tz1 =>
  intro hcz1 hkz1
  refine sp (OpV.fieldAddr rfl fo_73_5) ?_
  refine sp (OpV.loadBox rfl pt_3 mq0 rfl) ?_
  refine sp (OpV.eql rfl rfl) ?_
  refine hkz1 _ ?_ ?_
  exact rfl
  repeat (first | exact Sub.refl _ | refine Sub.skip rfl ?_)
 case Fz1 =>
  intro hcz1 hkz1
  refine sk ?_
  refine sk ?_
  refine sk ?_
  refine hkz1 _ ?_
  repeat (first | exact Sub.refl _ | refine Sub.skip rfl ?_)
 case az1 => exact rfl
 case bz1 => exact rfl
 case cz1 => exact rfl
 case dz1 => exact rfl
 refine mv ?_
 refine Lt.ofWL.and 10 14 13 (p := ?pz2) (rest := ?qz2) (B := ?Bz2) rfl ?Tz2 ?Fz2 ?az2 ?bz2 ?cz2 ?dz2 ?ez2
 case Tz2 =>
  intro hcz2 hkz2
  refine sp (OpV.fieldAddr rfl fo_73_6) ?_
  refine sp (OpV.loadBox rfl pt_3 mq0 rfl) ?_
  refine sp (OpV.eql rfl rfl) ?_
  refine hkz2 _ ?_ ?_
  exact rfl
  repeat (first | exact Sub.refl _ | refine Sub.skip rfl ?_)
 case Fz2 =>
  intro hcz2 hkz2
  refine sk ?_
  refine sk ?_
  refine sk ?_
  refine hkz2 _ ?_
  repeat (first | exact Sub.refl _ | refine Sub.skip rfl ?_)
 case az2 => exact rfl
 case bz2 => exact rfl
 case cz2 => exact rfl
 case dz2 => exact rfl
 refine mv ?_
 refine Lt.ofWL.and 15 19 18 (p := ?pz3) (rest := ?qz3) (B := ?Bz3) rfl ?Tz3 ?Fz3 ?az3 ?bz3 ?cz3 ?dz3 ?ez3
 case Tz3 =>
  intro hcz3 hkz3
  refine sp (OpV.fieldAddr rfl fo_73_3) ?_
  refine sp (OpV.loadBox rfl pt_3 mq0 rfl) ?_
  refine sp (OpV.eql rfl rfl) ?_
  refine hkz3 _ ?_ ?_
  exact rfl
  repeat (first | exact Sub.refl _ | refine Sub.skip rfl ?_)
 case Fz3 =>
  intro hcz3 hkz3
  refine sk ?_
  refine sk ?_
  refine sk ?_
  refine hkz3 _ ?_
  repeat (first | exact Sub.refl _ | refine Sub.skip rfl ?_)
 case az3 => exact rfl
 case bz3 => exact rfl
 case cz3 => exact rfl
 case dz3 => exact rfl
 refine mv ?_
 refine Lt.ofWL.and 20 24 23 (p := ?pz4) (rest := ?qz4) (B := ?Bz4) rfl ?Tz4 ?Fz4 ?az4 ?bz4 ?cz4 ?dz4 ?ez4
 case Tz4 =>
  intro hcz4 hkz4
  refine sp (OpV.fieldAddr rfl fo_73_4) ?_
  refine sp (OpV.loadBox rfl pt_3 mq0 rfl) ?_
  refine sp (OpV.eql rfl rfl) ?_
  refine hkz4 _ ?_ ?_
  exact rfl
  repeat (first | exact Sub.refl _ | refine Sub.skip rfl ?_)
 case Fz4 =>
  intro hcz4 hkz4
  refine sk ?_
  refine sk ?_
  refine sk ?_
  refine hkz4 _ ?_
  repeat (first | exact Sub.refl _ | refine Sub.skip rfl ?_)
 case az4 => exact rfl
 case bz4 => exact rfl
 case cz4 => exact rfl
 case dz4 => exact rfl
 refine mv ?_
 refine Lt.ofWL.and 25 30 29 (p := ?pz5) (rest := ?qz5) (B := ?Bz5) rfl ?Tz5 ?Fz5 ?az5 ?bz5 ?cz5 ?dz5 ?ez5
 case Tz5 =>
  intro hcz5 hkz5
  refine sp (OpV.fieldAddr rfl fo_73_8) ?_
  refine sp (OpV.fieldAddr rfl fo_71_0) ?_
  refine sp (OpV.loadBox rfl pt_3 mq0 rfl) ?_
  refine sp (OpV.leq rfl rfl) ?_
  refine hkz5 _ ?_ ?_
  exact rfl
  repeat (first | exact Sub.refl _ | refine Sub.skip rfl ?_)
 case Fz5 =>
  intro hcz5 hkz5
  refine sk ?_
  refine sk ?_
  refine sk ?_
  refine sk ?_
  refine hkz5 _ ?_
  repeat (first | exact Sub.refl _ | refine Sub.skip rfl ?_)
 case az5 => exact rfl
 case bz5 => exact rfl
 case cz5 => exact rfl
 case dz5 => exact rfl
 refine mv ?_
 refine Lt.ofWL.and 31 36 35 (p := ?pz6) (rest := ?qz6) (B := ?Bz6) rfl ?Tz6 ?Fz6 ?az6 ?bz6 ?cz6 ?dz6 ?ez6
 case Tz6 =>
  intro hcz6 hkz6
  refine sp (OpV.fieldAddr rfl fo_73_8) ?_
  refine sp (OpV.fieldAddr rfl fo_71_1) ?_
  refine sp (OpV.loadBox rfl pt_3 mq0 rfl) ?_
  refine sp (OpV.leq rfl rfl) ?_
  refine hkz6 _ ?_ ?_
  exact rfl
  repeat (first | exact Sub.refl _ | refine Sub.skip rfl ?_)
 case Fz6 =>
  intro hcz6 hkz6
  refine sk ?_
  refine sk ?_
  refine sk ?_
  refine sk ?_
  refine hkz6 _ ?_
  repeat (first | exact Sub.refl _ | refine Sub.skip rfl ?_)
 case az6 => exact rfl
 case bz6 => exact rfl
 case cz6 => exact rfl
 case dz6 => exact rfl
 refine ag ?_
 refine WL.nil (En.next (WC.ret ?_))
 refine En.ret1 rfl (Res.tmp rfl) ?_
 obtain rfl := Option.some.inj h
 intro w' hs
 exact ⟨rfl, hs.below⟩

theorem w_spec_AssignedOf {a_p0 : SceneT} {a_p1 : OptionsT} {r : (List Int) × Int} {q0_0 : Option Addr} {l0_0 k0_0 : Nat} (h : spec_AssignedOf a_p0 a_p1 = some r) {w : World} (r0_0 : Rd tSurface w q0_0 l0_0 k0_0 a_p0.Surfaces)   :
    Calls Try.prog 106 #[.agg #[.int .i64 a_p0.W, .int .i64 a_p0.H, .int .i64 a_p0.Back, .slice q0_0 l0_0 k0_0], .agg #[.int .i64 a_p1.Overlays, .bool a_p1.Cursor, .int .i64 a_p1.Layout, .bool a_p1.Partial, .bool a_p1.Sleep, .bool a_p1.Secret]] w (fun en w' => ∃ rv G, en = .returned rv ∧ (∃ (a0_0 : Option Addr) (n0_0 : Nat) (c0_0 : Nat) (f0_0 : List Nat), rv = .tuple #[.slice a0_0 n0_0 c0_0, .int .i64 r.2] ∧ G = [Chunk.own tInt f0_0 a0_0 n0_0 c0_0 r.1]) ∧ St w G w') := by
 obtain rfl := r0_0.1
 unfold spec_AssignedOf at h
 refine enter (vs := [_, _]) Try.func106 rfl rfl rfl rfl ?_
 refine WC.sr ?_
 refine WL.heavy rfl rfl rfl (OpH.box rfl rfl ?_)
 intro b0_0
 refine WL.heavy rfl rfl rfl (OpH.box rfl rfl ?_)
 intro b0_1
 refine ag ?_
 refine ag ?_
 refine WL.nil (En.next (WC.seq (WC.seq ?_)))
 obtain ⟨x1_1, e1_1, h⟩ := bnd h
 obtain ⟨q1_7, e1_7, h⟩ := bnd h
 refine WC.region ?_
 refine sp (OpV.loadAll rfl mq1 ag_62) ?_
 refine sp (OpV.call (ec rfl e0) ca_96 (fun w hs => w_spec_SceneOk e1_1 (r0_0.ext hs.below))) ?_
 refine sp (OpV.not rfl) ?_
 refine mv ?_
 refine Lt.ofWL.orQ 14 18 17 (p := ?pz1) (rest := ?qz1) (B := q1_7) rfl (fun hz => orO_t e1_7 hz) ?Tz1 ?Fz1 ?az1 ?bz1 ?cz1 ?dz1 ?ez1
 case Tz1 =>
  intro hcz1 hkz1
  refine sk ?_
  refine sk ?_
  refine sk ?_
  refine hkz1 _ ?_
  repeat (first | exact Sub.refl _ | refine Sub.skip rfl ?_)
 case Fz1 =>
  intro hcz1 hkz1
  have hqz1 := orO_f e1_7 hcz1
  obtain ⟨x1_5, e1_5, hqz1⟩ := bnd hqz1
  obtain rfl := Option.some.inj hqz1
  refine sp (OpV.loadAll rfl mq0 ag_64) ?_
  refine sp (OpV.call (ec rfl e0) ca_147 (fun w hs => w_spec_OptionsOk e1_5)) ?_
  refine sp (OpV.not rfl) ?_
  refine hkz1 _ ?_ ?_
  exact rfl
  repeat (first | exact Sub.refl _ | refine Sub.skip rfl ?_)
 case az1 => exact rfl
 case bz1 => exact rfl
 case cz1 => exact rfl
 case dz1 => exact rfl
 refine WL.nil (En.next ?_)
 refine WC.cond rfl ?_ ?_
 ·
  intro hc_1
  replace h := ifO_t hc_1 h
  refine WC.sr ?_
  refine WL.heavy rfl rfl rfl (OpH.lit0 (A := tInt) (evps.nil) bs_23_0_ ?_)
  intro b2_0
  refine ag ?_
  refine ag ?_
  refine WL.nil (En.next (WC.ret (En.then_ret ?_)))
  refine En.ret2 rfl (Res.tmp rfl) (Res.tmp rfl) ?_
  obtain rfl := Option.some.inj h
  intro w' hs
  have hs := (hs).sub (.cons_cons _ (.cons _ (.cons _ (.slnil))))
  exact ⟨_, _, rfl, ⟨(some ⟨b2_0, 0, .none⟩), 0, 0, [b2_0], rfl, rfl⟩, hs⟩
 ·
  intro hc_1
  replace h := ifO_f hc_1 h
  refine WC.skip (En.next (WC.sr ?_))
  refine WL.heavy rfl rfl rfl (OpH.litF (A := tInt) (xs := [(-1), (-1), (-1)]) tInt_flat (evps.cons rfl (evps.cons rfl (evps.cons rfl (evps.nil)))) (bs_23_3_0_1_2 _ _ _) rfl rfl (Nat.le_of_ble_eq_true rfl) ?_)
  intro b3_0
  refine ag ?_
  refine WL.nil (En.next (WC.sr ?_))
  refine ag ?_
  refine WL.nil (En.next (WC.seq ?_))
  obtain ⟨x5_1, e5_1, h⟩ := bnd h
  refine WC.region ?_
  refine sp (OpV.loadAll rfl mq2 ag_62) ?_
  refine sp (OpV.call (ec rfl (ec rfl e0)) ca_148 (fun w hs => w_spec_TopVisible e5_1 (r0_0.ext hs.below))) ?_
  refine ag ?_
  refine WL.nil (En.next (WC.seq (WC.seq ?_)))
  obtain ⟨q6_13, e6_13, h⟩ := bnd h
  refine WC.region ?_
  refine sp (OpV.fieldAddr rfl fo_64_1) ?_
  refine sp (OpV.loadBox rfl pt_4 mq1 rfl) ?_
  refine mv ?_
  refine Lt.ofWL.and 25 28 27 (p := ?pz2) (rest := ?qz2) (B := ?Bz2) rfl ?Tz2 ?Fz2 ?az2 ?bz2 ?cz2 ?dz2 ?ez2
  case Tz2 =>
   intro hcz2 hkz2
   refine mv ?_
   refine sp (OpV.geq rfl rfl) ?_
   refine hkz2 _ ?_ ?_
   exact rfl
   repeat (first | exact Sub.refl _ | refine Sub.skip rfl ?_)
  case Fz2 =>
   intro hcz2 hkz2
   refine sk ?_
   refine sk ?_
   refine hkz2 _ ?_
   repeat (first | exact Sub.refl _ | refine Sub.skip rfl ?_)
  case az2 => exact rfl
  case bz2 => exact rfl
  case cz2 => exact rfl
  case dz2 => exact rfl
  refine mv ?_
  refine Lt.ofWL.andQ 29 36 35 (p := ?pz3) (rest := ?qz3) (B := q6_13) rfl (fun hz => andO_f e6_13 hz) ?Tz3 ?Fz3 ?az3 ?bz3 ?cz3 ?dz3 ?ez3
  case Tz3 =>
   intro hcz3 hkz3
   have hqz3 := andO_t e6_13 hcz3
   obtain ⟨x6_10, e6_10, hqz3⟩ := bnd hqz3
   obtain ⟨g6_10, o6_10, _, ha6_10, ⟨a6_10_1, c6_10_1, rfl, r6_10_1⟩, hd6_10⟩ := Rd.atIdx r0_0 e6_10
   replace hd6_10 : ∀ (j : Nat) v, ([.int .i64 x6_10.Id, .int .i64 x6_10.X, .int .i64 x6_10.Y, .int .i64 x6_10.W, .int .i64 x6_10.H, .int .i64 x6_10.Alpha, .int .i64 x6_10.Orient, .bool x6_10.Visible, .int .i64 x6_10.Buffer.W, .int .i64 x6_10.Buffer.H, .slice a6_10_1 x6_10.Buffer.Data.length c6_10_1] : List Value)[j]? = some v → w.cell? ⟨g6_10, o6_10 + x5_1.toNat * 11 + j, .none⟩ = some v := hd6_10
   obtain ⟨x6_12, e6_12, hqz3⟩ := bnd hqz3
   obtain rfl := Option.some.inj hqz3
   refine sp (OpV.fieldAddr rfl fo_62_3) ?_
   refine sp (OpV.loadBox rfl pt_60 mq2 rfl) ?_
   refine mv ?_
   refine sp (OpV.idxA rfl rfl se_60 ha6_10 ⟨(idx_some e6_10).1, (idx_some e6_10).2.1⟩) ?_
   refine sp (OpV.loadN rfl ag_73 rfl (fun w hs => hs.cellsAt hd6_10)) ?_
   refine sp (OpV.call (ec rfl e0) ca_149 (fun w hs => w_spec_FitsCursor e6_12 (r6_10_1.ext hs.below))) ?_
   refine hkz3 _ ?_ ?_
   exact rfl
   repeat (first | exact Sub.refl _ | refine Sub.skip rfl ?_)
  case Fz3 =>
   intro hcz3 hkz3
   refine sk ?_
   refine sk ?_
   refine sk ?_
   refine sk ?_
   refine sk ?_
   refine sk ?_
   refine hkz3 _ ?_
   repeat (first | exact Sub.refl _ | refine Sub.skip rfl ?_)
  case az3 => exact rfl
  case bz3 => exact rfl
  case cz3 => exact rfl
  case dz3 => exact rfl
  refine WL.nil (En.next ?_)
  refine WC.cond rfl ?_ ?_
  ·
   intro hc_2
   replace h := ifO_t hc_2 h
   refine WC.seq ?_
   refine WC.inh fun hin7 => ?_
   have hn7_2 := ownLen hin7 mq0
   obtain ⟨x7_3, e7_3, h⟩ := bnd h
   obtain ⟨g7_2, o7_2, ha7_2⟩ := ownAddrU hin7 mq0 e7_3
   refine WC.region ?_
   refine mv ?_
   refine mv ?_
   refine sp (OpV.idxA rfl rfl se_23 ha7_2 ⟨(upd_some e7_3).1.1, by rw [hn7_2]; exact (upd_some e7_3).1.2⟩) ?_
   refine WL.wkF (fun _ h => St.elFlat tInt_flat x5_1 h) ?_
   refine WL.heavy0 rfl rfl (OpH.setEl (A := tInt) ha7_2 rfl rfl rfl ts_3 e7_3 ?_)
   intro f7_3
   refine WL.nil (En.next (WC.sr ?_))
   refine mv ?_
   refine sp (OpV.addR rfl rfl) ?_
   refine ag ?_
   refine WL.nil (En.next ?_)
   obtain ⟨x9_2, e9_2, h⟩ := bnd h
   refine WC.region ?_
   refine sp (OpV.loadAll rfl mq2 ag_62) ?_
   refine mv ?_
   refine sp (OpV.call (ec rfl (ec rfl e0)) ca_148 (fun w hs => w_spec_TopVisible e9_2 (r0_0.ext hs.below))) ?_
   refine ag ?_
   refine WL.nil (En.next (WC.sr ?_))
   refine ag ?_
   refine WL.nil (En.next (WC.seq (WC.sr ?_)))
   refine sp (OpV.fieldAddr rfl fo_64_0) ?_
   refine sp (OpV.loadBox rfl pt_3 mq1 rfl) ?_
   refine sp (OpV.subR rfl rfl) ?_
   refine ag ?_
   refine WL.nil (En.next (WC.block ?_))
   obtain ⟨zy0, ezy0, h⟩ := bnd h
   refine WC.cut (X := ((List Int) × Int) × ((List Nat))) (.exit 0) (fun x => zy0 = x.1) (fun x => match x with | ((v_0e, v1_0e), fv_0e) => [(6, .slice (some ⟨b3_0, 0, .none⟩) 3 3), (7, .int .i64 v1_0e)]) (fun x => match x with | ((v_0e, v1_0e), fv_0e) => [Chunk.own tInt fv_0e (some ⟨b3_0, 0, .none⟩) 3 3 v_0e]) ?_ ?_
   ·
    rintro ⟨⟨v_0e, v1_0e⟩, fv_0e⟩ hx
    replace hx : (v_0e, v1_0e) = zy0 := hx.symm
    subst hx
    show En _ _ _ _ [(6, .slice (some ⟨b3_0, 0, .none⟩) 3 3), (7, .int .i64 v1_0e)] [Chunk.own tInt fv_0e (some ⟨b3_0, 0, .none⟩) 3 3 v_0e]
    refine En.block_exit (En.next (WC.sr ?_))
    refine mv ?_
    refine mv ?_
    refine ag ?_
    refine ag ?_
    refine WL.nil (En.next (WC.ret ?_))
    refine En.ret2 rfl (Res.tmp rfl) (Res.tmp rfl) ?_
    obtain rfl := Option.some.inj h
    intro w' hs
    have hs := hs
    exact ⟨_, _, rfl, ⟨(some ⟨b3_0, 0, .none⟩), 3, 3, fv_0e, rfl, rfl⟩, hs⟩
   ·
    intro zK0_0
    refine WC.loopP (G := (List Nat)) (fun s g => match s, g with | (v_0, v1_0, v2_0, v3_0, v4_0), fv_0 => [(2, .pointer (some ⟨b0_0, 0, .none⟩)), (6, .slice (some ⟨b3_0, 0, .none⟩) 3 3), (7, .int .i64 v1_0), (8, .int .i64 v2_0), (9, .bool v3_0), (10, .int .i64 v4_0)]) (fun s g => match s, g with | (v_0, v1_0, v2_0, v3_0, v4_0), fv_0 => [Chunk.box b0_0 62 [.int .i64 a_p0.W, .int .i64 a_p0.H, .int .i64 a_p0.Back, .slice q0_0 a_p0.Surfaces.length k0_0], Chunk.own tInt fv_0 (some ⟨b3_0, 0, .none⟩) 3 3 v_0]) (x7_3, (wr (0 + 1)), x9_2, false, (wr (a_p1.Overlays - 1))) f7_3 ezy0 (by exact sc (sc (sc (sc (sc (sc sn)))))) (by exact (fun _ h => ((h).pm 2).sub (.cons_cons _ (.cons_cons _ (.cons _ (.slnil)))))) ?_
    rintro zm0 ⟨v_0, v1_0, v2_0, v3_0, v4_0⟩ fv_0 zo0 zf0 zb0 ze0
    have zh0 : spec_AssignedOf_L0 a_p0 v_0 v1_0 v2_0 v3_0 v4_0 = some zo0 := zf0
    unfold spec_AssignedOf_L0 at zh0
    show WC _ _ _ _ _ [(2, .pointer (some ⟨b0_0, 0, .none⟩)), (6, .slice (some ⟨b3_0, 0, .none⟩) 3 3), (7, .int .i64 v1_0), (8, .int .i64 v2_0), (9, .bool v3_0), (10, .int .i64 v4_0)] [Chunk.box b0_0 62 [.int .i64 a_p0.W, .int .i64 a_p0.H, .int .i64 a_p0.Back, .slice q0_0 a_p0.Surfaces.length k0_0], Chunk.own tInt fv_0 (some ⟨b3_0, 0, .none⟩) 3 3 v_0]
    refine WC.seq (WC.sr ?_)
    refine mv ?_
    refine sp (OpV.geq rfl rfl) ?_
    refine WL.nil (En.next ?_)
    refine WC.cond rfl ?_ ?_
    ·
     intro hc_3
     replace zh0 := ifO_t hc_3 zh0
     refine WC.skip (En.next (WC.seq (WC.block (WC.seq (WC.seq ?_)))))
     obtain ⟨q14_13, e14_13, zh0⟩ := bnd zh0
     refine WC.region ?_
     refine mv ?_
     refine sp (OpV.lss rfl rfl) ?_
     refine mv ?_
     refine Lt.ofWL.orQ 54 65 64 (p := ?pz4) (rest := ?qz4) (B := q14_13) rfl (fun hz => orO_t e14_13 hz) ?Tz4 ?Fz4 ?az4 ?bz4 ?cz4 ?dz4 ?ez4
     case Tz4 =>
      intro hcz4 hkz4
      refine sk ?_
      refine sk ?_
      refine sk ?_
      refine sk ?_
      refine sk ?_
      refine sk ?_
      refine sk ?_
      refine sk ?_
      refine sk ?_
      refine sk ?_
      refine hkz4 _ ?_
      repeat (first | exact Sub.refl _ | refine Sub.skip rfl ?_)
     case Fz4 =>
      intro hcz4 hkz4
      have hqz4 := orO_f e14_13 hcz4
      obtain ⟨x14_6, e14_6, hqz4⟩ := bnd hqz4
      obtain ⟨g14_6, o14_6, _, ha14_6, ⟨a14_6_1, c14_6_1, rfl, r14_6_1⟩, hd14_6⟩ := Rd.atIdx r0_0 e14_6
      replace hd14_6 : ∀ (j : Nat) v, ([.int .i64 x14_6.Id, .int .i64 x14_6.X, .int .i64 x14_6.Y, .int .i64 x14_6.W, .int .i64 x14_6.H, .int .i64 x14_6.Alpha, .int .i64 x14_6.Orient, .bool x14_6.Visible, .int .i64 x14_6.Buffer.W, .int .i64 x14_6.Buffer.H, .slice a14_6_1 x14_6.Buffer.Data.length c14_6_1] : List Value)[j]? = some v → w.cell? ⟨g14_6, o14_6 + v2_0.toNat * 11 + j, .none⟩ = some v := hd14_6
      obtain rfl := Option.some.inj hqz4
      refine sp (OpV.fieldAddr rfl fo_62_3) ?_
      refine sp (OpV.loadBox rfl pt_60 mq0 rfl) ?_
      refine mv ?_
      refine sp (OpV.idxA rfl rfl se_60 ha14_6 ⟨(idx_some e14_6).1, (idx_some e14_6).2.1⟩) ?_
      refine sp (OpV.fieldAddr rfl fo_73_3) ?_
      refine sp (OpV.load1 rfl pt_3 (fun w hs => hs.cell (hd14_6 3 _ rfl))) ?_
      refine sp (OpV.gtr rfl rfl) ?_
      refine mv ?_
      refine Lt.ofWL.and 62 64 63 (p := ?pz5) (rest := ?qz5) (B := ?Bz5) rfl ?Tz5 ?Fz5 ?az5 ?bz5 ?cz5 ?dz5 ?ez5
      case Tz5 =>
       intro hcz5 hkz5
       refine mv ?_
       refine hkz5 _ ?_ ?_
       exact rfl
       repeat (first | exact Sub.refl _ | refine Sub.skip rfl ?_)
      case Fz5 =>
       intro hcz5 hkz5
       refine sk ?_
       refine hkz5 _ ?_
       repeat (first | exact Sub.refl _ | refine Sub.skip rfl ?_)
      case az5 => exact rfl
      case bz5 => exact rfl
      case cz5 => exact rfl
      case dz5 => exact rfl
      refine hkz4 _ ?_ ?_
      exact rfl
      repeat (first | exact Sub.refl _ | refine Sub.skip rfl ?_)
     case az4 => exact rfl
     case bz4 => exact rfl
     case cz4 => exact rfl
     case dz4 => exact rfl
     refine WL.nil (En.next ?_)
     refine WC.cond rfl ?_ ?_
     ·
      intro hc_4
      replace zh0 := ifO_t hc_4 zh0
      refine WC.exit (En.then_exit ?_)
      refine En.block_exit' rfl ?_
      refine En.then_exit (En.then_exit ?_)
      have hx := exitP ze0 zh0
      exact En.wk _ _ (sc (sc sn)) (fun _ h => ((h).pm 1).sub (.cons_cons _ (.cons _ (.slnil)))) (zK0_0 ((v_0, v1_0), fv_0) hx.symm)
     ·
      intro hc_4
      replace zh0 := ifO_f hc_4 zh0
      refine WC.skip (En.next (WC.seq ?_))
      obtain ⟨q15_9, e15_9, zh0⟩ := bnd zh0
      refine WC.region ?_
      refine mv ?_
      refine mv ?_
      refine Lt.ofWL.orQ 67 75 74 (p := ?pz6) (rest := ?qz6) (B := q15_9) rfl (fun hz => orO_t e15_9 hz) ?Tz6 ?Fz6 ?az6 ?bz6 ?cz6 ?dz6 ?ez6
      case Tz6 =>
       intro hcz6 hkz6
       refine sk ?_
       refine sk ?_
       refine sk ?_
       refine sk ?_
       refine sk ?_
       refine sk ?_
       refine sk ?_
       refine hkz6 _ ?_
       repeat (first | exact Sub.refl _ | refine Sub.skip rfl ?_)
      case Fz6 =>
       intro hcz6 hkz6
       have hqz6 := orO_f e15_9 hcz6
       obtain ⟨x15_5, e15_5, hqz6⟩ := bnd hqz6
       obtain ⟨g15_5, o15_5, _, ha15_5, ⟨a15_5_1, c15_5_1, rfl, r15_5_1⟩, hd15_5⟩ := Rd.atIdx r0_0 e15_5
       replace hd15_5 : ∀ (j : Nat) v, ([.int .i64 x15_5.Id, .int .i64 x15_5.X, .int .i64 x15_5.Y, .int .i64 x15_5.W, .int .i64 x15_5.H, .int .i64 x15_5.Alpha, .int .i64 x15_5.Orient, .bool x15_5.Visible, .int .i64 x15_5.Buffer.W, .int .i64 x15_5.Buffer.H, .slice a15_5_1 x15_5.Buffer.Data.length c15_5_1] : List Value)[j]? = some v → w.cell? ⟨g15_5, o15_5 + v2_0.toNat * 11 + j, .none⟩ = some v := hd15_5
       obtain rfl := Option.some.inj hqz6
       refine sp (OpV.fieldAddr rfl fo_62_3) ?_
       refine sp (OpV.loadBox rfl pt_60 mq0 rfl) ?_
       refine mv ?_
       refine sp (OpV.idxA rfl rfl se_60 ha15_5 ⟨(idx_some e15_5).1, (idx_some e15_5).2.1⟩) ?_
       refine sp (OpV.fieldAddr rfl fo_73_3) ?_
       refine sp (OpV.load1 rfl pt_3 (fun w hs => hs.cell (hd15_5 3 _ rfl))) ?_
       refine sp (OpV.gtr rfl rfl) ?_
       refine hkz6 _ ?_ ?_
       exact rfl
       repeat (first | exact Sub.refl _ | refine Sub.skip rfl ?_)
      case az6 => exact rfl
      case bz6 => exact rfl
      case cz6 => exact rfl
      case dz6 => exact rfl
      refine ag ?_
      refine WL.nil (En.next (WC.seq ?_))
      refine WC.inh fun hin16 => ?_
      have hn16_3 := ownLen hin16 mq1
      obtain ⟨x16_4, e16_4, zh0⟩ := bnd zh0
      obtain ⟨g16_3, o16_3, ha16_3⟩ := ownAddrU hin16 mq1 e16_4
      refine WC.region ?_
      refine mv ?_
      refine mv ?_
      refine mv ?_
      refine sp (OpV.idxA rfl rfl se_23 ha16_3 ⟨(upd_some e16_4).1.1, by rw [hn16_3]; exact (upd_some e16_4).1.2⟩) ?_
      refine WL.wkF (fun _ h => St.elFlat tInt_flat v2_0 h) ?_
      refine WL.wkF (fun _ h => h.pm 2) ?_
      refine WL.wkF (fun _ h => h.pm 1) ?_
      refine WL.heavy0 rfl rfl (OpH.setEl (A := tInt) ha16_3 rfl rfl rfl ts_3 e16_4 ?_)
      intro f16_4
      refine WL.nil (En.next (WC.sr ?_))
      refine mv ?_
      refine sp (OpV.addR rfl rfl) ?_
      refine ag ?_
      refine WL.nil (En.next ?_)
      obtain ⟨x18_2, e18_2, zh0⟩ := bnd zh0
      refine WC.region ?_
      refine sp (OpV.loadAll rfl mq1 ag_62) ?_
      refine mv ?_
      refine sp (OpV.call (ec rfl (ec rfl e0)) ca_148 (fun w hs => w_spec_TopVisible e18_2 (r0_0.ext hs.below))) ?_
      refine ag ?_
      refine WL.nil (En.block_norm (En.next (WC.region ?_)))
      refine mv ?_
      refine sp (OpV.subR rfl rfl) ?_
      refine ag ?_
      refine WL.nil ?_
      exact En.backP zb0 zh0 f16_4 (sc (sc (sc (sc (sc (sc sn)))))) (fun _ h => (h).pm 1)
    ·
     intro hc_3
     replace zh0 := ifO_f hc_3 zh0
     refine WC.exit (En.then_exit (En.then_exit ?_))
     have hx := exitP ze0 zh0
     exact En.wk _ _ (sc (sc sn)) (fun _ h => ((h).pm 1).sub (.cons_cons _ (.cons _ (.slnil)))) (zK0_0 ((v_0, v1_0), fv_0) hx.symm)
  ·
   intro hc_2
   replace h := ifO_f hc_2 h
   refine WC.skip (En.next (WC.sr ?_))
   refine ag ?_
   refine WL.nil (En.next (WC.seq (WC.sr ?_)))
   refine sp (OpV.fieldAddr rfl fo_64_0) ?_
   refine sp (OpV.loadBox rfl pt_3 mq1 rfl) ?_
   refine sp (OpV.subR rfl rfl) ?_
   refine ag ?_
   refine WL.nil (En.next (WC.block ?_))
   obtain ⟨zy1, ezy1, h⟩ := bnd h
   refine WC.cut (X := ((List Int) × Int) × ((List Nat))) (.exit 0) (fun x => zy1 = x.1) (fun x => match x with | ((v_1e, v1_1e), fv_1e) => [(6, .slice (some ⟨b3_0, 0, .none⟩) 3 3), (7, .int .i64 v1_1e)]) (fun x => match x with | ((v_1e, v1_1e), fv_1e) => [Chunk.own tInt fv_1e (some ⟨b3_0, 0, .none⟩) 3 3 v_1e]) ?_ ?_
   ·
    rintro ⟨⟨v_1e, v1_1e⟩, fv_1e⟩ hx
    replace hx : (v_1e, v1_1e) = zy1 := hx.symm
    subst hx
    show En _ _ _ _ [(6, .slice (some ⟨b3_0, 0, .none⟩) 3 3), (7, .int .i64 v1_1e)] [Chunk.own tInt fv_1e (some ⟨b3_0, 0, .none⟩) 3 3 v_1e]
    refine En.block_exit (En.next (WC.sr ?_))
    refine mv ?_
    refine mv ?_
    refine ag ?_
    refine ag ?_
    refine WL.nil (En.next (WC.ret ?_))
    refine En.ret2 rfl (Res.tmp rfl) (Res.tmp rfl) ?_
    obtain rfl := Option.some.inj h
    intro w' hs
    have hs := hs
    exact ⟨_, _, rfl, ⟨(some ⟨b3_0, 0, .none⟩), 3, 3, fv_1e, rfl, rfl⟩, hs⟩
   ·
    intro zK1_0
    refine WC.loopP (G := (List Nat)) (fun s g => match s, g with | (v_1, v1_1, v2_1, v3_1, v4_1), fv_1 => [(2, .pointer (some ⟨b0_0, 0, .none⟩)), (6, .slice (some ⟨b3_0, 0, .none⟩) 3 3), (7, .int .i64 v1_1), (8, .int .i64 v2_1), (9, .bool v3_1), (10, .int .i64 v4_1)]) (fun s g => match s, g with | (v_1, v1_1, v2_1, v3_1, v4_1), fv_1 => [Chunk.box b0_0 62 [.int .i64 a_p0.W, .int .i64 a_p0.H, .int .i64 a_p0.Back, .slice q0_0 a_p0.Surfaces.length k0_0], Chunk.own tInt fv_1 (some ⟨b3_0, 0, .none⟩) 3 3 v_1]) ([(-1), (-1), (-1)], 0, x5_1, false, (wr (a_p1.Overlays - 1))) [b3_0] ezy1 (by exact sc (sc (sc (sc (sc (sc sn)))))) (by exact (fun _ h => ((h).pm 2).sub (.cons_cons _ (.cons_cons _ (.cons _ (.slnil)))))) ?_
    rintro zm1 ⟨v_1, v1_1, v2_1, v3_1, v4_1⟩ fv_1 zo1 zf1 zb1 ze1
    have zh1 : spec_AssignedOf_L1 a_p0 v_1 v1_1 v2_1 v3_1 v4_1 = some zo1 := zf1
    unfold spec_AssignedOf_L1 at zh1
    show WC _ _ _ _ _ [(2, .pointer (some ⟨b0_0, 0, .none⟩)), (6, .slice (some ⟨b3_0, 0, .none⟩) 3 3), (7, .int .i64 v1_1), (8, .int .i64 v2_1), (9, .bool v3_1), (10, .int .i64 v4_1)] [Chunk.box b0_0 62 [.int .i64 a_p0.W, .int .i64 a_p0.H, .int .i64 a_p0.Back, .slice q0_0 a_p0.Surfaces.length k0_0], Chunk.own tInt fv_1 (some ⟨b3_0, 0, .none⟩) 3 3 v_1]
    refine WC.seq (WC.sr ?_)
    refine mv ?_
    refine sp (OpV.geq rfl rfl) ?_
    refine WL.nil (En.next ?_)
    refine WC.cond rfl ?_ ?_
    ·
     intro hc_5
     replace zh1 := ifO_t hc_5 zh1
     refine WC.skip (En.next (WC.seq (WC.block (WC.seq (WC.seq ?_)))))
     obtain ⟨q14_13, e14_13, zh1⟩ := bnd zh1
     refine WC.region ?_
     refine mv ?_
     refine sp (OpV.lss rfl rfl) ?_
     refine mv ?_
     refine Lt.ofWL.orQ 54 65 64 (p := ?pz7) (rest := ?qz7) (B := q14_13) rfl (fun hz => orO_t e14_13 hz) ?Tz7 ?Fz7 ?az7 ?bz7 ?cz7 ?dz7 ?ez7
     case Tz7 =>
      intro hcz7 hkz7
      refine sk ?_
      refine sk ?_
      refine sk ?_
      refine sk ?_
      refine sk ?_
      refine sk ?_
      refine sk ?_
      refine sk ?_
      refine sk ?_
      refine sk ?_
      refine hkz7 _ ?_
      repeat (first | exact Sub.refl _ | refine Sub.skip rfl ?_)
     case Fz7 =>
      intro hcz7 hkz7
      have hqz7 := orO_f e14_13 hcz7
      obtain ⟨x14_6, e14_6, hqz7⟩ := bnd hqz7
      obtain ⟨g14_6, o14_6, _, ha14_6, ⟨a14_6_1, c14_6_1, rfl, r14_6_1⟩, hd14_6⟩ := Rd.atIdx r0_0 e14_6
      replace hd14_6 : ∀ (j : Nat) v, ([.int .i64 x14_6.Id, .int .i64 x14_6.X, .int .i64 x14_6.Y, .int .i64 x14_6.W, .int .i64 x14_6.H, .int .i64 x14_6.Alpha, .int .i64 x14_6.Orient, .bool x14_6.Visible, .int .i64 x14_6.Buffer.W, .int .i64 x14_6.Buffer.H, .slice a14_6_1 x14_6.Buffer.Data.length c14_6_1] : List Value)[j]? = some v → w.cell? ⟨g14_6, o14_6 + v2_1.toNat * 11 + j, .none⟩ = some v := hd14_6
      obtain rfl := Option.some.inj hqz7
      refine sp (OpV.fieldAddr rfl fo_62_3) ?_
      refine sp (OpV.loadBox rfl pt_60 mq0 rfl) ?_
      refine mv ?_
      refine sp (OpV.idxA rfl rfl se_60 ha14_6 ⟨(idx_some e14_6).1, (idx_some e14_6).2.1⟩) ?_
      refine sp (OpV.fieldAddr rfl fo_73_3) ?_
      refine sp (OpV.load1 rfl pt_3 (fun w hs => hs.cell (hd14_6 3 _ rfl))) ?_
      refine sp (OpV.gtr rfl rfl) ?_
      refine mv ?_
      refine Lt.ofWL.and 62 64 63 (p := ?pz8) (rest := ?qz8) (B := ?Bz8) rfl ?Tz8 ?Fz8 ?az8 ?bz8 ?cz8 ?dz8 ?ez8
      case Tz8 =>
       intro hcz8 hkz8
       refine mv ?_
       refine hkz8 _ ?_ ?_
       exact rfl
       repeat (first | exact Sub.refl _ | refine Sub.skip rfl ?_)
      case Fz8 =>
       intro hcz8 hkz8
       refine sk ?_
       refine hkz8 _ ?_
       repeat (first | exact Sub.refl _ | refine Sub.skip rfl ?_)
      case az8 => exact rfl
      case bz8 => exact rfl
      case cz8 => exact rfl
      case dz8 => exact rfl
      refine hkz7 _ ?_ ?_
      exact rfl
      repeat (first | exact Sub.refl _ | refine Sub.skip rfl ?_)
     case az7 => exact rfl
     case bz7 => exact rfl
     case cz7 => exact rfl
     case dz7 => exact rfl
     refine WL.nil (En.next ?_)
     refine WC.cond rfl ?_ ?_
     ·
      intro hc_6
      replace zh1 := ifO_t hc_6 zh1
      refine WC.exit (En.then_exit ?_)
      refine En.block_exit' rfl ?_
      refine En.then_exit (En.then_exit ?_)
      have hx := exitP ze1 zh1
      exact En.wk _ _ (sc (sc sn)) (fun _ h => ((h).pm 1).sub (.cons_cons _ (.cons _ (.slnil)))) (zK1_0 ((v_1, v1_1), fv_1) hx.symm)
     ·
      intro hc_6
      replace zh1 := ifO_f hc_6 zh1
      refine WC.skip (En.next (WC.seq ?_))
      obtain ⟨q15_9, e15_9, zh1⟩ := bnd zh1
      refine WC.region ?_
      refine mv ?_
      refine mv ?_
      refine Lt.ofWL.orQ 67 75 74 (p := ?pz9) (rest := ?qz9) (B := q15_9) rfl (fun hz => orO_t e15_9 hz) ?Tz9 ?Fz9 ?az9 ?bz9 ?cz9 ?dz9 ?ez9
      case Tz9 =>
       intro hcz9 hkz9
       refine sk ?_
       refine sk ?_
       refine sk ?_
       refine sk ?_
       refine sk ?_
       refine sk ?_
       refine sk ?_
       refine hkz9 _ ?_
       repeat (first | exact Sub.refl _ | refine Sub.skip rfl ?_)
      case Fz9 =>
       intro hcz9 hkz9
       have hqz9 := orO_f e15_9 hcz9
       obtain ⟨x15_5, e15_5, hqz9⟩ := bnd hqz9
       obtain ⟨g15_5, o15_5, _, ha15_5, ⟨a15_5_1, c15_5_1, rfl, r15_5_1⟩, hd15_5⟩ := Rd.atIdx r0_0 e15_5
       replace hd15_5 : ∀ (j : Nat) v, ([.int .i64 x15_5.Id, .int .i64 x15_5.X, .int .i64 x15_5.Y, .int .i64 x15_5.W, .int .i64 x15_5.H, .int .i64 x15_5.Alpha, .int .i64 x15_5.Orient, .bool x15_5.Visible, .int .i64 x15_5.Buffer.W, .int .i64 x15_5.Buffer.H, .slice a15_5_1 x15_5.Buffer.Data.length c15_5_1] : List Value)[j]? = some v → w.cell? ⟨g15_5, o15_5 + v2_1.toNat * 11 + j, .none⟩ = some v := hd15_5
       obtain rfl := Option.some.inj hqz9
       refine sp (OpV.fieldAddr rfl fo_62_3) ?_
       refine sp (OpV.loadBox rfl pt_60 mq0 rfl) ?_
       refine mv ?_
       refine sp (OpV.idxA rfl rfl se_60 ha15_5 ⟨(idx_some e15_5).1, (idx_some e15_5).2.1⟩) ?_
       refine sp (OpV.fieldAddr rfl fo_73_3) ?_
       refine sp (OpV.load1 rfl pt_3 (fun w hs => hs.cell (hd15_5 3 _ rfl))) ?_
       refine sp (OpV.gtr rfl rfl) ?_
       refine hkz9 _ ?_ ?_
       exact rfl
       repeat (first | exact Sub.refl _ | refine Sub.skip rfl ?_)
      case az9 => exact rfl
      case bz9 => exact rfl
      case cz9 => exact rfl
      case dz9 => exact rfl
      refine ag ?_
      refine WL.nil (En.next (WC.seq ?_))
      refine WC.inh fun hin16 => ?_
      have hn16_3 := ownLen hin16 mq1
      obtain ⟨x16_4, e16_4, zh1⟩ := bnd zh1
      obtain ⟨g16_3, o16_3, ha16_3⟩ := ownAddrU hin16 mq1 e16_4
      refine WC.region ?_
      refine mv ?_
      refine mv ?_
      refine mv ?_
      refine sp (OpV.idxA rfl rfl se_23 ha16_3 ⟨(upd_some e16_4).1.1, by rw [hn16_3]; exact (upd_some e16_4).1.2⟩) ?_
      refine WL.wkF (fun _ h => St.elFlat tInt_flat v2_1 h) ?_
      refine WL.wkF (fun _ h => h.pm 2) ?_
      refine WL.wkF (fun _ h => h.pm 1) ?_
      refine WL.heavy0 rfl rfl (OpH.setEl (A := tInt) ha16_3 rfl rfl rfl ts_3 e16_4 ?_)
      intro f16_4
      refine WL.nil (En.next (WC.sr ?_))
      refine mv ?_
      refine sp (OpV.addR rfl rfl) ?_
      refine ag ?_
      refine WL.nil (En.next ?_)
      obtain ⟨x18_2, e18_2, zh1⟩ := bnd zh1
      refine WC.region ?_
      refine sp (OpV.loadAll rfl mq1 ag_62) ?_
      refine mv ?_
      refine sp (OpV.call (ec rfl (ec rfl e0)) ca_148 (fun w hs => w_spec_TopVisible e18_2 (r0_0.ext hs.below))) ?_
      refine ag ?_
      refine WL.nil (En.block_norm (En.next (WC.region ?_)))
      refine mv ?_
      refine sp (OpV.subR rfl rfl) ?_
      refine ag ?_
      refine WL.nil ?_
      exact En.backP zb1 zh1 f16_4 (sc (sc (sc (sc (sc (sc sn)))))) (fun _ h => (h).pm 1)
    ·
     intro hc_5
     replace zh1 := ifO_f hc_5 zh1
     refine WC.exit (En.then_exit (En.then_exit ?_))
     have hx := exitP ze1 zh1
     exact En.wk _ _ (sc (sc sn)) (fun _ h => ((h).pm 1).sub (.cons_cons _ (.cons _ (.slnil)))) (zK1_0 ((v_1, v1_1), fv_1) hx.symm)

theorem w_spec_RestOf {s_p0 : SceneT} {o_p1 : OptionsT} {r : SceneT} {q0_0 : Option Addr} {l0_0 k0_0 : Nat} (h : spec_RestOf s_p0 o_p1 = some r) {w : World} (r0_0 : Rd tSurface w q0_0 l0_0 k0_0 s_p0.Surfaces)   :
    Calls Try.prog 51 #[.agg #[.int .i64 s_p0.W, .int .i64 s_p0.H, .int .i64 s_p0.Back, .slice q0_0 l0_0 k0_0], .agg #[.int .i64 o_p1.Overlays, .bool o_p1.Cursor, .int .i64 o_p1.Layout, .bool o_p1.Partial, .bool o_p1.Sleep, .bool o_p1.Secret]] w (fun en w' => ∃ rv G, en = .returned rv ∧ (∃ (a0_0 : Option Addr) (n0_0 : Nat) (c0_0 : Nat) (f0_0 : List Nat), rv = .agg #[.int .i64 r.W, .int .i64 r.H, .int .i64 r.Back, .slice a0_0 n0_0 c0_0] ∧ G = [Chunk.own tSurface f0_0 a0_0 n0_0 c0_0 r.Surfaces]) ∧ St w G w') := by
 obtain rfl := r0_0.1
 unfold spec_RestOf at h
 refine enter (vs := [_, _]) Try.func51 rfl rfl rfl rfl ?_
 refine WC.sr ?_
 refine WL.heavy rfl rfl rfl (OpH.box rfl rfl ?_)
 intro b0_0
 refine WL.heavy rfl rfl rfl (OpH.box rfl rfl ?_)
 intro b0_1
 refine WL.heavy rfl rfl rfl (OpH.alloc zc_62 ?_)
 intro b0_2
 refine WL.nil (En.next (WC.seq ?_))
 obtain ⟨⟨x1_2a, x1_2b⟩, e1_2, h⟩ := bnd h
 refine WC.region ?_
 refine sp (OpV.loadAll rfl mq2 ag_62) ?_
 refine sp (OpV.loadAll rfl mq1 ag_64) ?_
 refine WL.heavy rfl rfl rfl (OpH.callR (ec rfl (ec rfl e0)) ca_106 (fun w hs => w_spec_AssignedOf e1_2 (r0_0.ext hs.below)) ?_)
 rintro _ _ ⟨a1_200, n1_200, c1_200, f1_200, rfl, rfl⟩
 refine mv ?_
 refine sp (OpV.extract rfl rfl) ?_
 refine sp (OpV.extract rfl rfl) ?_
 refine ag ?_
 refine ag ?_
 refine WL.nil (En.next (WC.seq (WC.sr ?_)))
 refine mv ?_
 refine sp (OpV.inhF fun hin => OpV.lenO (xs := x1_2a) rfl si_23 rfl (ownLen hin mq0)) ?_
 refine sp (OpV.eql rfl rfl) ?_
 refine WL.nil (En.next ?_)
 refine WC.cond rfl ?_ ?_
 ·
  intro hc_1
  replace h := ifO_t hc_1 h
  refine WC.sr ?_
  refine sp (OpV.build (evps.nil) bd_62_) ?_
  refine WL.heavy0 rfl rfl (OpH.storeTo (A := [_]) [_, _, _, _] rfl rfl rfl ts_62 rfl rfl rfl ?_)
  refine WL.nil (En.next (WC.ret (En.then_ret ?_)))
  refine En.ret1 rfl (Res.cell rfl mq1 ag_62) ?_
  obtain rfl := Option.some.inj h
  intro w' hs
  have hs := ((hs).ownNil (A := tSurface)).sub (.cons_cons _ (.cons _ (.cons _ (.cons _ (.cons _ (.slnil))))))
  exact ⟨_, _, rfl, ⟨.none, 0, 0, [], rfl, rfl⟩, hs⟩
 ·
  intro hc_1
  replace h := ifO_f hc_1 h
  refine WC.skip (En.next (WC.sr ?_))
  refine sp (OpV.fieldAddr rfl fo_62_0) ?_
  refine sp (OpV.loadBox rfl pt_3 mq3 rfl) ?_
  refine sp (OpV.fieldAddr rfl fo_62_1) ?_
  refine sp (OpV.loadBox rfl pt_3 mq3 rfl) ?_
  refine sp (OpV.fieldAddr rfl fo_62_2) ?_
  refine sp (OpV.loadBox rfl pt_3 mq3 rfl) ?_
  refine sp (OpV.build (evps.cons rfl (evps.cons rfl (evps.cons rfl (evps.nil)))) (bd_62_0_1_2 _ _ _)) ?_
  refine WL.heavy rfl rfl rfl (OpH.alloc zc_62 ?_)
  intro b4_7
  refine WL.heavy0 rfl rfl (OpH.storeTo (A := []) [_, _, _, _] rfl rfl rfl ts_62 rfl rfl rfl ?_)
  refine WL.nil (En.next (WC.seq (WC.sr ?_)))
  refine ag ?_
  refine WL.nil (En.next (WC.block ?_))
  obtain ⟨zy0, ezy0, h⟩ := bnd h
  refine WC.cut (X := ((List SurfaceT)) × ((Option Addr) × Nat × Nat × (List Nat))) (.exit 0) (fun x => zy0 = x.1) (fun x => match x with | (out_0e, (aout_0e, nout_0e, cout_0e, fout_0e)) => [(4, .pointer (some ⟨b0_2, 0, .none⟩)), (7, .pointer (some ⟨b4_7, 0, .none⟩))]) (fun x => match x with | (out_0e, (aout_0e, nout_0e, cout_0e, fout_0e)) => [Chunk.box b0_2 62 [.int .i64 0, .int .i64 0, .int .i64 0, .slice .none 0 0], Chunk.box b4_7 62 [.int .i64 s_p0.W, .int .i64 s_p0.H, .int .i64 s_p0.Back, .slice aout_0e nout_0e cout_0e], Chunk.own tSurface fout_0e aout_0e nout_0e cout_0e out_0e]) ?_ ?_
  ·
   rintro ⟨out_0e, ⟨aout_0e, nout_0e, cout_0e, fout_0e⟩⟩ hx
   replace hx : out_0e = zy0 := hx.symm
   subst hx
   show En _ _ _ _ [(4, .pointer (some ⟨b0_2, 0, .none⟩)), (7, .pointer (some ⟨b4_7, 0, .none⟩))] [Chunk.box b0_2 62 [.int .i64 0, .int .i64 0, .int .i64 0, .slice .none 0 0], Chunk.box b4_7 62 [.int .i64 s_p0.W, .int .i64 s_p0.H, .int .i64 s_p0.Back, .slice aout_0e nout_0e cout_0e], Chunk.own tSurface fout_0e aout_0e nout_0e cout_0e out_0e]
   refine En.block_exit (En.next (WC.sr ?_))
   refine sp (OpV.loadAll rfl mq1 ag_62) ?_
   refine WL.heavy0 rfl rfl (OpH.storeTo (A := []) [_, _, _, _] rfl rfl rfl ts_62 rfl rfl rfl ?_)
   refine WL.nil (En.next (WC.ret ?_))
   refine En.ret1 rfl (Res.cell rfl mq0 ag_62) ?_
   obtain rfl := Option.some.inj h
   intro w' hs
   have hs := ((hs).pm 2).sub (.cons_cons _ (.cons _ (.cons _ (.slnil))))
   exact ⟨_, _, rfl, ⟨aout_0e, nout_0e, cout_0e, fout_0e, rfl, rfl⟩, hs⟩
  ·
   intro zK0_0
   refine WC.loopP (G := (Option Addr) × Nat × Nat × (List Nat)) (fun s g => match s, g with | (out_0, k_0), (aout_0, nout_0, cout_0, fout_0) => [(2, .pointer (some ⟨b0_0, 0, .none⟩)), (4, .pointer (some ⟨b0_2, 0, .none⟩)), (5, .slice a1_200 n1_200 c1_200), (7, .pointer (some ⟨b4_7, 0, .none⟩)), (8, .int .i64 k_0)]) (fun s g => match s, g with | (out_0, k_0), (aout_0, nout_0, cout_0, fout_0) => [Chunk.box b0_0 62 [.int .i64 s_p0.W, .int .i64 s_p0.H, .int .i64 s_p0.Back, .slice q0_0 s_p0.Surfaces.length k0_0], Chunk.box b0_2 62 [.int .i64 0, .int .i64 0, .int .i64 0, .slice .none 0 0], Chunk.own tInt f1_200 a1_200 n1_200 c1_200 x1_2a, Chunk.box b4_7 62 [.int .i64 s_p0.W, .int .i64 s_p0.H, .int .i64 s_p0.Back, .slice aout_0 nout_0 cout_0], Chunk.own tSurface fout_0 aout_0 nout_0 cout_0 out_0]) ([], 0) (.none, 0, 0, []) ezy0 (by exact sc (sc (sc (sc (sc sn))))) (by exact (fun _ h => ((((((h).ownNil (A := tSurface)).pm 1).pm 2).pm 3).pm 5).sub (.cons_cons _ (.cons_cons _ (.cons_cons _ (.cons_cons _ (.cons_cons _ (.cons _ (.slnil))))))))) ?_
   rintro zm0 ⟨out_0, k_0⟩ ⟨aout_0, nout_0, cout_0, fout_0⟩ zo0 zf0 zb0 ze0
   have zh0 : spec_RestOf_L0 s_p0 x1_2a out_0 k_0 = some zo0 := zf0
   unfold spec_RestOf_L0 at zh0
   show WC _ _ _ _ _ [(2, .pointer (some ⟨b0_0, 0, .none⟩)), (4, .pointer (some ⟨b0_2, 0, .none⟩)), (5, .slice a1_200 n1_200 c1_200), (7, .pointer (some ⟨b4_7, 0, .none⟩)), (8, .int .i64 k_0)] [Chunk.box b0_0 62 [.int .i64 s_p0.W, .int .i64 s_p0.H, .int .i64 s_p0.Back, .slice q0_0 s_p0.Surfaces.length k0_0], Chunk.box b0_2 62 [.int .i64 0, .int .i64 0, .int .i64 0, .slice .none 0 0], Chunk.own tInt f1_200 a1_200 n1_200 c1_200 x1_2a, Chunk.box b4_7 62 [.int .i64 s_p0.W, .int .i64 s_p0.H, .int .i64 s_p0.Back, .slice aout_0 nout_0 cout_0], Chunk.own tSurface fout_0 aout_0 nout_0 cout_0 out_0]
   refine WC.seq (WC.sr ?_)
   refine mv ?_
   refine sp (OpV.fieldAddr rfl fo_62_3) ?_
   refine sp (OpV.loadBox rfl pt_60 mq0 rfl) ?_
   refine sp (OpV.len rfl si_60 rfl) ?_
   refine sp (OpV.lss rfl rfl) ?_
   refine WL.nil (En.next ?_)
   refine WC.cond rfl ?_ ?_
   ·
    intro hc_2
    replace zh0 := ifO_t hc_2 zh0
    refine WC.skip (En.next (WC.seq ?_))
    obtain ⟨zy1, ej1, zh0⟩ := bnd zh0
    refine WC.cut (X := ((List SurfaceT)) × ((Option Addr) × Nat × Nat × (List Nat))) .normal (fun x => zy1 = x.1) (fun x => match x with | (out_1j, (aout_1j, nout_1j, cout_1j, fout_1j)) => [(2, .pointer (some ⟨b0_0, 0, .none⟩)), (4, .pointer (some ⟨b0_2, 0, .none⟩)), (5, .slice a1_200 n1_200 c1_200), (7, .pointer (some ⟨b4_7, 0, .none⟩)), (8, .int .i64 k_0)]) (fun x => match x with | (out_1j, (aout_1j, nout_1j, cout_1j, fout_1j)) => [Chunk.box b0_0 62 [.int .i64 s_p0.W, .int .i64 s_p0.H, .int .i64 s_p0.Back, .slice q0_0 s_p0.Surfaces.length k0_0], Chunk.box b0_2 62 [.int .i64 0, .int .i64 0, .int .i64 0, .slice .none 0 0], Chunk.own tInt f1_200 a1_200 n1_200 c1_200 x1_2a, Chunk.box b4_7 62 [.int .i64 s_p0.W, .int .i64 s_p0.H, .int .i64 s_p0.Back, .slice aout_1j nout_1j cout_1j], Chunk.own tSurface fout_1j aout_1j nout_1j cout_1j out_1j]) ?_ ?_
    ·
     rintro ⟨out_1j, ⟨aout_1j, nout_1j, cout_1j, fout_1j⟩⟩ hx
     replace hx : out_1j = zy1 := hx.symm
     subst hx
     show En _ _ _ _ [(2, .pointer (some ⟨b0_0, 0, .none⟩)), (4, .pointer (some ⟨b0_2, 0, .none⟩)), (5, .slice a1_200 n1_200 c1_200), (7, .pointer (some ⟨b4_7, 0, .none⟩)), (8, .int .i64 k_0)] [Chunk.box b0_0 62 [.int .i64 s_p0.W, .int .i64 s_p0.H, .int .i64 s_p0.Back, .slice q0_0 s_p0.Surfaces.length k0_0], Chunk.box b0_2 62 [.int .i64 0, .int .i64 0, .int .i64 0, .slice .none 0 0], Chunk.own tInt f1_200 a1_200 n1_200 c1_200 x1_2a, Chunk.box b4_7 62 [.int .i64 s_p0.W, .int .i64 s_p0.H, .int .i64 s_p0.Back, .slice aout_1j nout_1j cout_1j], Chunk.own tSurface fout_1j aout_1j nout_1j cout_1j out_1j]
     refine En.next (WC.region ?_)
     refine mv ?_
     refine sp (OpV.addR rfl rfl) ?_
     refine ag ?_
     refine WL.nil ?_
     exact En.backP zb0 zh0 (aout_1j, nout_1j, cout_1j, fout_1j) (sc (sc (sc (sc (sc sn))))) (fun _ h => h)
    ·
     intro zK1
     refine WC.block (WC.seq ?_)
     refine WC.inh fun hin8 => ?_
     obtain ⟨x8_2, e8_2, ej1⟩ := bnd ej1
     obtain ⟨g8_2, o8_2, ha8_2⟩ := ownAddr hin8 mq2 e8_2
     have hn8_2 := ownLen hin8 mq2
     obtain ⟨q8_11, e8_11, ej1⟩ := bnd ej1
     obtain ⟨q8_18, e8_18, ej1⟩ := bnd ej1
     refine WC.region ?_
     refine mv ?_
     refine mv ?_
     refine sp (OpV.idxA rfl rfl se_23 ha8_2 ⟨(idx_some e8_2).1, by rw [hn8_2]; exact (idx_some e8_2).2.1⟩) ?_
     refine sp (OpV.load1 rfl pt_3 (fun w hs => Rd.cell1 tInt_flat (Ow.rd (hs.mem mq2)) e8_2 ha8_2 rfl)) ?_
     refine sp (OpV.neq rfl rfl) ?_
     refine mv ?_
     refine Lt.ofWL.andQ 38 44 43 (p := ?pz1) (rest := ?qz1) (B := q8_11) rfl (fun hz => andO_f e8_11 hz) ?Tz1 ?Fz1 ?az1 ?bz1 ?cz1 ?dz1 ?ez1
     case Tz1 =>
      intro hcz1 hkz1
      have hqz1 := andO_t e8_11 hcz1
      obtain ⟨x8_8, e8_8, hqz1⟩ := bnd hqz1
      obtain ⟨g8_8, o8_8, ha8_8⟩ := ownAddr hin8 mq2 e8_8
      have hn8_8 := ownLen hin8 mq2
      obtain rfl := Option.some.inj hqz1
      refine mv ?_
      refine mv ?_
      refine sp (OpV.idxA rfl rfl se_23 ha8_8 ⟨(idx_some e8_8).1, by rw [hn8_8]; exact (idx_some e8_8).2.1⟩) ?_
      refine sp (OpV.load1 rfl pt_3 (fun w hs => Rd.cell1 tInt_flat (Ow.rd (hs.mem mq2)) e8_8 ha8_8 rfl)) ?_
      refine sp (OpV.neq rfl rfl) ?_
      refine hkz1 _ ?_ ?_
      exact rfl
      repeat (first | exact Sub.refl _ | refine Sub.skip rfl ?_)
     case Fz1 =>
      intro hcz1 hkz1
      refine sk ?_
      refine sk ?_
      refine sk ?_
      refine sk ?_
      refine sk ?_
      refine hkz1 _ ?_
      repeat (first | exact Sub.refl _ | refine Sub.skip rfl ?_)
     case az1 => exact rfl
     case bz1 => exact rfl
     case cz1 => exact rfl
     case dz1 => exact rfl
     refine mv ?_
     refine Lt.ofWL.andQ 45 51 50 (p := ?pz2) (rest := ?qz2) (B := q8_18) rfl (fun hz => andO_f e8_18 hz) ?Tz2 ?Fz2 ?az2 ?bz2 ?cz2 ?dz2 ?ez2
     case Tz2 =>
      intro hcz2 hkz2
      have hqz2 := andO_t e8_18 hcz2
      obtain ⟨x8_15, e8_15, hqz2⟩ := bnd hqz2
      obtain ⟨g8_15, o8_15, ha8_15⟩ := ownAddr hin8 mq2 e8_15
      have hn8_15 := ownLen hin8 mq2
      obtain rfl := Option.some.inj hqz2
      refine mv ?_
      refine mv ?_
      refine sp (OpV.idxA rfl rfl se_23 ha8_15 ⟨(idx_some e8_15).1, by rw [hn8_15]; exact (idx_some e8_15).2.1⟩) ?_
      refine sp (OpV.load1 rfl pt_3 (fun w hs => Rd.cell1 tInt_flat (Ow.rd (hs.mem mq2)) e8_15 ha8_15 rfl)) ?_
      refine sp (OpV.neq rfl rfl) ?_
      refine hkz2 _ ?_ ?_
      exact rfl
      repeat (first | exact Sub.refl _ | refine Sub.skip rfl ?_)
     case Fz2 =>
      intro hcz2 hkz2
      refine sk ?_
      refine sk ?_
      refine sk ?_
      refine sk ?_
      refine sk ?_
      refine hkz2 _ ?_
      repeat (first | exact Sub.refl _ | refine Sub.skip rfl ?_)
     case az2 => exact rfl
     case bz2 => exact rfl
     case cz2 => exact rfl
     case dz2 => exact rfl
     refine WL.nil (En.next ?_)
     refine WC.cond rfl ?_ ?_
     ·
      intro hc_3
      replace ej1 := ifO_t hc_3 ej1
      obtain ⟨x9_5, e9_5, ej1⟩ := bnd ej1
      obtain ⟨g9_5, o9_5, _, ha9_5, ⟨a9_5_1, c9_5_1, rfl, r9_5_1⟩, hd9_5⟩ := Rd.atIdx r0_0 e9_5
      replace hd9_5 : ∀ (j : Nat) v, ([.int .i64 x9_5.Id, .int .i64 x9_5.X, .int .i64 x9_5.Y, .int .i64 x9_5.W, .int .i64 x9_5.H, .int .i64 x9_5.Alpha, .int .i64 x9_5.Orient, .bool x9_5.Visible, .int .i64 x9_5.Buffer.W, .int .i64 x9_5.Buffer.H, .slice a9_5_1 x9_5.Buffer.Data.length c9_5_1] : List Value)[j]? = some v → w.cell? ⟨g9_5, o9_5 + k_0.toNat * 11 + j, .none⟩ = some v := hd9_5
      obtain ⟨x9_7, e9_7, ej1⟩ := bnd ej1
      obtain ⟨x9_9, e9_9, ej1⟩ := bnd ej1
      refine WC.wkF (fun _ h => h.pm 4) ?_
      refine WC.wkF (fun _ h => h.pm 4) ?_
      refine WC.drawnH [_, _] ([_, _, _]) (fun _ h => h) (by kernel_rfl) ?_
      refine tk 0 rfl (OpV.fieldAddr rfl fo_62_3) ?_
      refine tk 2 rfl (OpV.fieldAddr rfl fo_62_3) ?_
      refine tk 3 rfl (OpV.loadBox rfl pt_60 mq0 rfl) ?_
      refine tk 4 rfl (OpV.move rfl) ?_
      refine tk 5 rfl (OpV.idxA rfl rfl se_60 ha9_5 ⟨(idx_some e9_5).1, (idx_some e9_5).2.1⟩) ?_
      refine tk 6 rfl (OpV.loadN rfl ag_73 rfl (fun w hs => hs.cellsAt hd9_5)) ?_
      refine WAE.all (rs := [1, 7]) (by kernel_rfl) rfl (AllR.cons rfl rfl rfl rfl ?_ (AllR.cons rfl rfl rfl rfl ?_ AllR.nil))
      ·
       refine OpH.light (OpV.loadBox rfl pt_60 mq0 rfl) ?_
       refine ⟨[_, _], rfl, ?_⟩
       refine al1 7 rfl ?_
       refine OpH.callR (ec rfl e0) ca_107 (fun w hs => w_spec_l10CopySurface e9_7 (r9_5_1.ext hs.below)) ?_
       rintro _ _ ⟨a9_700, n9_700, c9_700, f9_700, rfl, rfl⟩
       refine ⟨[_, _, _], rfl, ?_⟩
       refine al1 8 rfl ?_
       refine OpH.buildSlice (evps.cons rfl (evps.nil)) (bs_60_1_0 _ _ _ _ _ _ _ _ _ _ _ _ _) ?_
       intro b9_8
       refine ⟨[_, _, _, _], rfl, ?_⟩
       refine al1 9 rfl ?_
       refine OpH.wkF (fun _ h => h.pm 1) ?_
       refine OpH.wkF (fun _ h => tSurface_mk x9_7.Id x9_7.X x9_7.Y x9_7.W x9_7.H x9_7.Alpha x9_7.Orient x9_7.Visible x9_7.Buffer h) ?_
       refine OpH.wkF (fun _ h => h.pm 3) ?_
       refine OpH.wkF (fun _ h => h.pm 1) ?_
       refine OpH.push (A := tSurface) rfl rfl rfl mi_60 rfl (by decide) mq0 e9_9 ?_
       intro f9_9 a9_9 c9_9
       refine ⟨[_, _, _], rfl, ?_⟩
       refine tk 10 rfl (OpV.fieldAddr rfl fo_62_3) ?_
       refine al0 11 rfl ?_
       refine OpH.storeTo (A := [_, _]) [_, _, _, _] rfl rfl rfl ts_60 rfl rfl rfl ?_
       refine ⟨[_, _, _], rfl, ?_⟩
       refine WAE.rebase (H := []) ?_
       refine WAE.done (by kernel_rfl) ?_ _
       refine En.block_norm ?_
       exact En.wk _ _ (sc (sc (sc (sc (sc sn))))) (fun _ h => (((((h).pm 2).pm 5).pm 5).pm 5).sub (.cons_cons _ (.cons_cons _ (.cons_cons _ (.cons_cons _ (.cons_cons _ (.cons _ (.slnil)))))))) (zK1 (x9_9, (a9_9, x9_9.length, c9_9, f9_9)) (Option.some.inj ej1).symm)
      ·
       refine OpH.callR (ec rfl e0) ca_107 (fun w hs => w_spec_l10CopySurface e9_7 (r9_5_1.ext hs.below)) ?_
       rintro _ _ ⟨a9_700, n9_700, c9_700, f9_700, rfl, rfl⟩
       refine ⟨[_, _, _], rfl, ?_⟩
       refine WAE.all (rs := [1, 8]) (by kernel_rfl) rfl (AllR.cons rfl rfl rfl rfl ?_ (AllR.cons rfl rfl rfl rfl ?_ AllR.nil))
       ·
        refine OpH.light (OpV.loadBox rfl pt_60 mq1 rfl) ?_
        refine ⟨[_, _, _], rfl, ?_⟩
        refine al1 8 rfl ?_
        refine OpH.buildSlice (evps.cons rfl (evps.nil)) (bs_60_1_0 _ _ _ _ _ _ _ _ _ _ _ _ _) ?_
        intro b9_8
        refine ⟨[_, _, _, _], rfl, ?_⟩
        refine al1 9 rfl ?_
        refine OpH.wkF (fun _ h => h.pm 1) ?_
        refine OpH.wkF (fun _ h => tSurface_mk x9_7.Id x9_7.X x9_7.Y x9_7.W x9_7.H x9_7.Alpha x9_7.Orient x9_7.Visible x9_7.Buffer h) ?_
        refine OpH.wkF (fun _ h => h.pm 3) ?_
        refine OpH.wkF (fun _ h => h.pm 1) ?_
        refine OpH.push (A := tSurface) rfl rfl rfl mi_60 rfl (by decide) mq0 e9_9 ?_
        intro f9_9 a9_9 c9_9
        refine ⟨[_, _, _], rfl, ?_⟩
        refine tk 10 rfl (OpV.fieldAddr rfl fo_62_3) ?_
        refine al0 11 rfl ?_
        refine OpH.storeTo (A := [_, _]) [_, _, _, _] rfl rfl rfl ts_60 rfl rfl rfl ?_
        refine ⟨[_, _, _], rfl, ?_⟩
        refine WAE.rebase (H := []) ?_
        refine WAE.done (by kernel_rfl) ?_ _
        refine En.block_norm ?_
        exact En.wk _ _ (sc (sc (sc (sc (sc sn))))) (fun _ h => (((((h).pm 2).pm 5).pm 5).pm 5).sub (.cons_cons _ (.cons_cons _ (.cons_cons _ (.cons_cons _ (.cons_cons _ (.cons _ (.slnil)))))))) (zK1 (x9_9, (a9_9, x9_9.length, c9_9, f9_9)) (Option.some.inj ej1).symm)
       ·
        refine OpH.buildSlice (evps.cons rfl (evps.nil)) (bs_60_1_0 _ _ _ _ _ _ _ _ _ _ _ _ _) ?_
        intro b9_8
        refine ⟨[_, _, _, _], rfl, ?_⟩
        refine al1 1 rfl ?_
        refine OpH.light (OpV.loadBox rfl pt_60 mq2 rfl) ?_
        refine ⟨[_, _, _, _], rfl, ?_⟩
        refine al1 9 rfl ?_
        refine OpH.wkF (fun _ h => h.pm 1) ?_
        refine OpH.wkF (fun _ h => tSurface_mk x9_7.Id x9_7.X x9_7.Y x9_7.W x9_7.H x9_7.Alpha x9_7.Orient x9_7.Visible x9_7.Buffer h) ?_
        refine OpH.wkF (fun _ h => h.pm 3) ?_
        refine OpH.wkF (fun _ h => h.pm 1) ?_
        refine OpH.push (A := tSurface) rfl rfl rfl mi_60 rfl (by decide) mq0 e9_9 ?_
        intro f9_9 a9_9 c9_9
        refine ⟨[_, _, _], rfl, ?_⟩
        refine tk 10 rfl (OpV.fieldAddr rfl fo_62_3) ?_
        refine al0 11 rfl ?_
        refine OpH.storeTo (A := [_, _]) [_, _, _, _] rfl rfl rfl ts_60 rfl rfl rfl ?_
        refine ⟨[_, _, _], rfl, ?_⟩
        refine WAE.rebase (H := []) ?_
        refine WAE.done (by kernel_rfl) ?_ _
        refine En.block_norm ?_
        exact En.wk _ _ (sc (sc (sc (sc (sc sn))))) (fun _ h => (((((h).pm 2).pm 5).pm 5).pm 5).sub (.cons_cons _ (.cons_cons _ (.cons_cons _ (.cons_cons _ (.cons_cons _ (.cons _ (.slnil)))))))) (zK1 (x9_9, (a9_9, x9_9.length, c9_9, f9_9)) (Option.some.inj ej1).symm)
     ·
      intro hc_3
      replace ej1 := ifO_f hc_3 ej1
      refine WC.skip (En.block_norm ?_)
      exact En.wk _ _ (sc (sc (sc (sc (sc sn))))) (fun _ h => h) (zK1 (out_0, (aout_0, nout_0, cout_0, fout_0)) (Option.some.inj ej1).symm)
   ·
    intro hc_2
    replace zh0 := ifO_f hc_2 zh0
    refine WC.exit (En.then_exit (En.then_exit ?_))
    have hx := exitP ze0 zh0
    exact En.wk _ _ (sc (sc sn)) (fun _ h => ((((h).pm 4).pm 4).pm 3).sub (.cons_cons _ (.cons_cons _ (.cons_cons _ (.cons _ (.cons _ (.slnil))))))) (zK0_0 (out_0, (aout_0, nout_0, cout_0, fout_0)) hx.symm)

theorem w_spec_l03Grid {list_p0 : List RectT} {r : (List Bool)} {q0_0 : Option Addr} {l0_0 k0_0 : Nat} (h : spec_l03Grid list_p0 = some r) {w : World} (r0_0 : Rd tRect w q0_0 l0_0 k0_0 list_p0)   :
    Calls Try.prog 144 #[.slice q0_0 l0_0 k0_0] w (fun en w' => ∃ rv G, en = .returned rv ∧ (∃ (a0_0 : Option Addr) (n0_0 : Nat) (c0_0 : Nat) (f0_0 : List Nat), rv = .slice a0_0 n0_0 c0_0 ∧ G = [Chunk.own tBool f0_0 a0_0 n0_0 c0_0 r]) ∧ St w G w') := by
 obtain rfl := r0_0.1
 unfold spec_l03Grid at h
 refine enter (vs := [_]) Try.func144 rfl rfl rfl rfl ?_
 refine WC.sr ?_
 refine ag ?_
 refine WL.nil (En.next (WC.seq ?_))
 obtain ⟨x1_0, e1_0, h⟩ := bnd h
 refine WC.region ?_
 refine WL.heavy rfl rfl rfl (OpH.makeO (A := tBool) rfl rfl mi_162 (fun w => tBool_flat.ow w false) (by decide) e1_0 ⟨Int.le_refl _, (mkO_some e1_0).1.2⟩ ?_)
 intro b1_0
 refine ag ?_
 refine WL.nil (En.next (WC.sr ?_))
 refine sp (OpV.build (evps.cons rfl (evps.cons rfl (evps.nil))) (bd_137_2_3 _ _)) ?_
 refine WL.heavy rfl rfl rfl (OpH.alloc zc_137 ?_)
 intro b2_1
 refine WL.heavy0 rfl rfl (OpH.storeTo (A := []) [_, _, _, _] rfl rfl rfl ts_137 rfl rfl rfl ?_)
 refine WL.nil (En.next (WC.seq (WC.sr ?_)))
 refine ag ?_
 refine WL.nil (En.next (WC.block ?_))
 obtain ⟨zy0, ezy0, h⟩ := bnd h
 refine WC.cut (X := ((List Bool)) × ((List Nat))) (.exit 0) (fun x => zy0 = x.1) (fun x => match x with | (g_0e, fg_0e) => [(3, .slice (some ⟨b1_0, 0, .none⟩) x1_0.length (Int.toNat 256))]) (fun x => match x with | (g_0e, fg_0e) => [Chunk.own tBool fg_0e (some ⟨b1_0, 0, .none⟩) x1_0.length (Int.toNat 256) g_0e]) ?_ ?_
 ·
  rintro ⟨g_0e, fg_0e⟩ hx
  replace hx : g_0e = zy0 := hx.symm
  subst hx
  show En _ _ _ _ [(3, .slice (some ⟨b1_0, 0, .none⟩) x1_0.length (Int.toNat 256))] [Chunk.own tBool fg_0e (some ⟨b1_0, 0, .none⟩) x1_0.length (Int.toNat 256) g_0e]
  refine En.block_exit (En.next (WC.sr ?_))
  refine mv ?_
  refine ag ?_
  refine WL.nil (En.next (WC.ret ?_))
  refine En.ret1 rfl (Res.tmp rfl) ?_
  obtain rfl := Option.some.inj h
  intro w' hs
  have hs := hs
  exact ⟨_, _, rfl, ⟨(some ⟨b1_0, 0, .none⟩), x1_0.length, (Int.toNat 256), fg_0e, rfl, rfl⟩, hs⟩
 ·
  intro zK0_0
  refine WC.loopP (G := (List Nat)) (fun s g => match s, g with | (g_0, k_0), fg_0 => [(0, .slice q0_0 list_p0.length k0_0), (3, .slice (some ⟨b1_0, 0, .none⟩) x1_0.length (Int.toNat 256)), (4, .pointer (some ⟨b2_1, 0, .none⟩)), (5, .int .i64 k_0)]) (fun s g => match s, g with | (g_0, k_0), fg_0 => [Chunk.own tBool fg_0 (some ⟨b1_0, 0, .none⟩) x1_0.length (Int.toNat 256) g_0, Chunk.box b2_1 137 [.int .i64 0, .int .i64 0, .int .i64 16, .int .i64 16]]) (x1_0, 0) [b1_0] ezy0 (by exact sc (sc (sc (sc sn)))) (by exact (fun _ h => (h).pm 1)) ?_
  rintro zm0 ⟨g_0, k_0⟩ fg_0 zo0 zf0 zb0 ze0
  have zh0 : spec_l03Grid_L0 list_p0 g_0 k_0 = some zo0 := zf0
  unfold spec_l03Grid_L0 at zh0
  show WC _ _ _ _ _ [(0, .slice q0_0 list_p0.length k0_0), (3, .slice (some ⟨b1_0, 0, .none⟩) x1_0.length (Int.toNat 256)), (4, .pointer (some ⟨b2_1, 0, .none⟩)), (5, .int .i64 k_0)] [Chunk.own tBool fg_0 (some ⟨b1_0, 0, .none⟩) x1_0.length (Int.toNat 256) g_0, Chunk.box b2_1 137 [.int .i64 0, .int .i64 0, .int .i64 16, .int .i64 16]]
  refine WC.seq (WC.sr ?_)
  refine mv ?_
  refine mv ?_
  refine sp (OpV.len rfl si_94 rfl) ?_
  refine sp (OpV.lss rfl rfl) ?_
  refine WL.nil (En.next ?_)
  refine WC.cond rfl ?_ ?_
  ·
   intro hc_1
   replace zh0 := ifO_t hc_1 zh0
   refine WC.skip (En.next (WC.seq (WC.block (WC.seq ?_))))
   obtain ⟨x6_2, e6_2, zh0⟩ := bnd zh0
   obtain ⟨g6_2, o6_2, _, ha6_2, rfl, hd6_2⟩ := Rd.atIdx r0_0 e6_2
   replace hd6_2 : ∀ (j : Nat) v, ([.int .i64 x6_2.X, .int .i64 x6_2.Y, .int .i64 x6_2.W, .int .i64 x6_2.H] : List Value)[j]? = some v → w.cell? ⟨g6_2, o6_2 + k_0.toNat * 4 + j, .none⟩ = some v := hd6_2
   obtain ⟨x6_5, e6_5, zh0⟩ := bnd zh0
   refine WC.drawnH [] ([_, _]) (fun _ h => h) (by kernel_rfl) ?_
   refine tk 0 rfl (OpV.move rfl) ?_
   refine tk 1 rfl (OpV.move rfl) ?_
   refine tk 2 rfl (OpV.idxA rfl rfl se_94 ha6_2 ⟨(idx_some e6_2).1, (idx_some e6_2).2.1⟩) ?_
   refine tk 3 rfl (OpV.loadN rfl ag_137 rfl (fun w hs => hs.cellsAt hd6_2)) ?_
   refine tk 4 rfl (OpV.loadAll rfl mq1 ag_137) ?_
   refine tk 5 rfl (OpV.call (ec rfl (ec rfl e0)) ca_105 (fun w hs => w_spec_Intersect e6_5)) ?_
   refine al1 6 rfl ?_
   refine OpH.alloc zc_137 ?_
   intro b6_6
   refine ⟨[_], rfl, ?_⟩
   refine al0 7 rfl ?_
   refine OpH.storeTo (A := []) [_, _, _, _] rfl rfl rfl ts_137 rfl rfl rfl ?_
   refine ⟨[_], rfl, ?_⟩
   refine WAE.rebase (H := []) ?_
   refine WAE.done (by kernel_rfl) ?_ _
   refine En.next (WC.sr ?_)
   refine sp (OpV.fieldAddr rfl fo_137_1) ?_
   refine sp (OpV.loadBox rfl pt_3 mq0 rfl) ?_
   refine ag ?_
   refine WL.nil (En.next (WC.block ?_))
   obtain ⟨zy1, ezy1, zh0⟩ := bnd zh0
   refine WC.cut (X := ((List Bool)) × ((List Nat))) (.exit 2) (fun x => zy1 = x.1) (fun x => match x with | (g_1e, fg_1e) => [(0, .slice q0_0 list_p0.length k0_0), (3, .slice (some ⟨b1_0, 0, .none⟩) x1_0.length (Int.toNat 256)), (4, .pointer (some ⟨b2_1, 0, .none⟩)), (5, .int .i64 k_0)]) (fun x => match x with | (g_1e, fg_1e) => [Chunk.own tBool fg_1e (some ⟨b1_0, 0, .none⟩) x1_0.length (Int.toNat 256) g_1e, Chunk.box b2_1 137 [.int .i64 0, .int .i64 0, .int .i64 16, .int .i64 16]]) ?_ ?_
   ·
    rintro ⟨g_1e, fg_1e⟩ hx
    replace hx : g_1e = zy1 := hx.symm
    subst hx
    show En _ _ _ _ [(0, .slice q0_0 list_p0.length k0_0), (3, .slice (some ⟨b1_0, 0, .none⟩) x1_0.length (Int.toNat 256)), (4, .pointer (some ⟨b2_1, 0, .none⟩)), (5, .int .i64 k_0)] [Chunk.own tBool fg_1e (some ⟨b1_0, 0, .none⟩) x1_0.length (Int.toNat 256) g_1e, Chunk.box b2_1 137 [.int .i64 0, .int .i64 0, .int .i64 16, .int .i64 16]]
    refine En.block_exit (En.block_norm (En.next (WC.region ?_)))
    refine mv ?_
    refine sp (OpV.addR rfl rfl) ?_
    refine ag ?_
    refine WL.nil ?_
    exact En.backP zb0 zh0 fg_1e (sc (sc (sc (sc sn)))) (fun _ h => h)
   ·
    intro zK1_0
    refine WC.loopP (G := (List Nat)) (fun s g => match s, g with | (g_1, y_1), fg_1 => [(0, .slice q0_0 list_p0.length k0_0), (3, .slice (some ⟨b1_0, 0, .none⟩) x1_0.length (Int.toNat 256)), (4, .pointer (some ⟨b2_1, 0, .none⟩)), (5, .int .i64 k_0), (6, .pointer (some ⟨b6_6, 0, .none⟩)), (7, .int .i64 y_1)]) (fun s g => match s, g with | (g_1, y_1), fg_1 => [Chunk.own tBool fg_1 (some ⟨b1_0, 0, .none⟩) x1_0.length (Int.toNat 256) g_1, Chunk.box b2_1 137 [.int .i64 0, .int .i64 0, .int .i64 16, .int .i64 16], Chunk.box b6_6 137 [.int .i64 x6_5.X, .int .i64 x6_5.Y, .int .i64 x6_5.W, .int .i64 x6_5.H]]) (g_0, x6_5.Y) fg_0 ezy1 (by exact sc (sc (sc (sc (sc (sc sn)))))) (by exact (fun _ h => ((h).pm 2).pm 2)) ?_
    rintro zm1 ⟨g_1, y_1⟩ fg_1 zo1 zf1 zb1 ze1
    have zh1 : spec_l03Grid_L1 x6_5 g_1 y_1 = some zo1 := zf1
    unfold spec_l03Grid_L1 at zh1
    show WC _ _ _ _ _ [(0, .slice q0_0 list_p0.length k0_0), (3, .slice (some ⟨b1_0, 0, .none⟩) x1_0.length (Int.toNat 256)), (4, .pointer (some ⟨b2_1, 0, .none⟩)), (5, .int .i64 k_0), (6, .pointer (some ⟨b6_6, 0, .none⟩)), (7, .int .i64 y_1)] [Chunk.own tBool fg_1 (some ⟨b1_0, 0, .none⟩) x1_0.length (Int.toNat 256) g_1, Chunk.box b2_1 137 [.int .i64 0, .int .i64 0, .int .i64 16, .int .i64 16], Chunk.box b6_6 137 [.int .i64 x6_5.X, .int .i64 x6_5.Y, .int .i64 x6_5.W, .int .i64 x6_5.H]]
    refine WC.seq (WC.sr ?_)
    refine mv ?_
    refine sp (OpV.fieldAddr rfl fo_137_1) ?_
    refine sp (OpV.loadBox rfl pt_3 mq2 rfl) ?_
    refine sp (OpV.fieldAddr rfl fo_137_3) ?_
    refine sp (OpV.loadBox rfl pt_3 mq2 rfl) ?_
    refine sp (OpV.addR rfl rfl) ?_
    refine sp (OpV.lss rfl rfl) ?_
    refine WL.nil (En.next ?_)
    refine WC.cond rfl ?_ ?_
    ·
     intro hc_2
     replace zh1 := ifO_t hc_2 zh1
     refine WC.skip (En.next (WC.seq (WC.block (WC.sr ?_))))
     refine sp (OpV.fieldAddr rfl fo_137_0) ?_
     refine sp (OpV.loadBox rfl pt_3 mq2 rfl) ?_
     refine ag ?_
     refine WL.nil (En.next (WC.block ?_))
     obtain ⟨zy2, ezy2, zh1⟩ := bnd zh1
     refine WC.cut (X := ((List Bool)) × ((List Nat))) (.exit 4) (fun x => zy2 = x.1) (fun x => match x with | (g_2e, fg_2e) => [(0, .slice q0_0 list_p0.length k0_0), (3, .slice (some ⟨b1_0, 0, .none⟩) x1_0.length (Int.toNat 256)), (4, .pointer (some ⟨b2_1, 0, .none⟩)), (5, .int .i64 k_0), (6, .pointer (some ⟨b6_6, 0, .none⟩)), (7, .int .i64 y_1)]) (fun x => match x with | (g_2e, fg_2e) => [Chunk.own tBool fg_2e (some ⟨b1_0, 0, .none⟩) x1_0.length (Int.toNat 256) g_2e, Chunk.box b2_1 137 [.int .i64 0, .int .i64 0, .int .i64 16, .int .i64 16], Chunk.box b6_6 137 [.int .i64 x6_5.X, .int .i64 x6_5.Y, .int .i64 x6_5.W, .int .i64 x6_5.H]]) ?_ ?_
     ·
      rintro ⟨g_2e, fg_2e⟩ hx
      replace hx : g_2e = zy2 := hx.symm
      subst hx
      show En _ _ _ _ [(0, .slice q0_0 list_p0.length k0_0), (3, .slice (some ⟨b1_0, 0, .none⟩) x1_0.length (Int.toNat 256)), (4, .pointer (some ⟨b2_1, 0, .none⟩)), (5, .int .i64 k_0), (6, .pointer (some ⟨b6_6, 0, .none⟩)), (7, .int .i64 y_1)] [Chunk.own tBool fg_2e (some ⟨b1_0, 0, .none⟩) x1_0.length (Int.toNat 256) g_2e, Chunk.box b2_1 137 [.int .i64 0, .int .i64 0, .int .i64 16, .int .i64 16], Chunk.box b6_6 137 [.int .i64 x6_5.X, .int .i64 x6_5.Y, .int .i64 x6_5.W, .int .i64 x6_5.H]]
      refine En.block_exit (En.block_norm (En.next (WC.region ?_)))
      refine mv ?_
      refine sp (OpV.addR rfl rfl) ?_
      refine ag ?_
      refine WL.nil ?_
      exact En.backP zb1 zh1 fg_2e (sc (sc (sc (sc (sc (sc sn)))))) (fun _ h => h)
     ·
      intro zK2_0
      refine WC.loopP (G := (List Nat)) (fun s g => match s, g with | (g_2, x_2), fg_2 => [(0, .slice q0_0 list_p0.length k0_0), (3, .slice (some ⟨b1_0, 0, .none⟩) x1_0.length (Int.toNat 256)), (4, .pointer (some ⟨b2_1, 0, .none⟩)), (5, .int .i64 k_0), (6, .pointer (some ⟨b6_6, 0, .none⟩)), (7, .int .i64 y_1), (8, .int .i64 x_2)]) (fun s g => match s, g with | (g_2, x_2), fg_2 => [Chunk.own tBool fg_2 (some ⟨b1_0, 0, .none⟩) x1_0.length (Int.toNat 256) g_2, Chunk.box b2_1 137 [.int .i64 0, .int .i64 0, .int .i64 16, .int .i64 16], Chunk.box b6_6 137 [.int .i64 x6_5.X, .int .i64 x6_5.Y, .int .i64 x6_5.W, .int .i64 x6_5.H]]) (g_1, x6_5.X) fg_1 ezy2 (by exact sc (sc (sc (sc (sc (sc (sc sn))))))) (by exact (fun _ h => h)) ?_
      rintro zm2 ⟨g_2, x_2⟩ fg_2 zo2 zf2 zb2 ze2
      have zh2 : spec_l03Grid_L2 x6_5 y_1 g_2 x_2 = some zo2 := zf2
      unfold spec_l03Grid_L2 at zh2
      show WC _ _ _ _ _ [(0, .slice q0_0 list_p0.length k0_0), (3, .slice (some ⟨b1_0, 0, .none⟩) x1_0.length (Int.toNat 256)), (4, .pointer (some ⟨b2_1, 0, .none⟩)), (5, .int .i64 k_0), (6, .pointer (some ⟨b6_6, 0, .none⟩)), (7, .int .i64 y_1), (8, .int .i64 x_2)] [Chunk.own tBool fg_2 (some ⟨b1_0, 0, .none⟩) x1_0.length (Int.toNat 256) g_2, Chunk.box b2_1 137 [.int .i64 0, .int .i64 0, .int .i64 16, .int .i64 16], Chunk.box b6_6 137 [.int .i64 x6_5.X, .int .i64 x6_5.Y, .int .i64 x6_5.W, .int .i64 x6_5.H]]
      refine WC.seq (WC.sr ?_)
      refine mv ?_
      refine sp (OpV.fieldAddr rfl fo_137_0) ?_
      refine sp (OpV.loadBox rfl pt_3 mq2 rfl) ?_
      refine sp (OpV.fieldAddr rfl fo_137_2) ?_
      refine sp (OpV.loadBox rfl pt_3 mq2 rfl) ?_
      refine sp (OpV.addR rfl rfl) ?_
      refine sp (OpV.lss rfl rfl) ?_
      refine WL.nil (En.next ?_)
      refine WC.cond rfl ?_ ?_
      ·
       intro hc_3
       replace zh2 := ifO_t hc_3 zh2
       refine WC.skip (En.next (WC.seq (WC.block ?_)))
       refine WC.inh fun hin13 => ?_
       have hn13_5 := ownLen hin13 mq0
       obtain ⟨x13_6, e13_6, zh2⟩ := bnd zh2
       obtain ⟨g13_5, o13_5, ha13_5⟩ := ownAddrU hin13 mq0 e13_6
       refine WC.region ?_
       refine mv ?_
       refine mv ?_
       refine sp (OpV.mulR rfl rfl) ?_
       refine mv ?_
       refine sp (OpV.addR rfl rfl) ?_
       refine sp (OpV.idxA rfl rfl se_162 ha13_5 ⟨(upd_some e13_6).1.1, by rw [hn13_5]; exact (upd_some e13_6).1.2⟩) ?_
       refine WL.wkF (fun _ h => St.elFlat tBool_flat true h) ?_
       refine WL.heavy0 rfl rfl (OpH.setEl (A := tBool) ha13_5 rfl rfl rfl ts_4 e13_6 ?_)
       intro f13_6
       refine WL.nil (En.block_norm (En.next (WC.region ?_)))
       refine mv ?_
       refine sp (OpV.addR rfl rfl) ?_
       refine ag ?_
       refine WL.nil ?_
       exact En.backP zb2 zh2 f13_6 (sc (sc (sc (sc (sc (sc (sc sn))))))) (fun _ h => h)
      ·
       intro hc_3
       replace zh2 := ifO_f hc_3 zh2
       refine WC.exit (En.then_exit (En.then_exit ?_))
       have hx := exitP ze2 zh2
       exact En.wk _ _ (sc (sc (sc (sc (sc (sc sn)))))) (fun _ h => h) (zK2_0 (g_2, fg_2) hx.symm)
    ·
     intro hc_2
     replace zh1 := ifO_f hc_2 zh1
     refine WC.exit (En.then_exit (En.then_exit ?_))
     have hx := exitP ze1 zh1
     exact En.wk _ _ (sc (sc (sc (sc sn)))) (fun _ h => (h).sub (.cons_cons _ (.cons_cons _ (.cons _ (.slnil))))) (zK1_0 (g_1, fg_1) hx.symm)
  ·
   intro hc_1
   replace zh0 := ifO_f hc_1 zh0
   refine WC.exit (En.then_exit (En.then_exit ?_))
   have hx := exitP ze0 zh0
   exact En.wk _ _ (sc sn) (fun _ h => (h).sub (.cons_cons _ (.cons _ (.slnil)))) (zK0_0 (g_0, fg_0) hx.symm)

theorem w_spec_l03Row {g_p0 : List Bool} {y_p1 : Int} {z_p2 : Int} {r : Bool} {q0_0 : Option Addr} {l0_0 k0_0 : Nat} (h : spec_l03Row g_p0 y_p1 z_p2 = some r) {w : World} (r0_0 : Rd tBool w q0_0 l0_0 k0_0 g_p0)   :
    Calls Try.prog 171 #[.slice q0_0 l0_0 k0_0, .int .i64 y_p1, .int .i64 z_p2] w (fun en w' => en = .returned (.bool r) ∧ Ext w w') := by
 obtain rfl := r0_0.1
 unfold spec_l03Row at h
 refine enter (vs := [_, _, _]) Try.func171 rfl rfl rfl rfl ?_
 refine WC.sr ?_
 refine ag ?_
 refine WL.nil (En.next (WC.seq (WC.sr ?_)))
 refine ag ?_
 refine WL.nil (En.next (WC.block ?_))
 obtain ⟨zy0, ezy0, h⟩ := bnd h
 refine WC.cut (X := (Unit) × (Unit)) (.exit 0) (fun x => zy0 = .inl x.1) (fun x => match x with | ((), ()) => []) (fun x => match x with | ((), ()) => []) ?_ ?_
 ·
  rintro ⟨⟨⟩, ⟨⟩⟩ hx
  replace hx : .inl () = zy0 := hx.symm
  subst hx
  replace h := fork_l h
  show En _ _ _ _ [] []
  refine En.block_exit (En.next (WC.sr ?_))
  refine ag ?_
  refine WL.nil (En.next (WC.ret ?_))
  refine En.ret1 rfl (Res.tmp rfl) ?_
  obtain rfl := Option.some.inj h
  intro w' hs
  exact ⟨rfl, hs.below⟩
 ·
  intro zK0_0
  refine WC.loopP (G := Unit) (fun s g => match s, g with | x_0, () => [(0, .slice q0_0 g_p0.length k0_0), (1, .int .i64 y_p1), (2, .int .i64 z_p2), (7, .int .i64 x_0)]) (fun s g => match s, g with | x_0, () => []) 0 () ezy0 (by exact sc (sc (sc (sc sn)))) (by exact (fun _ h => h)) ?_
  rintro zm0 x_0 ⟨⟩ zo0 zf0 zb0 ze0
  have zh0 : spec_l03Row_L0 g_p0 y_p1 z_p2 x_0 = some zo0 := zf0
  unfold spec_l03Row_L0 at zh0
  show WC _ _ _ _ _ [(0, .slice q0_0 g_p0.length k0_0), (1, .int .i64 y_p1), (2, .int .i64 z_p2), (7, .int .i64 x_0)] []
  refine WC.seq (WC.sr ?_)
  refine mv ?_
  refine sp (OpV.lss rfl rfl) ?_
  refine WL.nil (En.next ?_)
  refine WC.cond rfl ?_ ?_
  ·
   intro hc_1
   replace zh0 := ifO_t hc_1 zh0
   refine WC.skip (En.next (WC.seq (WC.block (WC.seq ?_))))
   obtain ⟨x4_5, e4_5, zh0⟩ := bnd zh0
   obtain ⟨g4_5, o4_5, _, ha4_5, rfl, hd4_5⟩ := Rd.atIdx r0_0 e4_5
   replace hd4_5 : ∀ (j : Nat) v, ([.bool x4_5] : List Value)[j]? = some v → w.cell? ⟨g4_5, o4_5 + (wr ((wr (y_p1 * 16)) + x_0)).toNat * 1 + j, .none⟩ = some v := hd4_5
   obtain ⟨x4_12, e4_12, zh0⟩ := bnd zh0
   obtain ⟨g4_12, o4_12, _, ha4_12, rfl, hd4_12⟩ := Rd.atIdx r0_0 e4_12
   replace hd4_12 : ∀ (j : Nat) v, ([.bool x4_12] : List Value)[j]? = some v → w.cell? ⟨g4_12, o4_12 + (wr ((wr (z_p2 * 16)) + x_0)).toNat * 1 + j, .none⟩ = some v := hd4_12
   refine WC.drawn [(0, ?r4q3v0), (1, ?r4q3v1), (2, ?r4q3v2), (7, ?r4q3v7), (26, ?r4q3v26)] (by kernel_rfl) (by kernel_rfl) ?dH4q3 ?dK4q3
   case dH4q3 =>
    intro W hW hk
    refine hW.mv ?_
    refine hW.mv ?_
    refine hW.sp (OpV.mulR rfl rfl) ?_
    refine hW.mv ?_
    refine hW.sp (OpV.addR rfl rfl) ?_
    refine hW.sp (OpV.idxA rfl rfl se_162 ha4_5 ⟨(idx_some e4_5).1, (idx_some e4_5).2.1⟩) ?_
    refine hW.sp (OpV.load1 rfl pt_4 (fun w hs => hs.cell (hd4_5 0 _ rfl))) ?_
    refine hW.mv ?_
    refine hW.mv ?_
    refine hW.sp (OpV.mulR rfl rfl) ?_
    refine hW.mv ?_
    refine hW.sp (OpV.addR rfl rfl) ?_
    refine hW.sp (OpV.idxA rfl rfl se_162 ha4_12 ⟨(idx_some e4_12).1, (idx_some e4_12).2.1⟩) ?_
    refine hW.sp (OpV.load1 rfl pt_4 (fun w hs => hs.cell (hd4_12 0 _ rfl))) ?_
    refine hW.sp (OpV.bneq rfl rfl ub_4) ?_
    refine hk _ ?_
    refine Sub.cons ?_ (Sub.cons ?_ (Sub.cons ?_ (Sub.cons ?_ (Sub.cons ?_ sn))))
    all_goals exact rfl
   refine En.next ?_
   refine WC.cond rfl ?_ ?_
   ·
    intro hc_2
    replace zh0 := ifO_t hc_2 zh0
    refine WC.sr ?_
    refine ag ?_
    refine WL.nil (En.next (WC.ret (En.block_ret (En.then_ret (En.then_ret (En.block_ret (En.then_ret ?_)))))))
    refine En.ret1 rfl (Res.tmp rfl) ?_
    have hx := exitP ze0 zh0
    subst hx
    replace h := fork_r h
    obtain rfl := Option.some.inj h
    intro w' hs
    exact ⟨rfl, hs.below⟩
   ·
    intro hc_2
    replace zh0 := ifO_f hc_2 zh0
    refine WC.skip (En.block_norm (En.next (WC.region ?_)))
    refine mv ?_
    refine sp (OpV.addR rfl rfl) ?_
    refine ag ?_
    refine WL.nil ?_
    exact En.backP zb0 zh0 () (sc (sc (sc (sc sn)))) (fun _ h => h)
  ·
   intro hc_1
   replace zh0 := ifO_f hc_1 zh0
   refine WC.exit (En.then_exit (En.then_exit ?_))
   have hx := exitP ze0 zh0
   exact En.wk _ _ sn (fun _ h => h) (zK0_0 ((), ()) hx.symm)

end Go.Proofs.Ytmhalmnbgkpmnaa
