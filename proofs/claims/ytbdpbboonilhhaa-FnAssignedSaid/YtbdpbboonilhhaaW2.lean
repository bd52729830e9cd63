/- Walks: the program computes the pure functions. -/
import Derived.Test.YtbdpbboonilhhaaW1
namespace Go.Proofs.Ytbdpbboonilhhaa
open Go.RowKit K
set_option maxRecDepth 100000
set_option maxHeartbeats 4000000

theorem w_spec_l10Scene {c_p0 : L01CurT} {r : SceneT × L01CurT} {b0 : Nat} {q0_0 : Option Addr} {l0_0 k0_0 : Nat} (h : spec_l10Scene c_p0 = some r) {w0 w : World} {C : List Chunk} (hs0 : St w0 (Chunk.box b0 137 [.slice q0_0 l0_0 k0_0, .int .i64 c_p0.i, .int .i64 c_p0.h] :: C) w) (r0_0 : ∀ w, St w0 C w → Rd tU8 w q0_0 l0_0 k0_0 c_p0.b) :
    Calls Try.prog 75 #[.pointer (some ⟨b0, 0, .none⟩)] w (fun en w' => ∃ rv G, en = .returned rv ∧ (∃ (a0_0 : Option Addr) (n0_0 : Nat) (c0_0 : Nat) (f0_0 : List Nat), rv = .agg #[.int .i64 r.1.W, .int .i64 r.1.H, .int .i64 r.1.Back, .slice a0_0 n0_0 c0_0] ∧ G = Chunk.lie tSurface f0_0 a0_0 n0_0 c0_0 r.1.Surfaces :: Chunk.box b0 137 [.slice q0_0 l0_0 k0_0, .int .i64 r.2.i, .int .i64 r.2.h] :: C) ∧ St w0 G w') := by
 obtain rfl := (r0_0 _ (St.tl (F := [_]) hs0)).1
 unfold spec_l10Scene at h
 refine enterF hs0 (vs := [_]) Try.func75 rfl rfl rfl rfl ?_
 refine WC.sr ?_
 refine WL.heavy rfl rfl rfl (OpH.alloc zc_53 ?_)
 intro b0_0
 refine WL.nil (En.next (WC.seq ?_))
 obtain ⟨⟨x1_1a, x1_1b⟩, e1_1, h⟩ := bnd h
 obtain ⟨⟨x1_4a, x1_4b⟩, e1_4, h⟩ := bnd h
 obtain ⟨⟨x1_7a, x1_7b⟩, e1_7, h⟩ := bnd h
 refine WC.region ?_
 refine mv ?_
 refine WL.wkF (fun _ h => h.pm 1) ?_
 refine WL.heavy rfl rfl rfl (OpH.callX (ec rfl (ec rfl e0)) ca_53 (fun w hs => w_spec_l01Below e1_1 hs (fun w hs => (r0_0 _ (St.tl (F := [_]) hs)))) ?_)
 rintro _ _ ⟨rfl, rfl⟩
 refine sp (OpV.addR rfl rfl) ?_
 refine mv ?_
 refine WL.heavy rfl rfl rfl (OpH.callX (ec rfl (ec rfl e0)) ca_53 (fun w hs => w_spec_l01Below e1_4 hs (fun w hs => (r0_0 _ (St.tl (F := [_]) hs)))) ?_)
 rintro _ _ ⟨rfl, rfl⟩
 refine sp (OpV.addR rfl rfl) ?_
 refine mv ?_
 refine WL.heavy rfl rfl rfl (OpH.callX (ec rfl e0) ca_111 (fun w hs => w_spec_l04Draw e1_7 hs (fun w hs => (r0_0 _ (St.tl (F := [_]) hs)))) ?_)
 rintro _ _ ⟨rfl, rfl⟩
 refine sp (OpV.orR rfl rfl) ?_
 refine sp (OpV.build (evps.cons rfl (evps.cons rfl (evps.cons rfl (evps.nil)))) (bd_53_0_1_2 _ _ _)) ?_
 refine WL.heavy rfl rfl rfl (OpH.alloc zc_53 ?_)
 intro b1_10
 refine WL.heavy0 rfl rfl (OpH.storeTo (A := []) [_, _, _, _] rfl rfl rfl ts_53 rfl rfl rfl ?_)
 refine WL.nil (En.next (WC.seq (WC.seq ?_)))
 obtain ⟨⟨x2_1a, x2_1b⟩, e2_1, h⟩ := bnd h
 refine WC.region ?_
 refine mv ?_
 refine WL.wkF (fun _ h => h.pm 1) ?_
 refine WL.heavy rfl rfl rfl (OpH.callX (ec rfl (ec rfl e0)) ca_53 (fun w hs => w_spec_l01Below e2_1 hs (fun w hs => (r0_0 _ (St.tl (F := [_, _]) hs)))) ?_)
 rintro _ _ ⟨rfl, rfl⟩
 refine ag ?_
 refine WL.nil (En.next (WC.block ?_))
 obtain ⟨zy0, ezy0, h⟩ := bnd h
 refine WC.cut (X := (Int × Int × Int × Int × Int × (List SurfaceT)) × ((Option Addr) × Nat × Nat × (List Nat))) (.exit 0) (fun x => zy0 = x.1) (fun x => match x with | ((c_0e, c1_0e, s_0e, s1_0e, s2_0e, s3_0e), (as_0e, ns_0e, cs_0e, fs_0e)) => [(0, .pointer (some ⟨b0, 0, .none⟩)), (2, .pointer (some ⟨b0_0, 0, .none⟩)), (3, .pointer (some ⟨b1_10, 0, .none⟩))]) (fun x => match x with | ((c_0e, c1_0e, s_0e, s1_0e, s2_0e, s3_0e), (as_0e, ns_0e, cs_0e, fs_0e)) => (Chunk.box b0 137 [.slice q0_0 c_p0.b.length k0_0, .int .i64 c_0e, .int .i64 c1_0e] :: Chunk.box b0_0 53 [.int .i64 0, .int .i64 0, .int .i64 0, .slice .none 0 0] :: Chunk.box b1_10 53 [.int .i64 s_0e, .int .i64 s1_0e, .int .i64 s2_0e, .slice as_0e ns_0e cs_0e] :: Chunk.lie tSurface fs_0e as_0e ns_0e cs_0e s3_0e :: C)) ?_ ?_
 ·
  rintro ⟨⟨c_0e, c1_0e, s_0e, s1_0e, s2_0e, s3_0e⟩, ⟨as_0e, ns_0e, cs_0e, fs_0e⟩⟩ hx
  replace hx : (c_0e, c1_0e, s_0e, s1_0e, s2_0e, s3_0e) = zy0 := hx.symm
  subst hx
  show En _ _ _ _ [(0, .pointer (some ⟨b0, 0, .none⟩)), (2, .pointer (some ⟨b0_0, 0, .none⟩)), (3, .pointer (some ⟨b1_10, 0, .none⟩))] (Chunk.box b0 137 [.slice q0_0 c_p0.b.length k0_0, .int .i64 c_0e, .int .i64 c1_0e] :: Chunk.box b0_0 53 [.int .i64 0, .int .i64 0, .int .i64 0, .slice .none 0 0] :: Chunk.box b1_10 53 [.int .i64 s_0e, .int .i64 s1_0e, .int .i64 s2_0e, .slice as_0e ns_0e cs_0e] :: Chunk.lie tSurface fs_0e as_0e ns_0e cs_0e s3_0e :: C)
  refine En.block_exit (En.next (WC.seq (WC.seq ?_)))
  obtain ⟨⟨x6_1a, x6_1b⟩, e6_1, h⟩ := bnd h
  refine WC.region ?_
  refine mv ?_
  refine WL.heavy rfl rfl rfl (OpH.callX (ec rfl (ec rfl e0)) ca_53 (fun w hs => w_spec_l01Below e6_1 hs (fun w hs => (r0_0 _ (St.tl (F := [_, _, _]) hs)))) ?_)
  rintro _ _ ⟨rfl, rfl⟩
  refine ag ?_
  refine WL.nil (En.next (WC.block ?_))
  obtain ⟨zy1, ezy1, h⟩ := bnd h
  refine WC.cut (X := (Int × Int × Int × (List SurfaceT) × Int × Int) × ((Option Addr) × Nat × Nat × (List Nat))) (.exit 2) (fun x => zy1 = x.1) (fun x => match x with | ((s_1e, s1_1e, s2_1e, s3_1e, c_1e, c1_1e), (as_1e, ns_1e, cs_1e, fs_1e)) => [(2, .pointer (some ⟨b0_0, 0, .none⟩)), (3, .pointer (some ⟨b1_10, 0, .none⟩))]) (fun x => match x with | ((s_1e, s1_1e, s2_1e, s3_1e, c_1e, c1_1e), (as_1e, ns_1e, cs_1e, fs_1e)) => (Chunk.box b0_0 53 [.int .i64 0, .int .i64 0, .int .i64 0, .slice .none 0 0] :: Chunk.box b1_10 53 [.int .i64 s_1e, .int .i64 s1_1e, .int .i64 s2_1e, .slice as_1e ns_1e cs_1e] :: Chunk.lie tSurface fs_1e as_1e ns_1e cs_1e s3_1e :: Chunk.box b0 137 [.slice q0_0 c_p0.b.length k0_0, .int .i64 c_1e, .int .i64 c1_1e] :: C)) ?_ ?_
  ·
   rintro ⟨⟨s_1e, s1_1e, s2_1e, s3_1e, c_1e, c1_1e⟩, ⟨as_1e, ns_1e, cs_1e, fs_1e⟩⟩ hx
   replace hx : (s_1e, s1_1e, s2_1e, s3_1e, c_1e, c1_1e) = zy1 := hx.symm
   subst hx
   show En _ _ _ _ [(2, .pointer (some ⟨b0_0, 0, .none⟩)), (3, .pointer (some ⟨b1_10, 0, .none⟩))] (Chunk.box b0_0 53 [.int .i64 0, .int .i64 0, .int .i64 0, .slice .none 0 0] :: Chunk.box b1_10 53 [.int .i64 s_1e, .int .i64 s1_1e, .int .i64 s2_1e, .slice as_1e ns_1e cs_1e] :: Chunk.lie tSurface fs_1e as_1e ns_1e cs_1e s3_1e :: Chunk.box b0 137 [.slice q0_0 c_p0.b.length k0_0, .int .i64 c_1e, .int .i64 c1_1e] :: C)
   refine En.block_exit (En.next (WC.sr ?_))
   refine sp (OpV.loadAll rfl mq1 ag_53) ?_
   refine WL.heavy0 rfl rfl (OpH.storeTo (A := []) [_, _, _, _] rfl rfl rfl ts_53 rfl rfl rfl ?_)
   refine WL.nil (En.next (WC.ret ?_))
   refine En.ret1 rfl (Res.cell rfl mq0 ag_53) ?_
   obtain rfl := Option.some.inj h
   intro w' hs
   have hs := (((hs).pm 3).pm 3).sub (.cons_cons _ (.cons_cons _ (.cons _ (.cons _ (List.Sublist.refl _)))))
   exact ⟨_, _, rfl, ⟨as_1e, ns_1e, cs_1e, fs_1e, rfl, rfl⟩, hs⟩
  ·
   intro zK1_0
   refine WC.loopP (G := (Option Addr) × Nat × Nat × (List Nat)) (fun s g => match s, g with | (c_1, c1_1, s_1, s1_1, s2_1, s3_1, k_1), (as_1, ns_1, cs_1, fs_1) => [(0, .pointer (some ⟨b0, 0, .none⟩)), (2, .pointer (some ⟨b0_0, 0, .none⟩)), (3, .pointer (some ⟨b1_10, 0, .none⟩)), (5, .int .i64 k_1)]) (fun s g => match s, g with | (c_1, c1_1, s_1, s1_1, s2_1, s3_1, k_1), (as_1, ns_1, cs_1, fs_1) => (Chunk.box b0 137 [.slice q0_0 c_p0.b.length k0_0, .int .i64 c_1, .int .i64 c1_1] :: Chunk.box b0_0 53 [.int .i64 0, .int .i64 0, .int .i64 0, .slice .none 0 0] :: Chunk.box b1_10 53 [.int .i64 s_1, .int .i64 s1_1, .int .i64 s2_1, .slice as_1 ns_1 cs_1] :: Chunk.lie tSurface fs_1 as_1 ns_1 cs_1 s3_1 :: C)) (x6_1b.i, x6_1b.h, s_0e, s1_0e, s2_0e, s3_0e, x6_1a) (as_0e, ns_0e, cs_0e, fs_0e) ezy1 (by exact sc (sc (sc (sc sn)))) (by exact (fun _ h => h)) ?_
   rintro zm1 ⟨c_1, c1_1, s_1, s1_1, s2_1, s3_1, k_1⟩ ⟨as_1, ns_1, cs_1, fs_1⟩ zo1 zf1 zb1 ze1
   have zh1 : spec_l10Scene_L1 c_p0 c_1 c1_1 s_1 s1_1 s2_1 s3_1 k_1 = some zo1 := zf1
   unfold spec_l10Scene_L1 at zh1
   show WC _ _ _ _ _ [(0, .pointer (some ⟨b0, 0, .none⟩)), (2, .pointer (some ⟨b0_0, 0, .none⟩)), (3, .pointer (some ⟨b1_10, 0, .none⟩)), (5, .int .i64 k_1)] (Chunk.box b0 137 [.slice q0_0 c_p0.b.length k0_0, .int .i64 c_1, .int .i64 c1_1] :: Chunk.box b0_0 53 [.int .i64 0, .int .i64 0, .int .i64 0, .slice .none 0 0] :: Chunk.box b1_10 53 [.int .i64 s_1, .int .i64 s1_1, .int .i64 s2_1, .slice as_1 ns_1 cs_1] :: Chunk.lie tSurface fs_1 as_1 ns_1 cs_1 s3_1 :: C)
   refine WC.seq (WC.sr ?_)
   refine mv ?_
   refine sp (OpV.gtr rfl rfl) ?_
   refine WL.nil (En.next ?_)
   refine WC.cond rfl ?_ ?_
   ·
    intro hc_1
    replace zh1 := ifO_t hc_1 zh1
    refine WC.skip (En.next (WC.seq (WC.block ?_)))
    obtain ⟨⟨x9_2a, x9_2b⟩, e9_2, zh1⟩ := bnd zh1
    obtain ⟨⟨x9_3a, x9_3b⟩, e9_3, zh1⟩ := bnd zh1
    refine WC.wkF (fun _ h => h.pm 2) ?_
    refine WC.wkF (fun _ h => h.pm 1) ?_
    refine WC.drawnH [_, _] (_ :: _ :: C) (fun _ h => h) (by kernel_rfl) ?_
    refine tk 1 rfl (OpV.move rfl) ?_
    refine WAE.all (rs := [0, 2]) (by kernel_rfl) rfl (AllR.cons rfl rfl rfl rfl ?_ (AllR.cons rfl rfl rfl rfl ?_ AllR.nil))
    ·
     refine OpH.light (OpV.loadAll rfl mq1 ag_53) ?_
     refine ⟨[_, _], rfl, ?_⟩
     refine al1 2 rfl ?_
     refine OpH.callX (ec rfl e0) ca_135 (fun w hs => w_spec_l10Edit e9_2 hs (fun w hs => (r0_0 _ (St.tl (F := [_, _, _]) hs)))) ?_
     rintro _ _ ⟨a9_200, n9_200, c9_200, f9_200, rfl, rfl⟩
     refine ⟨[_, _, _], rfl, ?_⟩
     refine al1 3 rfl ?_
     refine OpH.callR (ec rfl (ec rfl e0)) ca_134 (fun w hs => w_spec_DoEdit e9_3 ((hs.mem mq4).2 _ (fun _ _ => rfl)) (Ow.rd (hs.mem mq0))) ?_
     rintro _ _ ⟨a9_300, n9_300, c9_300, f9_300, rfl, rfl⟩
     refine ⟨[_, _, _, _], rfl, ?_⟩
     refine tk 4 rfl (OpV.move rfl) ?_
     refine tk 5 rfl (OpV.extract rfl rfl) ?_
     refine tk 6 rfl (OpV.extract rfl rfl) ?_
     refine al0 7 rfl ?_
     refine OpH.storeTo (A := [_, _, _]) [_, _, _, _] rfl rfl rfl ts_53 rfl rfl rfl ?_
     refine ⟨[_, _, _, _], rfl, ?_⟩
     refine WAE.rebase (H := []) ?_
     refine WAE.done (by kernel_rfl) ?_ _
     refine En.block_norm (En.next (WC.region ?_))
     refine mv ?_
     refine sp (OpV.subR rfl rfl) ?_
     refine ag ?_
     refine WL.nil ?_
     exact En.backP zb1 zh1 (a9_300, n9_300, c9_300, f9_300) (sc (sc (sc (sc sn)))) (fun _ h => ((((h).pm 3).pm 4).pm 4).sub (.cons_cons _ (.cons_cons _ (.cons_cons _ (.cons_cons _ (.cons _ (.cons _ (List.Sublist.refl _))))))))
    ·
     refine OpH.callX (ec rfl e0) ca_135 (fun w hs => w_spec_l10Edit e9_2 hs (fun w hs => (r0_0 _ (St.tl (F := [_, _, _]) hs)))) ?_
     rintro _ _ ⟨a9_200, n9_200, c9_200, f9_200, rfl, rfl⟩
     refine ⟨[_, _, _], rfl, ?_⟩
     refine al1 0 rfl ?_
     refine OpH.light (OpV.loadAll rfl mq2 ag_53) ?_
     refine ⟨[_, _, _], rfl, ?_⟩
     refine al1 3 rfl ?_
     refine OpH.callR (ec rfl (ec rfl e0)) ca_134 (fun w hs => w_spec_DoEdit e9_3 ((hs.mem mq4).2 _ (fun _ _ => rfl)) (Ow.rd (hs.mem mq0))) ?_
     rintro _ _ ⟨a9_300, n9_300, c9_300, f9_300, rfl, rfl⟩
     refine ⟨[_, _, _, _], rfl, ?_⟩
     refine tk 4 rfl (OpV.move rfl) ?_
     refine tk 5 rfl (OpV.extract rfl rfl) ?_
     refine tk 6 rfl (OpV.extract rfl rfl) ?_
     refine al0 7 rfl ?_
     refine OpH.storeTo (A := [_, _, _]) [_, _, _, _] rfl rfl rfl ts_53 rfl rfl rfl ?_
     refine ⟨[_, _, _, _], rfl, ?_⟩
     refine WAE.rebase (H := []) ?_
     refine WAE.done (by kernel_rfl) ?_ _
     refine En.block_norm (En.next (WC.region ?_))
     refine mv ?_
     refine sp (OpV.subR rfl rfl) ?_
     refine ag ?_
     refine WL.nil ?_
     exact En.backP zb1 zh1 (a9_300, n9_300, c9_300, f9_300) (sc (sc (sc (sc sn)))) (fun _ h => ((((h).pm 3).pm 4).pm 4).sub (.cons_cons _ (.cons_cons _ (.cons_cons _ (.cons_cons _ (.cons _ (.cons _ (List.Sublist.refl _))))))))
   ·
    intro hc_1
    replace zh1 := ifO_f hc_1 zh1
    refine WC.exit (En.then_exit (En.then_exit ?_))
    have hx := exitP ze1 zh1
    exact En.wk _ _ (sc (sc sn)) (fun _ h => (((h).pm 3).pm 3).pm 3) (zK1_0 ((s_1, s1_1, s2_1, s3_1, c_1, c1_1), (as_1, ns_1, cs_1, fs_1)) hx.symm)
 ·
  intro zK0_0
  refine WC.loopP (G := (Option Addr) × Nat × Nat × (List Nat)) (fun s g => match s, g with | (c_0, c1_0, s_0, s1_0, s2_0, s3_0, k_0), (as_0, ns_0, cs_0, fs_0) => [(0, .pointer (some ⟨b0, 0, .none⟩)), (2, .pointer (some ⟨b0_0, 0, .none⟩)), (3, .pointer (some ⟨b1_10, 0, .none⟩)), (4, .int .i64 k_0)]) (fun s g => match s, g with | (c_0, c1_0, s_0, s1_0, s2_0, s3_0, k_0), (as_0, ns_0, cs_0, fs_0) => (Chunk.box b0 137 [.slice q0_0 c_p0.b.length k0_0, .int .i64 c_0, .int .i64 c1_0] :: Chunk.box b0_0 53 [.int .i64 0, .int .i64 0, .int .i64 0, .slice .none 0 0] :: Chunk.box b1_10 53 [.int .i64 s_0, .int .i64 s1_0, .int .i64 s2_0, .slice as_0 ns_0 cs_0] :: Chunk.lie tSurface fs_0 as_0 ns_0 cs_0 s3_0 :: C)) (x2_1b.i, x2_1b.h, (wr (4 + x1_1a)), (wr (3 + x1_4a)), (or64 x1_7a 4278190080), [], x2_1a) (.none, 0, 0, []) ezy0 (by exact sc (sc (sc (sc sn)))) (by exact (fun _ h => ((((h).lieNil (A := tSurface)).pm 2).pm 3).pm 3)) ?_
  rintro zm0 ⟨c_0, c1_0, s_0, s1_0, s2_0, s3_0, k_0⟩ ⟨as_0, ns_0, cs_0, fs_0⟩ zo0 zf0 zb0 ze0
  have zh0 : spec_l10Scene_L0 c_p0 c_0 c1_0 s_0 s1_0 s2_0 s3_0 k_0 = some zo0 := zf0
  unfold spec_l10Scene_L0 at zh0
  show WC _ _ _ _ _ [(0, .pointer (some ⟨b0, 0, .none⟩)), (2, .pointer (some ⟨b0_0, 0, .none⟩)), (3, .pointer (some ⟨b1_10, 0, .none⟩)), (4, .int .i64 k_0)] (Chunk.box b0 137 [.slice q0_0 c_p0.b.length k0_0, .int .i64 c_0, .int .i64 c1_0] :: Chunk.box b0_0 53 [.int .i64 0, .int .i64 0, .int .i64 0, .slice .none 0 0] :: Chunk.box b1_10 53 [.int .i64 s_0, .int .i64 s1_0, .int .i64 s2_0, .slice as_0 ns_0 cs_0] :: Chunk.lie tSurface fs_0 as_0 ns_0 cs_0 s3_0 :: C)
  refine WC.seq (WC.sr ?_)
  refine mv ?_
  refine sp (OpV.gtr rfl rfl) ?_
  refine WL.nil (En.next ?_)
  refine WC.cond rfl ?_ ?_
  ·
   intro hc_2
   replace zh0 := ifO_t hc_2 zh0
   refine WC.skip (En.next (WC.seq (WC.block ?_)))
   obtain ⟨⟨x5_3a, x5_3b⟩, e5_3, zh0⟩ := bnd zh0
   obtain ⟨⟨x5_6a, x5_6b⟩, e5_6, zh0⟩ := bnd zh0
   obtain ⟨⟨x5_9a, x5_9b⟩, e5_9, zh0⟩ := bnd zh0
   obtain ⟨⟨x5_11a, x5_11b⟩, e5_11, zh0⟩ := bnd zh0
   refine WC.wkF (fun _ h => h.pm 2) ?_
   refine WC.wkF (fun _ h => h.pm 1) ?_
   refine WC.drawnH [_, _] (_ :: _ :: C) (fun _ h => h) (by kernel_rfl) ?_
   refine tk 1 rfl (OpV.move rfl) ?_
   refine tk 2 rfl (OpV.move rfl) ?_
   refine tk 5 rfl (OpV.move rfl) ?_
   refine tk 8 rfl (OpV.move rfl) ?_
   refine WAE.all (rs := [0, 3]) (by kernel_rfl) rfl (AllR.cons rfl rfl rfl rfl ?_ (AllR.cons rfl rfl rfl rfl ?_ AllR.nil))
   ·
    refine OpH.light (OpV.loadAll rfl mq1 ag_53) ?_
    refine ⟨[_, _], rfl, ?_⟩
    refine al1 3 rfl ?_
    refine OpH.callX (ec rfl (ec rfl e0)) ca_53 (fun w hs => w_spec_l01Below e5_3 hs (fun w hs => (r0_0 _ (St.tl (F := [_, _, _]) hs)))) ?_
    rintro _ _ ⟨rfl, rfl⟩
    refine ⟨[_, _], rfl, ?_⟩
    refine tk 4 rfl (OpV.subR rfl rfl) ?_
    refine al1 6 rfl ?_
    refine OpH.callX (ec rfl (ec rfl e0)) ca_53 (fun w hs => w_spec_l01Below e5_6 hs (fun w hs => (r0_0 _ (St.tl (F := [_, _, _]) hs)))) ?_
    rintro _ _ ⟨rfl, rfl⟩
    refine ⟨[_, _], rfl, ?_⟩
    refine tk 7 rfl (OpV.subR rfl rfl) ?_
    refine al1 9 rfl ?_
    refine OpH.callX (ec rfl (ec rfl e0)) ca_115 (fun w hs => w_spec_l05Image e5_9 hs (fun w hs => (r0_0 _ (St.tl (F := [_, _, _]) hs)))) ?_
    rintro _ _ ⟨a5_900, n5_900, c5_900, f5_900, rfl, rfl⟩
    refine ⟨[_, _, _], rfl, ?_⟩
    refine tk 10 rfl (OpV.build (evps.cons rfl (evps.cons rfl (evps.cons rfl (evps.cons rfl (evps.nil))))) (bd_158_1_2_3_4 _ _ _ _ _ _ _ _)) ?_
    refine al1 11 rfl ?_
    refine OpH.callR (ec rfl (ec rfl e0)) ca_134 (fun w hs => w_spec_DoEdit e5_11 ((hs.mem mq4).2 _ (fun _ _ => rfl)) (Ow.rd (hs.mem mq0))) ?_
    rintro _ _ ⟨a5_1100, n5_1100, c5_1100, f5_1100, rfl, rfl⟩
    refine ⟨[_, _, _, _], rfl, ?_⟩
    refine tk 12 rfl (OpV.move rfl) ?_
    refine tk 13 rfl (OpV.extract rfl rfl) ?_
    refine tk 14 rfl (OpV.extract rfl rfl) ?_
    refine al0 15 rfl ?_
    refine OpH.storeTo (A := [_, _, _]) [_, _, _, _] rfl rfl rfl ts_53 rfl rfl rfl ?_
    refine ⟨[_, _, _, _], rfl, ?_⟩
    refine WAE.rebase (H := []) ?_
    refine WAE.done (by kernel_rfl) ?_ _
    refine En.block_norm (En.next (WC.region ?_))
    refine mv ?_
    refine sp (OpV.subR rfl rfl) ?_
    refine ag ?_
    refine WL.nil ?_
    exact En.backP zb0 zh0 (a5_1100, n5_1100, c5_1100, f5_1100) (sc (sc (sc (sc sn)))) (fun _ h => ((((h).pm 3).pm 4).pm 4).sub (.cons_cons _ (.cons_cons _ (.cons_cons _ (.cons_cons _ (.cons _ (.cons _ (List.Sublist.refl _))))))))
   ·
    refine OpH.callX (ec rfl (ec rfl e0)) ca_53 (fun w hs => w_spec_l01Below e5_3 hs (fun w hs => (r0_0 _ (St.tl (F := [_, _, _]) hs)))) ?_
    rintro _ _ ⟨rfl, rfl⟩
    refine ⟨[_, _], rfl, ?_⟩
    refine tk 4 rfl (OpV.subR rfl rfl) ?_
    refine WAE.all (rs := [0, 6]) (by kernel_rfl) rfl (AllR.cons rfl rfl rfl rfl ?_ (AllR.cons rfl rfl rfl rfl ?_ AllR.nil))
    ·
     refine OpH.light (OpV.loadAll rfl mq1 ag_53) ?_
     refine ⟨[_, _], rfl, ?_⟩
     refine al1 6 rfl ?_
     refine OpH.callX (ec rfl (ec rfl e0)) ca_53 (fun w hs => w_spec_l01Below e5_6 hs (fun w hs => (r0_0 _ (St.tl (F := [_, _, _]) hs)))) ?_
     rintro _ _ ⟨rfl, rfl⟩
     refine ⟨[_, _], rfl, ?_⟩
     refine tk 7 rfl (OpV.subR rfl rfl) ?_
     refine al1 9 rfl ?_
     refine OpH.callX (ec rfl (ec rfl e0)) ca_115 (fun w hs => w_spec_l05Image e5_9 hs (fun w hs => (r0_0 _ (St.tl (F := [_, _, _]) hs)))) ?_
     rintro _ _ ⟨a5_900, n5_900, c5_900, f5_900, rfl, rfl⟩
     refine ⟨[_, _, _], rfl, ?_⟩
     refine tk 10 rfl (OpV.build (evps.cons rfl (evps.cons rfl (evps.cons rfl (evps.cons rfl (evps.nil))))) (bd_158_1_2_3_4 _ _ _ _ _ _ _ _)) ?_
     refine al1 11 rfl ?_
     refine OpH.callR (ec rfl (ec rfl e0)) ca_134 (fun w hs => w_spec_DoEdit e5_11 ((hs.mem mq4).2 _ (fun _ _ => rfl)) (Ow.rd (hs.mem mq0))) ?_
     rintro _ _ ⟨a5_1100, n5_1100, c5_1100, f5_1100, rfl, rfl⟩
     refine ⟨[_, _, _, _], rfl, ?_⟩
     refine tk 12 rfl (OpV.move rfl) ?_
     refine tk 13 rfl (OpV.extract rfl rfl) ?_
     refine tk 14 rfl (OpV.extract rfl rfl) ?_
     refine al0 15 rfl ?_
     refine OpH.storeTo (A := [_, _, _]) [_, _, _, _] rfl rfl rfl ts_53 rfl rfl rfl ?_
     refine ⟨[_, _, _, _], rfl, ?_⟩
     refine WAE.rebase (H := []) ?_
     refine WAE.done (by kernel_rfl) ?_ _
     refine En.block_norm (En.next (WC.region ?_))
     refine mv ?_
     refine sp (OpV.subR rfl rfl) ?_
     refine ag ?_
     refine WL.nil ?_
     exact En.backP zb0 zh0 (a5_1100, n5_1100, c5_1100, f5_1100) (sc (sc (sc (sc sn)))) (fun _ h => ((((h).pm 3).pm 4).pm 4).sub (.cons_cons _ (.cons_cons _ (.cons_cons _ (.cons_cons _ (.cons _ (.cons _ (List.Sublist.refl _))))))))
    ·
     refine OpH.callX (ec rfl (ec rfl e0)) ca_53 (fun w hs => w_spec_l01Below e5_6 hs (fun w hs => (r0_0 _ (St.tl (F := [_, _, _]) hs)))) ?_
     rintro _ _ ⟨rfl, rfl⟩
     refine ⟨[_, _], rfl, ?_⟩
     refine tk 7 rfl (OpV.subR rfl rfl) ?_
     refine WAE.all (rs := [0, 9]) (by kernel_rfl) rfl (AllR.cons rfl rfl rfl rfl ?_ (AllR.cons rfl rfl rfl rfl ?_ AllR.nil))
     ·
      refine OpH.light (OpV.loadAll rfl mq1 ag_53) ?_
      refine ⟨[_, _], rfl, ?_⟩
      refine al1 9 rfl ?_
      refine OpH.callX (ec rfl (ec rfl e0)) ca_115 (fun w hs => w_spec_l05Image e5_9 hs (fun w hs => (r0_0 _ (St.tl (F := [_, _, _]) hs)))) ?_
      rintro _ _ ⟨a5_900, n5_900, c5_900, f5_900, rfl, rfl⟩
      refine ⟨[_, _, _], rfl, ?_⟩
      refine tk 10 rfl (OpV.build (evps.cons rfl (evps.cons rfl (evps.cons rfl (evps.cons rfl (evps.nil))))) (bd_158_1_2_3_4 _ _ _ _ _ _ _ _)) ?_
      refine al1 11 rfl ?_
      refine OpH.callR (ec rfl (ec rfl e0)) ca_134 (fun w hs => w_spec_DoEdit e5_11 ((hs.mem mq4).2 _ (fun _ _ => rfl)) (Ow.rd (hs.mem mq0))) ?_
      rintro _ _ ⟨a5_1100, n5_1100, c5_1100, f5_1100, rfl, rfl⟩
      refine ⟨[_, _, _, _], rfl, ?_⟩
      refine tk 12 rfl (OpV.move rfl) ?_
      refine tk 13 rfl (OpV.extract rfl rfl) ?_
      refine tk 14 rfl (OpV.extract rfl rfl) ?_
      refine al0 15 rfl ?_
      refine OpH.storeTo (A := [_, _, _]) [_, _, _, _] rfl rfl rfl ts_53 rfl rfl rfl ?_
      refine ⟨[_, _, _, _], rfl, ?_⟩
      refine WAE.rebase (H := []) ?_
      refine WAE.done (by kernel_rfl) ?_ _
      refine En.block_norm (En.next (WC.region ?_))
      refine mv ?_
      refine sp (OpV.subR rfl rfl) ?_
      refine ag ?_
      refine WL.nil ?_
      exact En.backP zb0 zh0 (a5_1100, n5_1100, c5_1100, f5_1100) (sc (sc (sc (sc sn)))) (fun _ h => ((((h).pm 3).pm 4).pm 4).sub (.cons_cons _ (.cons_cons _ (.cons_cons _ (.cons_cons _ (.cons _ (.cons _ (List.Sublist.refl _))))))))
     ·
      refine OpH.callX (ec rfl (ec rfl e0)) ca_115 (fun w hs => w_spec_l05Image e5_9 hs (fun w hs => (r0_0 _ (St.tl (F := [_, _, _]) hs)))) ?_
      rintro _ _ ⟨a5_900, n5_900, c5_900, f5_900, rfl, rfl⟩
      refine ⟨[_, _, _], rfl, ?_⟩
      refine tk 10 rfl (OpV.build (evps.cons rfl (evps.cons rfl (evps.cons rfl (evps.cons rfl (evps.nil))))) (bd_158_1_2_3_4 _ _ _ _ _ _ _ _)) ?_
      refine al1 0 rfl ?_
      refine OpH.light (OpV.loadAll rfl mq2 ag_53) ?_
      refine ⟨[_, _, _], rfl, ?_⟩
      refine al1 11 rfl ?_
      refine OpH.callR (ec rfl (ec rfl e0)) ca_134 (fun w hs => w_spec_DoEdit e5_11 ((hs.mem mq4).2 _ (fun _ _ => rfl)) (Ow.rd (hs.mem mq0))) ?_
      rintro _ _ ⟨a5_1100, n5_1100, c5_1100, f5_1100, rfl, rfl⟩
      refine ⟨[_, _, _, _], rfl, ?_⟩
      refine tk 12 rfl (OpV.move rfl) ?_
      refine tk 13 rfl (OpV.extract rfl rfl) ?_
      refine tk 14 rfl (OpV.extract rfl rfl) ?_
      refine al0 15 rfl ?_
      refine OpH.storeTo (A := [_, _, _]) [_, _, _, _] rfl rfl rfl ts_53 rfl rfl rfl ?_
      refine ⟨[_, _, _, _], rfl, ?_⟩
      refine WAE.rebase (H := []) ?_
      refine WAE.done (by kernel_rfl) ?_ _
      refine En.block_norm (En.next (WC.region ?_))
      refine mv ?_
      refine sp (OpV.subR rfl rfl) ?_
      refine ag ?_
      refine WL.nil ?_
      exact En.backP zb0 zh0 (a5_1100, n5_1100, c5_1100, f5_1100) (sc (sc (sc (sc sn)))) (fun _ h => ((((h).pm 3).pm 4).pm 4).sub (.cons_cons _ (.cons_cons _ (.cons_cons _ (.cons_cons _ (.cons _ (.cons _ (List.Sublist.refl _))))))))
  ·
   intro hc_2
   replace zh0 := ifO_f hc_2 zh0
   refine WC.exit (En.then_exit (En.then_exit ?_))
   have hx := exitP ze0 zh0
   exact En.wk _ _ (sc (sc (sc sn))) (fun _ h => h) (zK0_0 ((c_0, c1_0, s_0, s1_0, s2_0, s3_0), (as_0, ns_0, cs_0, fs_0)) hx.symm)

theorem w_spec_l21Options {c_p0 : L01CurT} {r : OptionsT × L01CurT} {b0 : Nat} {q0_0 : Option Addr} {l0_0 k0_0 : Nat} (h : spec_l21Options c_p0 = some r) {w0 w : World} {C : List Chunk} (hs0 : St w0 (Chunk.box b0 137 [.slice q0_0 l0_0 k0_0, .int .i64 c_p0.i, .int .i64 c_p0.h] :: C) w) (r0_0 : ∀ w, St w0 C w → Rd tU8 w q0_0 l0_0 k0_0 c_p0.b) :
    Calls Try.prog 76 #[.pointer (some ⟨b0, 0, .none⟩)] w (fun en w' => ∃ rv G, en = .returned rv ∧ (rv = .agg #[.int .i64 r.1.Overlays, .bool r.1.Cursor, .int .i64 r.1.Layout, .bool r.1.Partial, .bool r.1.Sleep, .bool r.1.Secret] ∧ G = Chunk.box b0 137 [.slice q0_0 l0_0 k0_0, .int .i64 r.2.i, .int .i64 r.2.h] :: C) ∧ St w0 G w') := by
 obtain rfl := (r0_0 _ (St.tl (F := [_]) hs0)).1
 unfold spec_l21Options at h
 refine enterF hs0 (vs := [_]) Try.func76 rfl rfl rfl rfl ?_
 refine WC.sr ?_
 refine WL.heavy rfl rfl rfl (OpH.alloc zc_55 ?_)
 intro b0_0
 refine WL.nil (En.next (WC.seq ?_))
 obtain ⟨⟨x1_1a, x1_1b⟩, e1_1, h⟩ := bnd h
 obtain ⟨⟨x1_3a, x1_3b⟩, e1_3, h⟩ := bnd h
 obtain ⟨⟨x1_5a, x1_5b⟩, e1_5, h⟩ := bnd h
 refine WC.region ?_
 refine mv ?_
 refine WL.wkF (fun _ h => h.pm 1) ?_
 refine WL.heavy rfl rfl rfl (OpH.callX (ec rfl (ec rfl e0)) ca_53 (fun w hs => w_spec_l01Below e1_1 hs (fun w hs => (r0_0 _ (St.tl (F := [_]) hs)))) ?_)
 rintro _ _ ⟨rfl, rfl⟩
 refine mv ?_
 refine WL.heavy rfl rfl rfl (OpH.callX (ec rfl (ec rfl e0)) ca_114 (fun w hs => w_spec_l01Once e1_3 hs (fun w hs => (r0_0 _ (St.tl (F := [_]) hs)))) ?_)
 rintro _ _ ⟨rfl, rfl⟩
 refine mv ?_
 refine WL.heavy rfl rfl rfl (OpH.callX (ec rfl (ec rfl e0)) ca_53 (fun w hs => w_spec_l01Below e1_5 hs (fun w hs => (r0_0 _ (St.tl (F := [_]) hs)))) ?_)
 rintro _ _ ⟨rfl, rfl⟩
 refine sp (OpV.build (evps.cons rfl (evps.cons rfl (evps.cons rfl (evps.nil)))) (bd_55_0_1_2 _ _ _)) ?_
 refine WL.heavy rfl rfl rfl (OpH.alloc zc_55 ?_)
 intro b1_7
 refine WL.heavy0 rfl rfl (OpH.storeTo (A := []) [_, _, _, _, _, _] rfl rfl rfl ts_55 rfl rfl rfl ?_)
 refine WL.nil (En.next (WC.seq ?_))
 obtain ⟨⟨x2_1a, x2_1b⟩, e2_1, h⟩ := bnd h
 refine WC.region ?_
 refine mv ?_
 refine WL.wkF (fun _ h => h.pm 1) ?_
 refine WL.heavy rfl rfl rfl (OpH.callX (ec rfl (ec rfl e0)) ca_114 (fun w hs => w_spec_l01Once e2_1 hs (fun w hs => (r0_0 _ (St.tl (F := [_, _]) hs)))) ?_)
 rintro _ _ ⟨rfl, rfl⟩
 refine sp (OpV.fieldAddr rfl fo_55_3) ?_
 refine WL.heavy0 rfl rfl (OpH.storeTo (A := [_]) [_, _, _, _, _, _] rfl rfl rfl ts_4 rfl rfl rfl ?_)
 refine WL.nil (En.next (WC.seq ?_))
 obtain ⟨⟨x3_1a, x3_1b⟩, e3_1, h⟩ := bnd h
 refine WC.region ?_
 refine mv ?_
 refine WL.heavy rfl rfl rfl (OpH.callX (ec rfl (ec rfl e0)) ca_114 (fun w hs => w_spec_l01Once e3_1 hs (fun w hs => (r0_0 _ (St.tl (F := [_, _]) hs)))) ?_)
 rintro _ _ ⟨rfl, rfl⟩
 refine sp (OpV.fieldAddr rfl fo_55_4) ?_
 refine WL.heavy0 rfl rfl (OpH.storeTo (A := [_]) [_, _, _, _, _, _] rfl rfl rfl ts_4 rfl rfl rfl ?_)
 refine WL.nil (En.next (WC.seq ?_))
 obtain ⟨⟨x4_1a, x4_1b⟩, e4_1, h⟩ := bnd h
 refine WC.region ?_
 refine mv ?_
 refine WL.heavy rfl rfl rfl (OpH.callX (ec rfl (ec rfl e0)) ca_114 (fun w hs => w_spec_l01Once e4_1 hs (fun w hs => (r0_0 _ (St.tl (F := [_, _]) hs)))) ?_)
 rintro _ _ ⟨rfl, rfl⟩
 refine sp (OpV.fieldAddr rfl fo_55_5) ?_
 refine WL.heavy0 rfl rfl (OpH.storeTo (A := [_]) [_, _, _, _, _, _] rfl rfl rfl ts_4 rfl rfl rfl ?_)
 refine WL.nil (En.next (WC.sr ?_))
 refine sp (OpV.loadAll rfl mq1 ag_55) ?_
 refine WL.heavy0 rfl rfl (OpH.storeTo (A := [_, _]) [_, _, _, _, _, _] rfl rfl rfl ts_55 rfl rfl rfl ?_)
 refine WL.nil (En.next (WC.ret ?_))
 refine En.ret1 rfl (Res.cell rfl mq2 ag_55) ?_
 obtain rfl := Option.some.inj h
 intro w' hs
 have hs := (hs).sub (.cons_cons _ (.cons _ (.cons _ (List.Sublist.refl _))))
 exact ⟨_, _, rfl, ⟨rfl, rfl⟩, hs⟩

theorem w_spec_DrawAssignment {code_p0 : List Int} {r : SceneT × OptionsT} {q0_0 : Option Addr} {l0_0 k0_0 : Nat} (h : spec_DrawAssignment code_p0 = some r) {w : World} (r0_0 : Rd tU8 w q0_0 l0_0 k0_0 code_p0)   :
    Calls Try.prog 22 #[.slice q0_0 l0_0 k0_0] w (fun en w' => ∃ rv G, en = .returned rv ∧ (∃ (a0_0 : Option Addr) (n0_0 : Nat) (c0_0 : Nat) (f0_0 : List Nat), rv = .tuple #[.agg #[.int .i64 r.1.W, .int .i64 r.1.H, .int .i64 r.1.Back, .slice a0_0 n0_0 c0_0], .agg #[.int .i64 r.2.Overlays, .bool r.2.Cursor, .int .i64 r.2.Layout, .bool r.2.Partial, .bool r.2.Sleep, .bool r.2.Secret]] ∧ G = [Chunk.lie tSurface f0_0 a0_0 n0_0 c0_0 r.1.Surfaces]) ∧ St w G w') := by
 obtain rfl := r0_0.1
 unfold spec_DrawAssignment at h
 refine enter (vs := [_]) Try.func22 rfl rfl rfl rfl ?_
 refine WC.sr ?_
 refine WL.heavy rfl rfl rfl (OpH.alloc zc_53 ?_)
 intro b0_0
 refine WL.heavy rfl rfl rfl (OpH.alloc zc_55 ?_)
 intro b0_1
 refine WL.nil (En.next (WC.seq ?_))
 obtain ⟨x1_1, e1_1, h⟩ := bnd h
 refine WC.region ?_
 refine mv ?_
 refine WL.heavy rfl rfl rfl (OpH.callR (ec rfl e0) ca_52 (fun w hs => w_spec_l01New e1_1 (r0_0.ext hs.below)) ?_)
 rintro _ _ ⟨b1_10p, rfl, rfl⟩
 refine ag ?_
 refine WL.nil (En.next (WC.seq ?_))
 obtain ⟨⟨x2_1a, x2_1b⟩, e2_1, h⟩ := bnd h
 refine WC.region ?_
 refine mv ?_
 refine WL.heavy rfl rfl rfl (OpH.callX (ec rfl e0) ca_75 (fun w hs => w_spec_l10Scene e2_1 hs (fun w hs => (r0_0.ext hs.below))) ?_)
 rintro _ _ ⟨a2_100, n2_100, c2_100, f2_100, rfl, rfl⟩
 refine WL.heavy rfl rfl rfl (OpH.alloc zc_53 ?_)
 intro b2_2
 refine WL.heavy0 rfl rfl (OpH.storeTo (A := []) [_, _, _, _] rfl rfl rfl ts_53 rfl rfl rfl ?_)
 refine WL.nil (En.next (WC.seq ?_))
 obtain ⟨⟨x3_2a, x3_2b⟩, e3_2, h⟩ := bnd h
 refine WC.wkF (fun _ h => h.pm 4) ?_
 refine WC.wkF (fun _ h => h.pm 4) ?_
 refine WC.wkF (fun _ h => h.pm 4) ?_
 refine WC.drawnH [_, _, _] ([_, _]) (fun _ h => h) (by kernel_rfl) ?_
 refine tk 0 rfl (OpV.loadAll rfl mq0 ag_53) ?_
 refine tk 1 rfl (OpV.move rfl) ?_
 refine al1 2 rfl ?_
 refine OpH.callX (ec rfl e0) ca_76 (fun w hs => w_spec_l21Options e3_2 hs (fun w hs => (r0_0.ext hs.below))) ?_
 rintro _ _ ⟨rfl, rfl⟩
 refine ⟨[_, _, _], rfl, ?_⟩
 refine al0 3 rfl ?_
 refine OpH.storeTo (A := [_, _]) [_, _, _, _] rfl rfl rfl ts_53 rfl rfl rfl ?_
 refine ⟨[_, _, _], rfl, ?_⟩
 refine al0 4 rfl ?_
 refine OpH.storeTo (A := [_]) [_, _, _, _, _, _] rfl rfl rfl ts_55 rfl rfl rfl ?_
 refine ⟨[_, _, _], rfl, ?_⟩
 refine WAE.rebase (H := []) ?_
 refine WAE.done (by kernel_rfl) ?_ _
 refine En.next (WC.ret ?_)
 refine En.ret2 rfl (Res.cell rfl mq2 ag_53) (Res.cell rfl mq1 ag_55) ?_
 obtain rfl := Option.some.inj h
 intro w' hs
 have hs := ((hs).pm 4).sub (.cons_cons _ (.cons _ (.cons _ (.cons _ (.cons _ (.slnil))))))
 exact ⟨_, _, rfl, ⟨a2_100, n2_100, c2_100, f2_100, rfl, rfl⟩, hs⟩

theorem w_impl_within {n_p0 : Int} {low_p1 : Int} {high_p2 : Int} {r : Bool}  (h : impl_within n_p0 low_p1 high_p2 = some r) {w : World}    :
    Calls Try.prog 59 #[.int .i64 n_p0, .int .i64 low_p1, .int .i64 high_p2] w (fun en w' => en = .returned (.bool r) ∧ Ext w w') := by
 unfold impl_within at h
 refine enter (vs := [_, _, _]) Try.func59 rfl rfl rfl rfl ?_
 refine WC.sr ?_
 refine ag ?_
 refine WL.nil (En.next (WC.sr ?_))
 refine mv ?_
 refine mv ?_
 refine sp (OpV.leq rfl rfl) ?_
 refine mv ?_
 refine Lt.ofWL.and 10 14 13 (p := ?pz1) (rest := ?qz1) (B := ?Bz1) rfl ?Tz1 ?Fz1 ?az1 ?bz1 ?cz1 ?dz1 ?ez1
 case Tz1 =>
  intro hcz1 hkz1
  refine mv ?_
  refine mv ?_
  refine sp (OpV.leq rfl rfl) ?_
  refine hkz1 _ ?_ ?_
  exact rfl
  repeat (first | exact Sub.refl _ | refine Sub.skip rfl ?_)
 case Fz1 =>
  intro hcz1 hkz1
  refine sk ?_
  refine sk ?_
  refine sk ?_
  refine hkz1 _ ?_
  repeat (first | exact Sub.refl _ | refine Sub.skip rfl ?_)
 case az1 => exact rfl
 case bz1 => exact rfl
 case cz1 => exact rfl
 case dz1 => exact rfl
 refine ag ?_
 refine WL.nil (En.next (WC.ret ?_))
 refine En.ret1 rfl (Res.tmp rfl) ?_
 obtain rfl := Option.some.inj h
 intro w' hs
 exact ⟨rfl, hs.below⟩

theorem w_impl_isSide {n_p0 : Int} {r : Bool}  (h : impl_isSide n_p0 = some r) {w : World}    :
    Calls Try.prog 60 #[.int .i64 n_p0] w (fun en w' => en = .returned (.bool r) ∧ Ext w w') := by
 unfold impl_isSide at h
 refine enter (vs := [_]) Try.func60 rfl rfl rfl rfl ?_
 refine WC.sr ?_
 refine ag ?_
 refine WL.nil (En.next (WC.seq ?_))
 obtain ⟨x1_1, e1_1, h⟩ := bnd h
 refine WC.region ?_
 refine mv ?_
 refine sp (OpV.call (ec rfl (ec rfl (ec rfl e0))) ca_59 (fun w hs => w_impl_within e1_1)) ?_
 refine ag ?_
 refine WL.nil (En.next (WC.ret ?_))
 refine En.ret1 rfl (Res.tmp rfl) ?_
 obtain rfl := Option.some.inj h
 intro w' hs
 exact ⟨rfl, hs.below⟩

theorem w_impl_isPixel {p_p0 : Int} {r : Bool}  (h : impl_isPixel p_p0 = some r) {w : World}    :
    Calls Try.prog 127 #[.int .i64 p_p0] w (fun en w' => en = .returned (.bool r) ∧ Ext w w') := by
 unfold impl_isPixel at h
 refine enter (vs := [_]) Try.func127 rfl rfl rfl rfl ?_
 refine WC.sr ?_
 refine ag ?_
 refine WL.nil (En.next (WC.seq ?_))
 obtain ⟨x1_1, e1_1, h⟩ := bnd h
 refine WC.region ?_
 refine mv ?_
 refine sp (OpV.call (ec rfl (ec rfl (ec rfl e0))) ca_59 (fun w hs => w_impl_within e1_1)) ?_
 refine ag ?_
 refine WL.nil (En.next (WC.ret ?_))
 refine En.ret1 rfl (Res.tmp rfl) ?_
 obtain rfl := Option.some.inj h
 intro w' hs
 exact ⟨rfl, hs.below⟩

theorem w_impl_channel {p_p0 : Int} {k_p1 : Int} {r : Int}  (h : impl_channel p_p0 k_p1 = some r) {w : World}    :
    Calls Try.prog 128 #[.int .i64 p_p0, .int .i64 k_p1] w (fun en w' => en = .returned (.int .i64 r) ∧ Ext w w') := by
 unfold impl_channel at h
 refine enter (vs := [_, _]) Try.func128 rfl rfl rfl rfl ?_
 refine WC.sr ?_
 refine ag ?_
 refine WL.nil (En.next (WC.seq ?_))
 obtain ⟨x1_4, e1_4, h⟩ := bnd h
 refine WC.region ?_
 refine mv ?_
 refine mv ?_
 refine sp (OpV.mulR rfl rfl) ?_
 refine sp (OpV.subR rfl rfl) ?_
 refine sp (OpV.shrR rfl rfl e1_4) ?_
 refine sp (OpV.andR rfl rfl) ?_
 refine ag ?_
 refine WL.nil (En.next (WC.ret ?_))
 refine En.ret1 rfl (Res.tmp rfl) ?_
 obtain rfl := Option.some.inj h
 intro w' hs
 exact ⟨rfl, hs.below⟩

theorem w_impl_isOpaquePixel {p_p0 : Int} {r : Bool}  (h : impl_isOpaquePixel p_p0 = some r) {w : World}    :
    Calls Try.prog 65 #[.int .i64 p_p0] w (fun en w' => en = .returned (.bool r) ∧ Ext w w') := by
 unfold impl_isOpaquePixel at h
 refine enter (vs := [_]) Try.func65 rfl rfl rfl rfl ?_
 refine WC.sr ?_
 refine ag ?_
 refine WL.nil (En.next (WC.seq ?_))
 obtain ⟨x1_1, e1_1, h⟩ := bnd h
 obtain ⟨q1_6, e1_6, h⟩ := bnd h
 refine WC.region ?_
 refine mv ?_
 refine sp (OpV.call (ec rfl e0) ca_127 (fun w hs => w_impl_isPixel e1_1)) ?_
 refine mv ?_
 refine Lt.ofWL.andQ 5 9 8 (p := ?pz1) (rest := ?qz1) (B := q1_6) rfl (fun hz => andO_f e1_6 hz) ?Tz1 ?Fz1 ?az1 ?bz1 ?cz1 ?dz1 ?ez1
 case Tz1 =>
  intro hcz1 hkz1
  have hqz1 := andO_t e1_6 hcz1
  obtain ⟨x1_4, e1_4, hqz1⟩ := bnd hqz1
  obtain rfl := Option.some.inj hqz1
  refine mv ?_
  refine sp (OpV.call (ec rfl (ec rfl e0)) ca_128 (fun w hs => w_impl_channel e1_4)) ?_
  refine sp (OpV.eql rfl rfl) ?_
  refine hkz1 _ ?_ ?_
  exact rfl
  repeat (first | exact Sub.refl _ | refine Sub.skip rfl ?_)
 case Fz1 =>
  intro hcz1 hkz1
  refine sk ?_
  refine sk ?_
  refine sk ?_
  refine hkz1 _ ?_
  repeat (first | exact Sub.refl _ | refine Sub.skip rfl ?_)
 case az1 => exact rfl
 case bz1 => exact rfl
 case cz1 => exact rfl
 case dz1 => exact rfl
 refine ag ?_
 refine WL.nil (En.next (WC.ret ?_))
 refine En.ret1 rfl (Res.tmp rfl) ?_
 obtain rfl := Option.some.inj h
 intro w' hs
 exact ⟨rfl, hs.below⟩

theorem w_impl_isOrient {o_p0 : Int} {r : Bool}  (h : impl_isOrient o_p0 = some r) {w : World}    :
    Calls Try.prog 165 #[.int .i64 o_p0] w (fun en w' => en = .returned (.bool r) ∧ Ext w w') := by
 unfold impl_isOrient at h
 refine enter (vs := [_]) Try.func165 rfl rfl rfl rfl ?_
 refine WC.sr ?_
 refine ag ?_
 refine WL.nil (En.next (WC.seq ?_))
 obtain ⟨x1_1, e1_1, h⟩ := bnd h
 refine WC.region ?_
 refine mv ?_
 refine sp (OpV.call (ec rfl (ec rfl (ec rfl e0))) ca_59 (fun w hs => w_impl_within e1_1)) ?_
 refine ag ?_
 refine WL.nil (En.next (WC.ret ?_))
 refine En.ret1 rfl (Res.tmp rfl) ?_
 obtain rfl := Option.some.inj h
 intro w' hs
 exact ⟨rfl, hs.below⟩

theorem w_impl_ImageOk {i_p0 : ImageT} {r : Bool} {q0_0 : Option Addr} {l0_0 k0_0 : Nat} (h : impl_ImageOk i_p0 = some r) {w : World} (r0_0 : Rd tInt w q0_0 l0_0 k0_0 i_p0.Data)   :
    Calls Try.prog 81 #[.agg #[.int .i64 i_p0.W, .int .i64 i_p0.H, .slice q0_0 l0_0 k0_0]] w (fun en w' => en = .returned (.bool r) ∧ Ext w w') := by
 obtain rfl := r0_0.1
 unfold impl_ImageOk at h
 refine enter (vs := [_]) Try.func81 rfl rfl rfl rfl ?_
 refine WC.sr ?_
 refine WL.heavy rfl rfl rfl (OpH.box rfl rfl ?_)
 intro b0_0
 refine ag ?_
 refine WL.nil (En.next (WC.seq (WC.seq ?_)))
 obtain ⟨x1_2, e1_2, h⟩ := bnd h
 obtain ⟨q1_9, e1_9, h⟩ := bnd h
 refine WC.region ?_
 refine sp (OpV.fieldAddr rfl fo_33_0) ?_
 refine sp (OpV.loadBox rfl pt_3 mq0 rfl) ?_
 refine sp (OpV.call (ec rfl e0) ca_60 (fun w hs => w_impl_isSide e1_2)) ?_
 refine sp (OpV.not rfl) ?_
 refine mv ?_
 refine Lt.ofWL.orQ 9 14 13 (p := ?pz1) (rest := ?qz1) (B := q1_9) rfl (fun hz => orO_t e1_9 hz) ?Tz1 ?Fz1 ?az1 ?bz1 ?cz1 ?dz1 ?ez1
 case Tz1 =>
  intro hcz1 hkz1
  refine sk ?_
  refine sk ?_
  refine sk ?_
  refine sk ?_
  refine hkz1 _ ?_
  repeat (first | exact Sub.refl _ | refine Sub.skip rfl ?_)
 case Fz1 =>
  intro hcz1 hkz1
  have hqz1 := orO_f e1_9 hcz1
  obtain ⟨x1_7, e1_7, hqz1⟩ := bnd hqz1
  obtain rfl := Option.some.inj hqz1
  refine sp (OpV.fieldAddr rfl fo_33_1) ?_
  refine sp (OpV.loadBox rfl pt_3 mq0 rfl) ?_
  refine sp (OpV.call (ec rfl e0) ca_60 (fun w hs => w_impl_isSide e1_7)) ?_
  refine sp (OpV.not rfl) ?_
  refine hkz1 _ ?_ ?_
  exact rfl
  repeat (first | exact Sub.refl _ | refine Sub.skip rfl ?_)
 case az1 => exact rfl
 case bz1 => exact rfl
 case cz1 => exact rfl
 case dz1 => exact rfl
 refine mv ?_
 refine Lt.ofWL.or 15 25 24 (p := ?pz2) (rest := ?qz2) (B := ?Bz2) rfl ?Tz2 ?Fz2 ?az2 ?bz2 ?cz2 ?dz2 ?ez2
 case Tz2 =>
  intro hcz2 hkz2
  refine sk ?_
  refine sk ?_
  refine sk ?_
  refine sk ?_
  refine sk ?_
  refine sk ?_
  refine sk ?_
  refine sk ?_
  refine sk ?_
  refine hkz2 _ ?_
  repeat (first | exact Sub.refl _ | refine Sub.skip rfl ?_)
 case Fz2 =>
  intro hcz2 hkz2
  refine sp (OpV.fieldAddr rfl fo_33_2) ?_
  refine sp (OpV.loadBox rfl pt_28 mq0 rfl) ?_
  refine sp (OpV.len rfl si_28 rfl) ?_
  refine sp (OpV.fieldAddr rfl fo_33_0) ?_
  refine sp (OpV.loadBox rfl pt_3 mq0 rfl) ?_
  refine sp (OpV.fieldAddr rfl fo_33_1) ?_
  refine sp (OpV.loadBox rfl pt_3 mq0 rfl) ?_
  refine sp (OpV.mulR rfl rfl) ?_
  refine sp (OpV.neq rfl rfl) ?_
  refine hkz2 _ ?_ ?_
  exact rfl
  repeat (first | exact Sub.refl _ | refine Sub.skip rfl ?_)
 case az2 => exact rfl
 case bz2 => exact rfl
 case cz2 => exact rfl
 case dz2 => exact rfl
 refine WL.nil (En.next ?_)
 refine WC.cond rfl ?_ ?_
 ·
  intro hc_1
  replace h := ifO_t hc_1 h
  refine WC.sr ?_
  refine ag ?_
  refine WL.nil (En.next (WC.ret (En.then_ret ?_)))
  refine En.ret1 rfl (Res.tmp rfl) ?_
  obtain rfl := Option.some.inj h
  intro w' hs
  exact ⟨rfl, hs.below⟩
 ·
  intro hc_1
  replace h := ifO_f hc_1 h
  refine WC.skip (En.next (WC.seq (WC.sr ?_)))
  refine sp (OpV.fieldAddr rfl fo_33_2) ?_
  refine sp (OpV.loadBox rfl pt_28 mq0 rfl) ?_
  refine sp (OpV.len rfl si_28 rfl) ?_
  refine mv ?_
  refine WL.nil (En.next (WC.block ?_))
  obtain ⟨zy0, ezy0, h⟩ := bnd h
  refine WC.cut (X := (Unit) × (Unit)) (.exit 0) (fun x => zy0 = .inl x.1) (fun x => match x with | ((), ()) => []) (fun x => match x with | ((), ()) => []) ?_ ?_
  ·
   rintro ⟨⟨⟩, ⟨⟩⟩ hx
   replace hx : .inl () = zy0 := hx.symm
   subst hx
   replace h := fork_l h
   show En _ _ _ _ [] []
   refine En.block_exit (En.next (WC.sr ?_))
   refine ag ?_
   refine WL.nil (En.next (WC.ret ?_))
   refine En.ret1 rfl (Res.tmp rfl) ?_
   obtain rfl := Option.some.inj h
   intro w' hs
   exact ⟨rfl, hs.below⟩
  ·
   intro zK0_0
   refine WC.loopP (G := Unit) (fun s g => match s, g with | v_0, () => [(27, .slice q0_0 i_p0.Data.length k0_0), (28, .int .i64 (i_p0.Data.length : Int)), (29, .int .i64 v_0)]) (fun s g => match s, g with | v_0, () => []) 0 () ezy0 (by exact sc (sc (sc sn))) (by exact (fun _ h => (h).sub (.cons _ (.slnil)))) ?_
   rintro zm0 v_0 ⟨⟩ zo0 zf0 zb0 ze0
   have zh0 : impl_ImageOk_L0 i_p0 v_0 = some zo0 := zf0
   unfold impl_ImageOk_L0 at zh0
   show WC _ _ _ _ _ [(27, .slice q0_0 i_p0.Data.length k0_0), (28, .int .i64 (i_p0.Data.length : Int)), (29, .int .i64 v_0)] []
   refine WC.sr ?_
   refine sp (OpV.lss rfl rfl) ?_
   refine WL.nil (En.next (WC.seq ?_))
   refine WC.cond rfl ?_ ?_
   ·
    intro hc_2
    replace zh0 := ifO_t hc_2 zh0
    refine WC.skip (En.next (WC.seq (WC.block (WC.seq ?_))))
    obtain ⟨x5_0, e5_0, zh0⟩ := bnd zh0
    obtain ⟨g5_0, o5_0, _, ha5_0, rfl, hd5_0⟩ := Rd.atIdx r0_0 e5_0
    replace hd5_0 : ∀ (j : Nat) v, ([.int .i64 x5_0] : List Value)[j]? = some v → w.cell? ⟨g5_0, o5_0 + v_0.toNat * 1 + j, .none⟩ = some v := hd5_0
    refine WC.region ?_
    refine sp (OpV.idxA rfl rfl se_28 ha5_0 ⟨(idx_some e5_0).1, (idx_some e5_0).2.1⟩) ?_
    refine sp (OpV.load1 rfl pt_3 (fun w hs => hs.cell (hd5_0 0 _ rfl))) ?_
    refine ag ?_
    refine WL.nil (En.next (WC.seq ?_))
    obtain ⟨x6_1, e6_1, zh0⟩ := bnd zh0
    refine WC.region ?_
    refine mv ?_
    refine sp (OpV.call (ec rfl e0) ca_127 (fun w hs => w_impl_isPixel e6_1)) ?_
    refine sp (OpV.not rfl) ?_
    refine WL.nil (En.next ?_)
    refine WC.cond rfl ?_ ?_
    ·
     intro hc_3
     replace zh0 := ifO_t hc_3 zh0
     refine WC.sr ?_
     refine ag ?_
     refine WL.nil (En.next (WC.ret (En.block_ret (En.then_ret (En.then_ret (En.block_ret (En.then_ret ?_)))))))
     refine En.ret1 rfl (Res.tmp rfl) ?_
     have hx := exitP ze0 zh0
     subst hx
     replace h := fork_r h
     obtain rfl := Option.some.inj h
     intro w' hs
     exact ⟨rfl, hs.below⟩
    ·
     intro hc_3
     replace zh0 := ifO_f hc_3 zh0
     refine WC.skip (En.block_norm (En.next (WC.region ?_)))
     refine sp (OpV.addR rfl rfl) ?_
     refine mv ?_
     refine WL.nil ?_
     exact En.backP zb0 zh0 () (sc (sc (sc sn))) (fun _ h => h)
   ·
    intro hc_2
    replace zh0 := ifO_f hc_2 zh0
    refine WC.exit (En.then_exit (En.then_exit ?_))
    have hx := exitP ze0 zh0
    exact En.wk _ _ sn (fun _ h => h) (zK0_0 ((), ()) hx.symm)

theorem w_impl_SurfaceOk {s_p0 : SurfaceT} {r : Bool} {q0_0 : Option Addr} {l0_0 k0_0 : Nat} (h : impl_SurfaceOk s_p0 = some r) {w : World} (r0_0 : Rd tInt w q0_0 l0_0 k0_0 s_p0.Buffer.Data)   :
    Calls Try.prog 136 #[.agg #[.int .i64 s_p0.Id, .int .i64 s_p0.X, .int .i64 s_p0.Y, .int .i64 s_p0.W, .int .i64 s_p0.H, .int .i64 s_p0.Alpha, .int .i64 s_p0.Orient, .bool s_p0.Visible, .int .i64 s_p0.Buffer.W, .int .i64 s_p0.Buffer.H, .slice q0_0 l0_0 k0_0]] w (fun en w' => en = .returned (.bool r) ∧ Ext w w') := by
 obtain rfl := r0_0.1
 unfold impl_SurfaceOk at h
 refine enter (vs := [_]) Try.func136 rfl rfl rfl rfl ?_
 refine WC.sr ?_
 refine WL.heavy rfl rfl rfl (OpH.box rfl rfl ?_)
 intro b0_0
 refine ag ?_
 refine WL.nil (En.next (WC.seq ?_))
 obtain ⟨x1_2, e1_2, h⟩ := bnd h
 obtain ⟨q1_7, e1_7, h⟩ := bnd h
 refine WC.region ?_
 refine sp (OpV.fieldAddr rfl fo_119_3) ?_
 refine sp (OpV.loadBox rfl pt_3 mq0 rfl) ?_
 refine sp (OpV.call (ec rfl e0) ca_60 (fun w hs => w_impl_isSide e1_2)) ?_
 refine mv ?_
 refine Lt.ofWL.andQ 7 11 10 (p := ?pz1) (rest := ?qz1) (B := q1_7) rfl (fun hz => andO_f e1_7 hz) ?Tz1 ?Fz1 ?az1 ?bz1 ?cz1 ?dz1 ?ez1
 case Tz1 =>
  intro hcz1 hkz1
  have hqz1 := andO_t e1_7 hcz1
  obtain ⟨x1_6, e1_6, hqz1⟩ := bnd hqz1
  obtain rfl := Option.some.inj hqz1
  refine sp (OpV.fieldAddr rfl fo_119_4) ?_
  refine sp (OpV.loadBox rfl pt_3 mq0 rfl) ?_
  refine sp (OpV.call (ec rfl e0) ca_60 (fun w hs => w_impl_isSide e1_6)) ?_
  refine hkz1 _ ?_ ?_
  exact rfl
  repeat (first | exact Sub.refl _ | refine Sub.skip rfl ?_)
 case Fz1 =>
  intro hcz1 hkz1
  refine sk ?_
  refine sk ?_
  refine sk ?_
  refine hkz1 _ ?_
  repeat (first | exact Sub.refl _ | refine Sub.skip rfl ?_)
 case az1 => exact rfl
 case bz1 => exact rfl
 case cz1 => exact rfl
 case dz1 => exact rfl
 refine mv ?_
 refine Lt.ofWL.or 12 21 20 (p := ?pz2) (rest := ?qz2) (B := ?Bz2) rfl ?Tz2 ?Fz2 ?az2 ?bz2 ?cz2 ?dz2 ?ez2
 case Tz2 =>
  intro hcz2 hkz2
  refine sk ?_
  refine sk ?_
  refine sk ?_
  refine sk ?_
  refine sk ?_
  refine sk ?_
  refine sk ?_
  refine sk ?_
  refine hkz2 _ ?_
  repeat (first | exact Sub.refl _ | refine Sub.skip rfl ?_)
 case Fz2 =>
  intro hcz2 hkz2
  refine sp (OpV.fieldAddr rfl fo_119_3) ?_
  refine sp (OpV.loadBox rfl pt_3 mq0 rfl) ?_
  refine sp (OpV.eql rfl rfl) ?_
  refine mv ?_
  refine Lt.ofWL.and 16 20 19 (p := ?pz3) (rest := ?qz3) (B := ?Bz3) rfl ?Tz3 ?Fz3 ?az3 ?bz3 ?cz3 ?dz3 ?ez3
  case Tz3 =>
   intro hcz3 hkz3
   refine sp (OpV.fieldAddr rfl fo_119_4) ?_
   refine sp (OpV.loadBox rfl pt_3 mq0 rfl) ?_
   refine sp (OpV.eql rfl rfl) ?_
   refine hkz3 _ ?_ ?_
   exact rfl
   repeat (first | exact Sub.refl _ | refine Sub.skip rfl ?_)
  case Fz3 =>
   intro hcz3 hkz3
   refine sk ?_
   refine sk ?_
   refine sk ?_
   refine hkz3 _ ?_
   repeat (first | exact Sub.refl _ | refine Sub.skip rfl ?_)
  case az3 => exact rfl
  case bz3 => exact rfl
  case cz3 => exact rfl
  case dz3 => exact rfl
  refine hkz2 _ ?_ ?_
  exact rfl
  repeat (first | exact Sub.refl _ | refine Sub.skip rfl ?_)
 case az2 => exact rfl
 case bz2 => exact rfl
 case cz2 => exact rfl
 case dz2 => exact rfl
 refine ag ?_
 refine WL.nil (En.next (WC.seq ?_))
 obtain ⟨x2_2, e2_2, h⟩ := bnd h
 obtain ⟨q2_7, e2_7, h⟩ := bnd h
 obtain ⟨q2_12, e2_12, h⟩ := bnd h
 obtain ⟨q2_20, e2_20, h⟩ := bnd h
 obtain ⟨q2_25, e2_25, h⟩ := bnd h
 obtain ⟨q2_30, e2_30, h⟩ := bnd h
 refine WC.region ?_
 refine sp (OpV.fieldAddr rfl fo_119_0) ?_
 refine sp (OpV.loadBox rfl pt_3 mq0 rfl) ?_
 refine sp (OpV.call (ec rfl (ec rfl (ec rfl e0))) ca_59 (fun w hs => w_impl_within e2_2)) ?_
 refine mv ?_
 refine Lt.ofWL.andQ 25 29 28 (p := ?pz4) (rest := ?qz4) (B := q2_7) rfl (fun hz => andO_f e2_7 hz) ?Tz4 ?Fz4 ?az4 ?bz4 ?cz4 ?dz4 ?ez4
 case Tz4 =>
  intro hcz4 hkz4
  have hqz4 := andO_t e2_7 hcz4
  obtain ⟨x2_6, e2_6, hqz4⟩ := bnd hqz4
  obtain rfl := Option.some.inj hqz4
  refine sp (OpV.fieldAddr rfl fo_119_1) ?_
  refine sp (OpV.loadBox rfl pt_3 mq0 rfl) ?_
  refine sp (OpV.call (ec rfl (ec rfl (ec rfl e0))) ca_59 (fun w hs => w_impl_within e2_6)) ?_
  refine hkz4 _ ?_ ?_
  exact rfl
  repeat (first | exact Sub.refl _ | refine Sub.skip rfl ?_)
 case Fz4 =>
  intro hcz4 hkz4
  refine sk ?_
  refine sk ?_
  refine sk ?_
  refine hkz4 _ ?_
  repeat (first | exact Sub.refl _ | refine Sub.skip rfl ?_)
 case az4 => exact rfl
 case bz4 => exact rfl
 case cz4 => exact rfl
 case dz4 => exact rfl
 refine mv ?_
 refine Lt.ofWL.andQ 30 34 33 (p := ?pz5) (rest := ?qz5) (B := q2_12) rfl (fun hz => andO_f e2_12 hz) ?Tz5 ?Fz5 ?az5 ?bz5 ?cz5 ?dz5 ?ez5
 case Tz5 =>
  intro hcz5 hkz5
  have hqz5 := andO_t e2_12 hcz5
  obtain ⟨x2_11, e2_11, hqz5⟩ := bnd hqz5
  obtain rfl := Option.some.inj hqz5
  refine sp (OpV.fieldAddr rfl fo_119_2) ?_
  refine sp (OpV.loadBox rfl pt_3 mq0 rfl) ?_
  refine sp (OpV.call (ec rfl (ec rfl (ec rfl e0))) ca_59 (fun w hs => w_impl_within e2_11)) ?_
  refine hkz5 _ ?_ ?_
  exact rfl
  repeat (first | exact Sub.refl _ | refine Sub.skip rfl ?_)
 case Fz5 =>
  intro hcz5 hkz5
  refine sk ?_
  refine sk ?_
  refine sk ?_
  refine hkz5 _ ?_
  repeat (first | exact Sub.refl _ | refine Sub.skip rfl ?_)
 case az5 => exact rfl
 case bz5 => exact rfl
 case cz5 => exact rfl
 case dz5 => exact rfl
 refine mv ?_
 refine Lt.ofWL.and 35 37 36 (p := ?pz6) (rest := ?qz6) (B := ?Bz6) rfl ?Tz6 ?Fz6 ?az6 ?bz6 ?cz6 ?dz6 ?ez6
 case Tz6 =>
  intro hcz6 hkz6
  refine mv ?_
  refine hkz6 _ ?_ ?_
  exact rfl
  repeat (first | exact Sub.refl _ | refine Sub.skip rfl ?_)
 case Fz6 =>
  intro hcz6 hkz6
  refine sk ?_
  refine hkz6 _ ?_
  repeat (first | exact Sub.refl _ | refine Sub.skip rfl ?_)
 case az6 => exact rfl
 case bz6 => exact rfl
 case cz6 => exact rfl
 case dz6 => exact rfl
 refine mv ?_
 refine Lt.ofWL.andQ 38 42 41 (p := ?pz7) (rest := ?qz7) (B := q2_20) rfl (fun hz => andO_f e2_20 hz) ?Tz7 ?Fz7 ?az7 ?bz7 ?cz7 ?dz7 ?ez7
 case Tz7 =>
  intro hcz7 hkz7
  have hqz7 := andO_t e2_20 hcz7
  obtain ⟨x2_19, e2_19, hqz7⟩ := bnd hqz7
  obtain rfl := Option.some.inj hqz7
  refine sp (OpV.fieldAddr rfl fo_119_5) ?_
  refine sp (OpV.loadBox rfl pt_3 mq0 rfl) ?_
  refine sp (OpV.call (ec rfl (ec rfl (ec rfl e0))) ca_59 (fun w hs => w_impl_within e2_19)) ?_
  refine hkz7 _ ?_ ?_
  exact rfl
  repeat (first | exact Sub.refl _ | refine Sub.skip rfl ?_)
 case Fz7 =>
  intro hcz7 hkz7
  refine sk ?_
  refine sk ?_
  refine sk ?_
  refine hkz7 _ ?_
  repeat (first | exact Sub.refl _ | refine Sub.skip rfl ?_)
 case az7 => exact rfl
 case bz7 => exact rfl
 case cz7 => exact rfl
 case dz7 => exact rfl
 refine mv ?_
 refine Lt.ofWL.andQ 43 47 46 (p := ?pz8) (rest := ?qz8) (B := q2_25) rfl (fun hz => andO_f e2_25 hz) ?Tz8 ?Fz8 ?az8 ?bz8 ?cz8 ?dz8 ?ez8
 case Tz8 =>
  intro hcz8 hkz8
  have hqz8 := andO_t e2_25 hcz8
  obtain ⟨x2_24, e2_24, hqz8⟩ := bnd hqz8
  obtain rfl := Option.some.inj hqz8
  refine sp (OpV.fieldAddr rfl fo_119_6) ?_
  refine sp (OpV.loadBox rfl pt_3 mq0 rfl) ?_
  refine sp (OpV.call (ec rfl e0) ca_165 (fun w hs => w_impl_isOrient e2_24)) ?_
  refine hkz8 _ ?_ ?_
  exact rfl
  repeat (first | exact Sub.refl _ | refine Sub.skip rfl ?_)
 case Fz8 =>
  intro hcz8 hkz8
  refine sk ?_
  refine sk ?_
  refine sk ?_
  refine hkz8 _ ?_
  repeat (first | exact Sub.refl _ | refine Sub.skip rfl ?_)
 case az8 => exact rfl
 case bz8 => exact rfl
 case cz8 => exact rfl
 case dz8 => exact rfl
 refine mv ?_
 refine Lt.ofWL.andQ 48 52 51 (p := ?pz9) (rest := ?qz9) (B := q2_30) rfl (fun hz => andO_f e2_30 hz) ?Tz9 ?Fz9 ?az9 ?bz9 ?cz9 ?dz9 ?ez9
 case Tz9 =>
  intro hcz9 hkz9
  have hqz9 := andO_t e2_30 hcz9
  obtain ⟨x2_29, e2_29, hqz9⟩ := bnd hqz9
  obtain rfl := Option.some.inj hqz9
  refine sp (OpV.fieldAddr rfl fo_119_8) ?_
  refine sp (OpV.loadPart rfl mq0 ag_33 rfl rfl) ?_
  refine sp (OpV.call (ec rfl e0) ca_81 (fun w hs => w_impl_ImageOk e2_29 (r0_0.ext hs.below))) ?_
  refine hkz9 _ ?_ ?_
  exact rfl
  repeat (first | exact Sub.refl _ | refine Sub.skip rfl ?_)
 case Fz9 =>
  intro hcz9 hkz9
  refine sk ?_
  refine sk ?_
  refine sk ?_
  refine hkz9 _ ?_
  repeat (first | exact Sub.refl _ | refine Sub.skip rfl ?_)
 case az9 => exact rfl
 case bz9 => exact rfl
 case cz9 => exact rfl
 case dz9 => exact rfl
 refine ag ?_
 refine WL.nil (En.next (WC.ret ?_))
 refine En.ret1 rfl (Res.tmp rfl) ?_
 obtain rfl := Option.some.inj h
 intro w' hs
 exact ⟨rfl, hs.below⟩

theorem w_impl_SceneOk {s_p0 : SceneT} {r : Bool} {q0_0 : Option Addr} {l0_0 k0_0 : Nat} (h : impl_SceneOk s_p0 = some r) {w : World} (r0_0 : Rd tSurface w q0_0 l0_0 k0_0 s_p0.Surfaces)   :
    Calls Try.prog 77 #[.agg #[.int .i64 s_p0.W, .int .i64 s_p0.H, .int .i64 s_p0.Back, .slice q0_0 l0_0 k0_0]] w (fun en w' => en = .returned (.bool r) ∧ Ext w w') := by
 obtain rfl := r0_0.1
 unfold impl_SceneOk at h
 refine enter (vs := [_]) Try.func77 rfl rfl rfl rfl ?_
 refine WC.sr ?_
 refine WL.heavy rfl rfl rfl (OpH.box rfl rfl ?_)
 intro b0_0
 refine ag ?_
 refine WL.nil (En.next (WC.seq (WC.seq ?_)))
 obtain ⟨x1_2, e1_2, h⟩ := bnd h
 obtain ⟨q1_9, e1_9, h⟩ := bnd h
 obtain ⟨q1_15, e1_15, h⟩ := bnd h
 refine WC.region ?_
 refine sp (OpV.fieldAddr rfl fo_53_0) ?_
 refine sp (OpV.loadBox rfl pt_3 mq0 rfl) ?_
 refine sp (OpV.call (ec rfl e0) ca_60 (fun w hs => w_impl_isSide e1_2)) ?_
 refine sp (OpV.not rfl) ?_
 refine mv ?_
 refine Lt.ofWL.orQ 10 15 14 (p := ?pz1) (rest := ?qz1) (B := q1_9) rfl (fun hz => orO_t e1_9 hz) ?Tz1 ?Fz1 ?az1 ?bz1 ?cz1 ?dz1 ?ez1
 case Tz1 =>
  intro hcz1 hkz1
  refine sk ?_
  refine sk ?_
  refine sk ?_
  refine sk ?_
  refine hkz1 _ ?_
  repeat (first | exact Sub.refl _ | refine Sub.skip rfl ?_)
 case Fz1 =>
  intro hcz1 hkz1
  have hqz1 := orO_f e1_9 hcz1
  obtain ⟨x1_7, e1_7, hqz1⟩ := bnd hqz1
  obtain rfl := Option.some.inj hqz1
  refine sp (OpV.fieldAddr rfl fo_53_1) ?_
  refine sp (OpV.loadBox rfl pt_3 mq0 rfl) ?_
  refine sp (OpV.call (ec rfl e0) ca_60 (fun w hs => w_impl_isSide e1_7)) ?_
  refine sp (OpV.not rfl) ?_
  refine hkz1 _ ?_ ?_
  exact rfl
  repeat (first | exact Sub.refl _ | refine Sub.skip rfl ?_)
 case az1 => exact rfl
 case bz1 => exact rfl
 case cz1 => exact rfl
 case dz1 => exact rfl
 refine mv ?_
 refine Lt.ofWL.orQ 16 21 20 (p := ?pz2) (rest := ?qz2) (B := q1_15) rfl (fun hz => orO_t e1_15 hz) ?Tz2 ?Fz2 ?az2 ?bz2 ?cz2 ?dz2 ?ez2
 case Tz2 =>
  intro hcz2 hkz2
  refine sk ?_
  refine sk ?_
  refine sk ?_
  refine sk ?_
  refine hkz2 _ ?_
  repeat (first | exact Sub.refl _ | refine Sub.skip rfl ?_)
 case Fz2 =>
  intro hcz2 hkz2
  have hqz2 := orO_f e1_15 hcz2
  obtain ⟨x1_13, e1_13, hqz2⟩ := bnd hqz2
  obtain rfl := Option.some.inj hqz2
  refine sp (OpV.fieldAddr rfl fo_53_2) ?_
  refine sp (OpV.loadBox rfl pt_3 mq0 rfl) ?_
  refine sp (OpV.call (ec rfl e0) ca_65 (fun w hs => w_impl_isOpaquePixel e1_13)) ?_
  refine sp (OpV.not rfl) ?_
  refine hkz2 _ ?_ ?_
  exact rfl
  repeat (first | exact Sub.refl _ | refine Sub.skip rfl ?_)
 case az2 => exact rfl
 case bz2 => exact rfl
 case cz2 => exact rfl
 case dz2 => exact rfl
 refine mv ?_
 refine Lt.ofWL.or 22 27 26 (p := ?pz3) (rest := ?qz3) (B := ?Bz3) rfl ?Tz3 ?Fz3 ?az3 ?bz3 ?cz3 ?dz3 ?ez3
 case Tz3 =>
  intro hcz3 hkz3
  refine sk ?_
  refine sk ?_
  refine sk ?_
  refine sk ?_
  refine hkz3 _ ?_
  repeat (first | exact Sub.refl _ | refine Sub.skip rfl ?_)
 case Fz3 =>
  intro hcz3 hkz3
  refine sp (OpV.fieldAddr rfl fo_53_3) ?_
  refine sp (OpV.loadBox rfl pt_51 mq0 rfl) ?_
  refine sp (OpV.len rfl si_51 rfl) ?_
  refine sp (OpV.gtr rfl rfl) ?_
  refine hkz3 _ ?_ ?_
  exact rfl
  repeat (first | exact Sub.refl _ | refine Sub.skip rfl ?_)
 case az3 => exact rfl
 case bz3 => exact rfl
 case cz3 => exact rfl
 case dz3 => exact rfl
 refine WL.nil (En.next ?_)
 refine WC.cond rfl ?_ ?_
 ·
  intro hc_1
  replace h := ifO_t hc_1 h
  refine WC.sr ?_
  refine ag ?_
  refine WL.nil (En.next (WC.ret (En.then_ret ?_)))
  refine En.ret1 rfl (Res.tmp rfl) ?_
  obtain rfl := Option.some.inj h
  intro w' hs
  exact ⟨rfl, hs.below⟩
 ·
  intro hc_1
  replace h := ifO_f hc_1 h
  refine WC.skip (En.next (WC.sr ?_))
  refine WL.heavy rfl rfl rfl (OpH.makeMap ?_)
  intro b3_0
  refine ag ?_
  refine WL.nil (En.next (WC.seq (WC.sr ?_)))
  refine sp (OpV.fieldAddr rfl fo_53_3) ?_
  refine sp (OpV.loadBox rfl pt_51 mq1 rfl) ?_
  refine sp (OpV.len rfl si_51 rfl) ?_
  refine mv ?_
  refine WL.nil (En.next (WC.block ?_))
  obtain ⟨zy0, ezy0, h⟩ := bnd h
  refine WC.cut (X := (Unit) × (Unit)) (.exit 0) (fun x => zy0 = .inl x.1) (fun x => match x with | ((), ()) => []) (fun x => match x with | ((), ()) => []) ?_ ?_
  ·
   rintro ⟨⟨⟩, ⟨⟩⟩ hx
   replace hx : .inl () = zy0 := hx.symm
   subst hx
   replace h := fork_l h
   show En _ _ _ _ [] []
   refine En.block_exit (En.next (WC.sr ?_))
   refine ag ?_
   refine WL.nil (En.next (WC.ret ?_))
   refine En.ret1 rfl (Res.tmp rfl) ?_
   obtain rfl := Option.some.inj h
   intro w' hs
   exact ⟨rfl, hs.below⟩
  ·
   intro zK0_0
   refine WC.loopP (G := Unit) (fun s g => match s, g with | (seen_0, v_0), () => [(3, .map (some b3_0)), (30, .slice q0_0 s_p0.Surfaces.length k0_0), (31, .int .i64 (s_p0.Surfaces.length : Int)), (32, .int .i64 v_0)]) (fun s g => match s, g with | (seen_0, v_0), () => [Chunk.mapc b3_0 seen_0]) (([] : List (Int × Bool)), 0) () ezy0 (by exact sc (sc (sc (sc sn)))) (by exact (fun _ h => (h).sub (.cons_cons _ (.cons _ (.slnil))))) ?_
   rintro zm0 ⟨seen_0, v_0⟩ ⟨⟩ zo0 zf0 zb0 ze0
   have zh0 : impl_SceneOk_L0 s_p0 seen_0 v_0 = some zo0 := zf0
   unfold impl_SceneOk_L0 at zh0
   show WC _ _ _ _ _ [(3, .map (some b3_0)), (30, .slice q0_0 s_p0.Surfaces.length k0_0), (31, .int .i64 (s_p0.Surfaces.length : Int)), (32, .int .i64 v_0)] [Chunk.mapc b3_0 seen_0]
   refine WC.sr ?_
   refine sp (OpV.lss rfl rfl) ?_
   refine WL.nil (En.next (WC.seq ?_))
   refine WC.cond rfl ?_ ?_
   ·
    intro hc_2
    replace zh0 := ifO_t hc_2 zh0
    refine WC.skip (En.next (WC.seq (WC.block (WC.seq ?_))))
    obtain ⟨x6_0, e6_0, zh0⟩ := bnd zh0
    obtain ⟨g6_0, o6_0, _, ha6_0, ⟨a6_0_1, c6_0_1, rfl, r6_0_1⟩, hd6_0⟩ := Rd.atIdx r0_0 e6_0
    replace hd6_0 : ∀ (j : Nat) v, ([.int .i64 x6_0.Id, .int .i64 x6_0.X, .int .i64 x6_0.Y, .int .i64 x6_0.W, .int .i64 x6_0.H, .int .i64 x6_0.Alpha, .int .i64 x6_0.Orient, .bool x6_0.Visible, .int .i64 x6_0.Buffer.W, .int .i64 x6_0.Buffer.H, .slice a6_0_1 x6_0.Buffer.Data.length c6_0_1] : List Value)[j]? = some v → w.cell? ⟨g6_0, o6_0 + v_0.toNat * 11 + j, .none⟩ = some v := hd6_0
    refine WC.region ?_
    refine sp (OpV.idxA rfl rfl se_51 ha6_0 ⟨(idx_some e6_0).1, (idx_some e6_0).2.1⟩) ?_
    refine sp (OpV.loadN rfl ag_119 rfl (fun w hs => hs.cellsAt hd6_0)) ?_
    refine WL.heavy rfl rfl rfl (OpH.alloc zc_119 ?_)
    intro b6_2
    refine WL.heavy0 rfl rfl (OpH.storeTo (A := []) [_, _, _, _, _, _, _, _, _, _, _] rfl rfl rfl ts_119 rfl rfl rfl ?_)
    refine WL.nil (En.next (WC.seq (WC.seq ?_)))
    obtain ⟨q7_8, e7_8, zh0⟩ := bnd zh0
    refine WC.region ?_
    refine mv ?_
    refine sp (OpV.fieldAddr rfl fo_119_0) ?_
    refine sp (OpV.loadBox rfl pt_3 mq0 rfl) ?_
    refine sp (OpV.lookup rfl rfl mu_160 ui_3_i64 zv_4 mq1) ?_
    refine mv ?_
    refine Lt.ofWL.orQ 40 44 43 (p := ?pz4) (rest := ?qz4) (B := q7_8) rfl (fun hz => orO_t e7_8 hz) ?Tz4 ?Fz4 ?az4 ?bz4 ?cz4 ?dz4 ?ez4
    case Tz4 =>
     intro hcz4 hkz4
     refine sk ?_
     refine sk ?_
     refine sk ?_
     refine hkz4 _ ?_
     repeat (first | exact Sub.refl _ | refine Sub.skip rfl ?_)
    case Fz4 =>
     intro hcz4 hkz4
     have hqz4 := orO_f e7_8 hcz4
     obtain ⟨x7_6, e7_6, hqz4⟩ := bnd hqz4
     obtain rfl := Option.some.inj hqz4
     refine sp (OpV.loadAll rfl mq0 ag_119) ?_
     refine sp (OpV.call (ec rfl e0) ca_136 (fun w hs => w_impl_SurfaceOk e7_6 (r6_0_1.ext hs.below))) ?_
     refine sp (OpV.not rfl) ?_
     refine hkz4 _ ?_ ?_
     exact rfl
     repeat (first | exact Sub.refl _ | refine Sub.skip rfl ?_)
    case az4 => exact rfl
    case bz4 => exact rfl
    case cz4 => exact rfl
    case dz4 => exact rfl
    refine WL.nil (En.next ?_)
    refine WC.cond rfl ?_ ?_
    ·
     intro hc_3
     replace zh0 := ifO_t hc_3 zh0
     refine WC.sr ?_
     refine ag ?_
     refine WL.nil (En.next (WC.ret (En.then_ret (En.block_ret (En.then_ret (En.then_ret (En.block_ret (En.then_ret ?_))))))))
     refine En.ret1 rfl (Res.tmp rfl) ?_
     have hx := exitP ze0 zh0
     subst hx
     replace h := fork_r h
     obtain rfl := Option.some.inj h
     intro w' hs
     exact ⟨rfl, hs.below⟩
    ·
     intro hc_3
     replace zh0 := ifO_f hc_3 zh0
     refine WC.skip (En.next (WC.region ?_))
     refine mv ?_
     refine sp (OpV.fieldAddr rfl fo_119_0) ?_
     refine sp (OpV.loadBox rfl pt_3 mq0 rfl) ?_
     refine WL.heavy0 rfl rfl (OpH.mapUpdate (F := [_]) rfl rfl rfl mu_160 ui_3_i64 ?_)
     refine WL.nil (En.block_norm (En.next (WC.region ?_)))
     refine sp (OpV.addR rfl rfl) ?_
     refine mv ?_
     refine WL.nil ?_
     exact En.backP zb0 zh0 () (sc (sc (sc (sc sn)))) (fun _ h => ((h).pm 1).sub (.cons_cons _ (.cons _ (.slnil))))
   ·
    intro hc_2
    replace zh0 := ifO_f hc_2 zh0
    refine WC.exit (En.then_exit (En.then_exit ?_))
    have hx := exitP ze0 zh0
    exact En.wk _ _ sn (fun _ h => (h).sub (.cons _ (.slnil))) (zK0_0 ((), ()) hx.symm)

theorem w_impl_OptionsOk {o_p0 : OptionsT} {r : Bool}  (h : impl_OptionsOk o_p0 = some r) {w : World}    :
    Calls Try.prog 78 #[.agg #[.int .i64 o_p0.Overlays, .bool o_p0.Cursor, .int .i64 o_p0.Layout, .bool o_p0.Partial, .bool o_p0.Sleep, .bool o_p0.Secret]] w (fun en w' => en = .returned (.bool r) ∧ Ext w w') := by
 unfold impl_OptionsOk at h
 refine enter (vs := [_]) Try.func78 rfl rfl rfl rfl ?_
 refine WC.sr ?_
 refine WL.heavy rfl rfl rfl (OpH.box rfl rfl ?_)
 intro b0_0
 refine ag ?_
 refine WL.nil (En.next (WC.seq ?_))
 obtain ⟨x1_2, e1_2, h⟩ := bnd h
 obtain ⟨q1_7, e1_7, h⟩ := bnd h
 refine WC.region ?_
 refine sp (OpV.fieldAddr rfl fo_55_0) ?_
 refine sp (OpV.loadBox rfl pt_3 mq0 rfl) ?_
 refine sp (OpV.call (ec rfl (ec rfl (ec rfl e0))) ca_59 (fun w hs => w_impl_within e1_2)) ?_
 refine mv ?_
 refine Lt.ofWL.andQ 6 10 9 (p := ?pz1) (rest := ?qz1) (B := q1_7) rfl (fun hz => andO_f e1_7 hz) ?Tz1 ?Fz1 ?az1 ?bz1 ?cz1 ?dz1 ?ez1
 case Tz1 =>
  intro hcz1 hkz1
  have hqz1 := andO_t e1_7 hcz1
  obtain ⟨x1_6, e1_6, hqz1⟩ := bnd hqz1
  obtain rfl := Option.some.inj hqz1
  refine sp (OpV.fieldAddr rfl fo_55_2) ?_
  refine sp (OpV.loadBox rfl pt_3 mq0 rfl) ?_
  refine sp (OpV.call (ec rfl (ec rfl (ec rfl e0))) ca_59 (fun w hs => w_impl_within e1_6)) ?_
  refine hkz1 _ ?_ ?_
  exact rfl
  repeat (first | exact Sub.refl _ | refine Sub.skip rfl ?_)
 case Fz1 =>
  intro hcz1 hkz1
  refine sk ?_
  refine sk ?_
  refine sk ?_
  refine hkz1 _ ?_
  repeat (first | exact Sub.refl _ | refine Sub.skip rfl ?_)
 case az1 => exact rfl
 case bz1 => exact rfl
 case cz1 => exact rfl
 case dz1 => exact rfl
 refine ag ?_
 refine WL.nil (En.next (WC.ret ?_))
 refine En.ret1 rfl (Res.tmp rfl) ?_
 obtain rfl := Option.some.inj h
 intro w' hs
 exact ⟨rfl, hs.below⟩

theorem w_impl_TopVisible {s_p0 : SceneT} {n_p1 : Int} {r : Int} {q0_0 : Option Addr} {l0_0 k0_0 : Nat} (h : impl_TopVisible s_p0 n_p1 = some r) {w : World} (r0_0 : Rd tSurface w q0_0 l0_0 k0_0 s_p0.Surfaces)   :
    Calls Try.prog 84 #[.agg #[.int .i64 s_p0.W, .int .i64 s_p0.H, .int .i64 s_p0.Back, .slice q0_0 l0_0 k0_0], .int .i64 n_p1] w (fun en w' => en = .returned (.int .i64 r) ∧ Ext w w') := by
 obtain rfl := r0_0.1
 unfold impl_TopVisible at h
 refine enter (vs := [_, _]) Try.func84 rfl rfl rfl rfl ?_
 refine WC.sr ?_
 refine WL.heavy rfl rfl rfl (OpH.box rfl rfl ?_)
 intro b0_0
 refine ag ?_
 refine WL.nil (En.next (WC.seq (WC.seq ?_)))
 obtain ⟨x1_1, e1_1, h⟩ := bnd h
 refine WC.region ?_
 refine sp (OpV.loadAll rfl mq0 ag_53) ?_
 refine sp (OpV.call (ec rfl e0) ca_77 (fun w hs => w_impl_SceneOk e1_1 (r0_0.ext hs.below))) ?_
 refine sp (OpV.not rfl) ?_
 refine mv ?_
 refine Lt.ofWL.or 9 12 11 (p := ?pz1) (rest := ?qz1) (B := ?Bz1) rfl ?Tz1 ?Fz1 ?az1 ?bz1 ?cz1 ?dz1 ?ez1
 case Tz1 =>
  intro hcz1 hkz1
  refine sk ?_
  refine sk ?_
  refine hkz1 _ ?_
  repeat (first | exact Sub.refl _ | refine Sub.skip rfl ?_)
 case Fz1 =>
  intro hcz1 hkz1
  refine mv ?_
  refine sp (OpV.lss rfl rfl) ?_
  refine hkz1 _ ?_ ?_
  exact rfl
  repeat (first | exact Sub.refl _ | refine Sub.skip rfl ?_)
 case az1 => exact rfl
 case bz1 => exact rfl
 case cz1 => exact rfl
 case dz1 => exact rfl
 refine WL.nil (En.next ?_)
 refine WC.cond rfl ?_ ?_
 ·
  intro hc_1
  replace h := ifO_t hc_1 h
  refine WC.sr ?_
  refine ag ?_
  refine WL.nil (En.next (WC.ret (En.then_ret ?_)))
  refine En.ret1 rfl (Res.tmp rfl) ?_
  obtain rfl := Option.some.inj h
  intro w' hs
  exact ⟨rfl, hs.below⟩
 ·
  intro hc_1
  replace h := ifO_f hc_1 h
  refine WC.skip (En.next (WC.seq (WC.sr ?_)))
  refine sp (OpV.fieldAddr rfl fo_53_3) ?_
  refine sp (OpV.loadBox rfl pt_51 mq0 rfl) ?_
  refine sp (OpV.len rfl si_51 rfl) ?_
  refine sp (OpV.subR rfl rfl) ?_
  refine ag ?_
  refine WL.nil (En.next (WC.block ?_))
  obtain ⟨zy0, ezy0, h⟩ := bnd h
  refine WC.cut (X := (Unit) × (Unit)) (.exit 0) (fun x => zy0 = .inl x.1) (fun x => match x with | ((), ()) => []) (fun x => match x with | ((), ()) => []) ?_ ?_
  ·
   rintro ⟨⟨⟩, ⟨⟩⟩ hx
   replace hx : .inl () = zy0 := hx.symm
   subst hx
   replace h := fork_l h
   show En _ _ _ _ [] []
   refine En.block_exit (En.next (WC.sr ?_))
   refine ag ?_
   refine WL.nil (En.next (WC.ret ?_))
   refine En.ret1 rfl (Res.tmp rfl) ?_
   obtain rfl := Option.some.inj h
   intro w' hs
   exact ⟨rfl, hs.below⟩
  ·
   intro zK0_0
   refine WC.loopP (G := Unit) (fun s g => match s, g with | (n_0, k_0), () => [(1, .int .i64 n_0), (2, .pointer (some ⟨b0_0, 0, .none⟩)), (5, .int .i64 k_0)]) (fun s g => match s, g with | (n_0, k_0), () => [Chunk.box b0_0 53 [.int .i64 s_p0.W, .int .i64 s_p0.H, .int .i64 s_p0.Back, .slice q0_0 s_p0.Surfaces.length k0_0]]) (n_p1, (wr ((s_p0.Surfaces.length : Int) - 1))) () ezy0 (by exact sc (sc (sc sn))) (by exact (fun _ h => h)) ?_
   rintro zm0 ⟨n_0, k_0⟩ ⟨⟩ zo0 zf0 zb0 ze0
   have zh0 : impl_TopVisible_L0 s_p0 n_0 k_0 = some zo0 := zf0
   unfold impl_TopVisible_L0 at zh0
   show WC _ _ _ _ _ [(1, .int .i64 n_0), (2, .pointer (some ⟨b0_0, 0, .none⟩)), (5, .int .i64 k_0)] [Chunk.box b0_0 53 [.int .i64 s_p0.W, .int .i64 s_p0.H, .int .i64 s_p0.Back, .slice q0_0 s_p0.Surfaces.length k0_0]]
   refine WC.seq (WC.sr ?_)
   refine mv ?_
   refine sp (OpV.geq rfl rfl) ?_
   refine WL.nil (En.next ?_)
   refine WC.cond rfl ?_ ?_
   ·
    intro hc_2
    replace zh0 := ifO_t hc_2 zh0
    refine WC.skip (En.next (WC.seq (WC.block (WC.seq (WC.seq ?_)))))
    obtain ⟨x6_3, e6_3, zh0⟩ := bnd zh0
    obtain ⟨g6_3, o6_3, _, ha6_3, ⟨a6_3_1, c6_3_1, rfl, r6_3_1⟩, hd6_3⟩ := Rd.atIdx r0_0 e6_3
    replace hd6_3 : ∀ (j : Nat) v, ([.int .i64 x6_3.Id, .int .i64 x6_3.X, .int .i64 x6_3.Y, .int .i64 x6_3.W, .int .i64 x6_3.H, .int .i64 x6_3.Alpha, .int .i64 x6_3.Orient, .bool x6_3.Visible, .int .i64 x6_3.Buffer.W, .int .i64 x6_3.Buffer.H, .slice a6_3_1 x6_3.Buffer.Data.length c6_3_1] : List Value)[j]? = some v → w.cell? ⟨g6_3, o6_3 + k_0.toNat * 11 + j, .none⟩ = some v := hd6_3
    refine WC.region ?_
    refine sp (OpV.fieldAddr rfl fo_53_3) ?_
    refine sp (OpV.loadBox rfl pt_51 mq0 rfl) ?_
    refine mv ?_
    refine sp (OpV.idxA rfl rfl se_51 ha6_3 ⟨(idx_some e6_3).1, (idx_some e6_3).2.1⟩) ?_
    refine sp (OpV.fieldAddr rfl fo_119_7) ?_
    refine sp (OpV.load1 rfl pt_4 (fun w hs => hs.cell (hd6_3 7 _ rfl))) ?_
    refine sp (OpV.not rfl) ?_
    refine WL.nil (En.next ?_)
    refine WC.cond rfl ?_ ?_
    ·
     intro hc_3
     replace zh0 := ifO_t hc_3 zh0
     refine WC.exit (En.then_exit (En.block_exit (En.next (WC.region ?_))))
     refine mv ?_
     refine sp (OpV.subR rfl rfl) ?_
     refine ag ?_
     refine WL.nil ?_
     exact En.backP zb0 zh0 () (sc (sc (sc sn))) (fun _ h => h)
    ·
     intro hc_3
     replace zh0 := ifO_f hc_3 zh0
     refine WC.skip (En.next (WC.seq (WC.sr ?_)))
     refine mv ?_
     refine sp (OpV.eql rfl rfl) ?_
     refine WL.nil (En.next ?_)
     refine WC.cond rfl ?_ ?_
     ·
      intro hc_4
      replace zh0 := ifO_t hc_4 zh0
      refine WC.sr ?_
      refine mv ?_
      refine ag ?_
      refine WL.nil (En.next (WC.ret (En.then_ret (En.block_ret (En.then_ret (En.then_ret (En.block_ret (En.then_ret ?_))))))))
      refine En.ret1 rfl (Res.tmp rfl) ?_
      have hx := exitP ze0 zh0
      subst hx
      replace h := fork_r h
      obtain rfl := Option.some.inj h
      intro w' hs
      exact ⟨rfl, hs.below⟩
     ·
      intro hc_4
      replace zh0 := ifO_f hc_4 zh0
      refine WC.skip (En.next (WC.region ?_))
      refine mv ?_
      refine sp (OpV.subR rfl rfl) ?_
      refine ag ?_
      refine WL.nil (En.block_norm (En.next (WC.region ?_)))
      refine mv ?_
      refine sp (OpV.subR rfl rfl) ?_
      refine ag ?_
      refine WL.nil ?_
      exact En.backP zb0 zh0 () (sc (sc (sc sn))) (fun _ h => h)
   ·
    intro hc_2
    replace zh0 := ifO_f hc_2 zh0
    refine WC.exit (En.then_exit (En.then_exit ?_))
    have hx := exitP ze0 zh0
    exact En.wk _ _ sn (fun _ h => (h).sub (.cons _ (.slnil))) (zK0_0 ((), ()) hx.symm)

theorem w_impl_FitsCursor {s_p0 : SurfaceT} {r : Bool} {q0_0 : Option Addr} {l0_0 k0_0 : Nat} (h : impl_FitsCursor s_p0 = some r) {w : World} (r0_0 : Rd tInt w q0_0 l0_0 k0_0 s_p0.Buffer.Data)   :
    Calls Try.prog 85 #[.agg #[.int .i64 s_p0.Id, .int .i64 s_p0.X, .int .i64 s_p0.Y, .int .i64 s_p0.W, .int .i64 s_p0.H, .int .i64 s_p0.Alpha, .int .i64 s_p0.Orient, .bool s_p0.Visible, .int .i64 s_p0.Buffer.W, .int .i64 s_p0.Buffer.H, .slice q0_0 l0_0 k0_0]] w (fun en w' => en = .returned (.bool r) ∧ Ext w w') := by
 obtain rfl := r0_0.1
 unfold impl_FitsCursor at h
 refine enter (vs := [_]) Try.func85 rfl rfl rfl rfl ?_
 refine WC.sr ?_
 refine WL.heavy rfl rfl rfl (OpH.box rfl rfl ?_)
 intro b0_0
 refine ag ?_
 refine WL.nil (En.next (WC.seq ?_))
 obtain ⟨x1_1, e1_1, h⟩ := bnd h
 refine WC.region ?_
 refine sp (OpV.loadAll rfl mq0 ag_119) ?_
 refine sp (OpV.call (ec rfl e0) ca_136 (fun w hs => w_impl_SurfaceOk e1_1 (r0_0.ext hs.below))) ?_
 refine mv ?_
 refine Lt.ofWL.and 5 9 8 (p := ?pz1) (rest := ?qz1) (B := ?Bz1) rfl ?Tz1 ?Fz1 ?az1 ?bz1 ?cz1 ?dz1 ?ez1
 case Tz1 =>
  intro hcz1 hkz1
  refine sp (OpV.fieldAddr rfl fo_119_5) ?_
  refine sp (OpV.loadBox rfl pt_3 mq0 rfl) ?_
  refine sp (OpV.eql rfl rfl) ?_
  refine hkz1 _ ?_ ?_
  exact rfl
  repeat (first | exact Sub.refl _ | refine Sub.skip rfl ?_)
 case Fz1 =>
  intro hcz1 hkz1
  refine sk ?_
  refine sk ?_
  refine sk ?_
  refine hkz1 _ ?_
  repeat (first | exact Sub.refl _ | refine Sub.skip rfl ?_)
 case az1 => exact rfl
 case bz1 => exact rfl
 case cz1 => exact rfl
 case dz1 => exact rfl
 refine mv ?_
 refine Lt.ofWL.and 10 14 13 (p := ?pz2) (rest := ?qz2) (B := ?Bz2) rfl ?Tz2 ?Fz2 ?az2 ?bz2 ?cz2 ?dz2 ?ez2
 case Tz2 =>
  intro hcz2 hkz2
  refine sp (OpV.fieldAddr rfl fo_119_6) ?_
  refine sp (OpV.loadBox rfl pt_3 mq0 rfl) ?_
  refine sp (OpV.eql rfl rfl) ?_
  refine hkz2 _ ?_ ?_
  exact rfl
  repeat (first | exact Sub.refl _ | refine Sub.skip rfl ?_)
 case Fz2 =>
  intro hcz2 hkz2
  refine sk ?_
  refine sk ?_
  refine sk ?_
  refine hkz2 _ ?_
  repeat (first | exact Sub.refl _ | refine Sub.skip rfl ?_)
 case az2 => exact rfl
 case bz2 => exact rfl
 case cz2 => exact rfl
 case dz2 => exact rfl
 refine mv ?_
 refine Lt.ofWL.and 15 19 18 (p := ?pz3) (rest := ?qz3) (B := ?Bz3) rfl ?Tz3 ?Fz3 ?az3 ?bz3 ?cz3 ?dz3 ?ez3
 case Tz3 =>
  intro hcz3 hkz3
  refine sp (OpV.fieldAddr rfl fo_119_3) ?_
  refine sp (OpV.loadBox rfl pt_3 mq0 rfl) ?_
  refine sp (OpV.eql rfl rfl) ?_
  refine hkz3 _ ?_ ?_
  exact rfl
  repeat (first | exact Sub.refl _ | refine Sub.skip rfl ?_)
 case Fz3 =>
  intro hcz3 hkz3
  refine sk ?_
  refine sk ?_
  refine sk ?_
  refine hkz3 _ ?_
  repeat (first | exact Sub.refl _ | refine Sub.skip rfl ?_)
 case az3 => exact rfl
 case bz3 => exact rfl
 case cz3 => exact rfl
 case dz3 => exact rfl
 refine mv ?_
 refine Lt.ofWL.and 20 24 23 (p := ?pz4) (rest := ?qz4) (B := ?Bz4) rfl ?Tz4 ?Fz4 ?az4 ?bz4 ?cz4 ?dz4 ?ez4
 case Tz4 =>
  intro hcz4 hkz4
  refine sp (OpV.fieldAddr rfl fo_119_4) ?_
  refine sp (OpV.loadBox rfl pt_3 mq0 rfl) ?_
  refine sp (OpV.eql rfl rfl) ?_
  refine hkz4 _ ?_ ?_
  exact rfl
  repeat (first | exact Sub.refl _ | refine Sub.skip rfl ?_)
 case Fz4 =>
  intro hcz4 hkz4
  refine sk ?_
  refine sk ?_
  refine sk ?_
  refine hkz4 _ ?_
  repeat (first | exact Sub.refl _ | refine Sub.skip rfl ?_)
 case az4 => exact rfl
 case bz4 => exact rfl
 case cz4 => exact rfl
 case dz4 => exact rfl
 refine mv ?_
 refine Lt.ofWL.and 25 30 29 (p := ?pz5) (rest := ?qz5) (B := ?Bz5) rfl ?Tz5 ?Fz5 ?az5 ?bz5 ?cz5 ?dz5 ?ez5
 case Tz5 =>
  intro hcz5 hkz5
  refine sp (OpV.fieldAddr rfl fo_119_8) ?_
  refine sp (OpV.fieldAddr rfl fo_33_0) ?_
  refine sp (OpV.loadBox rfl pt_3 mq0 rfl) ?_
  refine sp (OpV.leq rfl rfl) ?_
  refine hkz5 _ ?_ ?_
  exact rfl
  repeat (first | exact Sub.refl _ | refine Sub.skip rfl ?_)
 case Fz5 =>
  intro hcz5 hkz5
  refine sk ?_
  refine sk ?_
  refine sk ?_
  refine sk ?_
  refine hkz5 _ ?_
  repeat (first | exact Sub.refl _ | refine Sub.skip rfl ?_)
 case az5 => exact rfl
 case bz5 => exact rfl
 case cz5 => exact rfl
 case dz5 => exact rfl
 refine mv ?_
 refine Lt.ofWL.and 31 36 35 (p := ?pz6) (rest := ?qz6) (B := ?Bz6) rfl ?Tz6 ?Fz6 ?az6 ?bz6 ?cz6 ?dz6 ?ez6
 case Tz6 =>
  intro hcz6 hkz6
  refine sp (OpV.fieldAddr rfl fo_119_8) ?_
  refine sp (OpV.fieldAddr rfl fo_33_1) ?_
  refine sp (OpV.loadBox rfl pt_3 mq0 rfl) ?_
  refine sp (OpV.leq rfl rfl) ?_
  refine hkz6 _ ?_ ?_
  exact rfl
  repeat (first | exact Sub.refl _ | refine Sub.skip rfl ?_)
 case Fz6 =>
  intro hcz6 hkz6
  refine sk ?_
  refine sk ?_
  refine sk ?_
  refine sk ?_
  refine hkz6 _ ?_
  repeat (first | exact Sub.refl _ | refine Sub.skip rfl ?_)
 case az6 => exact rfl
 case bz6 => exact rfl
 case cz6 => exact rfl
 case dz6 => exact rfl
 refine ag ?_
 refine WL.nil (En.next (WC.ret ?_))
 refine En.ret1 rfl (Res.tmp rfl) ?_
 obtain rfl := Option.some.inj h
 intro w' hs
 exact ⟨rfl, hs.below⟩

theorem w_impl_AssignedOf {a_p0 : SceneT} {a_p1 : OptionsT} {r : (List Int) × Int} {q0_0 : Option Addr} {l0_0 k0_0 : Nat} (h : impl_AssignedOf a_p0 a_p1 = some r) {w : World} (r0_0 : Rd tSurface w q0_0 l0_0 k0_0 a_p0.Surfaces)   :
    Calls Try.prog 26 #[.agg #[.int .i64 a_p0.W, .int .i64 a_p0.H, .int .i64 a_p0.Back, .slice q0_0 l0_0 k0_0], .agg #[.int .i64 a_p1.Overlays, .bool a_p1.Cursor, .int .i64 a_p1.Layout, .bool a_p1.Partial, .bool a_p1.Sleep, .bool a_p1.Secret]] w (fun en w' => ∃ rv G, en = .returned rv ∧ (∃ (a0_0 : Option Addr) (n0_0 : Nat) (c0_0 : Nat) (f0_0 : List Nat), rv = .tuple #[.slice a0_0 n0_0 c0_0, .int .i64 r.2] ∧ G = [Chunk.own tInt f0_0 a0_0 n0_0 c0_0 r.1]) ∧ St w G w') := by
 obtain rfl := r0_0.1
 unfold impl_AssignedOf at h
 refine enter (vs := [_, _]) Try.func26 rfl rfl rfl rfl ?_
 refine WC.sr ?_
 refine WL.heavy rfl rfl rfl (OpH.box rfl rfl ?_)
 intro b0_0
 refine WL.heavy rfl rfl rfl (OpH.box rfl rfl ?_)
 intro b0_1
 refine ag ?_
 refine ag ?_
 refine WL.nil (En.next (WC.seq (WC.seq ?_)))
 obtain ⟨x1_1, e1_1, h⟩ := bnd h
 obtain ⟨q1_7, e1_7, h⟩ := bnd h
 refine WC.region ?_
 refine sp (OpV.loadAll rfl mq1 ag_53) ?_
 refine sp (OpV.call (ec rfl e0) ca_77 (fun w hs => w_impl_SceneOk e1_1 (r0_0.ext hs.below))) ?_
 refine sp (OpV.not rfl) ?_
 refine mv ?_
 refine Lt.ofWL.orQ 14 18 17 (p := ?pz1) (rest := ?qz1) (B := q1_7) rfl (fun hz => orO_t e1_7 hz) ?Tz1 ?Fz1 ?az1 ?bz1 ?cz1 ?dz1 ?ez1
 case Tz1 =>
  intro hcz1 hkz1
  refine sk ?_
  refine sk ?_
  refine sk ?_
  refine hkz1 _ ?_
  repeat (first | exact Sub.refl _ | refine Sub.skip rfl ?_)
 case Fz1 =>
  intro hcz1 hkz1
  have hqz1 := orO_f e1_7 hcz1
  obtain ⟨x1_5, e1_5, hqz1⟩ := bnd hqz1
  obtain rfl := Option.some.inj hqz1
  refine sp (OpV.loadAll rfl mq0 ag_55) ?_
  refine sp (OpV.call (ec rfl e0) ca_78 (fun w hs => w_impl_OptionsOk e1_5)) ?_
  refine sp (OpV.not rfl) ?_
  refine hkz1 _ ?_ ?_
  exact rfl
  repeat (first | exact Sub.refl _ | refine Sub.skip rfl ?_)
 case az1 => exact rfl
 case bz1 => exact rfl
 case cz1 => exact rfl
 case dz1 => exact rfl
 refine WL.nil (En.next ?_)
 refine WC.cond rfl ?_ ?_
 ·
  intro hc_1
  replace h := ifO_t hc_1 h
  refine WC.sr ?_
  refine ag ?_
  refine ag ?_
  refine WL.nil (En.next (WC.ret (En.then_ret ?_)))
  refine En.ret2 rfl (Res.tmp rfl) (Res.tmp rfl) ?_
  obtain rfl := Option.some.inj h
  intro w' hs
  have hs := ((hs).ownNil (A := tInt)).sub (.cons_cons _ (.cons _ (.cons _ (.slnil))))
  exact ⟨_, _, rfl, ⟨.none, 0, 0, [], rfl, rfl⟩, hs⟩
 ·
  intro hc_1
  replace h := ifO_f hc_1 h
  refine WC.skip (En.next (WC.sr ?_))
  refine WL.heavy rfl rfl rfl (OpH.litF (A := tInt) (xs := [(-1), (-1), (-1)]) tInt_flat (evps.cons rfl (evps.cons rfl (evps.cons rfl (evps.nil)))) (bs_28_3_0_1_2 _ _ _) rfl rfl (Nat.le_of_ble_eq_true rfl) ?_)
  intro b3_0
  refine ag ?_
  refine WL.nil (En.next (WC.sr ?_))
  refine ag ?_
  refine WL.nil (En.next (WC.seq ?_))
  obtain ⟨x5_1, e5_1, h⟩ := bnd h
  refine WC.region ?_
  refine sp (OpV.loadAll rfl mq2 ag_53) ?_
  refine sp (OpV.call (ec rfl (ec rfl e0)) ca_84 (fun w hs => w_impl_TopVisible e5_1 (r0_0.ext hs.below))) ?_
  refine ag ?_
  refine WL.nil (En.next (WC.seq (WC.seq ?_)))
  obtain ⟨q6_13, e6_13, h⟩ := bnd h
  refine WC.region ?_
  refine sp (OpV.fieldAddr rfl fo_55_1) ?_
  refine sp (OpV.loadBox rfl pt_4 mq1 rfl) ?_
  refine mv ?_
  refine Lt.ofWL.and 24 27 26 (p := ?pz2) (rest := ?qz2) (B := ?Bz2) rfl ?Tz2 ?Fz2 ?az2 ?bz2 ?cz2 ?dz2 ?ez2
  case Tz2 =>
   intro hcz2 hkz2
   refine mv ?_
   refine sp (OpV.geq rfl rfl) ?_
   refine hkz2 _ ?_ ?_
   exact rfl
   repeat (first | exact Sub.refl _ | refine Sub.skip rfl ?_)
  case Fz2 =>
   intro hcz2 hkz2
   refine sk ?_
   refine sk ?_
   refine hkz2 _ ?_
   repeat (first | exact Sub.refl _ | refine Sub.skip rfl ?_)
  case az2 => exact rfl
  case bz2 => exact rfl
  case cz2 => exact rfl
  case dz2 => exact rfl
  refine mv ?_
  refine Lt.ofWL.andQ 28 35 34 (p := ?pz3) (rest := ?qz3) (B := q6_13) rfl (fun hz => andO_f e6_13 hz) ?Tz3 ?Fz3 ?az3 ?bz3 ?cz3 ?dz3 ?ez3
  case Tz3 =>
   intro hcz3 hkz3
   have hqz3 := andO_t e6_13 hcz3
   obtain ⟨x6_10, e6_10, hqz3⟩ := bnd hqz3
   obtain ⟨g6_10, o6_10, _, ha6_10, ⟨a6_10_1, c6_10_1, rfl, r6_10_1⟩, hd6_10⟩ := Rd.atIdx r0_0 e6_10
   replace hd6_10 : ∀ (j : Nat) v, ([.int .i64 x6_10.Id, .int .i64 x6_10.X, .int .i64 x6_10.Y, .int .i64 x6_10.W, .int .i64 x6_10.H, .int .i64 x6_10.Alpha, .int .i64 x6_10.Orient, .bool x6_10.Visible, .int .i64 x6_10.Buffer.W, .int .i64 x6_10.Buffer.H, .slice a6_10_1 x6_10.Buffer.Data.length c6_10_1] : List Value)[j]? = some v → w.cell? ⟨g6_10, o6_10 + x5_1.toNat * 11 + j, .none⟩ = some v := hd6_10
   obtain ⟨x6_12, e6_12, hqz3⟩ := bnd hqz3
   obtain rfl := Option.some.inj hqz3
   refine sp (OpV.fieldAddr rfl fo_53_3) ?_
   refine sp (OpV.loadBox rfl pt_51 mq2 rfl) ?_
   refine mv ?_
   refine sp (OpV.idxA rfl rfl se_51 ha6_10 ⟨(idx_some e6_10).1, (idx_some e6_10).2.1⟩) ?_
   refine sp (OpV.loadN rfl ag_119 rfl (fun w hs => hs.cellsAt hd6_10)) ?_
   refine sp (OpV.call (ec rfl e0) ca_85 (fun w hs => w_impl_FitsCursor e6_12 (r6_10_1.ext hs.below))) ?_
   refine hkz3 _ ?_ ?_
   exact rfl
   repeat (first | exact Sub.refl _ | refine Sub.skip rfl ?_)
  case Fz3 =>
   intro hcz3 hkz3
   refine sk ?_
   refine sk ?_
   refine sk ?_
   refine sk ?_
   refine sk ?_
   refine sk ?_
   refine hkz3 _ ?_
   repeat (first | exact Sub.refl _ | refine Sub.skip rfl ?_)
  case az3 => exact rfl
  case bz3 => exact rfl
  case cz3 => exact rfl
  case dz3 => exact rfl
  refine WL.nil (En.next ?_)
  refine WC.cond rfl ?_ ?_
  ·
   intro hc_2
   replace h := ifO_t hc_2 h
   refine WC.seq ?_
   refine WC.inh fun hin7 => ?_
   have hn7_2 := ownLen hin7 mq0
   obtain ⟨x7_3, e7_3, h⟩ := bnd h
   obtain ⟨g7_2, o7_2, ha7_2⟩ := ownAddrU hin7 mq0 e7_3
   refine WC.region ?_
   refine mv ?_
   refine mv ?_
   refine sp (OpV.idxA rfl rfl se_28 ha7_2 ⟨(upd_some e7_3).1.1, by rw [hn7_2]; exact (upd_some e7_3).1.2⟩) ?_
   refine WL.wkF (fun _ h => St.elFlat tInt_flat x5_1 h) ?_
   refine WL.heavy0 rfl rfl (OpH.setEl (A := tInt) ha7_2 rfl rfl rfl ts_3 e7_3 ?_)
   intro f7_3
   refine WL.nil (En.next (WC.sr ?_))
   refine mv ?_
   refine sp (OpV.addR rfl rfl) ?_
   refine ag ?_
   refine WL.nil (En.next ?_)
   obtain ⟨x9_2, e9_2, h⟩ := bnd h
   refine WC.region ?_
   refine sp (OpV.loadAll rfl mq2 ag_53) ?_
   refine mv ?_
   refine sp (OpV.call (ec rfl (ec rfl e0)) ca_84 (fun w hs => w_impl_TopVisible e9_2 (r0_0.ext hs.below))) ?_
   refine ag ?_
   refine WL.nil (En.next (WC.sr ?_))
   refine ag ?_
   refine WL.nil (En.next (WC.seq (WC.sr ?_)))
   refine sp (OpV.fieldAddr rfl fo_55_0) ?_
   refine sp (OpV.loadBox rfl pt_3 mq1 rfl) ?_
   refine ag ?_
   refine WL.nil (En.next (WC.block ?_))
   obtain ⟨zy0, ezy0, h⟩ := bnd h
   refine WC.cut (X := ((List Int) × Int) × ((List Nat))) (.exit 0) (fun x => zy0 = x.1) (fun x => match x with | ((v_0e, v1_0e), fv_0e) => [(6, .slice (some ⟨b3_0, 0, .none⟩) 3 3), (7, .int .i64 v1_0e)]) (fun x => match x with | ((v_0e, v1_0e), fv_0e) => [Chunk.own tInt fv_0e (some ⟨b3_0, 0, .none⟩) 3 3 v_0e]) ?_ ?_
   ·
    rintro ⟨⟨v_0e, v1_0e⟩, fv_0e⟩ hx
    replace hx : (v_0e, v1_0e) = zy0 := hx.symm
    subst hx
    show En _ _ _ _ [(6, .slice (some ⟨b3_0, 0, .none⟩) 3 3), (7, .int .i64 v1_0e)] [Chunk.own tInt fv_0e (some ⟨b3_0, 0, .none⟩) 3 3 v_0e]
    refine En.block_exit (En.next (WC.sr ?_))
    refine mv ?_
    refine mv ?_
    refine ag ?_
    refine ag ?_
    refine WL.nil (En.next (WC.ret ?_))
    refine En.ret2 rfl (Res.tmp rfl) (Res.tmp rfl) ?_
    obtain rfl := Option.some.inj h
    intro w' hs
    have hs := hs
    exact ⟨_, _, rfl, ⟨(some ⟨b3_0, 0, .none⟩), 3, 3, fv_0e, rfl, rfl⟩, hs⟩
   ·
    intro zK0_0
    refine WC.loopP (G := (List Nat)) (fun s g => match s, g with | (v_0, v1_0, v2_0, v3_0, v4_0), fv_0 => [(2, .pointer (some ⟨b0_0, 0, .none⟩)), (6, .slice (some ⟨b3_0, 0, .none⟩) 3 3), (7, .int .i64 v1_0), (8, .int .i64 v2_0), (9, .bool v3_0), (10, .int .i64 v4_0)]) (fun s g => match s, g with | (v_0, v1_0, v2_0, v3_0, v4_0), fv_0 => [Chunk.box b0_0 53 [.int .i64 a_p0.W, .int .i64 a_p0.H, .int .i64 a_p0.Back, .slice q0_0 a_p0.Surfaces.length k0_0], Chunk.own tInt fv_0 (some ⟨b3_0, 0, .none⟩) 3 3 v_0]) (x7_3, (wr (0 + 1)), x9_2, false, a_p1.Overlays) f7_3 ezy0 (by exact sc (sc (sc (sc (sc (sc sn)))))) (by exact (fun _ h => ((h).pm 2).sub (.cons_cons _ (.cons_cons _ (.cons _ (.slnil)))))) ?_
    rintro zm0 ⟨v_0, v1_0, v2_0, v3_0, v4_0⟩ fv_0 zo0 zf0 zb0 ze0
    have zh0 : impl_AssignedOf_L0 a_p0 v_0 v1_0 v2_0 v3_0 v4_0 = some zo0 := zf0
    unfold impl_AssignedOf_L0 at zh0
    show WC _ _ _ _ _ [(2, .pointer (some ⟨b0_0, 0, .none⟩)), (6, .slice (some ⟨b3_0, 0, .none⟩) 3 3), (7, .int .i64 v1_0), (8, .int .i64 v2_0), (9, .bool v3_0), (10, .int .i64 v4_0)] [Chunk.box b0_0 53 [.int .i64 a_p0.W, .int .i64 a_p0.H, .int .i64 a_p0.Back, .slice q0_0 a_p0.Surfaces.length k0_0], Chunk.own tInt fv_0 (some ⟨b3_0, 0, .none⟩) 3 3 v_0]
    refine WC.seq (WC.sr ?_)
    refine mv ?_
    refine sp (OpV.geq rfl rfl) ?_
    refine WL.nil (En.next ?_)
    refine WC.cond rfl ?_ ?_
    ·
     intro hc_3
     replace zh0 := ifO_t hc_3 zh0
     refine WC.skip (En.next (WC.seq (WC.block (WC.seq (WC.seq ?_)))))
     obtain ⟨q14_13, e14_13, zh0⟩ := bnd zh0
     refine WC.region ?_
     refine mv ?_
     refine sp (OpV.lss rfl rfl) ?_
     refine mv ?_
     refine Lt.ofWL.orQ 52 63 62 (p := ?pz4) (rest := ?qz4) (B := q14_13) rfl (fun hz => orO_t e14_13 hz) ?Tz4 ?Fz4 ?az4 ?bz4 ?cz4 ?dz4 ?ez4
     case Tz4 =>
      intro hcz4 hkz4
      refine sk ?_
      refine sk ?_
      refine sk ?_
      refine sk ?_
      refine sk ?_
      refine sk ?_
      refine sk ?_
      refine sk ?_
      refine sk ?_
      refine sk ?_
      refine hkz4 _ ?_
      repeat (first | exact Sub.refl _ | refine Sub.skip rfl ?_)
     case Fz4 =>
      intro hcz4 hkz4
      have hqz4 := orO_f e14_13 hcz4
      obtain ⟨x14_6, e14_6, hqz4⟩ := bnd hqz4
      obtain ⟨g14_6, o14_6, _, ha14_6, ⟨a14_6_1, c14_6_1, rfl, r14_6_1⟩, hd14_6⟩ := Rd.atIdx r0_0 e14_6
      replace hd14_6 : ∀ (j : Nat) v, ([.int .i64 x14_6.Id, .int .i64 x14_6.X, .int .i64 x14_6.Y, .int .i64 x14_6.W, .int .i64 x14_6.H, .int .i64 x14_6.Alpha, .int .i64 x14_6.Orient, .bool x14_6.Visible, .int .i64 x14_6.Buffer.W, .int .i64 x14_6.Buffer.H, .slice a14_6_1 x14_6.Buffer.Data.length c14_6_1] : List Value)[j]? = some v → w.cell? ⟨g14_6, o14_6 + v2_0.toNat * 11 + j, .none⟩ = some v := hd14_6
      obtain rfl := Option.some.inj hqz4
      refine sp (OpV.fieldAddr rfl fo_53_3) ?_
      refine sp (OpV.loadBox rfl pt_51 mq0 rfl) ?_
      refine mv ?_
      refine sp (OpV.idxA rfl rfl se_51 ha14_6 ⟨(idx_some e14_6).1, (idx_some e14_6).2.1⟩) ?_
      refine sp (OpV.fieldAddr rfl fo_119_3) ?_
      refine sp (OpV.load1 rfl pt_3 (fun w hs => hs.cell (hd14_6 3 _ rfl))) ?_
      refine sp (OpV.neq rfl rfl) ?_
      refine mv ?_
      refine Lt.ofWL.and 60 62 61 (p := ?pz5) (rest := ?qz5) (B := ?Bz5) rfl ?Tz5 ?Fz5 ?az5 ?bz5 ?cz5 ?dz5 ?ez5
      case Tz5 =>
       intro hcz5 hkz5
       refine mv ?_
       refine hkz5 _ ?_ ?_
       exact rfl
       repeat (first | exact Sub.refl _ | refine Sub.skip rfl ?_)
      case Fz5 =>
       intro hcz5 hkz5
       refine sk ?_
       refine hkz5 _ ?_
       repeat (first | exact Sub.refl _ | refine Sub.skip rfl ?_)
      case az5 => exact rfl
      case bz5 => exact rfl
      case cz5 => exact rfl
      case dz5 => exact rfl
      refine hkz4 _ ?_ ?_
      exact rfl
      repeat (first | exact Sub.refl _ | refine Sub.skip rfl ?_)
     case az4 => exact rfl
     case bz4 => exact rfl
     case cz4 => exact rfl
     case dz4 => exact rfl
     refine WL.nil (En.next ?_)
     refine WC.cond rfl ?_ ?_
     ·
      intro hc_4
      replace zh0 := ifO_t hc_4 zh0
      refine WC.exit (En.then_exit ?_)
      refine En.block_exit' rfl ?_
      refine En.then_exit (En.then_exit ?_)
      have hx := exitP ze0 zh0
      exact En.wk _ _ (sc (sc sn)) (fun _ h => ((h).pm 1).sub (.cons_cons _ (.cons _ (.slnil)))) (zK0_0 ((v_0, v1_0), fv_0) hx.symm)
     ·
      intro hc_4
      replace zh0 := ifO_f hc_4 zh0
      refine WC.skip (En.next (WC.seq ?_))
      obtain ⟨q15_9, e15_9, zh0⟩ := bnd zh0
      refine WC.region ?_
      refine mv ?_
      refine mv ?_
      refine Lt.ofWL.orQ 65 73 72 (p := ?pz6) (rest := ?qz6) (B := q15_9) rfl (fun hz => orO_t e15_9 hz) ?Tz6 ?Fz6 ?az6 ?bz6 ?cz6 ?dz6 ?ez6
      case Tz6 =>
       intro hcz6 hkz6
       refine sk ?_
       refine sk ?_
       refine sk ?_
       refine sk ?_
       refine sk ?_
       refine sk ?_
       refine sk ?_
       refine hkz6 _ ?_
       repeat (first | exact Sub.refl _ | refine Sub.skip rfl ?_)
      case Fz6 =>
       intro hcz6 hkz6
       have hqz6 := orO_f e15_9 hcz6
       obtain ⟨x15_5, e15_5, hqz6⟩ := bnd hqz6
       obtain ⟨g15_5, o15_5, _, ha15_5, ⟨a15_5_1, c15_5_1, rfl, r15_5_1⟩, hd15_5⟩ := Rd.atIdx r0_0 e15_5
       replace hd15_5 : ∀ (j : Nat) v, ([.int .i64 x15_5.Id, .int .i64 x15_5.X, .int .i64 x15_5.Y, .int .i64 x15_5.W, .int .i64 x15_5.H, .int .i64 x15_5.Alpha, .int .i64 x15_5.Orient, .bool x15_5.Visible, .int .i64 x15_5.Buffer.W, .int .i64 x15_5.Buffer.H, .slice a15_5_1 x15_5.Buffer.Data.length c15_5_1] : List Value)[j]? = some v → w.cell? ⟨g15_5, o15_5 + v2_0.toNat * 11 + j, .none⟩ = some v := hd15_5
       obtain rfl := Option.some.inj hqz6
       refine sp (OpV.fieldAddr rfl fo_53_3) ?_
       refine sp (OpV.loadBox rfl pt_51 mq0 rfl) ?_
       refine mv ?_
       refine sp (OpV.idxA rfl rfl se_51 ha15_5 ⟨(idx_some e15_5).1, (idx_some e15_5).2.1⟩) ?_
       refine sp (OpV.fieldAddr rfl fo_119_3) ?_
       refine sp (OpV.load1 rfl pt_3 (fun w hs => hs.cell (hd15_5 3 _ rfl))) ?_
       refine sp (OpV.neq rfl rfl) ?_
       refine hkz6 _ ?_ ?_
       exact rfl
       repeat (first | exact Sub.refl _ | refine Sub.skip rfl ?_)
      case az6 => exact rfl
      case bz6 => exact rfl
      case cz6 => exact rfl
      case dz6 => exact rfl
      refine ag ?_
      refine WL.nil (En.next (WC.seq ?_))
      refine WC.inh fun hin16 => ?_
      have hn16_4 := ownLen hin16 mq1
      obtain ⟨x16_5, e16_5, zh0⟩ := bnd zh0
      obtain ⟨g16_4, o16_4, ha16_4⟩ := ownAddrU hin16 mq1 e16_5
      refine WC.region ?_
      refine mv ?_
      refine mv ?_
      refine sp (OpV.subR rfl rfl) ?_
      refine mv ?_
      refine sp (OpV.idxA rfl rfl se_28 ha16_4 ⟨(upd_some e16_5).1.1, by rw [hn16_4]; exact (upd_some e16_5).1.2⟩) ?_
      refine WL.wkF (fun _ h => St.elFlat tInt_flat v2_0 h) ?_
      refine WL.wkF (fun _ h => h.pm 2) ?_
      refine WL.wkF (fun _ h => h.pm 1) ?_
      refine WL.heavy0 rfl rfl (OpH.setEl (A := tInt) ha16_4 rfl rfl rfl ts_3 e16_5 ?_)
      intro f16_5
      refine WL.nil (En.next (WC.sr ?_))
      refine mv ?_
      refine sp (OpV.addR rfl rfl) ?_
      refine ag ?_
      refine WL.nil (En.next ?_)
      obtain ⟨x18_2, e18_2, zh0⟩ := bnd zh0
      refine WC.region ?_
      refine sp (OpV.loadAll rfl mq1 ag_53) ?_
      refine mv ?_
      refine sp (OpV.call (ec rfl (ec rfl e0)) ca_84 (fun w hs => w_impl_TopVisible e18_2 (r0_0.ext hs.below))) ?_
      refine ag ?_
      refine WL.nil (En.block_norm (En.next (WC.region ?_)))
      refine mv ?_
      refine sp (OpV.subR rfl rfl) ?_
      refine ag ?_
      refine WL.nil ?_
      exact En.backP zb0 zh0 f16_5 (sc (sc (sc (sc (sc (sc sn)))))) (fun _ h => (h).pm 1)
    ·
     intro hc_3
     replace zh0 := ifO_f hc_3 zh0
     refine WC.exit (En.then_exit (En.then_exit ?_))
     have hx := exitP ze0 zh0
     exact En.wk _ _ (sc (sc sn)) (fun _ h => ((h).pm 1).sub (.cons_cons _ (.cons _ (.slnil)))) (zK0_0 ((v_0, v1_0), fv_0) hx.symm)
  ·
   intro hc_2
   replace h := ifO_f hc_2 h
   refine WC.skip (En.next (WC.sr ?_))
   refine ag ?_
   refine WL.nil (En.next (WC.seq (WC.sr ?_)))
   refine sp (OpV.fieldAddr rfl fo_55_0) ?_
   refine sp (OpV.loadBox rfl pt_3 mq1 rfl) ?_
   refine ag ?_
   refine WL.nil (En.next (WC.block ?_))
   obtain ⟨zy1, ezy1, h⟩ := bnd h
   refine WC.cut (X := ((List Int) × Int) × ((List Nat))) (.exit 0) (fun x => zy1 = x.1) (fun x => match x with | ((v_1e, v1_1e), fv_1e) => [(6, .slice (some ⟨b3_0, 0, .none⟩) 3 3), (7, .int .i64 v1_1e)]) (fun x => match x with | ((v_1e, v1_1e), fv_1e) => [Chunk.own tInt fv_1e (some ⟨b3_0, 0, .none⟩) 3 3 v_1e]) ?_ ?_
   ·
    rintro ⟨⟨v_1e, v1_1e⟩, fv_1e⟩ hx
    replace hx : (v_1e, v1_1e) = zy1 := hx.symm
    subst hx
    show En _ _ _ _ [(6, .slice (some ⟨b3_0, 0, .none⟩) 3 3), (7, .int .i64 v1_1e)] [Chunk.own tInt fv_1e (some ⟨b3_0, 0, .none⟩) 3 3 v_1e]
    refine En.block_exit (En.next (WC.sr ?_))
    refine mv ?_
    refine mv ?_
    refine ag ?_
    refine ag ?_
    refine WL.nil (En.next (WC.ret ?_))
    refine En.ret2 rfl (Res.tmp rfl) (Res.tmp rfl) ?_
    obtain rfl := Option.some.inj h
    intro w' hs
    have hs := hs
    exact ⟨_, _, rfl, ⟨(some ⟨b3_0, 0, .none⟩), 3, 3, fv_1e, rfl, rfl⟩, hs⟩
   ·
    intro zK1_0
    refine WC.loopP (G := (List Nat)) (fun s g => match s, g with | (v_1, v1_1, v2_1, v3_1, v4_1), fv_1 => [(2, .pointer (some ⟨b0_0, 0, .none⟩)), (6, .slice (some ⟨b3_0, 0, .none⟩) 3 3), (7, .int .i64 v1_1), (8, .int .i64 v2_1), (9, .bool v3_1), (10, .int .i64 v4_1)]) (fun s g => match s, g with | (v_1, v1_1, v2_1, v3_1, v4_1), fv_1 => [Chunk.box b0_0 53 [.int .i64 a_p0.W, .int .i64 a_p0.H, .int .i64 a_p0.Back, .slice q0_0 a_p0.Surfaces.length k0_0], Chunk.own tInt fv_1 (some ⟨b3_0, 0, .none⟩) 3 3 v_1]) ([(-1), (-1), (-1)], 0, x5_1, false, a_p1.Overlays) [b3_0] ezy1 (by exact sc (sc (sc (sc (sc (sc sn)))))) (by exact (fun _ h => ((h).pm 2).sub (.cons_cons _ (.cons_cons _ (.cons _ (.slnil)))))) ?_
    rintro zm1 ⟨v_1, v1_1, v2_1, v3_1, v4_1⟩ fv_1 zo1 zf1 zb1 ze1
    have zh1 : impl_AssignedOf_L1 a_p0 v_1 v1_1 v2_1 v3_1 v4_1 = some zo1 := zf1
    unfold impl_AssignedOf_L1 at zh1
    show WC _ _ _ _ _ [(2, .pointer (some ⟨b0_0, 0, .none⟩)), (6, .slice (some ⟨b3_0, 0, .none⟩) 3 3), (7, .int .i64 v1_1), (8, .int .i64 v2_1), (9, .bool v3_1), (10, .int .i64 v4_1)] [Chunk.box b0_0 53 [.int .i64 a_p0.W, .int .i64 a_p0.H, .int .i64 a_p0.Back, .slice q0_0 a_p0.Surfaces.length k0_0], Chunk.own tInt fv_1 (some ⟨b3_0, 0, .none⟩) 3 3 v_1]
    refine WC.seq (WC.sr ?_)
    refine mv ?_
    refine sp (OpV.geq rfl rfl) ?_
    refine WL.nil (En.next ?_)
    refine WC.cond rfl ?_ ?_
    ·
     intro hc_5
     replace zh1 := ifO_t hc_5 zh1
     refine WC.skip (En.next (WC.seq (WC.block (WC.seq (WC.seq ?_)))))
     obtain ⟨q14_13, e14_13, zh1⟩ := bnd zh1
     refine WC.region ?_
     refine mv ?_
     refine sp (OpV.lss rfl rfl) ?_
     refine mv ?_
     refine Lt.ofWL.orQ 52 63 62 (p := ?pz7) (rest := ?qz7) (B := q14_13) rfl (fun hz => orO_t e14_13 hz) ?Tz7 ?Fz7 ?az7 ?bz7 ?cz7 ?dz7 ?ez7
     case Tz7 =>
      intro hcz7 hkz7
      refine sk ?_
      refine sk ?_
      refine sk ?_
      refine sk ?_
      refine sk ?_
      refine sk ?_
      refine sk ?_
      refine sk ?_
      refine sk ?_
      refine sk ?_
      refine hkz7 _ ?_
      repeat (first | exact Sub.refl _ | refine Sub.skip rfl ?_)
     case Fz7 =>
      intro hcz7 hkz7
      have hqz7 := orO_f e14_13 hcz7
      obtain ⟨x14_6, e14_6, hqz7⟩ := bnd hqz7
      obtain ⟨g14_6, o14_6, _, ha14_6, ⟨a14_6_1, c14_6_1, rfl, r14_6_1⟩, hd14_6⟩ := Rd.atIdx r0_0 e14_6
      replace hd14_6 : ∀ (j : Nat) v, ([.int .i64 x14_6.Id, .int .i64 x14_6.X, .int .i64 x14_6.Y, .int .i64 x14_6.W, .int .i64 x14_6.H, .int .i64 x14_6.Alpha, .int .i64 x14_6.Orient, .bool x14_6.Visible, .int .i64 x14_6.Buffer.W, .int .i64 x14_6.Buffer.H, .slice a14_6_1 x14_6.Buffer.Data.length c14_6_1] : List Value)[j]? = some v → w.cell? ⟨g14_6, o14_6 + v2_1.toNat * 11 + j, .none⟩ = some v := hd14_6
      obtain rfl := Option.some.inj hqz7
      refine sp (OpV.fieldAddr rfl fo_53_3) ?_
      refine sp (OpV.loadBox rfl pt_51 mq0 rfl) ?_
      refine mv ?_
      refine sp (OpV.idxA rfl rfl se_51 ha14_6 ⟨(idx_some e14_6).1, (idx_some e14_6).2.1⟩) ?_
      refine sp (OpV.fieldAddr rfl fo_119_3) ?_
      refine sp (OpV.load1 rfl pt_3 (fun w hs => hs.cell (hd14_6 3 _ rfl))) ?_
      refine sp (OpV.neq rfl rfl) ?_
      refine mv ?_
      refine Lt.ofWL.and 60 62 61 (p := ?pz8) (rest := ?qz8) (B := ?Bz8) rfl ?Tz8 ?Fz8 ?az8 ?bz8 ?cz8 ?dz8 ?ez8
      case Tz8 =>
       intro hcz8 hkz8
       refine mv ?_
       refine hkz8 _ ?_ ?_
       exact rfl
       repeat (first | exact Sub.refl _ | refine Sub.skip rfl ?_)
      case Fz8 =>
       intro hcz8 hkz8
       refine sk ?_
       refine hkz8 _ ?_
       repeat (first | exact Sub.refl _ | refine Sub.skip rfl ?_)
      case az8 => exact rfl
      case bz8 => exact rfl
      case cz8 => exact rfl
      case dz8 => exact rfl
      refine hkz7 _ ?_ ?_
      exact rfl
      repeat (first | exact Sub.refl _ | refine Sub.skip rfl ?_)
     case az7 => exact rfl
     case bz7 => exact rfl
     case cz7 => exact rfl
     case dz7 => exact rfl
     refine WL.nil (En.next ?_)
     refine WC.cond rfl ?_ ?_
     ·
      intro hc_6
      replace zh1 := ifO_t hc_6 zh1
      refine WC.exit (En.then_exit ?_)
      refine En.block_exit' rfl ?_
      refine En.then_exit (En.then_exit ?_)
      have hx := exitP ze1 zh1
      exact En.wk _ _ (sc (sc sn)) (fun _ h => ((h).pm 1).sub (.cons_cons _ (.cons _ (.slnil)))) (zK1_0 ((v_1, v1_1), fv_1) hx.symm)
     ·
      intro hc_6
      replace zh1 := ifO_f hc_6 zh1
      refine WC.skip (En.next (WC.seq ?_))
      obtain ⟨q15_9, e15_9, zh1⟩ := bnd zh1
      refine WC.region ?_
      refine mv ?_
      refine mv ?_
      refine Lt.ofWL.orQ 65 73 72 (p := ?pz9) (rest := ?qz9) (B := q15_9) rfl (fun hz => orO_t e15_9 hz) ?Tz9 ?Fz9 ?az9 ?bz9 ?cz9 ?dz9 ?ez9
      case Tz9 =>
       intro hcz9 hkz9
       refine sk ?_
       refine sk ?_
       refine sk ?_
       refine sk ?_
       refine sk ?_
       refine sk ?_
       refine sk ?_
       refine hkz9 _ ?_
       repeat (first | exact Sub.refl _ | refine Sub.skip rfl ?_)
      case Fz9 =>
       intro hcz9 hkz9
       have hqz9 := orO_f e15_9 hcz9
       obtain ⟨x15_5, e15_5, hqz9⟩ := bnd hqz9
       obtain ⟨g15_5, o15_5, _, ha15_5, ⟨a15_5_1, c15_5_1, rfl, r15_5_1⟩, hd15_5⟩ := Rd.atIdx r0_0 e15_5
       replace hd15_5 : ∀ (j : Nat) v, ([.int .i64 x15_5.Id, .int .i64 x15_5.X, .int .i64 x15_5.Y, .int .i64 x15_5.W, .int .i64 x15_5.H, .int .i64 x15_5.Alpha, .int .i64 x15_5.Orient, .bool x15_5.Visible, .int .i64 x15_5.Buffer.W, .int .i64 x15_5.Buffer.H, .slice a15_5_1 x15_5.Buffer.Data.length c15_5_1] : List Value)[j]? = some v → w.cell? ⟨g15_5, o15_5 + v2_1.toNat * 11 + j, .none⟩ = some v := hd15_5
       obtain rfl := Option.some.inj hqz9
       refine sp (OpV.fieldAddr rfl fo_53_3) ?_
       refine sp (OpV.loadBox rfl pt_51 mq0 rfl) ?_
       refine mv ?_
       refine sp (OpV.idxA rfl rfl se_51 ha15_5 ⟨(idx_some e15_5).1, (idx_some e15_5).2.1⟩) ?_
       refine sp (OpV.fieldAddr rfl fo_119_3) ?_
       refine sp (OpV.load1 rfl pt_3 (fun w hs => hs.cell (hd15_5 3 _ rfl))) ?_
       refine sp (OpV.neq rfl rfl) ?_
       refine hkz9 _ ?_ ?_
       exact rfl
       repeat (first | exact Sub.refl _ | refine Sub.skip rfl ?_)
      case az9 => exact rfl
      case bz9 => exact rfl
      case cz9 => exact rfl
      case dz9 => exact rfl
      refine ag ?_
      refine WL.nil (En.next (WC.seq ?_))
      refine WC.inh fun hin16 => ?_
      have hn16_4 := ownLen hin16 mq1
      obtain ⟨x16_5, e16_5, zh1⟩ := bnd zh1
      obtain ⟨g16_4, o16_4, ha16_4⟩ := ownAddrU hin16 mq1 e16_5
      refine WC.region ?_
      refine mv ?_
      refine mv ?_
      refine sp (OpV.subR rfl rfl) ?_
      refine mv ?_
      refine sp (OpV.idxA rfl rfl se_28 ha16_4 ⟨(upd_some e16_5).1.1, by rw [hn16_4]; exact (upd_some e16_5).1.2⟩) ?_
      refine WL.wkF (fun _ h => St.elFlat tInt_flat v2_1 h) ?_
      refine WL.wkF (fun _ h => h.pm 2) ?_
      refine WL.wkF (fun _ h => h.pm 1) ?_
      refine WL.heavy0 rfl rfl (OpH.setEl (A := tInt) ha16_4 rfl rfl rfl ts_3 e16_5 ?_)
      intro f16_5
      refine WL.nil (En.next (WC.sr ?_))
      refine mv ?_
      refine sp (OpV.addR rfl rfl) ?_
      refine ag ?_
      refine WL.nil (En.next ?_)
      obtain ⟨x18_2, e18_2, zh1⟩ := bnd zh1
      refine WC.region ?_
      refine sp (OpV.loadAll rfl mq1 ag_53) ?_
      refine mv ?_
      refine sp (OpV.call (ec rfl (ec rfl e0)) ca_84 (fun w hs => w_impl_TopVisible e18_2 (r0_0.ext hs.below))) ?_
      refine ag ?_
      refine WL.nil (En.block_norm (En.next (WC.region ?_)))
      refine mv ?_
      refine sp (OpV.subR rfl rfl) ?_
      refine ag ?_
      refine WL.nil ?_
      exact En.backP zb1 zh1 f16_5 (sc (sc (sc (sc (sc (sc sn)))))) (fun _ h => (h).pm 1)
    ·
     intro hc_5
     replace zh1 := ifO_f hc_5 zh1
     refine WC.exit (En.then_exit (En.then_exit ?_))
     have hx := exitP ze1 zh1
     exact En.wk _ _ (sc (sc sn)) (fun _ h => ((h).pm 1).sub (.cons_cons _ (.cons _ (.slnil)))) (zK1_0 ((v_1, v1_1), fv_1) hx.symm)

theorem w_slices_Index_S_int_int {s_p0 : List Int} {v_p1 : Int} {r : Int} {q0_0 : Option Addr} {l0_0 k0_0 : Nat} (h : slices_Index_S_int_int s_p0 v_p1 = some r) {w : World} (r0_0 : Rd tInt w q0_0 l0_0 k0_0 s_p0)   :
    Calls Try.prog 137 #[.slice q0_0 l0_0 k0_0, .int .i64 v_p1] w (fun en w' => en = .returned (.int .i64 r) ∧ Ext w w') := by
 obtain rfl := r0_0.1
 unfold slices_Index_S_int_int at h
 refine enter (vs := [_, _]) Try.func137 rfl rfl rfl rfl ?_
 refine WC.sr ?_
 refine ag ?_
 refine WL.nil (En.next (WC.seq (WC.sr ?_)))
 refine mv ?_
 refine sp (OpV.len rfl si_28 rfl) ?_
 refine mv ?_
 refine WL.nil (En.next (WC.block ?_))
 obtain ⟨zy0, ezy0, h⟩ := bnd h
 refine WC.cut (X := (Unit) × (Unit)) (.exit 0) (fun x => zy0 = .inl x.1) (fun x => match x with | ((), ()) => []) (fun x => match x with | ((), ()) => []) ?_ ?_
 ·
  rintro ⟨⟨⟩, ⟨⟩⟩ hx
  replace hx : .inl () = zy0 := hx.symm
  subst hx
  replace h := fork_l h
  show En _ _ _ _ [] []
  refine En.block_exit (En.next (WC.sr ?_))
  refine ag ?_
  refine WL.nil (En.next (WC.ret ?_))
  refine En.ret1 rfl (Res.tmp rfl) ?_
  obtain rfl := Option.some.inj h
  intro w' hs
  exact ⟨rfl, hs.below⟩
 ·
  intro zK0_0
  refine WC.loopP (G := Unit) (fun s g => match s, g with | v_0, () => [(0, .slice q0_0 s_p0.length k0_0), (1, .int .i64 v_p1), (7, .int .i64 (s_p0.length : Int)), (8, .int .i64 v_0)]) (fun s g => match s, g with | v_0, () => []) 0 () ezy0 (by exact sc (sc (sc (sc sn)))) (by exact (fun _ h => h)) ?_
  rintro zm0 v_0 ⟨⟩ zo0 zf0 zb0 ze0
  have zh0 : slices_Index_S_int_int_L0 s_p0 v_p1 v_0 = some zo0 := zf0
  unfold slices_Index_S_int_int_L0 at zh0
  show WC _ _ _ _ _ [(0, .slice q0_0 s_p0.length k0_0), (1, .int .i64 v_p1), (7, .int .i64 (s_p0.length : Int)), (8, .int .i64 v_0)] []
  refine WC.sr ?_
  refine sp (OpV.lss rfl rfl) ?_
  refine WL.nil (En.next (WC.seq ?_))
  refine WC.cond rfl ?_ ?_
  ·
   intro hc_1
   replace zh0 := ifO_t hc_1 zh0
   refine WC.skip (En.next (WC.seq (WC.block (WC.sr ?_))))
   refine mv ?_
   refine ag ?_
   refine WL.nil (En.next (WC.seq ?_))
   obtain ⟨x4_3, e4_3, zh0⟩ := bnd zh0
   obtain ⟨g4_3, o4_3, _, ha4_3, rfl, hd4_3⟩ := Rd.atIdx r0_0 e4_3
   replace hd4_3 : ∀ (j : Nat) v, ([.int .i64 x4_3] : List Value)[j]? = some v → w.cell? ⟨g4_3, o4_3 + v_0.toNat * 1 + j, .none⟩ = some v := hd4_3
   refine WC.region ?_
   refine mv ?_
   refine mv ?_
   refine mv ?_
   refine sp (OpV.idxA rfl rfl se_28 ha4_3 ⟨(idx_some e4_3).1, (idx_some e4_3).2.1⟩) ?_
   refine sp (OpV.load1 rfl pt_3 (fun w hs => hs.cell (hd4_3 0 _ rfl))) ?_
   refine sp (OpV.eql rfl rfl) ?_
   refine WL.nil (En.next ?_)
   refine WC.cond rfl ?_ ?_
   ·
    intro hc_2
    replace zh0 := ifO_t hc_2 zh0
    refine WC.sr ?_
    refine mv ?_
    refine ag ?_
    refine WL.nil (En.next (WC.ret (En.block_ret (En.then_ret (En.then_ret (En.block_ret (En.then_ret ?_)))))))
    refine En.ret1 rfl (Res.tmp rfl) ?_
    have hx := exitP ze0 zh0
    subst hx
    replace h := fork_r h
    obtain rfl := Option.some.inj h
    intro w' hs
    exact ⟨rfl, hs.below⟩
   ·
    intro hc_2
    replace zh0 := ifO_f hc_2 zh0
    refine WC.skip (En.block_norm (En.next (WC.region ?_)))
    refine sp (OpV.addR rfl rfl) ?_
    refine mv ?_
    refine WL.nil ?_
    exact En.backP zb0 zh0 () (sc (sc (sc (sc sn)))) (fun _ h => h)
  ·
   intro hc_1
   replace zh0 := ifO_f hc_1 zh0
   refine WC.exit (En.then_exit (En.then_exit ?_))
   have hx := exitP ze0 zh0
   exact En.wk _ _ sn (fun _ h => h) (zK0_0 ((), ()) hx.symm)

theorem w_slices_Contains_S_int_int {s_p0 : List Int} {v_p1 : Int} {r : Bool} {q0_0 : Option Addr} {l0_0 k0_0 : Nat} (h : slices_Contains_S_int_int s_p0 v_p1 = some r) {w : World} (r0_0 : Rd tInt w q0_0 l0_0 k0_0 s_p0)   :
    Calls Try.prog 79 #[.slice q0_0 l0_0 k0_0, .int .i64 v_p1] w (fun en w' => en = .returned (.bool r) ∧ Ext w w') := by
 obtain rfl := r0_0.1
 unfold slices_Contains_S_int_int at h
 refine enter (vs := [_, _]) Try.func79 rfl rfl rfl rfl ?_
 refine WC.sr ?_
 refine ag ?_
 refine WL.nil (En.next (WC.seq ?_))
 obtain ⟨x1_2, e1_2, h⟩ := bnd h
 refine WC.region ?_
 refine mv ?_
 refine mv ?_
 refine sp (OpV.call (ec rfl (ec rfl e0)) ca_137 (fun w hs => w_slices_Index_S_int_int e1_2 (r0_0.ext hs.below))) ?_
 refine sp (OpV.geq rfl rfl) ?_
 refine ag ?_
 refine WL.nil (En.next (WC.ret ?_))
 refine En.ret1 rfl (Res.tmp rfl) ?_
 obtain rfl := Option.some.inj h
 intro w' hs
 exact ⟨rfl, hs.below⟩

theorem w_slices_Clone_S_int_int {s_p0 : List Int} {r : List Int} {q0_0 : Option Addr} {n0_0 k0_0 : Nat} (h : slices_Clone_S_int_int s_p0 = some r) {w : World} (r0_0 : Rd tInt w q0_0 n0_0 k0_0 s_p0) :
    Calls Try.prog 132 #[.slice q0_0 n0_0 k0_0] w (fun en w' => ∃ rv G, en = .returned rv ∧ (∃ (a0_0 : Option Addr) (n0_0 : Nat) (c0_0 : Nat) (f0_0 : List Nat), rv = .slice a0_0 n0_0 c0_0 ∧ G = [Chunk.own tInt f0_0 a0_0 n0_0 c0_0 r]) ∧ St w G w') := by
  obtain rfl := r0_0.1
  obtain ⟨hn, h⟩ := need_some h
  obtain rfl := Option.some.inj h
  refine enter (vs := [_]) Try.func132 rfl rfl rfl rfl ?_
  refine WC.sr ?_
  refine ag ?_
  refine WL.nil (En.next (WC.seq (WC.sr ?_)))
  refine mv ?_
  refine sp (OpV.eqNil rfl si_28) ?_
  refine WL.nil (En.next ?_)
  refine WC.cond rfl ?_ ?_
  · intro hc
    have hnil := Rd.isNil r0_0 hc
    refine WC.sr ?_
    refine ag ?_
    refine WL.nil (En.next (WC.ret (En.then_ret ?_)))
    refine En.ret1 rfl (Res.tmp rfl) ?_
    intro w' hs
    refine ⟨_, _, rfl, ⟨.none, 0, 0, [], rfl, rfl⟩, ?_⟩
    rw [hnil]; exact hs.ownNil
  · intro hc
    refine WC.skip (En.next (WC.sr ?_))
    refine WL.heavy rfl rfl rfl (OpH.lit0 (A := tInt) evps.nil bs_28_0_ ?_)
    intro b
    refine mv ?_
    refine WL.heavy rfl rfl rfl (OpH.appS (F := []) (A := tInt) tInt_flat rfl rfl rfl mi_28 rfl (by decide) (fun w hs => r0_0.ext hs.below) (app_nil hn) ?_)
    intro fp a c
    refine ag ?_
    refine WL.nil (En.next (WC.ret ?_))
    refine En.ret1 rfl (Res.tmp rfl) ?_
    intro w' hs
    exact ⟨_, _, rfl, ⟨_, _, _, _, rfl, rfl⟩, hs⟩

theorem w_impl_copyImage {i_p0 : ImageT} {r : ImageT} {q0_0 : Option Addr} {l0_0 k0_0 : Nat} (h : impl_copyImage i_p0 = some r) {w : World} (r0_0 : Rd tInt w q0_0 l0_0 k0_0 i_p0.Data)   :
    Calls Try.prog 138 #[.agg #[.int .i64 i_p0.W, .int .i64 i_p0.H, .slice q0_0 l0_0 k0_0]] w (fun en w' => ∃ rv G, en = .returned rv ∧ (∃ (a0_0 : Option Addr) (n0_0 : Nat) (c0_0 : Nat) (f0_0 : List Nat), rv = .agg #[.int .i64 r.W, .int .i64 r.H, .slice a0_0 n0_0 c0_0] ∧ G = [Chunk.own tInt f0_0 a0_0 n0_0 c0_0 r.Data]) ∧ St w G w') := by
 obtain rfl := r0_0.1
 unfold impl_copyImage at h
 refine enter (vs := [_]) Try.func138 rfl rfl rfl rfl ?_
 refine WC.sr ?_
 refine WL.heavy rfl rfl rfl (OpH.box rfl rfl ?_)
 intro b0_0
 refine WL.heavy rfl rfl rfl (OpH.alloc zc_33 ?_)
 intro b0_1
 refine WL.nil (En.next (WC.seq ?_))
 obtain ⟨x1_6, e1_6, h⟩ := bnd h
 refine WC.drawnH [_] ([_]) (fun _ h => h) (by kernel_rfl) ?_
 refine tk 0 rfl (OpV.fieldAddr rfl fo_33_0) ?_
 refine tk 1 rfl (OpV.loadBox rfl pt_3 mq0 rfl) ?_
 refine tk 2 rfl (OpV.fieldAddr rfl fo_33_1) ?_
 refine tk 3 rfl (OpV.loadBox rfl pt_3 mq0 rfl) ?_
 refine tk 4 rfl (OpV.fieldAddr rfl fo_33_2) ?_
 refine tk 5 rfl (OpV.loadBox rfl pt_28 mq0 rfl) ?_
 refine al1 6 rfl ?_
 refine OpH.callR (ec rfl e0) ca_132 (fun w hs => w_slices_Clone_S_int_int e1_6 (r0_0.ext hs.below)) ?_
 rintro _ _ ⟨a1_600, n1_600, c1_600, f1_600, rfl, rfl⟩
 refine ⟨[_, _], rfl, ?_⟩
 refine tk 7 rfl (OpV.build (evps.cons rfl (evps.cons rfl (evps.cons rfl (evps.nil)))) (bd_33_0_1_2 _ _ _ _ _)) ?_
 refine al0 8 rfl ?_
 refine OpH.storeTo (A := [_]) [_, _, _] rfl rfl rfl ts_33 rfl rfl rfl ?_
 refine ⟨[_, _], rfl, ?_⟩
 refine WAE.rebase (H := []) ?_
 refine WAE.done (by kernel_rfl) ?_ _
 refine En.next (WC.ret ?_)
 refine En.ret1 rfl (Res.cell rfl mq1 ag_33) ?_
 obtain rfl := Option.some.inj h
 intro w' hs
 have hs := (hs).sub (.cons_cons _ (.cons _ (.cons _ (.slnil))))
 exact ⟨_, _, rfl, ⟨a1_600, n1_600, c1_600, f1_600, rfl, rfl⟩, hs⟩

theorem w_impl_copySurface {s_p0 : SurfaceT} {r : SurfaceT} {q0_0 : Option Addr} {l0_0 k0_0 : Nat} (h : impl_copySurface s_p0 = some r) {w : World} (r0_0 : Rd tInt w q0_0 l0_0 k0_0 s_p0.Buffer.Data)   :
    Calls Try.prog 80 #[.agg #[.int .i64 s_p0.Id, .int .i64 s_p0.X, .int .i64 s_p0.Y, .int .i64 s_p0.W, .int .i64 s_p0.H, .int .i64 s_p0.Alpha, .int .i64 s_p0.Orient, .bool s_p0.Visible, .int .i64 s_p0.Buffer.W, .int .i64 s_p0.Buffer.H, .slice q0_0 l0_0 k0_0]] w (fun en w' => ∃ rv G, en = .returned rv ∧ (∃ (a0_0 : Option Addr) (n0_0 : Nat) (c0_0 : Nat) (f0_0 : List Nat), rv = .agg #[.int .i64 r.Id, .int .i64 r.X, .int .i64 r.Y, .int .i64 r.W, .int .i64 r.H, .int .i64 r.Alpha, .int .i64 r.Orient, .bool r.Visible, .int .i64 r.Buffer.W, .int .i64 r.Buffer.H, .slice a0_0 n0_0 c0_0] ∧ G = [Chunk.own tInt f0_0 a0_0 n0_0 c0_0 r.Buffer.Data]) ∧ St w G w') := by
 obtain rfl := r0_0.1
 unfold impl_copySurface at h
 refine enter (vs := [_]) Try.func80 rfl rfl rfl rfl ?_
 refine WC.sr ?_
 refine WL.heavy rfl rfl rfl (OpH.box rfl rfl ?_)
 intro b0_0
 refine WL.heavy rfl rfl rfl (OpH.alloc zc_119 ?_)
 intro b0_1
 refine WL.nil (En.next (WC.seq ?_))
 obtain ⟨x1_2, e1_2, h⟩ := bnd h
 refine WC.region ?_
 refine sp (OpV.fieldAddr rfl fo_119_8) ?_
 refine sp (OpV.loadPart rfl mq1 ag_33 rfl rfl) ?_
 refine WL.heavy rfl rfl rfl (OpH.callR (ec rfl e0) ca_138 (fun w hs => w_impl_copyImage e1_2 (r0_0.ext hs.below)) ?_)
 rintro _ _ ⟨a1_200, n1_200, c1_200, f1_200, rfl, rfl⟩
 refine sp (OpV.fieldAddr rfl fo_119_8) ?_
 refine WL.heavy0 rfl rfl (OpH.storeTo (A := [_, _]) [_, _, _, _, _, _, _, _, _, _, _] rfl rfl rfl ts_33 rfl rfl rfl ?_)
 refine WL.nil (En.next (WC.sr ?_))
 refine sp (OpV.loadAll rfl mq2 ag_119) ?_
 refine WL.heavy0 rfl rfl (OpH.storeTo (A := [_]) [_, _, _, _, _, _, _, _, _, _, _] rfl rfl rfl ts_119 rfl rfl rfl ?_)
 refine WL.nil (En.next (WC.ret ?_))
 refine En.ret1 rfl (Res.cell rfl mq1 ag_119) ?_
 obtain rfl := Option.some.inj h
 intro w' hs
 have hs := (hs).sub (.cons_cons _ (.cons _ (.cons _ (.slnil))))
 exact ⟨_, _, rfl, ⟨a1_200, n1_200, c1_200, f1_200, rfl, rfl⟩, hs⟩

theorem w_impl_RestOf {s_p0 : SceneT} {o_p1 : OptionsT} {r : SceneT} {q0_0 : Option Addr} {l0_0 k0_0 : Nat} (h : impl_RestOf s_p0 o_p1 = some r) {w : World} (r0_0 : Rd tSurface w q0_0 l0_0 k0_0 s_p0.Surfaces)   :
    Calls Try.prog 23 #[.agg #[.int .i64 s_p0.W, .int .i64 s_p0.H, .int .i64 s_p0.Back, .slice q0_0 l0_0 k0_0], .agg #[.int .i64 o_p1.Overlays, .bool o_p1.Cursor, .int .i64 o_p1.Layout, .bool o_p1.Partial, .bool o_p1.Sleep, .bool o_p1.Secret]] w (fun en w' => ∃ rv G, en = .returned rv ∧ (∃ (a0_0 : Option Addr) (n0_0 : Nat) (c0_0 : Nat) (f0_0 : List Nat), rv = .agg #[.int .i64 r.W, .int .i64 r.H, .int .i64 r.Back, .slice a0_0 n0_0 c0_0] ∧ G = [Chunk.own tSurface f0_0 a0_0 n0_0 c0_0 r.Surfaces]) ∧ St w G w') := by
 obtain rfl := r0_0.1
 unfold impl_RestOf at h
 refine enter (vs := [_, _]) Try.func23 rfl rfl rfl rfl ?_
 refine WC.sr ?_
 refine WL.heavy rfl rfl rfl (OpH.box rfl rfl ?_)
 intro b0_0
 refine WL.heavy rfl rfl rfl (OpH.box rfl rfl ?_)
 intro b0_1
 refine WL.heavy rfl rfl rfl (OpH.alloc zc_53 ?_)
 intro b0_2
 refine WL.nil (En.next (WC.seq (WC.seq ?_)))
 obtain ⟨x1_1, e1_1, h⟩ := bnd h
 obtain ⟨q1_7, e1_7, h⟩ := bnd h
 refine WC.region ?_
 refine sp (OpV.loadAll rfl mq2 ag_53) ?_
 refine sp (OpV.call (ec rfl e0) ca_77 (fun w hs => w_impl_SceneOk e1_1 (r0_0.ext hs.below))) ?_
 refine sp (OpV.not rfl) ?_
 refine mv ?_
 refine Lt.ofWL.orQ 13 17 16 (p := ?pz1) (rest := ?qz1) (B := q1_7) rfl (fun hz => orO_t e1_7 hz) ?Tz1 ?Fz1 ?az1 ?bz1 ?cz1 ?dz1 ?ez1
 case Tz1 =>
  intro hcz1 hkz1
  refine sk ?_
  refine sk ?_
  refine sk ?_
  refine hkz1 _ ?_
  repeat (first | exact Sub.refl _ | refine Sub.skip rfl ?_)
 case Fz1 =>
  intro hcz1 hkz1
  have hqz1 := orO_f e1_7 hcz1
  obtain ⟨x1_5, e1_5, hqz1⟩ := bnd hqz1
  obtain rfl := Option.some.inj hqz1
  refine sp (OpV.loadAll rfl mq1 ag_55) ?_
  refine sp (OpV.call (ec rfl e0) ca_78 (fun w hs => w_impl_OptionsOk e1_5)) ?_
  refine sp (OpV.not rfl) ?_
  refine hkz1 _ ?_ ?_
  exact rfl
  repeat (first | exact Sub.refl _ | refine Sub.skip rfl ?_)
 case az1 => exact rfl
 case bz1 => exact rfl
 case cz1 => exact rfl
 case dz1 => exact rfl
 refine WL.nil (En.next ?_)
 refine WC.cond rfl ?_ ?_
 ·
  intro hc_1
  replace h := ifO_t hc_1 h
  refine WC.sr ?_
  refine sp (OpV.build (evps.nil) bd_53_) ?_
  refine WL.heavy0 rfl rfl (OpH.storeTo (A := []) [_, _, _, _] rfl rfl rfl ts_53 rfl rfl rfl ?_)
  refine WL.nil (En.next (WC.ret (En.then_ret ?_)))
  refine En.ret1 rfl (Res.cell rfl mq0 ag_53) ?_
  obtain rfl := Option.some.inj h
  intro w' hs
  have hs := ((hs).ownNil (A := tSurface)).sub (.cons_cons _ (.cons _ (.cons _ (.cons _ (.slnil)))))
  exact ⟨_, _, rfl, ⟨.none, 0, 0, [], rfl, rfl⟩, hs⟩
 ·
  intro hc_1
  replace h := ifO_f hc_1 h
  refine WC.skip (En.next (WC.seq ?_))
  obtain ⟨⟨x3_2a, x3_2b⟩, e3_2, h⟩ := bnd h
  refine WC.region ?_
  refine sp (OpV.loadAll rfl mq2 ag_53) ?_
  refine sp (OpV.loadAll rfl mq1 ag_55) ?_
  refine WL.heavy rfl rfl rfl (OpH.callR (ec rfl (ec rfl e0)) ca_26 (fun w hs => w_impl_AssignedOf e3_2 (r0_0.ext hs.below)) ?_)
  rintro _ _ ⟨a3_200, n3_200, c3_200, f3_200, rfl, rfl⟩
  refine mv ?_
  refine sp (OpV.extract rfl rfl) ?_
  refine sp (OpV.extract rfl rfl) ?_
  refine ag ?_
  refine ag ?_
  refine WL.nil (En.next (WC.sr ?_))
  refine sp (OpV.fieldAddr rfl fo_53_0) ?_
  refine sp (OpV.loadBox rfl pt_3 mq3 rfl) ?_
  refine sp (OpV.fieldAddr rfl fo_53_1) ?_
  refine sp (OpV.loadBox rfl pt_3 mq3 rfl) ?_
  refine sp (OpV.fieldAddr rfl fo_53_2) ?_
  refine sp (OpV.loadBox rfl pt_3 mq3 rfl) ?_
  refine sp (OpV.build (evps.cons rfl (evps.cons rfl (evps.cons rfl (evps.nil)))) (bd_53_0_1_2 _ _ _)) ?_
  refine WL.heavy rfl rfl rfl (OpH.alloc zc_53 ?_)
  intro b4_7
  refine WL.heavy0 rfl rfl (OpH.storeTo (A := []) [_, _, _, _] rfl rfl rfl ts_53 rfl rfl rfl ?_)
  refine WL.nil (En.next (WC.seq (WC.sr ?_)))
  refine sp (OpV.fieldAddr rfl fo_53_3) ?_
  refine sp (OpV.loadBox rfl pt_51 mq4 rfl) ?_
  refine sp (OpV.len rfl si_51 rfl) ?_
  refine mv ?_
  refine WL.nil (En.next (WC.block ?_))
  obtain ⟨zy0, ezy0, h⟩ := bnd h
  refine WC.cut (X := ((List SurfaceT)) × ((Option Addr) × Nat × Nat × (List Nat))) (.exit 0) (fun x => zy0 = x.1) (fun x => match x with | (out_0e, (aout_0e, nout_0e, cout_0e, fout_0e)) => [(4, .pointer (some ⟨b0_2, 0, .none⟩)), (7, .pointer (some ⟨b4_7, 0, .none⟩))]) (fun x => match x with | (out_0e, (aout_0e, nout_0e, cout_0e, fout_0e)) => [Chunk.box b0_2 53 [.int .i64 0, .int .i64 0, .int .i64 0, .slice .none 0 0], Chunk.box b4_7 53 [.int .i64 s_p0.W, .int .i64 s_p0.H, .int .i64 s_p0.Back, .slice aout_0e nout_0e cout_0e], Chunk.own tSurface fout_0e aout_0e nout_0e cout_0e out_0e]) ?_ ?_
  ·
   rintro ⟨out_0e, ⟨aout_0e, nout_0e, cout_0e, fout_0e⟩⟩ hx
   replace hx : out_0e = zy0 := hx.symm
   subst hx
   show En _ _ _ _ [(4, .pointer (some ⟨b0_2, 0, .none⟩)), (7, .pointer (some ⟨b4_7, 0, .none⟩))] [Chunk.box b0_2 53 [.int .i64 0, .int .i64 0, .int .i64 0, .slice .none 0 0], Chunk.box b4_7 53 [.int .i64 s_p0.W, .int .i64 s_p0.H, .int .i64 s_p0.Back, .slice aout_0e nout_0e cout_0e], Chunk.own tSurface fout_0e aout_0e nout_0e cout_0e out_0e]
   refine En.block_exit (En.next (WC.sr ?_))
   refine sp (OpV.loadAll rfl mq1 ag_53) ?_
   refine WL.heavy0 rfl rfl (OpH.storeTo (A := []) [_, _, _, _] rfl rfl rfl ts_53 rfl rfl rfl ?_)
   refine WL.nil (En.next (WC.ret ?_))
   refine En.ret1 rfl (Res.cell rfl mq0 ag_53) ?_
   obtain rfl := Option.some.inj h
   intro w' hs
   have hs := ((hs).pm 2).sub (.cons_cons _ (.cons _ (.cons _ (.slnil))))
   exact ⟨_, _, rfl, ⟨aout_0e, nout_0e, cout_0e, fout_0e, rfl, rfl⟩, hs⟩
  ·
   intro zK0_0
   refine WC.loopP (G := (Option Addr) × Nat × Nat × (List Nat)) (fun s g => match s, g with | (out_0, v_0), (aout_0, nout_0, cout_0, fout_0) => [(4, .pointer (some ⟨b0_2, 0, .none⟩)), (5, .slice a3_200 n3_200 c3_200), (7, .pointer (some ⟨b4_7, 0, .none⟩)), (33, .slice q0_0 s_p0.Surfaces.length k0_0), (34, .int .i64 (s_p0.Surfaces.length : Int)), (35, .int .i64 v_0)]) (fun s g => match s, g with | (out_0, v_0), (aout_0, nout_0, cout_0, fout_0) => [Chunk.box b0_2 53 [.int .i64 0, .int .i64 0, .int .i64 0, .slice .none 0 0], Chunk.own tInt f3_200 a3_200 n3_200 c3_200 x3_2a, Chunk.box b4_7 53 [.int .i64 s_p0.W, .int .i64 s_p0.H, .int .i64 s_p0.Back, .slice aout_0 nout_0 cout_0], Chunk.own tSurface fout_0 aout_0 nout_0 cout_0 out_0]) ([], 0) (.none, 0, 0, []) ezy0 (by exact sc (sc (sc (sc (sc (sc sn)))))) (by exact (fun _ h => (((((h).ownNil (A := tSurface)).pm 1).pm 2).pm 3).sub (.cons_cons _ (.cons_cons _ (.cons_cons _ (.cons_cons _ (.cons _ (.cons _ (.slnil))))))))) ?_
   rintro zm0 ⟨out_0, v_0⟩ ⟨aout_0, nout_0, cout_0, fout_0⟩ zo0 zf0 zb0 ze0
   have zh0 : impl_RestOf_L0 s_p0 x3_2a out_0 v_0 = some zo0 := zf0
   unfold impl_RestOf_L0 at zh0
   show WC _ _ _ _ _ [(4, .pointer (some ⟨b0_2, 0, .none⟩)), (5, .slice a3_200 n3_200 c3_200), (7, .pointer (some ⟨b4_7, 0, .none⟩)), (33, .slice q0_0 s_p0.Surfaces.length k0_0), (34, .int .i64 (s_p0.Surfaces.length : Int)), (35, .int .i64 v_0)] [Chunk.box b0_2 53 [.int .i64 0, .int .i64 0, .int .i64 0, .slice .none 0 0], Chunk.own tInt f3_200 a3_200 n3_200 c3_200 x3_2a, Chunk.box b4_7 53 [.int .i64 s_p0.W, .int .i64 s_p0.H, .int .i64 s_p0.Back, .slice aout_0 nout_0 cout_0], Chunk.own tSurface fout_0 aout_0 nout_0 cout_0 out_0]
   refine WC.sr ?_
   refine sp (OpV.lss rfl rfl) ?_
   refine WL.nil (En.next (WC.seq ?_))
   refine WC.cond rfl ?_ ?_
   ·
    intro hc_2
    replace zh0 := ifO_t hc_2 zh0
    refine WC.skip (En.next (WC.seq ?_))
    obtain ⟨zy1, ej1, zh0⟩ := bnd zh0
    refine WC.cut (X := ((List SurfaceT)) × ((Option Addr) × Nat × Nat × (List Nat))) .normal (fun x => zy1 = x.1) (fun x => match x with | (out_1j, (aout_1j, nout_1j, cout_1j, fout_1j)) => [(4, .pointer (some ⟨b0_2, 0, .none⟩)), (5, .slice a3_200 n3_200 c3_200), (7, .pointer (some ⟨b4_7, 0, .none⟩)), (33, .slice q0_0 s_p0.Surfaces.length k0_0), (34, .int .i64 (s_p0.Surfaces.length : Int)), (35, .int .i64 v_0)]) (fun x => match x with | (out_1j, (aout_1j, nout_1j, cout_1j, fout_1j)) => [Chunk.box b0_2 53 [.int .i64 0, .int .i64 0, .int .i64 0, .slice .none 0 0], Chunk.own tInt f3_200 a3_200 n3_200 c3_200 x3_2a, Chunk.box b4_7 53 [.int .i64 s_p0.W, .int .i64 s_p0.H, .int .i64 s_p0.Back, .slice aout_1j nout_1j cout_1j], Chunk.own tSurface fout_1j aout_1j nout_1j cout_1j out_1j]) ?_ ?_
    ·
     rintro ⟨out_1j, ⟨aout_1j, nout_1j, cout_1j, fout_1j⟩⟩ hx
     replace hx : out_1j = zy1 := hx.symm
     subst hx
     show En _ _ _ _ [(4, .pointer (some ⟨b0_2, 0, .none⟩)), (5, .slice a3_200 n3_200 c3_200), (7, .pointer (some ⟨b4_7, 0, .none⟩)), (33, .slice q0_0 s_p0.Surfaces.length k0_0), (34, .int .i64 (s_p0.Surfaces.length : Int)), (35, .int .i64 v_0)] [Chunk.box b0_2 53 [.int .i64 0, .int .i64 0, .int .i64 0, .slice .none 0 0], Chunk.own tInt f3_200 a3_200 n3_200 c3_200 x3_2a, Chunk.box b4_7 53 [.int .i64 s_p0.W, .int .i64 s_p0.H, .int .i64 s_p0.Back, .slice aout_1j nout_1j cout_1j], Chunk.own tSurface fout_1j aout_1j nout_1j cout_1j out_1j]
     refine En.next (WC.region ?_)
     refine sp (OpV.addR rfl rfl) ?_
     refine mv ?_
     refine WL.nil ?_
     exact En.backP zb0 zh0 (aout_1j, nout_1j, cout_1j, fout_1j) (sc (sc (sc (sc (sc (sc sn)))))) (fun _ h => h)
    ·
     intro zK1
     refine WC.block (WC.seq ?_)
     obtain ⟨x7_1, e7_1, ej1⟩ := bnd ej1
     obtain ⟨g7_1, o7_1, _, ha7_1, ⟨a7_1_1, c7_1_1, rfl, r7_1_1⟩, hd7_1⟩ := Rd.atIdx r0_0 e7_1
     replace hd7_1 : ∀ (j : Nat) v, ([.int .i64 x7_1.Id, .int .i64 x7_1.X, .int .i64 x7_1.Y, .int .i64 x7_1.W, .int .i64 x7_1.H, .int .i64 x7_1.Alpha, .int .i64 x7_1.Orient, .bool x7_1.Visible, .int .i64 x7_1.Buffer.W, .int .i64 x7_1.Buffer.H, .slice a7_1_1 x7_1.Buffer.Data.length c7_1_1] : List Value)[j]? = some v → w.cell? ⟨g7_1, o7_1 + v_0.toNat * 11 + j, .none⟩ = some v := hd7_1
     refine WC.region ?_
     refine mv ?_
     refine sp (OpV.idxA rfl rfl se_51 ha7_1 ⟨(idx_some e7_1).1, (idx_some e7_1).2.1⟩) ?_
     refine sp (OpV.loadN rfl ag_119 rfl (fun w hs => hs.cellsAt hd7_1)) ?_
     refine WL.heavy rfl rfl rfl (OpH.alloc zc_119 ?_)
     intro b7_3
     refine ag ?_
     refine WL.heavy0 rfl rfl (OpH.storeTo (A := []) [_, _, _, _, _, _, _, _, _, _, _] rfl rfl rfl ts_119 rfl rfl rfl ?_)
     refine WL.nil (En.next (WC.seq ?_))
     obtain ⟨x8_2, e8_2, ej1⟩ := bnd ej1
     refine WC.region ?_
     refine mv ?_
     refine mv ?_
     refine sp (OpV.call (ec rfl (ec rfl e0)) ca_79 (fun w hs => w_slices_Contains_S_int_int e8_2 (Ow.rd (hs.mem mq2)))) ?_
     refine sp (OpV.not rfl) ?_
     refine WL.nil (En.next ?_)
     refine WC.cond rfl ?_ ?_
     ·
      intro hc_3
      replace ej1 := ifO_t hc_3 ej1
      obtain ⟨x9_3, e9_3, ej1⟩ := bnd ej1
      obtain ⟨x9_5, e9_5, ej1⟩ := bnd ej1
      refine WC.wkF (fun _ h => h.pm 4) ?_
      refine WC.wkF (fun _ h => h.pm 4) ?_
      refine WC.drawnH [_, _] ([_, _, _]) (fun _ h => h) (by kernel_rfl) ?_
      refine tk 0 rfl (OpV.fieldAddr rfl fo_53_3) ?_
      refine tk 2 rfl (OpV.loadAll rfl mq0 ag_119) ?_
      refine WAE.all (rs := [1, 3]) (by kernel_rfl) rfl (AllR.cons rfl rfl rfl rfl ?_ (AllR.cons rfl rfl rfl rfl ?_ AllR.nil))
      ·
       refine OpH.light (OpV.loadBox rfl pt_51 mq0 rfl) ?_
       refine ⟨[_, _], rfl, ?_⟩
       refine al1 3 rfl ?_
       refine OpH.callR (ec rfl e0) ca_80 (fun w hs => w_impl_copySurface e9_3 (r7_1_1.ext hs.below)) ?_
       rintro _ _ ⟨a9_300, n9_300, c9_300, f9_300, rfl, rfl⟩
       refine ⟨[_, _, _], rfl, ?_⟩
       refine al1 4 rfl ?_
       refine OpH.buildSlice (evps.cons rfl (evps.nil)) (bs_51_1_0 _ _ _ _ _ _ _ _ _ _ _ _ _) ?_
       intro b9_4
       refine ⟨[_, _, _, _], rfl, ?_⟩
       refine al1 5 rfl ?_
       refine OpH.wkF (fun _ h => h.pm 1) ?_
       refine OpH.wkF (fun _ h => tSurface_mk x9_3.Id x9_3.X x9_3.Y x9_3.W x9_3.H x9_3.Alpha x9_3.Orient x9_3.Visible x9_3.Buffer h) ?_
       refine OpH.wkF (fun _ h => h.pm 3) ?_
       refine OpH.wkF (fun _ h => h.pm 1) ?_
       refine OpH.push (A := tSurface) rfl rfl rfl mi_51 rfl (by decide) mq0 e9_5 ?_
       intro f9_5 a9_5 c9_5
       refine ⟨[_, _, _], rfl, ?_⟩
       refine tk 6 rfl (OpV.fieldAddr rfl fo_53_3) ?_
       refine al0 7 rfl ?_
       refine OpH.storeTo (A := [_, _]) [_, _, _, _] rfl rfl rfl ts_51 rfl rfl rfl ?_
       refine ⟨[_, _, _], rfl, ?_⟩
       refine WAE.rebase (H := []) ?_
       refine WAE.done (by kernel_rfl) ?_ _
       refine En.block_norm ?_
       exact En.wk _ _ (sc (sc (sc (sc (sc (sc sn)))))) (fun _ h => ((((h).pm 2).pm 5).pm 5).sub (.cons_cons _ (.cons_cons _ (.cons_cons _ (.cons_cons _ (.cons _ (.cons _ (.slnil)))))))) (zK1 (x9_5, (a9_5, x9_5.length, c9_5, f9_5)) (Option.some.inj ej1).symm)
      ·
       refine OpH.callR (ec rfl e0) ca_80 (fun w hs => w_impl_copySurface e9_3 (r7_1_1.ext hs.below)) ?_
       rintro _ _ ⟨a9_300, n9_300, c9_300, f9_300, rfl, rfl⟩
       refine ⟨[_, _, _], rfl, ?_⟩
       refine WAE.all (rs := [1, 4]) (by kernel_rfl) rfl (AllR.cons rfl rfl rfl rfl ?_ (AllR.cons rfl rfl rfl rfl ?_ AllR.nil))
       ·
        refine OpH.light (OpV.loadBox rfl pt_51 mq1 rfl) ?_
        refine ⟨[_, _, _], rfl, ?_⟩
        refine al1 4 rfl ?_
        refine OpH.buildSlice (evps.cons rfl (evps.nil)) (bs_51_1_0 _ _ _ _ _ _ _ _ _ _ _ _ _) ?_
        intro b9_4
        refine ⟨[_, _, _, _], rfl, ?_⟩
        refine al1 5 rfl ?_
        refine OpH.wkF (fun _ h => h.pm 1) ?_
        refine OpH.wkF (fun _ h => tSurface_mk x9_3.Id x9_3.X x9_3.Y x9_3.W x9_3.H x9_3.Alpha x9_3.Orient x9_3.Visible x9_3.Buffer h) ?_
        refine OpH.wkF (fun _ h => h.pm 3) ?_
        refine OpH.wkF (fun _ h => h.pm 1) ?_
        refine OpH.push (A := tSurface) rfl rfl rfl mi_51 rfl (by decide) mq0 e9_5 ?_
        intro f9_5 a9_5 c9_5
        refine ⟨[_, _, _], rfl, ?_⟩
        refine tk 6 rfl (OpV.fieldAddr rfl fo_53_3) ?_
        refine al0 7 rfl ?_
        refine OpH.storeTo (A := [_, _]) [_, _, _, _] rfl rfl rfl ts_51 rfl rfl rfl ?_
        refine ⟨[_, _, _], rfl, ?_⟩
        refine WAE.rebase (H := []) ?_
        refine WAE.done (by kernel_rfl) ?_ _
        refine En.block_norm ?_
        exact En.wk _ _ (sc (sc (sc (sc (sc (sc sn)))))) (fun _ h => ((((h).pm 2).pm 5).pm 5).sub (.cons_cons _ (.cons_cons _ (.cons_cons _ (.cons_cons _ (.cons _ (.cons _ (.slnil)))))))) (zK1 (x9_5, (a9_5, x9_5.length, c9_5, f9_5)) (Option.some.inj ej1).symm)
       ·
        refine OpH.buildSlice (evps.cons rfl (evps.nil)) (bs_51_1_0 _ _ _ _ _ _ _ _ _ _ _ _ _) ?_
        intro b9_4
        refine ⟨[_, _, _, _], rfl, ?_⟩
        refine al1 1 rfl ?_
        refine OpH.light (OpV.loadBox rfl pt_51 mq2 rfl) ?_
        refine ⟨[_, _, _, _], rfl, ?_⟩
        refine al1 5 rfl ?_
        refine OpH.wkF (fun _ h => h.pm 1) ?_
        refine OpH.wkF (fun _ h => tSurface_mk x9_3.Id x9_3.X x9_3.Y x9_3.W x9_3.H x9_3.Alpha x9_3.Orient x9_3.Visible x9_3.Buffer h) ?_
        refine OpH.wkF (fun _ h => h.pm 3) ?_
        refine OpH.wkF (fun _ h => h.pm 1) ?_
        refine OpH.push (A := tSurface) rfl rfl rfl mi_51 rfl (by decide) mq0 e9_5 ?_
        intro f9_5 a9_5 c9_5
        refine ⟨[_, _, _], rfl, ?_⟩
        refine tk 6 rfl (OpV.fieldAddr rfl fo_53_3) ?_
        refine al0 7 rfl ?_
        refine OpH.storeTo (A := [_, _]) [_, _, _, _] rfl rfl rfl ts_51 rfl rfl rfl ?_
        refine ⟨[_, _, _], rfl, ?_⟩
        refine WAE.rebase (H := []) ?_
        refine WAE.done (by kernel_rfl) ?_ _
        refine En.block_norm ?_
        exact En.wk _ _ (sc (sc (sc (sc (sc (sc sn)))))) (fun _ h => ((((h).pm 2).pm 5).pm 5).sub (.cons_cons _ (.cons_cons _ (.cons_cons _ (.cons_cons _ (.cons _ (.cons _ (.slnil)))))))) (zK1 (x9_5, (a9_5, x9_5.length, c9_5, f9_5)) (Option.some.inj ej1).symm)
     ·
      intro hc_3
      replace ej1 := ifO_f hc_3 ej1
      refine WC.skip (En.block_norm ?_)
      exact En.wk _ _ (sc (sc (sc (sc (sc (sc sn)))))) (fun _ h => (((((h).pm 4).pm 4).pm 4).pm 4).sub (.cons_cons _ (.cons_cons _ (.cons_cons _ (.cons_cons _ (.cons _ (.slnil))))))) (zK1 (out_0, (aout_0, nout_0, cout_0, fout_0)) (Option.some.inj ej1).symm)
   ·
    intro hc_2
    replace zh0 := ifO_f hc_2 zh0
    refine WC.exit (En.then_exit (En.then_exit ?_))
    have hx := exitP ze0 zh0
    exact En.wk _ _ (sc (sc sn)) (fun _ h => ((((h).pm 3).pm 3).pm 2).sub (.cons_cons _ (.cons_cons _ (.cons_cons _ (.cons _ (.slnil)))))) (zK0_0 (out_0, (aout_0, nout_0, cout_0, fout_0)) hx.symm)

theorem w_spec_OrientSize {w_p0 : Int} {h_p1 : Int} {o_p2 : Int} {r : Int × Int}  (h : spec_OrientSize w_p0 h_p1 o_p2 = some r) {w : World}    :
    Calls Try.prog 174 #[.int .i64 w_p0, .int .i64 h_p1, .int .i64 o_p2] w (fun en w' => en = .returned (.tuple #[.int .i64 r.1, .int .i64 r.2]) ∧ Ext w w') := by
 unfold spec_OrientSize at h
 refine enter (vs := [_, _, _]) Try.func174 rfl rfl rfl rfl ?_
 refine WC.sr ?_
 refine ag ?_
 refine ag ?_
 refine WL.nil (En.next (WC.seq (WC.seq ?_)))
 obtain ⟨x1_1, e1_1, h⟩ := bnd h
 obtain ⟨q1_7, e1_7, h⟩ := bnd h
 obtain ⟨q1_12, e1_12, h⟩ := bnd h
 refine WC.region ?_
 refine mv ?_
 refine sp (OpV.call (ec rfl (ec rfl (ec rfl e0))) ca_56 (fun w hs => w_spec_l01In e1_1)) ?_
 refine sp (OpV.not rfl) ?_
 refine mv ?_
 refine Lt.ofWL.orQ 11 15 14 (p := ?pz1) (rest := ?qz1) (B := q1_7) rfl (fun hz => orO_t e1_7 hz) ?Tz1 ?Fz1 ?az1 ?bz1 ?cz1 ?dz1 ?ez1
 case Tz1 =>
  intro hcz1 hkz1
  refine sk ?_
  refine sk ?_
  refine sk ?_
  refine hkz1 _ ?_
  repeat (first | exact Sub.refl _ | refine Sub.skip rfl ?_)
 case Fz1 =>
  intro hcz1 hkz1
  have hqz1 := orO_f e1_7 hcz1
  obtain ⟨x1_5, e1_5, hqz1⟩ := bnd hqz1
  obtain rfl := Option.some.inj hqz1
  refine mv ?_
  refine sp (OpV.call (ec rfl (ec rfl (ec rfl e0))) ca_56 (fun w hs => w_spec_l01In e1_5)) ?_
  refine sp (OpV.not rfl) ?_
  refine hkz1 _ ?_ ?_
  exact rfl
  repeat (first | exact Sub.refl _ | refine Sub.skip rfl ?_)
 case az1 => exact rfl
 case bz1 => exact rfl
 case cz1 => exact rfl
 case dz1 => exact rfl
 refine mv ?_
 refine Lt.ofWL.orQ 16 20 19 (p := ?pz2) (rest := ?qz2) (B := q1_12) rfl (fun hz => orO_t e1_12 hz) ?Tz2 ?Fz2 ?az2 ?bz2 ?cz2 ?dz2 ?ez2
 case Tz2 =>
  intro hcz2 hkz2
  refine sk ?_
  refine sk ?_
  refine sk ?_
  refine hkz2 _ ?_
  repeat (first | exact Sub.refl _ | refine Sub.skip rfl ?_)
 case Fz2 =>
  intro hcz2 hkz2
  have hqz2 := orO_f e1_12 hcz2
  obtain ⟨x1_10, e1_10, hqz2⟩ := bnd hqz2
  obtain rfl := Option.some.inj hqz2
  refine mv ?_
  refine sp (OpV.call (ec rfl (ec rfl (ec rfl e0))) ca_56 (fun w hs => w_spec_l01In e1_10)) ?_
  refine sp (OpV.not rfl) ?_
  refine hkz2 _ ?_ ?_
  exact rfl
  repeat (first | exact Sub.refl _ | refine Sub.skip rfl ?_)
 case az2 => exact rfl
 case bz2 => exact rfl
 case cz2 => exact rfl
 case dz2 => exact rfl
 refine WL.nil (En.next ?_)
 refine WC.cond rfl ?_ ?_
 ·
  intro hc_1
  replace h := ifO_t hc_1 h
  refine WC.sr ?_
  refine ag ?_
  refine ag ?_
  refine WL.nil (En.next (WC.ret (En.then_ret ?_)))
  refine En.ret2 rfl (Res.tmp rfl) (Res.tmp rfl) ?_
  obtain rfl := Option.some.inj h
  intro w' hs
  exact ⟨rfl, hs.below⟩
 ·
  intro hc_1
  replace h := ifO_f hc_1 h
  refine WC.skip (En.next (WC.seq (WC.sr ?_)))
  refine mv ?_
  refine sp (OpV.remR rfl rfl rfl) ?_
  refine sp (OpV.eql rfl rfl) ?_
  refine WL.nil (En.next ?_)
  refine WC.cond rfl ?_ ?_
  ·
   intro hc_2
   replace h := ifO_t hc_2 h
   refine WC.sr ?_
   refine mv ?_
   refine mv ?_
   refine ag ?_
   refine ag ?_
   refine WL.nil (En.next (WC.ret (En.then_ret ?_)))
   refine En.ret2 rfl (Res.tmp rfl) (Res.tmp rfl) ?_
   obtain rfl := Option.some.inj h
   intro w' hs
   exact ⟨rfl, hs.below⟩
  ·
   intro hc_2
   replace h := ifO_f hc_2 h
   refine WC.skip (En.next (WC.sr ?_))
   refine mv ?_
   refine mv ?_
   refine ag ?_
   refine ag ?_
   refine WL.nil (En.next (WC.ret ?_))
   refine En.ret2 rfl (Res.tmp rfl) (Res.tmp rfl) ?_
   obtain rfl := Option.some.inj h
   intro w' hs
   exact ⟨rfl, hs.below⟩

theorem w_spec_SurfaceRect {s_p0 : SurfaceT} {r : RectT} {q0_0 : Option Addr} {l0_0 k0_0 : Nat} (h : spec_SurfaceRect s_p0 = some r) {w : World} (r0_0 : Rd tInt w q0_0 l0_0 k0_0 s_p0.Buffer.Data)   :
    Calls Try.prog 142 #[.agg #[.int .i64 s_p0.Id, .int .i64 s_p0.X, .int .i64 s_p0.Y, .int .i64 s_p0.W, .int .i64 s_p0.H, .int .i64 s_p0.Alpha, .int .i64 s_p0.Orient, .bool s_p0.Visible, .int .i64 s_p0.Buffer.W, .int .i64 s_p0.Buffer.H, .slice q0_0 l0_0 k0_0]] w (fun en w' => en = .returned (.agg #[.int .i64 r.X, .int .i64 r.Y, .int .i64 r.W, .int .i64 r.H]) ∧ Ext w w') := by
 obtain rfl := r0_0.1
 unfold spec_SurfaceRect at h
 refine enter (vs := [_]) Try.func142 rfl rfl rfl rfl ?_
 refine WC.sr ?_
 refine WL.heavy rfl rfl rfl (OpH.box rfl rfl ?_)
 intro b0_0
 refine WL.heavy rfl rfl rfl (OpH.alloc zc_141 ?_)
 intro b0_1
 refine WL.nil (En.next (WC.seq (WC.seq ?_)))
 obtain ⟨x1_1, e1_1, h⟩ := bnd h
 refine WC.region ?_
 refine sp (OpV.loadAll rfl mq1 ag_119) ?_
 refine sp (OpV.call (ec rfl e0) ca_140 (fun w hs => w_spec_SurfaceOk e1_1 (r0_0.ext hs.below))) ?_
 refine sp (OpV.not rfl) ?_
 refine mv ?_
 refine Lt.ofWL.or 8 12 11 (p := ?pz1) (rest := ?qz1) (B := ?Bz1) rfl ?Tz1 ?Fz1 ?az1 ?bz1 ?cz1 ?dz1 ?ez1
 case Tz1 =>
  intro hcz1 hkz1
  refine sk ?_
  refine sk ?_
  refine sk ?_
  refine hkz1 _ ?_
  repeat (first | exact Sub.refl _ | refine Sub.skip rfl ?_)
 case Fz1 =>
  intro hcz1 hkz1
  refine sp (OpV.fieldAddr rfl fo_119_7) ?_
  refine sp (OpV.loadBox rfl pt_4 mq1 rfl) ?_
  refine sp (OpV.not rfl) ?_
  refine hkz1 _ ?_ ?_
  exact rfl
  repeat (first | exact Sub.refl _ | refine Sub.skip rfl ?_)
 case az1 => exact rfl
 case bz1 => exact rfl
 case cz1 => exact rfl
 case dz1 => exact rfl
 refine WL.nil (En.next ?_)
 refine WC.cond rfl ?_ ?_
 ·
  intro hc_1
  replace h := ifO_t hc_1 h
  refine WC.sr ?_
  refine sp (OpV.build (evps.nil) bd_141_) ?_
  refine WL.heavy0 rfl rfl (OpH.storeTo (A := []) [_, _, _, _] rfl rfl rfl ts_141 rfl rfl rfl ?_)
  refine WL.nil (En.next (WC.ret (En.then_ret ?_)))
  refine En.ret1 rfl (Res.cell rfl mq0 ag_141) ?_
  obtain rfl := Option.some.inj h
  intro w' hs
  exact ⟨rfl, hs.below⟩
 ·
  intro hc_1
  replace h := ifO_f hc_1 h
  refine WC.skip (En.next (WC.seq ?_))
  obtain ⟨⟨x3_8a, x3_8b⟩, e3_8, h⟩ := bnd h
  refine WC.region ?_
  refine sp (OpV.fieldAddr rfl fo_119_8) ?_
  refine sp (OpV.fieldAddr rfl fo_33_0) ?_
  refine sp (OpV.loadBox rfl pt_3 mq1 rfl) ?_
  refine sp (OpV.fieldAddr rfl fo_119_8) ?_
  refine sp (OpV.fieldAddr rfl fo_33_1) ?_
  refine sp (OpV.loadBox rfl pt_3 mq1 rfl) ?_
  refine sp (OpV.fieldAddr rfl fo_119_6) ?_
  refine sp (OpV.loadBox rfl pt_3 mq1 rfl) ?_
  refine sp (OpV.call (ec rfl (ec rfl (ec rfl e0))) ca_174 (fun w hs => w_spec_OrientSize e3_8)) ?_
  refine mv ?_
  refine sp (OpV.extract rfl rfl) ?_
  refine sp (OpV.extract rfl rfl) ?_
  refine ag ?_
  refine ag ?_
  refine WL.nil (En.next (WC.seq (WC.sr ?_)))
  refine sp (OpV.fieldAddr rfl fo_119_3) ?_
  refine sp (OpV.loadBox rfl pt_3 mq1 rfl) ?_
  refine sp (OpV.gtr rfl rfl) ?_
  refine WL.nil (En.next ?_)
  refine WC.cond rfl ?_ ?_
  ·
   intro hc_2
   replace h := ifO_t hc_2 h
   refine WC.sr ?_
   refine sp (OpV.fieldAddr rfl fo_119_3) ?_
   refine sp (OpV.loadBox rfl pt_3 mq1 rfl) ?_
   refine ag ?_
   refine WL.nil (En.next (WC.region ?_))
   refine sp (OpV.fieldAddr rfl fo_119_4) ?_
   refine sp (OpV.loadBox rfl pt_3 mq1 rfl) ?_
   refine ag ?_
   refine WL.nil (En.next (WC.sr ?_))
   refine sp (OpV.fieldAddr rfl fo_119_1) ?_
   refine sp (OpV.loadBox rfl pt_3 mq1 rfl) ?_
   refine sp (OpV.fieldAddr rfl fo_119_2) ?_
   refine sp (OpV.loadBox rfl pt_3 mq1 rfl) ?_
   refine mv ?_
   refine mv ?_
   refine sp (OpV.build (evps.cons rfl (evps.cons rfl (evps.cons rfl (evps.cons rfl (evps.nil))))) (bd_141_0_1_2_3 _ _ _ _)) ?_
   refine WL.heavy0 rfl rfl (OpH.storeTo (A := []) [_, _, _, _] rfl rfl rfl ts_141 rfl rfl rfl ?_)
   refine WL.nil (En.next (WC.ret ?_))
   refine En.ret1 rfl (Res.cell rfl mq0 ag_141) ?_
   obtain rfl := Option.some.inj h
   intro w' hs
   exact ⟨rfl, hs.below⟩
  ·
   intro hc_2
   replace h := ifO_f hc_2 h
   refine WC.skip (En.next (WC.sr ?_))
   refine sp (OpV.fieldAddr rfl fo_119_1) ?_
   refine sp (OpV.loadBox rfl pt_3 mq1 rfl) ?_
   refine sp (OpV.fieldAddr rfl fo_119_2) ?_
   refine sp (OpV.loadBox rfl pt_3 mq1 rfl) ?_
   refine mv ?_
   refine mv ?_
   refine sp (OpV.build (evps.cons rfl (evps.cons rfl (evps.cons rfl (evps.cons rfl (evps.nil))))) (bd_141_0_1_2_3 _ _ _ _)) ?_
   refine WL.heavy0 rfl rfl (OpH.storeTo (A := []) [_, _, _, _] rfl rfl rfl ts_141 rfl rfl rfl ?_)
   refine WL.nil (En.next (WC.ret ?_))
   refine En.ret1 rfl (Res.cell rfl mq0 ag_141) ?_
   obtain rfl := Option.some.inj h
   intro w' hs
   exact ⟨rfl, hs.below⟩

theorem w_spec_OrientPoint {a_p0 : Int} {a_p1 : Int} {a_p2 : Int} {a_p3 : Int} {a_p4 : Int} {r : Int × Int}  (h : spec_OrientPoint a_p0 a_p1 a_p2 a_p3 a_p4 = some r) {w : World}    :
    Calls Try.prog 184 #[.int .i64 a_p0, .int .i64 a_p1, .int .i64 a_p2, .int .i64 a_p3, .int .i64 a_p4] w (fun en w' => en = .returned (.tuple #[.int .i64 r.1, .int .i64 r.2]) ∧ Ext w w') := by
 unfold spec_OrientPoint at h
 refine enter (vs := [_, _, _, _, _]) Try.func184 rfl rfl rfl rfl ?_
 refine WC.sr ?_
 refine ag ?_
 refine ag ?_
 refine WL.nil (En.next (WC.seq (WC.seq ?_)))
 obtain ⟨x1_1, e1_1, h⟩ := bnd h
 obtain ⟨q1_7, e1_7, h⟩ := bnd h
 obtain ⟨q1_12, e1_12, h⟩ := bnd h
 obtain ⟨q1_19, e1_19, h⟩ := bnd h
 obtain ⟨q1_26, e1_26, h⟩ := bnd h
 refine WC.region ?_
 refine mv ?_
 refine sp (OpV.call (ec rfl (ec rfl (ec rfl e0))) ca_56 (fun w hs => w_spec_l01In e1_1)) ?_
 refine sp (OpV.not rfl) ?_
 refine mv ?_
 refine Lt.ofWL.orQ 18 22 21 (p := ?pz1) (rest := ?qz1) (B := q1_7) rfl (fun hz => orO_t e1_7 hz) ?Tz1 ?Fz1 ?az1 ?bz1 ?cz1 ?dz1 ?ez1
 case Tz1 =>
  intro hcz1 hkz1
  refine sk ?_
  refine sk ?_
  refine sk ?_
  refine hkz1 _ ?_
  repeat (first | exact Sub.refl _ | refine Sub.skip rfl ?_)
 case Fz1 =>
  intro hcz1 hkz1
  have hqz1 := orO_f e1_7 hcz1
  obtain ⟨x1_5, e1_5, hqz1⟩ := bnd hqz1
  obtain rfl := Option.some.inj hqz1
  refine mv ?_
  refine sp (OpV.call (ec rfl (ec rfl (ec rfl e0))) ca_56 (fun w hs => w_spec_l01In e1_5)) ?_
  refine sp (OpV.not rfl) ?_
  refine hkz1 _ ?_ ?_
  exact rfl
  repeat (first | exact Sub.refl _ | refine Sub.skip rfl ?_)
 case az1 => exact rfl
 case bz1 => exact rfl
 case cz1 => exact rfl
 case dz1 => exact rfl
 refine mv ?_
 refine Lt.ofWL.orQ 23 27 26 (p := ?pz2) (rest := ?qz2) (B := q1_12) rfl (fun hz => orO_t e1_12 hz) ?Tz2 ?Fz2 ?az2 ?bz2 ?cz2 ?dz2 ?ez2
 case Tz2 =>
  intro hcz2 hkz2
  refine sk ?_
  refine sk ?_
  refine sk ?_
  refine hkz2 _ ?_
  repeat (first | exact Sub.refl _ | refine Sub.skip rfl ?_)
 case Fz2 =>
  intro hcz2 hkz2
  have hqz2 := orO_f e1_12 hcz2
  obtain ⟨x1_10, e1_10, hqz2⟩ := bnd hqz2
  obtain rfl := Option.some.inj hqz2
  refine mv ?_
  refine sp (OpV.call (ec rfl (ec rfl (ec rfl e0))) ca_56 (fun w hs => w_spec_l01In e1_10)) ?_
  refine sp (OpV.not rfl) ?_
  refine hkz2 _ ?_ ?_
  exact rfl
  repeat (first | exact Sub.refl _ | refine Sub.skip rfl ?_)
 case az2 => exact rfl
 case bz2 => exact rfl
 case cz2 => exact rfl
 case dz2 => exact rfl
 refine mv ?_
 refine Lt.ofWL.orQ 28 34 33 (p := ?pz3) (rest := ?qz3) (B := q1_19) rfl (fun hz => orO_t e1_19 hz) ?Tz3 ?Fz3 ?az3 ?bz3 ?cz3 ?dz3 ?ez3
 case Tz3 =>
  intro hcz3 hkz3
  refine sk ?_
  refine sk ?_
  refine sk ?_
  refine sk ?_
  refine sk ?_
  refine hkz3 _ ?_
  repeat (first | exact Sub.refl _ | refine Sub.skip rfl ?_)
 case Fz3 =>
  intro hcz3 hkz3
  have hqz3 := orO_f e1_19 hcz3
  obtain ⟨x1_17, e1_17, hqz3⟩ := bnd hqz3
  obtain rfl := Option.some.inj hqz3
  refine mv ?_
  refine mv ?_
  refine sp (OpV.subR rfl rfl) ?_
  refine sp (OpV.call (ec rfl (ec rfl (ec rfl e0))) ca_56 (fun w hs => w_spec_l01In e1_17)) ?_
  refine sp (OpV.not rfl) ?_
  refine hkz3 _ ?_ ?_
  exact rfl
  repeat (first | exact Sub.refl _ | refine Sub.skip rfl ?_)
 case az3 => exact rfl
 case bz3 => exact rfl
 case cz3 => exact rfl
 case dz3 => exact rfl
 refine mv ?_
 refine Lt.ofWL.orQ 35 41 40 (p := ?pz4) (rest := ?qz4) (B := q1_26) rfl (fun hz => orO_t e1_26 hz) ?Tz4 ?Fz4 ?az4 ?bz4 ?cz4 ?dz4 ?ez4
 case Tz4 =>
  intro hcz4 hkz4
  refine sk ?_
  refine sk ?_
  refine sk ?_
  refine sk ?_
  refine sk ?_
  refine hkz4 _ ?_
  repeat (first | exact Sub.refl _ | refine Sub.skip rfl ?_)
 case Fz4 =>
  intro hcz4 hkz4
  have hqz4 := orO_f e1_26 hcz4
  obtain ⟨x1_24, e1_24, hqz4⟩ := bnd hqz4
  obtain rfl := Option.some.inj hqz4
  refine mv ?_
  refine mv ?_
  refine sp (OpV.subR rfl rfl) ?_
  refine sp (OpV.call (ec rfl (ec rfl (ec rfl e0))) ca_56 (fun w hs => w_spec_l01In e1_24)) ?_
  refine sp (OpV.not rfl) ?_
  refine hkz4 _ ?_ ?_
  exact rfl
  repeat (first | exact Sub.refl _ | refine Sub.skip rfl ?_)
 case az4 => exact rfl
 case bz4 => exact rfl
 case cz4 => exact rfl
 case dz4 => exact rfl
 refine WL.nil (En.next ?_)
 refine WC.cond rfl ?_ ?_
 ·
  intro hc_1
  replace h := ifO_t hc_1 h
  refine WC.sr ?_
  refine ag ?_
  refine ag ?_
  refine WL.nil (En.next (WC.ret (En.then_ret ?_)))
  refine En.ret2 rfl (Res.tmp rfl) (Res.tmp rfl) ?_
  obtain rfl := Option.some.inj h
  intro w' hs
  exact ⟨rfl, hs.below⟩
 ·
  intro hc_1
  replace h := ifO_f hc_1 h
  refine WC.skip (En.next (WC.seq (WC.sr ?_)))
  refine mv ?_
  refine sp (OpV.geq rfl rfl) ?_
  refine WL.nil (En.next ?_)
  refine WC.cond rfl ?_ ?_
  ·
   intro hc_2
   replace h := ifO_t hc_2 h
   refine WC.region ?_
   refine mv ?_
   refine sp (OpV.subR rfl rfl) ?_
   refine mv ?_
   refine sp (OpV.subR rfl rfl) ?_
   refine ag ?_
   refine WL.nil (En.next (WC.seq (WC.sr ?_)))
   refine ag ?_
   refine WL.nil (En.next (WC.block ?_))
   obtain ⟨zy0, ezy0, h⟩ := bnd h
   refine WC.cut (X := (Int × Int) × (Unit)) (.exit 0) (fun x => zy0 = x.1) (fun x => match x with | ((v_0e, v1_0e), ()) => [(3, .int .i64 v_0e), (4, .int .i64 v1_0e)]) (fun x => match x with | ((v_0e, v1_0e), ()) => []) ?_ ?_
   ·
    rintro ⟨⟨v_0e, v1_0e⟩, ⟨⟩⟩ hx
    replace hx : (v_0e, v1_0e) = zy0 := hx.symm
    subst hx
    show En _ _ _ _ [(3, .int .i64 v_0e), (4, .int .i64 v1_0e)] []
    refine En.block_exit (En.next (WC.sr ?_))
    refine mv ?_
    refine mv ?_
    refine ag ?_
    refine ag ?_
    refine WL.nil (En.next (WC.ret ?_))
    refine En.ret2 rfl (Res.tmp rfl) (Res.tmp rfl) ?_
    obtain rfl := Option.some.inj h
    intro w' hs
    exact ⟨rfl, hs.below⟩
   ·
    intro zK0_0
    refine WC.loopP (G := Unit) (fun s g => match s, g with | (v_0, v1_0, v2_0, v3_0, v4_0), () => [(0, .int .i64 v_0), (1, .int .i64 v1_0), (2, .int .i64 a_p2), (3, .int .i64 v2_0), (4, .int .i64 v3_0), (12, .int .i64 v4_0)]) (fun s g => match s, g with | (v_0, v1_0, v2_0, v3_0, v4_0), () => []) (a_p0, a_p1, (wr ((wr (a_p0 - 1)) - a_p3)), a_p4, 0) () ezy0 (by exact sc (sc (sc (sc (sc (sc sn)))))) (by exact (fun _ h => h)) ?_
    rintro zm0 ⟨v_0, v1_0, v2_0, v3_0, v4_0⟩ ⟨⟩ zo0 zf0 zb0 ze0
    have zh0 : spec_OrientPoint_L0 a_p2 v_0 v1_0 v2_0 v3_0 v4_0 = some zo0 := zf0
    unfold spec_OrientPoint_L0 at zh0
    show WC _ _ _ _ _ [(0, .int .i64 v_0), (1, .int .i64 v1_0), (2, .int .i64 a_p2), (3, .int .i64 v2_0), (4, .int .i64 v3_0), (12, .int .i64 v4_0)] []
    refine WC.seq (WC.sr ?_)
    refine mv ?_
    refine mv ?_
    refine sp (OpV.remR rfl rfl rfl) ?_
    refine sp (OpV.lss rfl rfl) ?_
    refine WL.nil (En.next ?_)
    refine WC.cond rfl ?_ ?_
    ·
     intro hc_3
     replace zh0 := ifO_t hc_3 zh0
     refine WC.skip (En.next (WC.seq (WC.block (WC.sr ?_))))
     refine mv ?_
     refine sp (OpV.subR rfl rfl) ?_
     refine mv ?_
     refine sp (OpV.subR rfl rfl) ?_
     refine ag ?_
     refine WL.nil (En.next (WC.sr ?_))
     refine mv ?_
     refine ag ?_
     refine WL.nil (En.next (WC.sr ?_))
     refine mv ?_
     refine ag ?_
     refine WL.nil (En.next (WC.sr ?_))
     refine mv ?_
     refine ag ?_
     refine WL.nil (En.next (WC.sr ?_))
     refine mv ?_
     refine ag ?_
     refine WL.nil (En.next (WC.region ?_))
     refine mv ?_
     refine ag ?_
     refine WL.nil (En.block_norm (En.next (WC.region ?_)))
     refine mv ?_
     refine sp (OpV.addR rfl rfl) ?_
     refine ag ?_
     refine WL.nil ?_
     exact En.backP zb0 zh0 () (sc (sc (sc (sc (sc (sc sn)))))) (fun _ h => h)
    ·
     intro hc_3
     replace zh0 := ifO_f hc_3 zh0
     refine WC.exit (En.then_exit (En.then_exit ?_))
     have hx := exitP ze0 zh0
     exact En.wk _ _ (sc (sc sn)) (fun _ h => h) (zK0_0 ((v2_0, v3_0), ()) hx.symm)
  ·
   intro hc_2
   replace h := ifO_f hc_2 h
   refine WC.skip (En.next (WC.seq (WC.sr ?_)))
   refine ag ?_
   refine WL.nil (En.next (WC.block ?_))
   obtain ⟨zy1, ezy1, h⟩ := bnd h
   refine WC.cut (X := (Int × Int) × (Unit)) (.exit 0) (fun x => zy1 = x.1) (fun x => match x with | ((v_1e, v1_1e), ()) => [(3, .int .i64 v_1e), (4, .int .i64 v1_1e)]) (fun x => match x with | ((v_1e, v1_1e), ()) => []) ?_ ?_
   ·
    rintro ⟨⟨v_1e, v1_1e⟩, ⟨⟩⟩ hx
    replace hx : (v_1e, v1_1e) = zy1 := hx.symm
    subst hx
    show En _ _ _ _ [(3, .int .i64 v_1e), (4, .int .i64 v1_1e)] []
    refine En.block_exit (En.next (WC.sr ?_))
    refine mv ?_
    refine mv ?_
    refine ag ?_
    refine ag ?_
    refine WL.nil (En.next (WC.ret ?_))
    refine En.ret2 rfl (Res.tmp rfl) (Res.tmp rfl) ?_
    obtain rfl := Option.some.inj h
    intro w' hs
    exact ⟨rfl, hs.below⟩
   ·
    intro zK1_0
    refine WC.loopP (G := Unit) (fun s g => match s, g with | (v_1, v1_1, v2_1, v3_1, v4_1), () => [(0, .int .i64 v_1), (1, .int .i64 v1_1), (2, .int .i64 a_p2), (3, .int .i64 v2_1), (4, .int .i64 v3_1), (12, .int .i64 v4_1)]) (fun s g => match s, g with | (v_1, v1_1, v2_1, v3_1, v4_1), () => []) (a_p0, a_p1, a_p3, a_p4, 0) () ezy1 (by exact sc (sc (sc (sc (sc (sc sn)))))) (by exact (fun _ h => h)) ?_
    rintro zm1 ⟨v_1, v1_1, v2_1, v3_1, v4_1⟩ ⟨⟩ zo1 zf1 zb1 ze1
    have zh1 : spec_OrientPoint_L1 a_p2 v_1 v1_1 v2_1 v3_1 v4_1 = some zo1 := zf1
    unfold spec_OrientPoint_L1 at zh1
    show WC _ _ _ _ _ [(0, .int .i64 v_1), (1, .int .i64 v1_1), (2, .int .i64 a_p2), (3, .int .i64 v2_1), (4, .int .i64 v3_1), (12, .int .i64 v4_1)] []
    refine WC.seq (WC.sr ?_)
    refine mv ?_
    refine mv ?_
    refine sp (OpV.remR rfl rfl rfl) ?_
    refine sp (OpV.lss rfl rfl) ?_
    refine WL.nil (En.next ?_)
    refine WC.cond rfl ?_ ?_
    ·
     intro hc_4
     replace zh1 := ifO_t hc_4 zh1
     refine WC.skip (En.next (WC.seq (WC.block (WC.sr ?_))))
     refine mv ?_
     refine sp (OpV.subR rfl rfl) ?_
     refine mv ?_
     refine sp (OpV.subR rfl rfl) ?_
     refine ag ?_
     refine WL.nil (En.next (WC.sr ?_))
     refine mv ?_
     refine ag ?_
     refine WL.nil (En.next (WC.sr ?_))
     refine mv ?_
     refine ag ?_
     refine WL.nil (En.next (WC.sr ?_))
     refine mv ?_
     refine ag ?_
     refine WL.nil (En.next (WC.sr ?_))
     refine mv ?_
     refine ag ?_
     refine WL.nil (En.next (WC.region ?_))
     refine mv ?_
     refine ag ?_
     refine WL.nil (En.block_norm (En.next (WC.region ?_)))
     refine mv ?_
     refine sp (OpV.addR rfl rfl) ?_
     refine ag ?_
     refine WL.nil ?_
     exact En.backP zb1 zh1 () (sc (sc (sc (sc (sc (sc sn)))))) (fun _ h => h)
    ·
     intro hc_4
     replace zh1 := ifO_f hc_4 zh1
     refine WC.exit (En.then_exit (En.then_exit ?_))
     have hx := exitP ze1 zh1
     exact En.wk _ _ (sc (sc sn)) (fun _ h => h) (zK1_0 ((v2_1, v3_1), ()) hx.symm)

theorem w_spec_Oriented {a_p0 : ImageT} {a_p1 : Int} {r : ImageT} {q0_0 : Option Addr} {l0_0 k0_0 : Nat} (h : spec_Oriented a_p0 a_p1 = some r) {w : World} (r0_0 : Rd tInt w q0_0 l0_0 k0_0 a_p0.Data)   :
    Calls Try.prog 175 #[.agg #[.int .i64 a_p0.W, .int .i64 a_p0.H, .slice q0_0 l0_0 k0_0], .int .i64 a_p1] w (fun en w' => ∃ rv G, en = .returned rv ∧ (∃ (a0_0 : Option Addr) (n0_0 : Nat) (c0_0 : Nat) (f0_0 : List Nat), rv = .agg #[.int .i64 r.W, .int .i64 r.H, .slice a0_0 n0_0 c0_0] ∧ G = [Chunk.own tInt f0_0 a0_0 n0_0 c0_0 r.Data]) ∧ St w G w') := by
 obtain rfl := r0_0.1
 unfold spec_Oriented at h
 refine enter (vs := [_, _]) Try.func175 rfl rfl rfl rfl ?_
 refine WC.sr ?_
 refine WL.heavy rfl rfl rfl (OpH.box rfl rfl ?_)
 intro b0_0
 refine WL.heavy rfl rfl rfl (OpH.alloc zc_33 ?_)
 intro b0_1
 refine WL.nil (En.next (WC.seq (WC.seq ?_)))
 obtain ⟨x1_1, e1_1, h⟩ := bnd h
 obtain ⟨q1_7, e1_7, h⟩ := bnd h
 refine WC.region ?_
 refine sp (OpV.loadAll rfl mq1 ag_33) ?_
 refine sp (OpV.call (ec rfl e0) ca_98 (fun w hs => w_spec_ImageOk e1_1 (r0_0.ext hs.below))) ?_
 refine sp (OpV.not rfl) ?_
 refine mv ?_
 refine Lt.ofWL.orQ 15 19 18 (p := ?pz1) (rest := ?qz1) (B := q1_7) rfl (fun hz => orO_t e1_7 hz) ?Tz1 ?Fz1 ?az1 ?bz1 ?cz1 ?dz1 ?ez1
 case Tz1 =>
  intro hcz1 hkz1
  refine sk ?_
  refine sk ?_
  refine sk ?_
  refine hkz1 _ ?_
  repeat (first | exact Sub.refl _ | refine Sub.skip rfl ?_)
 case Fz1 =>
  intro hcz1 hkz1
  have hqz1 := orO_f e1_7 hcz1
  obtain ⟨x1_5, e1_5, hqz1⟩ := bnd hqz1
  obtain rfl := Option.some.inj hqz1
  refine mv ?_
  refine sp (OpV.call (ec rfl (ec rfl (ec rfl e0))) ca_56 (fun w hs => w_spec_l01In e1_5)) ?_
  refine sp (OpV.not rfl) ?_
  refine hkz1 _ ?_ ?_
  exact rfl
  repeat (first | exact Sub.refl _ | refine Sub.skip rfl ?_)
 case az1 => exact rfl
 case bz1 => exact rfl
 case cz1 => exact rfl
 case dz1 => exact rfl
 refine WL.nil (En.next ?_)
 refine WC.cond rfl ?_ ?_
 ·
  intro hc_1
  replace h := ifO_t hc_1 h
  refine WC.sr ?_
  refine sp (OpV.build (evps.nil) bd_33_) ?_
  refine WL.heavy0 rfl rfl (OpH.storeTo (A := []) [_, _, _] rfl rfl rfl ts_33 rfl rfl rfl ?_)
  refine WL.nil (En.next (WC.ret (En.then_ret ?_)))
  refine En.ret1 rfl (Res.cell rfl mq0 ag_33) ?_
  obtain rfl := Option.some.inj h
  intro w' hs
  have hs := ((hs).ownNil (A := tInt)).sub (.cons_cons _ (.cons _ (.cons _ (.slnil))))
  exact ⟨_, _, rfl, ⟨.none, 0, 0, [], rfl, rfl⟩, hs⟩
 ·
  intro hc_1
  replace h := ifO_f hc_1 h
  refine WC.skip (En.next (WC.seq ?_))
  obtain ⟨⟨x3_5a, x3_5b⟩, e3_5, h⟩ := bnd h
  refine WC.region ?_
  refine sp (OpV.fieldAddr rfl fo_33_0) ?_
  refine sp (OpV.loadBox rfl pt_3 mq1 rfl) ?_
  refine sp (OpV.fieldAddr rfl fo_33_1) ?_
  refine sp (OpV.loadBox rfl pt_3 mq1 rfl) ?_
  refine mv ?_
  refine sp (OpV.call (ec rfl (ec rfl (ec rfl e0))) ca_174 (fun w hs => w_spec_OrientSize e3_5)) ?_
  refine mv ?_
  refine sp (OpV.extract rfl rfl) ?_
  refine sp (OpV.extract rfl rfl) ?_
  refine ag ?_
  refine ag ?_
  refine WL.nil (En.next (WC.seq ?_))
  obtain ⟨x4_5, e4_5, h⟩ := bnd h
  refine WC.region ?_
  refine mv ?_
  refine mv ?_
  refine mv ?_
  refine mv ?_
  refine sp (OpV.mulR rfl rfl) ?_
  refine WL.heavy rfl rfl rfl (OpH.makeO (A := tInt) rfl rfl mi_28 (fun w => tInt_flat.ow w 0) (by decide) e4_5 ⟨Int.le_refl _, (mkO_some e4_5).1.2⟩ ?_)
  intro b4_5
  refine sp (OpV.build (evps.cons rfl (evps.cons rfl (evps.cons rfl (evps.nil)))) (bd_33_0_1_2 _ _ _ _ _)) ?_
  refine WL.heavy rfl rfl rfl (OpH.alloc zc_33 ?_)
  intro b4_7
  refine WL.heavy0 rfl rfl (OpH.storeTo (A := []) [_, _, _] rfl rfl rfl ts_33 rfl rfl rfl ?_)
  refine WL.nil (En.next (WC.seq (WC.sr ?_)))
  refine ag ?_
  refine WL.nil (En.next (WC.block ?_))
  obtain ⟨zy0, ezy0, h⟩ := bnd h
  refine WC.cut (X := ((List Int)) × ((List Nat))) (.exit 0) (fun x => zy0 = x.1) (fun x => match x with | (x_0e, fx_0e) => [(4, .pointer (some ⟨b0_1, 0, .none⟩)), (7, .pointer (some ⟨b4_7, 0, .none⟩))]) (fun x => match x with | (x_0e, fx_0e) => [Chunk.box b0_1 33 [.int .i64 0, .int .i64 0, .slice .none 0 0], Chunk.box b4_7 33 [.int .i64 x3_5a, .int .i64 x3_5b, .slice (some ⟨b4_5, 0, .none⟩) x4_5.length ((wr (x3_5a * x3_5b)).toNat)], Chunk.own tInt fx_0e (some ⟨b4_5, 0, .none⟩) x4_5.length ((wr (x3_5a * x3_5b)).toNat) x_0e]) ?_ ?_
  ·
   rintro ⟨x_0e, fx_0e⟩ hx
   replace hx : x_0e = zy0 := hx.symm
   subst hx
   show En _ _ _ _ [(4, .pointer (some ⟨b0_1, 0, .none⟩)), (7, .pointer (some ⟨b4_7, 0, .none⟩))] [Chunk.box b0_1 33 [.int .i64 0, .int .i64 0, .slice .none 0 0], Chunk.box b4_7 33 [.int .i64 x3_5a, .int .i64 x3_5b, .slice (some ⟨b4_5, 0, .none⟩) x4_5.length ((wr (x3_5a * x3_5b)).toNat)], Chunk.own tInt fx_0e (some ⟨b4_5, 0, .none⟩) x4_5.length ((wr (x3_5a * x3_5b)).toNat) x_0e]
   refine En.block_exit (En.next (WC.sr ?_))
   refine sp (OpV.loadAll rfl mq1 ag_33) ?_
   refine WL.heavy0 rfl rfl (OpH.storeTo (A := []) [_, _, _] rfl rfl rfl ts_33 rfl rfl rfl ?_)
   refine WL.nil (En.next (WC.ret ?_))
   refine En.ret1 rfl (Res.cell rfl mq0 ag_33) ?_
   obtain rfl := Option.some.inj h
   intro w' hs
   have hs := ((hs).pm 2).sub (.cons_cons _ (.cons _ (.cons _ (.slnil))))
   exact ⟨_, _, rfl, ⟨(some ⟨b4_5, 0, .none⟩), x4_5.length, ((wr (x3_5a * x3_5b)).toNat), fx_0e, rfl, rfl⟩, hs⟩
  ·
   intro zK0_0
   refine WC.loopP (G := (List Nat)) (fun s g => match s, g with | (x_0, v_0), fx_0 => [(1, .int .i64 a_p1), (2, .pointer (some ⟨b0_0, 0, .none⟩)), (4, .pointer (some ⟨b0_1, 0, .none⟩)), (5, .int .i64 x3_5a), (7, .pointer (some ⟨b4_7, 0, .none⟩)), (8, .int .i64 v_0)]) (fun s g => match s, g with | (x_0, v_0), fx_0 => [Chunk.box b0_0 33 [.int .i64 a_p0.W, .int .i64 a_p0.H, .slice q0_0 a_p0.Data.length k0_0], Chunk.box b0_1 33 [.int .i64 0, .int .i64 0, .slice .none 0 0], Chunk.box b4_7 33 [.int .i64 x3_5a, .int .i64 x3_5b, .slice (some ⟨b4_5, 0, .none⟩) x4_5.length ((wr (x3_5a * x3_5b)).toNat)], Chunk.own tInt fx_0 (some ⟨b4_5, 0, .none⟩) x4_5.length ((wr (x3_5a * x3_5b)).toNat) x_0]) (x4_5, 0) [b4_5] ezy0 (by exact sc (sc (sc (sc (sc (sc sn)))))) (by exact (fun _ h => ((((h).pm 1).pm 1).pm 2).pm 3)) ?_
   rintro zm0 ⟨x_0, v_0⟩ fx_0 zo0 zf0 zb0 ze0
   have zh0 : spec_Oriented_L0 a_p0 a_p1 x3_5a x_0 v_0 = some zo0 := zf0
   unfold spec_Oriented_L0 at zh0
   show WC _ _ _ _ _ [(1, .int .i64 a_p1), (2, .pointer (some ⟨b0_0, 0, .none⟩)), (4, .pointer (some ⟨b0_1, 0, .none⟩)), (5, .int .i64 x3_5a), (7, .pointer (some ⟨b4_7, 0, .none⟩)), (8, .int .i64 v_0)] [Chunk.box b0_0 33 [.int .i64 a_p0.W, .int .i64 a_p0.H, .slice q0_0 a_p0.Data.length k0_0], Chunk.box b0_1 33 [.int .i64 0, .int .i64 0, .slice .none 0 0], Chunk.box b4_7 33 [.int .i64 x3_5a, .int .i64 x3_5b, .slice (some ⟨b4_5, 0, .none⟩) x4_5.length ((wr (x3_5a * x3_5b)).toNat)], Chunk.own tInt fx_0 (some ⟨b4_5, 0, .none⟩) x4_5.length ((wr (x3_5a * x3_5b)).toNat) x_0]
   refine WC.seq (WC.sr ?_)
   refine mv ?_
   refine sp (OpV.fieldAddr rfl fo_33_1) ?_
   refine sp (OpV.loadBox rfl pt_3 mq0 rfl) ?_
   refine sp (OpV.lss rfl rfl) ?_
   refine WL.nil (En.next ?_)
   refine WC.cond rfl ?_ ?_
   ·
    intro hc_2
    replace zh0 := ifO_t hc_2 zh0
    refine WC.skip (En.next (WC.seq (WC.block (WC.sr ?_))))
    refine ag ?_
    refine WL.nil (En.next (WC.block ?_))
    obtain ⟨zy1, ezy1, zh0⟩ := bnd zh0
    refine WC.cut (X := ((List Int)) × ((List Nat))) (.exit 2) (fun x => zy1 = x.1) (fun x => match x with | (x_1e, fx_1e) => [(1, .int .i64 a_p1), (2, .pointer (some ⟨b0_0, 0, .none⟩)), (4, .pointer (some ⟨b0_1, 0, .none⟩)), (5, .int .i64 x3_5a), (7, .pointer (some ⟨b4_7, 0, .none⟩)), (8, .int .i64 v_0)]) (fun x => match x with | (x_1e, fx_1e) => [Chunk.box b0_0 33 [.int .i64 a_p0.W, .int .i64 a_p0.H, .slice q0_0 a_p0.Data.length k0_0], Chunk.box b0_1 33 [.int .i64 0, .int .i64 0, .slice .none 0 0], Chunk.box b4_7 33 [.int .i64 x3_5a, .int .i64 x3_5b, .slice (some ⟨b4_5, 0, .none⟩) x4_5.length ((wr (x3_5a * x3_5b)).toNat)], Chunk.own tInt fx_1e (some ⟨b4_5, 0, .none⟩) x4_5.length ((wr (x3_5a * x3_5b)).toNat) x_1e]) ?_ ?_
    ·
     rintro ⟨x_1e, fx_1e⟩ hx
     replace hx : x_1e = zy1 := hx.symm
     subst hx
     show En _ _ _ _ [(1, .int .i64 a_p1), (2, .pointer (some ⟨b0_0, 0, .none⟩)), (4, .pointer (some ⟨b0_1, 0, .none⟩)), (5, .int .i64 x3_5a), (7, .pointer (some ⟨b4_7, 0, .none⟩)), (8, .int .i64 v_0)] [Chunk.box b0_0 33 [.int .i64 a_p0.W, .int .i64 a_p0.H, .slice q0_0 a_p0.Data.length k0_0], Chunk.box b0_1 33 [.int .i64 0, .int .i64 0, .slice .none 0 0], Chunk.box b4_7 33 [.int .i64 x3_5a, .int .i64 x3_5b, .slice (some ⟨b4_5, 0, .none⟩) x4_5.length ((wr (x3_5a * x3_5b)).toNat)], Chunk.own tInt fx_1e (some ⟨b4_5, 0, .none⟩) x4_5.length ((wr (x3_5a * x3_5b)).toNat) x_1e]
     refine En.block_exit (En.block_norm (En.next (WC.region ?_)))
     refine mv ?_
     refine sp (OpV.addR rfl rfl) ?_
     refine ag ?_
     refine WL.nil ?_
     exact En.backP zb0 zh0 fx_1e (sc (sc (sc (sc (sc (sc sn)))))) (fun _ h => h)
    ·
     intro zK1_0
     refine WC.loopP (G := (List Nat)) (fun s g => match s, g with | (x_1, v_1), fx_1 => [(1, .int .i64 a_p1), (2, .pointer (some ⟨b0_0, 0, .none⟩)), (4, .pointer (some ⟨b0_1, 0, .none⟩)), (5, .int .i64 x3_5a), (7, .pointer (some ⟨b4_7, 0, .none⟩)), (8, .int .i64 v_0), (9, .int .i64 v_1)]) (fun s g => match s, g with | (x_1, v_1), fx_1 => [Chunk.box b0_0 33 [.int .i64 a_p0.W, .int .i64 a_p0.H, .slice q0_0 a_p0.Data.length k0_0], Chunk.box b0_1 33 [.int .i64 0, .int .i64 0, .slice .none 0 0], Chunk.box b4_7 33 [.int .i64 x3_5a, .int .i64 x3_5b, .slice (some ⟨b4_5, 0, .none⟩) x4_5.length ((wr (x3_5a * x3_5b)).toNat)], Chunk.own tInt fx_1 (some ⟨b4_5, 0, .none⟩) x4_5.length ((wr (x3_5a * x3_5b)).toNat) x_1]) (x_0, 0) fx_0 ezy1 (by exact sc (sc (sc (sc (sc (sc (sc sn))))))) (by exact (fun _ h => h)) ?_
     rintro zm1 ⟨x_1, v_1⟩ fx_1 zo1 zf1 zb1 ze1
     have zh1 : spec_Oriented_L1 a_p0 a_p1 x3_5a v_0 x_1 v_1 = some zo1 := zf1
     unfold spec_Oriented_L1 at zh1
     show WC _ _ _ _ _ [(1, .int .i64 a_p1), (2, .pointer (some ⟨b0_0, 0, .none⟩)), (4, .pointer (some ⟨b0_1, 0, .none⟩)), (5, .int .i64 x3_5a), (7, .pointer (some ⟨b4_7, 0, .none⟩)), (8, .int .i64 v_0), (9, .int .i64 v_1)] [Chunk.box b0_0 33 [.int .i64 a_p0.W, .int .i64 a_p0.H, .slice q0_0 a_p0.Data.length k0_0], Chunk.box b0_1 33 [.int .i64 0, .int .i64 0, .slice .none 0 0], Chunk.box b4_7 33 [.int .i64 x3_5a, .int .i64 x3_5b, .slice (some ⟨b4_5, 0, .none⟩) x4_5.length ((wr (x3_5a * x3_5b)).toNat)], Chunk.own tInt fx_1 (some ⟨b4_5, 0, .none⟩) x4_5.length ((wr (x3_5a * x3_5b)).toNat) x_1]
     refine WC.seq (WC.sr ?_)
     refine mv ?_
     refine sp (OpV.fieldAddr rfl fo_33_0) ?_
     refine sp (OpV.loadBox rfl pt_3 mq0 rfl) ?_
     refine sp (OpV.lss rfl rfl) ?_
     refine WL.nil (En.next ?_)
     refine WC.cond rfl ?_ ?_
     ·
      intro hc_3
      replace zh1 := ifO_t hc_3 zh1
      refine WC.skip (En.next (WC.seq (WC.block (WC.seq ?_))))
      obtain ⟨⟨x11_7a, x11_7b⟩, e11_7, zh1⟩ := bnd zh1
      refine WC.region ?_
      refine sp (OpV.fieldAddr rfl fo_33_0) ?_
      refine sp (OpV.loadBox rfl pt_3 mq0 rfl) ?_
      refine sp (OpV.fieldAddr rfl fo_33_1) ?_
      refine sp (OpV.loadBox rfl pt_3 mq0 rfl) ?_
      refine mv ?_
      refine mv ?_
      refine mv ?_
      refine sp (OpV.call (ec rfl (ec rfl (ec rfl (ec rfl (ec rfl e0))))) ca_184 (fun w hs => w_spec_OrientPoint e11_7)) ?_
      refine mv ?_
      refine sp (OpV.extract rfl rfl) ?_
      refine sp (OpV.extract rfl rfl) ?_
      refine ag ?_
      refine ag ?_
      refine WL.nil (En.next ?_)
      refine WC.inh fun hin12 => ?_
      obtain ⟨x12_15, e12_15, zh1⟩ := bnd zh1
      obtain ⟨g12_15, o12_15, _, ha12_15, rfl, hd12_15⟩ := Rd.atIdx r0_0 e12_15
      replace hd12_15 : ∀ (j : Nat) v, ([.int .i64 x12_15] : List Value)[j]? = some v → w.cell? ⟨g12_15, o12_15 + (wr ((wr (v_0 * a_p0.W)) + v_1)).toNat * 1 + j, .none⟩ = some v := hd12_15
      have hn12_17 := ownLen hin12 mq3
      obtain ⟨x12_18, e12_18, zh1⟩ := bnd zh1
      obtain ⟨g12_17, o12_17, ha12_17⟩ := ownAddrU hin12 mq3 e12_18
      refine WC.wkF (fun _ h => h.pm 3) ?_
      refine WC.drawnH [_] ([_, _, _]) (fun _ h => h) (by kernel_rfl) ?_
      refine tk 0 rfl (OpV.fieldAddr rfl fo_33_2) ?_
      refine tk 1 rfl (OpV.loadBox rfl pt_28 mq2 rfl) ?_
      refine tk 2 rfl (OpV.move rfl) ?_
      refine tk 3 rfl (OpV.move rfl) ?_
      refine tk 4 rfl (OpV.mulR rfl rfl) ?_
      refine tk 5 rfl (OpV.move rfl) ?_
      refine tk 6 rfl (OpV.addR rfl rfl) ?_
      refine tk 7 rfl (OpV.fieldAddr rfl fo_33_2) ?_
      refine tk 8 rfl (OpV.loadBox rfl pt_28 mq0 rfl) ?_
      refine tk 9 rfl (OpV.move rfl) ?_
      refine tk 10 rfl (OpV.fieldAddr rfl fo_33_0) ?_
      refine tk 11 rfl (OpV.loadBox rfl pt_3 mq0 rfl) ?_
      refine tk 12 rfl (OpV.mulR rfl rfl) ?_
      refine tk 13 rfl (OpV.move rfl) ?_
      refine tk 14 rfl (OpV.addR rfl rfl) ?_
      refine tk 15 rfl (OpV.idxA rfl rfl se_28 ha12_15 ⟨(idx_some e12_15).1, (idx_some e12_15).2.1⟩) ?_
      refine tk 16 rfl (OpV.load1 rfl pt_3 (fun w hs => hs.cell (hd12_15 0 _ rfl))) ?_
      refine tk 17 rfl (OpV.idxA rfl rfl se_28 ha12_17 ⟨(upd_some e12_18).1.1, by rw [hn12_17]; exact (upd_some e12_18).1.2⟩) ?_
      refine al0 18 rfl ?_
      refine OpH.wkF (fun _ h => St.elFlat tInt_flat x12_15 h) ?_
      refine OpH.setEl (A := tInt) ha12_17 rfl rfl rfl ts_3 e12_18 ?_
      intro f12_18
      refine ⟨[_], rfl, ?_⟩
      refine WAE.rebase (H := []) ?_
      refine WAE.done (by kernel_rfl) ?_ _
      refine En.block_norm (En.next (WC.region ?_))
      refine mv ?_
      refine sp (OpV.addR rfl rfl) ?_
      refine ag ?_
      refine WL.nil ?_
      exact En.backP zb1 zh1 f12_18 (sc (sc (sc (sc (sc (sc (sc sn))))))) (fun _ h => (((h).pm 3).pm 3).pm 3)
     ·
      intro hc_3
      replace zh1 := ifO_f hc_3 zh1
      refine WC.exit (En.then_exit (En.then_exit ?_))
      have hx := exitP ze1 zh1
      exact En.wk _ _ (sc (sc (sc (sc (sc (sc sn)))))) (fun _ h => h) (zK1_0 (x_1, fx_1) hx.symm)
   ·
    intro hc_2
    replace zh0 := ifO_f hc_2 zh0
    refine WC.exit (En.then_exit (En.then_exit ?_))
    have hx := exitP ze0 zh0
    exact En.wk _ _ (sc (sc sn)) (fun _ h => ((((h).pm 3).pm 3).pm 3).sub (.cons_cons _ (.cons_cons _ (.cons_cons _ (.cons _ (.slnil)))))) (zK0_0 (x_0, fx_0) hx.symm)

theorem w_spec_ScalePoint {from_p0 : Int} {to_p1 : Int} {k_p2 : Int} {r : Int}  (h : spec_ScalePoint from_p0 to_p1 k_p2 = some r) {w : World}    :
    Calls Try.prog 185 #[.int .i64 from_p0, .int .i64 to_p1, .int .i64 k_p2] w (fun en w' => en = .returned (.int .i64 r) ∧ Ext w w') := by
 unfold spec_ScalePoint at h
 refine enter (vs := [_, _, _]) Try.func185 rfl rfl rfl rfl ?_
 refine WC.sr ?_
 refine ag ?_
 refine WL.nil (En.next (WC.seq (WC.seq ?_)))
 obtain ⟨x1_1, e1_1, h⟩ := bnd h
 obtain ⟨q1_7, e1_7, h⟩ := bnd h
 obtain ⟨q1_14, e1_14, h⟩ := bnd h
 refine WC.region ?_
 refine mv ?_
 refine sp (OpV.call (ec rfl (ec rfl (ec rfl e0))) ca_56 (fun w hs => w_spec_l01In e1_1)) ?_
 refine sp (OpV.not rfl) ?_
 refine mv ?_
 refine Lt.ofWL.orQ 10 14 13 (p := ?pz1) (rest := ?qz1) (B := q1_7) rfl (fun hz => orO_t e1_7 hz) ?Tz1 ?Fz1 ?az1 ?bz1 ?cz1 ?dz1 ?ez1
 case Tz1 =>
  intro hcz1 hkz1
  refine sk ?_
  refine sk ?_
  refine sk ?_
  refine hkz1 _ ?_
  repeat (first | exact Sub.refl _ | refine Sub.skip rfl ?_)
 case Fz1 =>
  intro hcz1 hkz1
  have hqz1 := orO_f e1_7 hcz1
  obtain ⟨x1_5, e1_5, hqz1⟩ := bnd hqz1
  obtain rfl := Option.some.inj hqz1
  refine mv ?_
  refine sp (OpV.call (ec rfl (ec rfl (ec rfl e0))) ca_56 (fun w hs => w_spec_l01In e1_5)) ?_
  refine sp (OpV.not rfl) ?_
  refine hkz1 _ ?_ ?_
  exact rfl
  repeat (first | exact Sub.refl _ | refine Sub.skip rfl ?_)
 case az1 => exact rfl
 case bz1 => exact rfl
 case cz1 => exact rfl
 case dz1 => exact rfl
 refine mv ?_
 refine Lt.ofWL.orQ 15 21 20 (p := ?pz2) (rest := ?qz2) (B := q1_14) rfl (fun hz => orO_t e1_14 hz) ?Tz2 ?Fz2 ?az2 ?bz2 ?cz2 ?dz2 ?ez2
 case Tz2 =>
  intro hcz2 hkz2
  refine sk ?_
  refine sk ?_
  refine sk ?_
  refine sk ?_
  refine sk ?_
  refine hkz2 _ ?_
  repeat (first | exact Sub.refl _ | refine Sub.skip rfl ?_)
 case Fz2 =>
  intro hcz2 hkz2
  have hqz2 := orO_f e1_14 hcz2
  obtain ⟨x1_12, e1_12, hqz2⟩ := bnd hqz2
  obtain rfl := Option.some.inj hqz2
  refine mv ?_
  refine mv ?_
  refine sp (OpV.subR rfl rfl) ?_
  refine sp (OpV.call (ec rfl (ec rfl (ec rfl e0))) ca_56 (fun w hs => w_spec_l01In e1_12)) ?_
  refine sp (OpV.not rfl) ?_
  refine hkz2 _ ?_ ?_
  exact rfl
  repeat (first | exact Sub.refl _ | refine Sub.skip rfl ?_)
 case az2 => exact rfl
 case bz2 => exact rfl
 case cz2 => exact rfl
 case dz2 => exact rfl
 refine WL.nil (En.next ?_)
 refine WC.cond rfl ?_ ?_
 ·
  intro hc_1
  replace h := ifO_t hc_1 h
  refine WC.sr ?_
  refine ag ?_
  refine WL.nil (En.next (WC.ret (En.then_ret ?_)))
  refine En.ret1 rfl (Res.tmp rfl) ?_
  obtain rfl := Option.some.inj h
  intro w' hs
  exact ⟨rfl, hs.below⟩
 ·
  intro hc_1
  replace h := ifO_f hc_1 h
  refine WC.skip (En.next (WC.seq ?_))
  obtain ⟨x3_4, e3_4, h⟩ := bnd h
  refine WC.region ?_
  refine mv ?_
  refine mv ?_
  refine sp (OpV.mulR rfl rfl) ?_
  refine mv ?_
  refine sp (OpV.quoR rfl rfl e3_4) ?_
  refine ag ?_
  refine WL.nil (En.next (WC.ret ?_))
  refine En.ret1 rfl (Res.tmp rfl) ?_
  obtain rfl := Option.some.inj h
  intro w' hs
  exact ⟨rfl, hs.below⟩

theorem w_spec_Scaled {i_p0 : ImageT} {w_p1 : Int} {h_p2 : Int} {r : ImageT} {q0_0 : Option Addr} {l0_0 k0_0 : Nat} (h : spec_Scaled i_p0 w_p1 h_p2 = some r) {w : World} (r0_0 : Rd tInt w q0_0 l0_0 k0_0 i_p0.Data)   :
    Calls Try.prog 176 #[.agg #[.int .i64 i_p0.W, .int .i64 i_p0.H, .slice q0_0 l0_0 k0_0], .int .i64 w_p1, .int .i64 h_p2] w (fun en w' => ∃ rv G, en = .returned rv ∧ (∃ (a0_0 : Option Addr) (n0_0 : Nat) (c0_0 : Nat) (f0_0 : List Nat), rv = .agg #[.int .i64 r.W, .int .i64 r.H, .slice a0_0 n0_0 c0_0] ∧ G = [Chunk.own tInt f0_0 a0_0 n0_0 c0_0 r.Data]) ∧ St w G w') := by
 obtain rfl := r0_0.1
 unfold spec_Scaled at h
 refine enter (vs := [_, _, _]) Try.func176 rfl rfl rfl rfl ?_
 refine WC.sr ?_
 refine WL.heavy rfl rfl rfl (OpH.box rfl rfl ?_)
 intro b0_0
 refine WL.heavy rfl rfl rfl (OpH.alloc zc_33 ?_)
 intro b0_1
 refine WL.nil (En.next (WC.seq (WC.seq ?_)))
 obtain ⟨x1_1, e1_1, h⟩ := bnd h
 obtain ⟨q1_7, e1_7, h⟩ := bnd h
 obtain ⟨q1_12, e1_12, h⟩ := bnd h
 refine WC.region ?_
 refine sp (OpV.loadAll rfl mq1 ag_33) ?_
 refine sp (OpV.call (ec rfl e0) ca_98 (fun w hs => w_spec_ImageOk e1_1 (r0_0.ext hs.below))) ?_
 refine sp (OpV.not rfl) ?_
 refine mv ?_
 refine Lt.ofWL.orQ 13 17 16 (p := ?pz1) (rest := ?qz1) (B := q1_7) rfl (fun hz => orO_t e1_7 hz) ?Tz1 ?Fz1 ?az1 ?bz1 ?cz1 ?dz1 ?ez1
 case Tz1 =>
  intro hcz1 hkz1
  refine sk ?_
  refine sk ?_
  refine sk ?_
  refine hkz1 _ ?_
  repeat (first | exact Sub.refl _ | refine Sub.skip rfl ?_)
 case Fz1 =>
  intro hcz1 hkz1
  have hqz1 := orO_f e1_7 hcz1
  obtain ⟨x1_5, e1_5, hqz1⟩ := bnd hqz1
  obtain rfl := Option.some.inj hqz1
  refine mv ?_
  refine sp (OpV.call (ec rfl (ec rfl (ec rfl e0))) ca_56 (fun w hs => w_spec_l01In e1_5)) ?_
  refine sp (OpV.not rfl) ?_
  refine hkz1 _ ?_ ?_
  exact rfl
  repeat (first | exact Sub.refl _ | refine Sub.skip rfl ?_)
 case az1 => exact rfl
 case bz1 => exact rfl
 case cz1 => exact rfl
 case dz1 => exact rfl
 refine mv ?_
 refine Lt.ofWL.orQ 18 22 21 (p := ?pz2) (rest := ?qz2) (B := q1_12) rfl (fun hz => orO_t e1_12 hz) ?Tz2 ?Fz2 ?az2 ?bz2 ?cz2 ?dz2 ?ez2
 case Tz2 =>
  intro hcz2 hkz2
  refine sk ?_
  refine sk ?_
  refine sk ?_
  refine hkz2 _ ?_
  repeat (first | exact Sub.refl _ | refine Sub.skip rfl ?_)
 case Fz2 =>
  intro hcz2 hkz2
  have hqz2 := orO_f e1_12 hcz2
  obtain ⟨x1_10, e1_10, hqz2⟩ := bnd hqz2
  obtain rfl := Option.some.inj hqz2
  refine mv ?_
  refine sp (OpV.call (ec rfl (ec rfl (ec rfl e0))) ca_56 (fun w hs => w_spec_l01In e1_10)) ?_
  refine sp (OpV.not rfl) ?_
  refine hkz2 _ ?_ ?_
  exact rfl
  repeat (first | exact Sub.refl _ | refine Sub.skip rfl ?_)
 case az2 => exact rfl
 case bz2 => exact rfl
 case cz2 => exact rfl
 case dz2 => exact rfl
 refine WL.nil (En.next ?_)
 refine WC.cond rfl ?_ ?_
 ·
  intro hc_1
  replace h := ifO_t hc_1 h
  refine WC.sr ?_
  refine sp (OpV.build (evps.nil) bd_33_) ?_
  refine WL.heavy0 rfl rfl (OpH.storeTo (A := []) [_, _, _] rfl rfl rfl ts_33 rfl rfl rfl ?_)
  refine WL.nil (En.next (WC.ret (En.then_ret ?_)))
  refine En.ret1 rfl (Res.cell rfl mq0 ag_33) ?_
  obtain rfl := Option.some.inj h
  intro w' hs
  have hs := ((hs).ownNil (A := tInt)).sub (.cons_cons _ (.cons _ (.cons _ (.slnil))))
  exact ⟨_, _, rfl, ⟨.none, 0, 0, [], rfl, rfl⟩, hs⟩
 ·
  intro hc_1
  replace h := ifO_f hc_1 h
  refine WC.skip (En.next (WC.sr ?_))
  refine mv ?_
  refine mv ?_
  refine sp (OpV.build (evps.cons rfl (evps.cons rfl (evps.nil))) (bd_33_0_1 _ _)) ?_
  refine WL.heavy rfl rfl rfl (OpH.alloc zc_33 ?_)
  intro b3_3
  refine WL.heavy0 rfl rfl (OpH.storeTo (A := []) [_, _, _] rfl rfl rfl ts_33 rfl rfl rfl ?_)
  refine WL.nil (En.next (WC.seq (WC.sr ?_)))
  refine ag ?_
  refine WL.nil (En.next (WC.block ?_))
  obtain ⟨zy0, ezy0, h⟩ := bnd h
  refine WC.cut (X := ((List Int)) × ((Option Addr) × Nat × Nat × (List Nat))) (.exit 0) (fun x => zy0 = x.1) (fun x => match x with | (out_0e, (aout_0e, nout_0e, cout_0e, fout_0e)) => [(6, .pointer (some ⟨b0_1, 0, .none⟩)), (7, .pointer (some ⟨b3_3, 0, .none⟩))]) (fun x => match x with | (out_0e, (aout_0e, nout_0e, cout_0e, fout_0e)) => [Chunk.box b0_1 33 [.int .i64 0, .int .i64 0, .slice .none 0 0], Chunk.box b3_3 33 [.int .i64 w_p1, .int .i64 h_p2, .slice aout_0e nout_0e cout_0e], Chunk.own tInt fout_0e aout_0e nout_0e cout_0e out_0e]) ?_ ?_
  ·
   rintro ⟨out_0e, ⟨aout_0e, nout_0e, cout_0e, fout_0e⟩⟩ hx
   replace hx : out_0e = zy0 := hx.symm
   subst hx
   show En _ _ _ _ [(6, .pointer (some ⟨b0_1, 0, .none⟩)), (7, .pointer (some ⟨b3_3, 0, .none⟩))] [Chunk.box b0_1 33 [.int .i64 0, .int .i64 0, .slice .none 0 0], Chunk.box b3_3 33 [.int .i64 w_p1, .int .i64 h_p2, .slice aout_0e nout_0e cout_0e], Chunk.own tInt fout_0e aout_0e nout_0e cout_0e out_0e]
   refine En.block_exit (En.next (WC.sr ?_))
   refine sp (OpV.loadAll rfl mq1 ag_33) ?_
   refine WL.heavy0 rfl rfl (OpH.storeTo (A := []) [_, _, _] rfl rfl rfl ts_33 rfl rfl rfl ?_)
   refine WL.nil (En.next (WC.ret ?_))
   refine En.ret1 rfl (Res.cell rfl mq0 ag_33) ?_
   obtain rfl := Option.some.inj h
   intro w' hs
   have hs := ((hs).pm 2).sub (.cons_cons _ (.cons _ (.cons _ (.slnil))))
   exact ⟨_, _, rfl, ⟨aout_0e, nout_0e, cout_0e, fout_0e, rfl, rfl⟩, hs⟩
  ·
   intro zK0_0
   refine WC.loopP (G := (Option Addr) × Nat × Nat × (List Nat)) (fun s g => match s, g with | (out_0, y_0), (aout_0, nout_0, cout_0, fout_0) => [(1, .int .i64 w_p1), (2, .int .i64 h_p2), (3, .pointer (some ⟨b0_0, 0, .none⟩)), (6, .pointer (some ⟨b0_1, 0, .none⟩)), (7, .pointer (some ⟨b3_3, 0, .none⟩)), (8, .int .i64 y_0)]) (fun s g => match s, g with | (out_0, y_0), (aout_0, nout_0, cout_0, fout_0) => [Chunk.box b0_0 33 [.int .i64 i_p0.W, .int .i64 i_p0.H, .slice q0_0 i_p0.Data.length k0_0], Chunk.box b0_1 33 [.int .i64 0, .int .i64 0, .slice .none 0 0], Chunk.box b3_3 33 [.int .i64 w_p1, .int .i64 h_p2, .slice aout_0 nout_0 cout_0], Chunk.own tInt fout_0 aout_0 nout_0 cout_0 out_0]) ([], 0) (.none, 0, 0, []) ezy0 (by exact sc (sc (sc (sc (sc (sc sn)))))) (by exact (fun _ h => ((((h).ownNil (A := tInt)).pm 1).pm 2).pm 3)) ?_
   rintro zm0 ⟨out_0, y_0⟩ ⟨aout_0, nout_0, cout_0, fout_0⟩ zo0 zf0 zb0 ze0
   have zh0 : spec_Scaled_L0 i_p0 w_p1 h_p2 out_0 y_0 = some zo0 := zf0
   unfold spec_Scaled_L0 at zh0
   show WC _ _ _ _ _ [(1, .int .i64 w_p1), (2, .int .i64 h_p2), (3, .pointer (some ⟨b0_0, 0, .none⟩)), (6, .pointer (some ⟨b0_1, 0, .none⟩)), (7, .pointer (some ⟨b3_3, 0, .none⟩)), (8, .int .i64 y_0)] [Chunk.box b0_0 33 [.int .i64 i_p0.W, .int .i64 i_p0.H, .slice q0_0 i_p0.Data.length k0_0], Chunk.box b0_1 33 [.int .i64 0, .int .i64 0, .slice .none 0 0], Chunk.box b3_3 33 [.int .i64 w_p1, .int .i64 h_p2, .slice aout_0 nout_0 cout_0], Chunk.own tInt fout_0 aout_0 nout_0 cout_0 out_0]
   refine WC.seq (WC.sr ?_)
   refine mv ?_
   refine mv ?_
   refine sp (OpV.lss rfl rfl) ?_
   refine WL.nil (En.next ?_)
   refine WC.cond rfl ?_ ?_
   ·
    intro hc_2
    replace zh0 := ifO_t hc_2 zh0
    refine WC.skip (En.next (WC.seq (WC.block (WC.sr ?_))))
    refine ag ?_
    refine WL.nil (En.next (WC.block ?_))
    obtain ⟨zy1, ezy1, zh0⟩ := bnd zh0
    refine WC.cut (X := ((List Int)) × ((Option Addr) × Nat × Nat × (List Nat))) (.exit 2) (fun x => zy1 = x.1) (fun x => match x with | (out_1e, (aout_1e, nout_1e, cout_1e, fout_1e)) => [(1, .int .i64 w_p1), (2, .int .i64 h_p2), (3, .pointer (some ⟨b0_0, 0, .none⟩)), (6, .pointer (some ⟨b0_1, 0, .none⟩)), (7, .pointer (some ⟨b3_3, 0, .none⟩)), (8, .int .i64 y_0)]) (fun x => match x with | (out_1e, (aout_1e, nout_1e, cout_1e, fout_1e)) => [Chunk.box b0_0 33 [.int .i64 i_p0.W, .int .i64 i_p0.H, .slice q0_0 i_p0.Data.length k0_0], Chunk.box b0_1 33 [.int .i64 0, .int .i64 0, .slice .none 0 0], Chunk.box b3_3 33 [.int .i64 w_p1, .int .i64 h_p2, .slice aout_1e nout_1e cout_1e], Chunk.own tInt fout_1e aout_1e nout_1e cout_1e out_1e]) ?_ ?_
    ·
     rintro ⟨out_1e, ⟨aout_1e, nout_1e, cout_1e, fout_1e⟩⟩ hx
     replace hx : out_1e = zy1 := hx.symm
     subst hx
     show En _ _ _ _ [(1, .int .i64 w_p1), (2, .int .i64 h_p2), (3, .pointer (some ⟨b0_0, 0, .none⟩)), (6, .pointer (some ⟨b0_1, 0, .none⟩)), (7, .pointer (some ⟨b3_3, 0, .none⟩)), (8, .int .i64 y_0)] [Chunk.box b0_0 33 [.int .i64 i_p0.W, .int .i64 i_p0.H, .slice q0_0 i_p0.Data.length k0_0], Chunk.box b0_1 33 [.int .i64 0, .int .i64 0, .slice .none 0 0], Chunk.box b3_3 33 [.int .i64 w_p1, .int .i64 h_p2, .slice aout_1e nout_1e cout_1e], Chunk.own tInt fout_1e aout_1e nout_1e cout_1e out_1e]
     refine En.block_exit (En.block_norm (En.next (WC.region ?_)))
     refine mv ?_
     refine sp (OpV.addR rfl rfl) ?_
     refine ag ?_
     refine WL.nil ?_
     exact En.backP zb0 zh0 (aout_1e, nout_1e, cout_1e, fout_1e) (sc (sc (sc (sc (sc (sc sn)))))) (fun _ h => h)
    ·
     intro zK1_0
     refine WC.loopP (G := (Option Addr) × Nat × Nat × (List Nat)) (fun s g => match s, g with | (out_1, x_1), (aout_1, nout_1, cout_1, fout_1) => [(1, .int .i64 w_p1), (2, .int .i64 h_p2), (3, .pointer (some ⟨b0_0, 0, .none⟩)), (6, .pointer (some ⟨b0_1, 0, .none⟩)), (7, .pointer (some ⟨b3_3, 0, .none⟩)), (8, .int .i64 y_0), (9, .int .i64 x_1)]) (fun s g => match s, g with | (out_1, x_1), (aout_1, nout_1, cout_1, fout_1) => [Chunk.box b0_0 33 [.int .i64 i_p0.W, .int .i64 i_p0.H, .slice q0_0 i_p0.Data.length k0_0], Chunk.box b0_1 33 [.int .i64 0, .int .i64 0, .slice .none 0 0], Chunk.box b3_3 33 [.int .i64 w_p1, .int .i64 h_p2, .slice aout_1 nout_1 cout_1], Chunk.own tInt fout_1 aout_1 nout_1 cout_1 out_1]) (out_0, 0) (aout_0, nout_0, cout_0, fout_0) ezy1 (by exact sc (sc (sc (sc (sc (sc (sc sn))))))) (by exact (fun _ h => h)) ?_
     rintro zm1 ⟨out_1, x_1⟩ ⟨aout_1, nout_1, cout_1, fout_1⟩ zo1 zf1 zb1 ze1
     have zh1 : spec_Scaled_L1 i_p0 w_p1 h_p2 y_0 out_1 x_1 = some zo1 := zf1
     unfold spec_Scaled_L1 at zh1
     show WC _ _ _ _ _ [(1, .int .i64 w_p1), (2, .int .i64 h_p2), (3, .pointer (some ⟨b0_0, 0, .none⟩)), (6, .pointer (some ⟨b0_1, 0, .none⟩)), (7, .pointer (some ⟨b3_3, 0, .none⟩)), (8, .int .i64 y_0), (9, .int .i64 x_1)] [Chunk.box b0_0 33 [.int .i64 i_p0.W, .int .i64 i_p0.H, .slice q0_0 i_p0.Data.length k0_0], Chunk.box b0_1 33 [.int .i64 0, .int .i64 0, .slice .none 0 0], Chunk.box b3_3 33 [.int .i64 w_p1, .int .i64 h_p2, .slice aout_1 nout_1 cout_1], Chunk.own tInt fout_1 aout_1 nout_1 cout_1 out_1]
     refine WC.seq (WC.sr ?_)
     refine mv ?_
     refine mv ?_
     refine sp (OpV.lss rfl rfl) ?_
     refine WL.nil (En.next ?_)
     refine WC.cond rfl ?_ ?_
     ·
      intro hc_3
      replace zh1 := ifO_t hc_3 zh1
      refine WC.skip (En.next (WC.seq (WC.block ?_)))
      obtain ⟨x10_8, e10_8, zh1⟩ := bnd zh1
      obtain ⟨x10_16, e10_16, zh1⟩ := bnd zh1
      obtain ⟨x10_18, e10_18, zh1⟩ := bnd zh1
      obtain ⟨g10_18, o10_18, _, ha10_18, rfl, hd10_18⟩ := Rd.atIdx r0_0 e10_18
      replace hd10_18 : ∀ (j : Nat) v, ([.int .i64 x10_18] : List Value)[j]? = some v → w.cell? ⟨g10_18, o10_18 + (wr ((wr (x10_8 * i_p0.W)) + x10_16)).toNat * 1 + j, .none⟩ = some v := hd10_18
      obtain ⟨x10_21, e10_21, zh1⟩ := bnd zh1
      refine WC.wkF (fun _ h => h.pm 3) ?_
      refine WC.wkF (fun _ h => h.pm 3) ?_
      refine WC.drawnH [_, _] ([_, _]) (fun _ h => h) (by kernel_rfl) ?_
      refine tk 0 rfl (OpV.fieldAddr rfl fo_33_2) ?_
      refine tk 2 rfl (OpV.fieldAddr rfl fo_33_2) ?_
      refine tk 3 rfl (OpV.loadBox rfl pt_28 mq0 rfl) ?_
      refine tk 4 rfl (OpV.fieldAddr rfl fo_33_1) ?_
      refine tk 5 rfl (OpV.loadBox rfl pt_3 mq0 rfl) ?_
      refine tk 6 rfl (OpV.move rfl) ?_
      refine tk 7 rfl (OpV.move rfl) ?_
      refine tk 8 rfl (OpV.call (ec rfl (ec rfl (ec rfl e0))) ca_185 (fun w hs => w_spec_ScalePoint e10_8)) ?_
      refine tk 9 rfl (OpV.fieldAddr rfl fo_33_0) ?_
      refine tk 10 rfl (OpV.loadBox rfl pt_3 mq0 rfl) ?_
      refine tk 11 rfl (OpV.mulR rfl rfl) ?_
      refine tk 12 rfl (OpV.fieldAddr rfl fo_33_0) ?_
      refine tk 13 rfl (OpV.loadBox rfl pt_3 mq0 rfl) ?_
      refine tk 14 rfl (OpV.move rfl) ?_
      refine tk 15 rfl (OpV.move rfl) ?_
      refine tk 16 rfl (OpV.call (ec rfl (ec rfl (ec rfl e0))) ca_185 (fun w hs => w_spec_ScalePoint e10_16)) ?_
      refine tk 17 rfl (OpV.addR rfl rfl) ?_
      refine tk 18 rfl (OpV.idxA rfl rfl se_28 ha10_18 ⟨(idx_some e10_18).1, (idx_some e10_18).2.1⟩) ?_
      refine tk 19 rfl (OpV.load1 rfl pt_3 (fun w hs => hs.cell (hd10_18 0 _ rfl))) ?_
      refine WAE.all (rs := [1, 20]) (by kernel_rfl) rfl (AllR.cons rfl rfl rfl rfl ?_ (AllR.cons rfl rfl rfl rfl ?_ AllR.nil))
      ·
       refine OpH.light (OpV.loadBox rfl pt_28 mq0 rfl) ?_
       refine ⟨[_, _], rfl, ?_⟩
       refine al1 20 rfl ?_
       refine OpH.litF (A := tInt) (xs := [x10_18]) tInt_flat (evps.cons rfl (evps.nil)) (bs_28_1_0 _) rfl rfl (Nat.le_of_ble_eq_true rfl) ?_
       intro b10_20
       refine ⟨[_, _, _], rfl, ?_⟩
       refine al1 21 rfl ?_
       refine OpH.appS (F := [_, _]) (A := tInt) tInt_flat rfl rfl rfl mi_28 rfl (by decide) (fun w hs => (Ow.rd (hs.mem mq0))) e10_21 ?_
       intro f10_21 a10_21 c10_21
       refine ⟨[_, _, _], rfl, ?_⟩
       refine tk 22 rfl (OpV.fieldAddr rfl fo_33_2) ?_
       refine al0 23 rfl ?_
       refine OpH.storeTo (A := [_]) [_, _, _] rfl rfl rfl ts_28 rfl rfl rfl ?_
       refine ⟨[_, _, _], rfl, ?_⟩
       refine WAE.rebase (H := []) ?_
       refine WAE.done (by kernel_rfl) ?_ _
       refine En.block_norm (En.next (WC.region ?_))
       refine mv ?_
       refine sp (OpV.addR rfl rfl) ?_
       refine ag ?_
       refine WL.nil ?_
       exact En.backP zb1 zh1 (a10_21, x10_21.length, c10_21, f10_21) (sc (sc (sc (sc (sc (sc (sc sn))))))) (fun _ h => (((((h).pm 2).pm 2).pm 4).pm 4).sub (.cons_cons _ (.cons_cons _ (.cons_cons _ (.cons_cons _ (.cons _ (.slnil)))))))
      ·
       refine OpH.litF (A := tInt) (xs := [x10_18]) tInt_flat (evps.cons rfl (evps.nil)) (bs_28_1_0 _) rfl rfl (Nat.le_of_ble_eq_true rfl) ?_
       intro b10_20
       refine ⟨[_, _, _], rfl, ?_⟩
       refine al1 1 rfl ?_
       refine OpH.light (OpV.loadBox rfl pt_28 mq1 rfl) ?_
       refine ⟨[_, _, _], rfl, ?_⟩
       refine al1 21 rfl ?_
       refine OpH.appS (F := [_, _]) (A := tInt) tInt_flat rfl rfl rfl mi_28 rfl (by decide) (fun w hs => (Ow.rd (hs.mem mq0))) e10_21 ?_
       intro f10_21 a10_21 c10_21
       refine ⟨[_, _, _], rfl, ?_⟩
       refine tk 22 rfl (OpV.fieldAddr rfl fo_33_2) ?_
       refine al0 23 rfl ?_
       refine OpH.storeTo (A := [_]) [_, _, _] rfl rfl rfl ts_28 rfl rfl rfl ?_
       refine ⟨[_, _, _], rfl, ?_⟩
       refine WAE.rebase (H := []) ?_
       refine WAE.done (by kernel_rfl) ?_ _
       refine En.block_norm (En.next (WC.region ?_))
       refine mv ?_
       refine sp (OpV.addR rfl rfl) ?_
       refine ag ?_
       refine WL.nil ?_
       exact En.backP zb1 zh1 (a10_21, x10_21.length, c10_21, f10_21) (sc (sc (sc (sc (sc (sc (sc sn))))))) (fun _ h => (((((h).pm 2).pm 2).pm 4).pm 4).sub (.cons_cons _ (.cons_cons _ (.cons_cons _ (.cons_cons _ (.cons _ (.slnil)))))))
     ·
      intro hc_3
      replace zh1 := ifO_f hc_3 zh1
      refine WC.exit (En.then_exit (En.then_exit ?_))
      have hx := exitP ze1 zh1
      exact En.wk _ _ (sc (sc (sc (sc (sc (sc sn)))))) (fun _ h => h) (zK1_0 (out_1, (aout_1, nout_1, cout_1, fout_1)) hx.symm)
   ·
    intro hc_2
    replace zh0 := ifO_f hc_2 zh0
    refine WC.exit (En.then_exit (En.then_exit ?_))
    have hx := exitP ze0 zh0
    exact En.wk _ _ (sc (sc sn)) (fun _ h => ((((h).pm 3).pm 3).pm 3).sub (.cons_cons _ (.cons_cons _ (.cons_cons _ (.cons _ (.slnil)))))) (zK0_0 (out_0, (aout_0, nout_0, cout_0, fout_0)) hx.symm)

theorem w_spec_Part {a_p0 : Int} {b_p1 : Int} {r : Int}  (h : spec_Part a_p0 b_p1 = some r) {w : World}    :
    Calls Try.prog 178 #[.int .i64 a_p0, .int .i64 b_p1] w (fun en w' => en = .returned (.int .i64 r) ∧ Ext w w') := by
 unfold spec_Part at h
 refine enter (vs := [_, _]) Try.func178 rfl rfl rfl rfl ?_
 refine WC.sr ?_
 refine ag ?_
 refine WL.nil (En.next (WC.seq (WC.seq ?_)))
 obtain ⟨x1_1, e1_1, h⟩ := bnd h
 obtain ⟨q1_7, e1_7, h⟩ := bnd h
 refine WC.region ?_
 refine mv ?_
 refine sp (OpV.call (ec rfl (ec rfl (ec rfl e0))) ca_56 (fun w hs => w_spec_l01In e1_1)) ?_
 refine sp (OpV.not rfl) ?_
 refine mv ?_
 refine Lt.ofWL.orQ 8 12 11 (p := ?pz1) (rest := ?qz1) (B := q1_7) rfl (fun hz => orO_t e1_7 hz) ?Tz1 ?Fz1 ?az1 ?bz1 ?cz1 ?dz1 ?ez1
 case Tz1 =>
  intro hcz1 hkz1
  refine sk ?_
  refine sk ?_
  refine sk ?_
  refine hkz1 _ ?_
  repeat (first | exact Sub.refl _ | refine Sub.skip rfl ?_)
 case Fz1 =>
  intro hcz1 hkz1
  have hqz1 := orO_f e1_7 hcz1
  obtain ⟨x1_5, e1_5, hqz1⟩ := bnd hqz1
  obtain rfl := Option.some.inj hqz1
  refine mv ?_
  refine sp (OpV.call (ec rfl (ec rfl (ec rfl e0))) ca_56 (fun w hs => w_spec_l01In e1_5)) ?_
  refine sp (OpV.not rfl) ?_
  refine hkz1 _ ?_ ?_
  exact rfl
  repeat (first | exact Sub.refl _ | refine Sub.skip rfl ?_)
 case az1 => exact rfl
 case bz1 => exact rfl
 case cz1 => exact rfl
 case dz1 => exact rfl
 refine WL.nil (En.next ?_)
 refine WC.cond rfl ?_ ?_
 ·
  intro hc_1
  replace h := ifO_t hc_1 h
  refine WC.sr ?_
  refine ag ?_
  refine WL.nil (En.next (WC.ret (En.then_ret ?_)))
  refine En.ret1 rfl (Res.tmp rfl) ?_
  obtain rfl := Option.some.inj h
  intro w' hs
  exact ⟨rfl, hs.below⟩
 ·
  intro hc_1
  replace h := ifO_f hc_1 h
  refine WC.skip (En.next (WC.sr ?_))
  refine mv ?_
  refine mv ?_
  refine sp (OpV.mulR rfl rfl) ?_
  refine sp (OpV.addR rfl rfl) ?_
  refine sp (OpV.quoR rfl rfl rfl) ?_
  refine ag ?_
  refine WL.nil (En.next (WC.ret ?_))
  refine En.ret1 rfl (Res.tmp rfl) ?_
  obtain rfl := Option.some.inj h
  intro w' hs
  exact ⟨rfl, hs.below⟩

theorem w_spec_Fade {p_p0 : Int} {alpha_p1 : Int} {r : Int}  (h : spec_Fade p_p0 alpha_p1 = some r) {w : World}    :
    Calls Try.prog 177 #[.int .i64 p_p0, .int .i64 alpha_p1] w (fun en w' => en = .returned (.int .i64 r) ∧ Ext w w') := by
 unfold spec_Fade at h
 refine enter (vs := [_, _]) Try.func177 rfl rfl rfl rfl ?_
 refine WC.sr ?_
 refine ag ?_
 refine WL.nil (En.next (WC.seq (WC.seq ?_)))
 obtain ⟨x1_1, e1_1, h⟩ := bnd h
 obtain ⟨q1_7, e1_7, h⟩ := bnd h
 refine WC.region ?_
 refine mv ?_
 refine sp (OpV.call (ec rfl e0) ca_57 (fun w hs => w_spec_l04Pixel e1_1)) ?_
 refine sp (OpV.not rfl) ?_
 refine mv ?_
 refine Lt.ofWL.orQ 8 12 11 (p := ?pz1) (rest := ?qz1) (B := q1_7) rfl (fun hz => orO_t e1_7 hz) ?Tz1 ?Fz1 ?az1 ?bz1 ?cz1 ?dz1 ?ez1
 case Tz1 =>
  intro hcz1 hkz1
  refine sk ?_
  refine sk ?_
  refine sk ?_
  refine hkz1 _ ?_
  repeat (first | exact Sub.refl _ | refine Sub.skip rfl ?_)
 case Fz1 =>
  intro hcz1 hkz1
  have hqz1 := orO_f e1_7 hcz1
  obtain ⟨x1_5, e1_5, hqz1⟩ := bnd hqz1
  obtain rfl := Option.some.inj hqz1
  refine mv ?_
  refine sp (OpV.call (ec rfl (ec rfl (ec rfl e0))) ca_56 (fun w hs => w_spec_l01In e1_5)) ?_
  refine sp (OpV.not rfl) ?_
  refine hkz1 _ ?_ ?_
  exact rfl
  repeat (first | exact Sub.refl _ | refine Sub.skip rfl ?_)
 case az1 => exact rfl
 case bz1 => exact rfl
 case cz1 => exact rfl
 case dz1 => exact rfl
 refine WL.nil (En.next ?_)
 refine WC.cond rfl ?_ ?_
 ·
  intro hc_1
  replace h := ifO_t hc_1 h
  refine WC.sr ?_
  refine ag ?_
  refine WL.nil (En.next (WC.ret (En.then_ret ?_)))
  refine En.ret1 rfl (Res.tmp rfl) ?_
  obtain rfl := Option.some.inj h
  intro w' hs
  exact ⟨rfl, hs.below⟩
 ·
  intro hc_1
  replace h := ifO_f hc_1 h
  refine WC.skip (En.next (WC.seq ?_))
  obtain ⟨x3_1, e3_1, h⟩ := bnd h
  obtain ⟨x3_3, e3_3, h⟩ := bnd h
  refine WC.region ?_
  refine mv ?_
  refine sp (OpV.call (ec rfl (ec rfl e0)) ca_173 (fun w hs => w_spec_ChannelOf e3_1)) ?_
  refine mv ?_
  refine sp (OpV.call (ec rfl (ec rfl e0)) ca_178 (fun w hs => w_spec_Part e3_3)) ?_
  refine sp (OpV.shlR rfl rfl rfl) ?_
  refine mv ?_
  refine sp (OpV.andR rfl rfl) ?_
  refine sp (OpV.addR rfl rfl) ?_
  refine ag ?_
  refine WL.nil (En.next (WC.ret ?_))
  refine En.ret1 rfl (Res.tmp rfl) ?_
  obtain rfl := Option.some.inj h
  intro w' hs
  exact ⟨rfl, hs.below⟩

theorem w_spec_PictureOf {s_p0 : SurfaceT} {r : ImageT} {q0_0 : Option Addr} {l0_0 k0_0 : Nat} (h : spec_PictureOf s_p0 = some r) {w : World} (r0_0 : Rd tInt w q0_0 l0_0 k0_0 s_p0.Buffer.Data)   :
    Calls Try.prog 143 #[.agg #[.int .i64 s_p0.Id, .int .i64 s_p0.X, .int .i64 s_p0.Y, .int .i64 s_p0.W, .int .i64 s_p0.H, .int .i64 s_p0.Alpha, .int .i64 s_p0.Orient, .bool s_p0.Visible, .int .i64 s_p0.Buffer.W, .int .i64 s_p0.Buffer.H, .slice q0_0 l0_0 k0_0]] w (fun en w' => ∃ rv G, en = .returned rv ∧ (∃ (a0_0 : Option Addr) (n0_0 : Nat) (c0_0 : Nat) (f0_0 : List Nat), rv = .agg #[.int .i64 r.W, .int .i64 r.H, .slice a0_0 n0_0 c0_0] ∧ G = [Chunk.own tInt f0_0 a0_0 n0_0 c0_0 r.Data]) ∧ St w G w') := by
 obtain rfl := r0_0.1
 unfold spec_PictureOf at h
 refine enter (vs := [_]) Try.func143 rfl rfl rfl rfl ?_
 refine WC.sr ?_
 refine WL.heavy rfl rfl rfl (OpH.box rfl rfl ?_)
 intro b0_0
 refine WL.heavy rfl rfl rfl (OpH.alloc zc_33 ?_)
 intro b0_1
 refine WL.nil (En.next (WC.seq (WC.seq ?_)))
 obtain ⟨x1_1, e1_1, h⟩ := bnd h
 refine WC.region ?_
 refine sp (OpV.loadAll rfl mq1 ag_119) ?_
 refine sp (OpV.call (ec rfl e0) ca_140 (fun w hs => w_spec_SurfaceOk e1_1 (r0_0.ext hs.below))) ?_
 refine sp (OpV.not rfl) ?_
 refine WL.nil (En.next ?_)
 refine WC.cond rfl ?_ ?_
 ·
  intro hc_1
  replace h := ifO_t hc_1 h
  refine WC.sr ?_
  refine sp (OpV.build (evps.nil) bd_33_) ?_
  refine WL.heavy0 rfl rfl (OpH.storeTo (A := []) [_, _, _] rfl rfl rfl ts_33 rfl rfl rfl ?_)
  refine WL.nil (En.next (WC.ret (En.then_ret ?_)))
  refine En.ret1 rfl (Res.cell rfl mq0 ag_33) ?_
  obtain rfl := Option.some.inj h
  intro w' hs
  have hs := ((hs).ownNil (A := tInt)).sub (.cons_cons _ (.cons _ (.cons _ (.slnil))))
  exact ⟨_, _, rfl, ⟨.none, 0, 0, [], rfl, rfl⟩, hs⟩
 ·
  intro hc_1
  replace h := ifO_f hc_1 h
  refine WC.skip (En.next (WC.seq ?_))
  obtain ⟨x3_4, e3_4, h⟩ := bnd h
  refine WC.region ?_
  refine sp (OpV.fieldAddr rfl fo_119_8) ?_
  refine sp (OpV.loadPart rfl mq1 ag_33 rfl rfl) ?_
  refine sp (OpV.fieldAddr rfl fo_119_6) ?_
  refine sp (OpV.loadBox rfl pt_3 mq1 rfl) ?_
  refine WL.heavy rfl rfl rfl (OpH.callR (ec rfl (ec rfl e0)) ca_175 (fun w hs => w_spec_Oriented e3_4 (r0_0.ext hs.below)) ?_)
  rintro _ _ ⟨a3_400, n3_400, c3_400, f3_400, rfl, rfl⟩
  refine WL.heavy rfl rfl rfl (OpH.alloc zc_33 ?_)
  intro b3_5
  refine WL.heavy0 rfl rfl (OpH.storeTo (A := []) [_, _, _] rfl rfl rfl ts_33 rfl rfl rfl ?_)
  refine WL.nil (En.next (WC.seq (WC.sr ?_)))
  refine sp (OpV.fieldAddr rfl fo_119_3) ?_
  refine sp (OpV.loadBox rfl pt_3 mq3 rfl) ?_
  refine sp (OpV.gtr rfl rfl) ?_
  refine WL.nil (En.next ?_)
  refine WC.cond rfl ?_ ?_
  ·
   intro hc_2
   replace h := ifO_t hc_2 h
   obtain ⟨x5_5, e5_5, h⟩ := bnd h
   refine WC.region ?_
   refine sp (OpV.loadAll rfl mq0 ag_33) ?_
   refine sp (OpV.fieldAddr rfl fo_119_3) ?_
   refine sp (OpV.loadBox rfl pt_3 mq3 rfl) ?_
   refine sp (OpV.fieldAddr rfl fo_119_4) ?_
   refine sp (OpV.loadBox rfl pt_3 mq3 rfl) ?_
   refine WL.heavy rfl rfl rfl (OpH.callR (ec rfl (ec rfl (ec rfl e0))) ca_176 (fun w hs => w_spec_Scaled e5_5 (Ow.rd (hs.mem mq1))) ?_)
   rintro _ _ ⟨a5_500, n5_500, c5_500, f5_500, rfl, rfl⟩
   refine WL.heavy0 rfl rfl (OpH.storeTo (A := [_]) [_, _, _] rfl rfl rfl ts_33 rfl rfl rfl ?_)
   refine WL.nil (En.next (WC.seq (WC.sr ?_)))
   refine ag ?_
   refine WL.nil (En.next (WC.block ?_))
   obtain ⟨zy0, ezy0, h⟩ := bnd h
   refine WC.cut (X := ((List Int)) × ((List Nat))) (.exit 0) (fun x => zy0 = x.1) (fun x => match x with | (i_0e, fi_0e) => [(2, .pointer (some ⟨b0_1, 0, .none⟩)), (3, .pointer (some ⟨b3_5, 0, .none⟩))]) (fun x => match x with | (i_0e, fi_0e) => [Chunk.box b0_1 33 [.int .i64 0, .int .i64 0, .slice .none 0 0], Chunk.box b3_5 33 [.int .i64 x5_5.W, .int .i64 x5_5.H, .slice a5_500 n5_500 c5_500], Chunk.own tInt fi_0e a5_500 n5_500 c5_500 i_0e]) ?_ ?_
   ·
    rintro ⟨i_0e, fi_0e⟩ hx
    replace hx : i_0e = zy0 := hx.symm
    subst hx
    show En _ _ _ _ [(2, .pointer (some ⟨b0_1, 0, .none⟩)), (3, .pointer (some ⟨b3_5, 0, .none⟩))] [Chunk.box b0_1 33 [.int .i64 0, .int .i64 0, .slice .none 0 0], Chunk.box b3_5 33 [.int .i64 x5_5.W, .int .i64 x5_5.H, .slice a5_500 n5_500 c5_500], Chunk.own tInt fi_0e a5_500 n5_500 c5_500 i_0e]
    refine En.block_exit (En.next (WC.sr ?_))
    refine sp (OpV.loadAll rfl mq1 ag_33) ?_
    refine WL.heavy0 rfl rfl (OpH.storeTo (A := []) [_, _, _] rfl rfl rfl ts_33 rfl rfl rfl ?_)
    refine WL.nil (En.next (WC.ret ?_))
    refine En.ret1 rfl (Res.cell rfl mq0 ag_33) ?_
    obtain rfl := Option.some.inj h
    intro w' hs
    have hs := ((hs).pm 2).sub (.cons_cons _ (.cons _ (.cons _ (.slnil))))
    exact ⟨_, _, rfl, ⟨a5_500, n5_500, c5_500, fi_0e, rfl, rfl⟩, hs⟩
   ·
    intro zK0_0
    refine WC.loopP (G := (List Nat)) (fun s g => match s, g with | (i_0, k_0), fi_0 => [(1, .pointer (some ⟨b0_0, 0, .none⟩)), (2, .pointer (some ⟨b0_1, 0, .none⟩)), (3, .pointer (some ⟨b3_5, 0, .none⟩)), (4, .int .i64 k_0)]) (fun s g => match s, g with | (i_0, k_0), fi_0 => [Chunk.box b0_0 119 [.int .i64 s_p0.Id, .int .i64 s_p0.X, .int .i64 s_p0.Y, .int .i64 s_p0.W, .int .i64 s_p0.H, .int .i64 s_p0.Alpha, .int .i64 s_p0.Orient, .bool s_p0.Visible, .int .i64 s_p0.Buffer.W, .int .i64 s_p0.Buffer.H, .slice q0_0 s_p0.Buffer.Data.length k0_0], Chunk.box b0_1 33 [.int .i64 0, .int .i64 0, .slice .none 0 0], Chunk.box b3_5 33 [.int .i64 x5_5.W, .int .i64 x5_5.H, .slice a5_500 n5_500 c5_500], Chunk.own tInt fi_0 a5_500 n5_500 c5_500 i_0]) (x5_5.Data, 0) f5_500 ezy0 (by exact sc (sc (sc (sc sn)))) (by exact (fun _ h => ((((h).pm 1).pm 3).pm 4).sub (.cons_cons _ (.cons_cons _ (.cons_cons _ (.cons_cons _ (.cons _ (.slnil)))))))) ?_
    rintro zm0 ⟨i_0, k_0⟩ fi_0 zo0 zf0 zb0 ze0
    have zh0 : spec_PictureOf_L0 s_p0 i_0 k_0 = some zo0 := zf0
    unfold spec_PictureOf_L0 at zh0
    show WC _ _ _ _ _ [(1, .pointer (some ⟨b0_0, 0, .none⟩)), (2, .pointer (some ⟨b0_1, 0, .none⟩)), (3, .pointer (some ⟨b3_5, 0, .none⟩)), (4, .int .i64 k_0)] [Chunk.box b0_0 119 [.int .i64 s_p0.Id, .int .i64 s_p0.X, .int .i64 s_p0.Y, .int .i64 s_p0.W, .int .i64 s_p0.H, .int .i64 s_p0.Alpha, .int .i64 s_p0.Orient, .bool s_p0.Visible, .int .i64 s_p0.Buffer.W, .int .i64 s_p0.Buffer.H, .slice q0_0 s_p0.Buffer.Data.length k0_0], Chunk.box b0_1 33 [.int .i64 0, .int .i64 0, .slice .none 0 0], Chunk.box b3_5 33 [.int .i64 x5_5.W, .int .i64 x5_5.H, .slice a5_500 n5_500 c5_500], Chunk.own tInt fi_0 a5_500 n5_500 c5_500 i_0]
    refine WC.seq (WC.sr ?_)
    refine mv ?_
    refine sp (OpV.fieldAddr rfl fo_33_2) ?_
    refine sp (OpV.loadBox rfl pt_28 mq2 rfl) ?_
    refine sp (OpV.inhF fun hin => OpV.lenO (xs := i_0) rfl si_28 rfl (ownLen hin mq3)) ?_
    refine sp (OpV.lss rfl rfl) ?_
    refine WL.nil (En.next ?_)
    refine WC.cond rfl ?_ ?_
    ·
     intro hc_3
     replace zh0 := ifO_t hc_3 zh0
     refine WC.skip (En.next (WC.seq (WC.block ?_)))
     refine WC.inh fun hin9 => ?_
     obtain ⟨x9_6, e9_6, zh0⟩ := bnd zh0
     obtain ⟨g9_6, o9_6, ha9_6⟩ := ownAddr hin9 mq3 e9_6
     have hn9_6 := ownLen hin9 mq3
     obtain ⟨x9_10, e9_10, zh0⟩ := bnd zh0
     have hn9_11 := ownLen hin9 mq3
     obtain ⟨x9_12, e9_12, zh0⟩ := bnd zh0
     obtain ⟨g9_11, o9_11, ha9_11⟩ := ownAddrU hin9 mq3 e9_12
     refine WC.wkF (fun _ h => h.pm 3) ?_
     refine WC.drawnH [_] ([_, _, _]) (fun _ h => h) (by kernel_rfl) ?_
     refine tk 0 rfl (OpV.fieldAddr rfl fo_33_2) ?_
     refine tk 1 rfl (OpV.loadBox rfl pt_28 mq2 rfl) ?_
     refine tk 2 rfl (OpV.move rfl) ?_
     refine tk 3 rfl (OpV.fieldAddr rfl fo_33_2) ?_
     refine tk 4 rfl (OpV.loadBox rfl pt_28 mq2 rfl) ?_
     refine tk 5 rfl (OpV.move rfl) ?_
     refine tk 6 rfl (OpV.idxA rfl rfl se_28 ha9_6 ⟨(idx_some e9_6).1, by rw [hn9_6]; exact (idx_some e9_6).2.1⟩) ?_
     refine tk 8 rfl (OpV.fieldAddr rfl fo_119_5) ?_
     refine tk 9 rfl (OpV.loadBox rfl pt_3 mq0 rfl) ?_
     refine al1 7 rfl ?_
     refine OpH.light (OpV.load1 rfl pt_3 (fun w hs => Rd.cell1 tInt_flat (Ow.rd (hs.mem mq0)) e9_6 ha9_6 rfl)) ?_
     refine ⟨[_], rfl, ?_⟩
     refine tk 10 rfl (OpV.call (ec rfl (ec rfl e0)) ca_177 (fun w hs => w_spec_Fade e9_10)) ?_
     refine tk 11 rfl (OpV.idxA rfl rfl se_28 ha9_11 ⟨(upd_some e9_12).1.1, by rw [hn9_11]; exact (upd_some e9_12).1.2⟩) ?_
     refine al0 12 rfl ?_
     refine OpH.wkF (fun _ h => St.elFlat tInt_flat x9_10 h) ?_
     refine OpH.setEl (A := tInt) ha9_11 rfl rfl rfl ts_3 e9_12 ?_
     intro f9_12
     refine ⟨[_], rfl, ?_⟩
     refine WAE.rebase (H := []) ?_
     refine WAE.done (by kernel_rfl) ?_ _
     refine En.block_norm (En.next (WC.region ?_))
     refine mv ?_
     refine sp (OpV.addR rfl rfl) ?_
     refine ag ?_
     refine WL.nil ?_
     exact En.backP zb0 zh0 f9_12 (sc (sc (sc (sc sn)))) (fun _ h => (((h).pm 3).pm 3).pm 3)
    ·
     intro hc_3
     replace zh0 := ifO_f hc_3 zh0
     refine WC.exit (En.then_exit (En.then_exit ?_))
     have hx := exitP ze0 zh0
     exact En.wk _ _ (sc (sc sn)) (fun _ h => ((((h).pm 3).pm 3).pm 3).sub (.cons_cons _ (.cons_cons _ (.cons_cons _ (.cons _ (.slnil)))))) (zK0_0 (i_0, fi_0) hx.symm)
  ·
   intro hc_2
   replace h := ifO_f hc_2 h
   refine WC.skip (En.next (WC.seq (WC.sr ?_)))
   refine ag ?_
   refine WL.nil (En.next (WC.block ?_))
   obtain ⟨zy1, ezy1, h⟩ := bnd h
   refine WC.cut (X := ((List Int)) × ((List Nat))) (.exit 0) (fun x => zy1 = x.1) (fun x => match x with | (i_1e, fi_1e) => [(2, .pointer (some ⟨b0_1, 0, .none⟩)), (3, .pointer (some ⟨b3_5, 0, .none⟩))]) (fun x => match x with | (i_1e, fi_1e) => [Chunk.box b0_1 33 [.int .i64 0, .int .i64 0, .slice .none 0 0], Chunk.box b3_5 33 [.int .i64 x3_4.W, .int .i64 x3_4.H, .slice a3_400 n3_400 c3_400], Chunk.own tInt fi_1e a3_400 n3_400 c3_400 i_1e]) ?_ ?_
   ·
    rintro ⟨i_1e, fi_1e⟩ hx
    replace hx : i_1e = zy1 := hx.symm
    subst hx
    show En _ _ _ _ [(2, .pointer (some ⟨b0_1, 0, .none⟩)), (3, .pointer (some ⟨b3_5, 0, .none⟩))] [Chunk.box b0_1 33 [.int .i64 0, .int .i64 0, .slice .none 0 0], Chunk.box b3_5 33 [.int .i64 x3_4.W, .int .i64 x3_4.H, .slice a3_400 n3_400 c3_400], Chunk.own tInt fi_1e a3_400 n3_400 c3_400 i_1e]
    refine En.block_exit (En.next (WC.sr ?_))
    refine sp (OpV.loadAll rfl mq1 ag_33) ?_
    refine WL.heavy0 rfl rfl (OpH.storeTo (A := []) [_, _, _] rfl rfl rfl ts_33 rfl rfl rfl ?_)
    refine WL.nil (En.next (WC.ret ?_))
    refine En.ret1 rfl (Res.cell rfl mq0 ag_33) ?_
    obtain rfl := Option.some.inj h
    intro w' hs
    have hs := ((hs).pm 2).sub (.cons_cons _ (.cons _ (.cons _ (.slnil))))
    exact ⟨_, _, rfl, ⟨a3_400, n3_400, c3_400, fi_1e, rfl, rfl⟩, hs⟩
   ·
    intro zK1_0
    refine WC.loopP (G := (List Nat)) (fun s g => match s, g with | (i_1, k_1), fi_1 => [(1, .pointer (some ⟨b0_0, 0, .none⟩)), (2, .pointer (some ⟨b0_1, 0, .none⟩)), (3, .pointer (some ⟨b3_5, 0, .none⟩)), (4, .int .i64 k_1)]) (fun s g => match s, g with | (i_1, k_1), fi_1 => [Chunk.box b0_0 119 [.int .i64 s_p0.Id, .int .i64 s_p0.X, .int .i64 s_p0.Y, .int .i64 s_p0.W, .int .i64 s_p0.H, .int .i64 s_p0.Alpha, .int .i64 s_p0.Orient, .bool s_p0.Visible, .int .i64 s_p0.Buffer.W, .int .i64 s_p0.Buffer.H, .slice q0_0 s_p0.Buffer.Data.length k0_0], Chunk.box b0_1 33 [.int .i64 0, .int .i64 0, .slice .none 0 0], Chunk.box b3_5 33 [.int .i64 x3_4.W, .int .i64 x3_4.H, .slice a3_400 n3_400 c3_400], Chunk.own tInt fi_1 a3_400 n3_400 c3_400 i_1]) (x3_4.Data, 0) f3_400 ezy1 (by exact sc (sc (sc (sc sn)))) (by exact (fun _ h => ((((h).pm 1).pm 1).pm 2).pm 3)) ?_
    rintro zm1 ⟨i_1, k_1⟩ fi_1 zo1 zf1 zb1 ze1
    have zh1 : spec_PictureOf_L1 s_p0 i_1 k_1 = some zo1 := zf1
    unfold spec_PictureOf_L1 at zh1
    show WC _ _ _ _ _ [(1, .pointer (some ⟨b0_0, 0, .none⟩)), (2, .pointer (some ⟨b0_1, 0, .none⟩)), (3, .pointer (some ⟨b3_5, 0, .none⟩)), (4, .int .i64 k_1)] [Chunk.box b0_0 119 [.int .i64 s_p0.Id, .int .i64 s_p0.X, .int .i64 s_p0.Y, .int .i64 s_p0.W, .int .i64 s_p0.H, .int .i64 s_p0.Alpha, .int .i64 s_p0.Orient, .bool s_p0.Visible, .int .i64 s_p0.Buffer.W, .int .i64 s_p0.Buffer.H, .slice q0_0 s_p0.Buffer.Data.length k0_0], Chunk.box b0_1 33 [.int .i64 0, .int .i64 0, .slice .none 0 0], Chunk.box b3_5 33 [.int .i64 x3_4.W, .int .i64 x3_4.H, .slice a3_400 n3_400 c3_400], Chunk.own tInt fi_1 a3_400 n3_400 c3_400 i_1]
    refine WC.seq (WC.sr ?_)
    refine mv ?_
    refine sp (OpV.fieldAddr rfl fo_33_2) ?_
    refine sp (OpV.loadBox rfl pt_28 mq2 rfl) ?_
    refine sp (OpV.inhF fun hin => OpV.lenO (xs := i_1) rfl si_28 rfl (ownLen hin mq3)) ?_
    refine sp (OpV.lss rfl rfl) ?_
    refine WL.nil (En.next ?_)
    refine WC.cond rfl ?_ ?_
    ·
     intro hc_4
     replace zh1 := ifO_t hc_4 zh1
     refine WC.skip (En.next (WC.seq (WC.block ?_)))
     refine WC.inh fun hin9 => ?_
     obtain ⟨x9_6, e9_6, zh1⟩ := bnd zh1
     obtain ⟨g9_6, o9_6, ha9_6⟩ := ownAddr hin9 mq3 e9_6
     have hn9_6 := ownLen hin9 mq3
     obtain ⟨x9_10, e9_10, zh1⟩ := bnd zh1
     have hn9_11 := ownLen hin9 mq3
     obtain ⟨x9_12, e9_12, zh1⟩ := bnd zh1
     obtain ⟨g9_11, o9_11, ha9_11⟩ := ownAddrU hin9 mq3 e9_12
     refine WC.wkF (fun _ h => h.pm 3) ?_
     refine WC.drawnH [_] ([_, _, _]) (fun _ h => h) (by kernel_rfl) ?_
     refine tk 0 rfl (OpV.fieldAddr rfl fo_33_2) ?_
     refine tk 1 rfl (OpV.loadBox rfl pt_28 mq2 rfl) ?_
     refine tk 2 rfl (OpV.move rfl) ?_
     refine tk 3 rfl (OpV.fieldAddr rfl fo_33_2) ?_
     refine tk 4 rfl (OpV.loadBox rfl pt_28 mq2 rfl) ?_
     refine tk 5 rfl (OpV.move rfl) ?_
     refine tk 6 rfl (OpV.idxA rfl rfl se_28 ha9_6 ⟨(idx_some e9_6).1, by rw [hn9_6]; exact (idx_some e9_6).2.1⟩) ?_
     refine tk 8 rfl (OpV.fieldAddr rfl fo_119_5) ?_
     refine tk 9 rfl (OpV.loadBox rfl pt_3 mq0 rfl) ?_
     refine al1 7 rfl ?_
     refine OpH.light (OpV.load1 rfl pt_3 (fun w hs => Rd.cell1 tInt_flat (Ow.rd (hs.mem mq0)) e9_6 ha9_6 rfl)) ?_
     refine ⟨[_], rfl, ?_⟩
     refine tk 10 rfl (OpV.call (ec rfl (ec rfl e0)) ca_177 (fun w hs => w_spec_Fade e9_10)) ?_
     refine tk 11 rfl (OpV.idxA rfl rfl se_28 ha9_11 ⟨(upd_some e9_12).1.1, by rw [hn9_11]; exact (upd_some e9_12).1.2⟩) ?_
     refine al0 12 rfl ?_
     refine OpH.wkF (fun _ h => St.elFlat tInt_flat x9_10 h) ?_
     refine OpH.setEl (A := tInt) ha9_11 rfl rfl rfl ts_3 e9_12 ?_
     intro f9_12
     refine ⟨[_], rfl, ?_⟩
     refine WAE.rebase (H := []) ?_
     refine WAE.done (by kernel_rfl) ?_ _
     refine En.block_norm (En.next (WC.region ?_))
     refine mv ?_
     refine sp (OpV.addR rfl rfl) ?_
     refine ag ?_
     refine WL.nil ?_
     exact En.backP zb1 zh1 f9_12 (sc (sc (sc (sc sn)))) (fun _ h => (((h).pm 3).pm 3).pm 3)
    ·
     intro hc_4
     replace zh1 := ifO_f hc_4 zh1
     refine WC.exit (En.then_exit (En.then_exit ?_))
     have hx := exitP ze1 zh1
     exact En.wk _ _ (sc (sc sn)) (fun _ h => ((((h).pm 3).pm 3).pm 3).sub (.cons_cons _ (.cons_cons _ (.cons_cons _ (.cons _ (.slnil)))))) (zK1_0 (i_1, fi_1) hx.symm)

theorem w_spec_Over {top_p0 : Int} {bottom_p1 : Int} {r : Int}  (h : spec_Over top_p0 bottom_p1 = some r) {w : World}    :
    Calls Try.prog 145 #[.int .i64 top_p0, .int .i64 bottom_p1] w (fun en w' => en = .returned (.int .i64 r) ∧ Ext w w') := by
 unfold spec_Over at h
 refine enter (vs := [_, _]) Try.func145 rfl rfl rfl rfl ?_
 refine WC.sr ?_
 refine ag ?_
 refine WL.nil (En.next (WC.seq (WC.seq ?_)))
 obtain ⟨x1_1, e1_1, h⟩ := bnd h
 obtain ⟨q1_7, e1_7, h⟩ := bnd h
 refine WC.region ?_
 refine mv ?_
 refine sp (OpV.call (ec rfl e0) ca_57 (fun w hs => w_spec_l04Pixel e1_1)) ?_
 refine sp (OpV.not rfl) ?_
 refine mv ?_
 refine Lt.ofWL.orQ 11 15 14 (p := ?pz1) (rest := ?qz1) (B := q1_7) rfl (fun hz => orO_t e1_7 hz) ?Tz1 ?Fz1 ?az1 ?bz1 ?cz1 ?dz1 ?ez1
 case Tz1 =>
  intro hcz1 hkz1
  refine sk ?_
  refine sk ?_
  refine sk ?_
  refine hkz1 _ ?_
  repeat (first | exact Sub.refl _ | refine Sub.skip rfl ?_)
 case Fz1 =>
  intro hcz1 hkz1
  have hqz1 := orO_f e1_7 hcz1
  obtain ⟨x1_5, e1_5, hqz1⟩ := bnd hqz1
  obtain rfl := Option.some.inj hqz1
  refine mv ?_
  refine sp (OpV.call (ec rfl e0) ca_57 (fun w hs => w_spec_l04Pixel e1_5)) ?_
  refine sp (OpV.not rfl) ?_
  refine hkz1 _ ?_ ?_
  exact rfl
  repeat (first | exact Sub.refl _ | refine Sub.skip rfl ?_)
 case az1 => exact rfl
 case bz1 => exact rfl
 case cz1 => exact rfl
 case dz1 => exact rfl
 refine WL.nil (En.next ?_)
 refine WC.cond rfl ?_ ?_
 ·
  intro hc_1
  replace h := ifO_t hc_1 h
  refine WC.sr ?_
  refine ag ?_
  refine WL.nil (En.next (WC.ret (En.then_ret ?_)))
  refine En.ret1 rfl (Res.tmp rfl) ?_
  obtain rfl := Option.some.inj h
  intro w' hs
  exact ⟨rfl, hs.below⟩
 ·
  intro hc_1
  replace h := ifO_f hc_1 h
  refine WC.skip (En.next (WC.seq ?_))
  obtain ⟨x3_1, e3_1, h⟩ := bnd h
  refine WC.region ?_
  refine mv ?_
  refine sp (OpV.call (ec rfl (ec rfl e0)) ca_173 (fun w hs => w_spec_ChannelOf e3_1)) ?_
  refine ag ?_
  refine WL.nil (En.next (WC.sr ?_))
  refine ag ?_
  refine WL.nil (En.next (WC.seq (WC.sr ?_)))
  refine ag ?_
  refine WL.nil (En.next (WC.block ?_))
  obtain ⟨zy0, ezy0, h⟩ := bnd h
  refine WC.cut (X := (Int) × (Unit)) (.exit 0) (fun x => zy0 = x.1) (fun x => match x with | (out_0e, ()) => [(6, .int .i64 out_0e)]) (fun x => match x with | (out_0e, ()) => []) ?_ ?_
  ·
   rintro ⟨out_0e, ⟨⟩⟩ hx
   replace hx : out_0e = zy0 := hx.symm
   subst hx
   show En _ _ _ _ [(6, .int .i64 out_0e)] []
   refine En.block_exit (En.next (WC.sr ?_))
   refine mv ?_
   refine ag ?_
   refine WL.nil (En.next (WC.ret ?_))
   refine En.ret1 rfl (Res.tmp rfl) ?_
   obtain rfl := Option.some.inj h
   intro w' hs
   exact ⟨rfl, hs.below⟩
  ·
   intro zK0_0
   refine WC.loopP (G := Unit) (fun s g => match s, g with | (out_0, k_0), () => [(0, .int .i64 top_p0), (1, .int .i64 bottom_p1), (5, .int .i64 x3_1), (6, .int .i64 out_0), (7, .int .i64 k_0)]) (fun s g => match s, g with | (out_0, k_0), () => []) (255, 1) () ezy0 (by exact sc (sc (sc (sc (sc sn))))) (by exact (fun _ h => h)) ?_
   rintro zm0 ⟨out_0, k_0⟩ ⟨⟩ zo0 zf0 zb0 ze0
   have zh0 : spec_Over_L0 top_p0 bottom_p1 x3_1 out_0 k_0 = some zo0 := zf0
   unfold spec_Over_L0 at zh0
   show WC _ _ _ _ _ [(0, .int .i64 top_p0), (1, .int .i64 bottom_p1), (5, .int .i64 x3_1), (6, .int .i64 out_0), (7, .int .i64 k_0)] []
   refine WC.seq (WC.sr ?_)
   refine mv ?_
   refine sp (OpV.leq rfl rfl) ?_
   refine WL.nil (En.next ?_)
   refine WC.cond rfl ?_ ?_
   ·
    intro hc_2
    replace zh0 := ifO_t hc_2 zh0
    refine WC.skip (En.next (WC.seq (WC.block ?_)))
    obtain ⟨x8_4, e8_4, zh0⟩ := bnd zh0
    obtain ⟨x8_6, e8_6, zh0⟩ := bnd zh0
    obtain ⟨x8_10, e8_10, zh0⟩ := bnd zh0
    obtain ⟨x8_13, e8_13, zh0⟩ := bnd zh0
    refine WC.region ?_
    refine mv ?_
    refine sp (OpV.shlR rfl rfl rfl) ?_
    refine mv ?_
    refine mv ?_
    refine sp (OpV.call (ec rfl (ec rfl e0)) ca_173 (fun w hs => w_spec_ChannelOf e8_4)) ?_
    refine mv ?_
    refine sp (OpV.call (ec rfl (ec rfl e0)) ca_178 (fun w hs => w_spec_Part e8_6)) ?_
    refine sp (OpV.addR rfl rfl) ?_
    refine mv ?_
    refine mv ?_
    refine sp (OpV.call (ec rfl (ec rfl e0)) ca_173 (fun w hs => w_spec_ChannelOf e8_10)) ?_
    refine mv ?_
    refine sp (OpV.subR rfl rfl) ?_
    refine sp (OpV.call (ec rfl (ec rfl e0)) ca_178 (fun w hs => w_spec_Part e8_13)) ?_
    refine sp (OpV.addR rfl rfl) ?_
    refine ag ?_
    refine WL.nil (En.block_norm (En.next (WC.region ?_)))
    refine mv ?_
    refine sp (OpV.addR rfl rfl) ?_
    refine ag ?_
    refine WL.nil ?_
    exact En.backP zb0 zh0 () (sc (sc (sc (sc (sc sn))))) (fun _ h => h)
   ·
    intro hc_2
    replace zh0 := ifO_f hc_2 zh0
    refine WC.exit (En.then_exit (En.then_exit ?_))
    have hx := exitP ze0 zh0
    exact En.wk _ _ (sc sn) (fun _ h => h) (zK0_0 (out_0, ()) hx.symm)

theorem w_spec_l11Paint {a_p0 : SceneT} {r : ImageT} {q0_0 : Option Addr} {l0_0 k0_0 : Nat} (h : spec_l11Paint a_p0 = some r) {w : World} (r0_0 : Rd tSurface w q0_0 l0_0 k0_0 a_p0.Surfaces)   :
    Calls Try.prog 83 #[.agg #[.int .i64 a_p0.W, .int .i64 a_p0.H, .int .i64 a_p0.Back, .slice q0_0 l0_0 k0_0]] w (fun en w' => ∃ rv G, en = .returned rv ∧ (∃ (a0_0 : Option Addr) (n0_0 : Nat) (c0_0 : Nat) (f0_0 : List Nat), rv = .agg #[.int .i64 r.W, .int .i64 r.H, .slice a0_0 n0_0 c0_0] ∧ G = [Chunk.own tInt f0_0 a0_0 n0_0 c0_0 r.Data]) ∧ St w G w') := by
 obtain rfl := r0_0.1
 unfold spec_l11Paint at h
 refine enter (vs := [_]) Try.func83 rfl rfl rfl rfl ?_
 refine WC.sr ?_
 refine WL.heavy rfl rfl rfl (OpH.box rfl rfl ?_)
 intro b0_0
 refine WL.heavy rfl rfl rfl (OpH.alloc zc_33 ?_)
 intro b0_1
 refine WL.nil (En.next (WC.seq ?_))
 obtain ⟨x1_6, e1_6, h⟩ := bnd h
 refine WC.region ?_
 refine sp (OpV.fieldAddr rfl fo_53_0) ?_
 refine sp (OpV.loadBox rfl pt_3 mq1 rfl) ?_
 refine sp (OpV.fieldAddr rfl fo_53_1) ?_
 refine sp (OpV.loadBox rfl pt_3 mq1 rfl) ?_
 refine sp (OpV.fieldAddr rfl fo_53_2) ?_
 refine sp (OpV.loadBox rfl pt_3 mq1 rfl) ?_
 refine WL.heavy rfl rfl rfl (OpH.callR (ec rfl (ec rfl (ec rfl e0))) ca_14 (fun w hs => w_spec_NewImage e1_6) ?_)
 rintro _ _ ⟨a1_600, n1_600, c1_600, f1_600, rfl, rfl⟩
 refine WL.heavy rfl rfl rfl (OpH.alloc zc_33 ?_)
 intro b1_7
 refine WL.heavy0 rfl rfl (OpH.storeTo (A := []) [_, _, _] rfl rfl rfl ts_33 rfl rfl rfl ?_)
 refine WL.nil (En.next (WC.seq (WC.sr ?_)))
 refine ag ?_
 refine WL.nil (En.next (WC.block ?_))
 obtain ⟨zy0, ezy0, h⟩ := bnd h
 refine WC.cut (X := ((List Int)) × ((List Nat))) (.exit 0) (fun x => zy0 = x.1) (fun x => match x with | (x_0e, fx_0e) => [(2, .pointer (some ⟨b0_1, 0, .none⟩)), (3, .pointer (some ⟨b1_7, 0, .none⟩))]) (fun x => match x with | (x_0e, fx_0e) => [Chunk.box b0_1 33 [.int .i64 0, .int .i64 0, .slice .none 0 0], Chunk.box b1_7 33 [.int .i64 x1_6.W, .int .i64 x1_6.H, .slice a1_600 n1_600 c1_600], Chunk.own tInt fx_0e a1_600 n1_600 c1_600 x_0e]) ?_ ?_
 ·
  rintro ⟨x_0e, fx_0e⟩ hx
  replace hx : x_0e = zy0 := hx.symm
  subst hx
  show En _ _ _ _ [(2, .pointer (some ⟨b0_1, 0, .none⟩)), (3, .pointer (some ⟨b1_7, 0, .none⟩))] [Chunk.box b0_1 33 [.int .i64 0, .int .i64 0, .slice .none 0 0], Chunk.box b1_7 33 [.int .i64 x1_6.W, .int .i64 x1_6.H, .slice a1_600 n1_600 c1_600], Chunk.own tInt fx_0e a1_600 n1_600 c1_600 x_0e]
  refine En.block_exit (En.next (WC.sr ?_))
  refine sp (OpV.loadAll rfl mq1 ag_33) ?_
  refine WL.heavy0 rfl rfl (OpH.storeTo (A := []) [_, _, _] rfl rfl rfl ts_33 rfl rfl rfl ?_)
  refine WL.nil (En.next (WC.ret ?_))
  refine En.ret1 rfl (Res.cell rfl mq0 ag_33) ?_
  obtain rfl := Option.some.inj h
  intro w' hs
  have hs := ((hs).pm 2).sub (.cons_cons _ (.cons _ (.cons _ (.slnil))))
  exact ⟨_, _, rfl, ⟨a1_600, n1_600, c1_600, fx_0e, rfl, rfl⟩, hs⟩
 ·
  intro zK0_0
  refine WC.loopP (G := (List Nat)) (fun s g => match s, g with | (x_0, v_0), fx_0 => [(1, .pointer (some ⟨b0_0, 0, .none⟩)), (2, .pointer (some ⟨b0_1, 0, .none⟩)), (3, .pointer (some ⟨b1_7, 0, .none⟩)), (4, .int .i64 v_0)]) (fun s g => match s, g with | (x_0, v_0), fx_0 => [Chunk.box b0_0 53 [.int .i64 a_p0.W, .int .i64 a_p0.H, .int .i64 a_p0.Back, .slice q0_0 a_p0.Surfaces.length k0_0], Chunk.box b0_1 33 [.int .i64 0, .int .i64 0, .slice .none 0 0], Chunk.box b1_7 33 [.int .i64 x1_6.W, .int .i64 x1_6.H, .slice a1_600 n1_600 c1_600], Chunk.own tInt fx_0 a1_600 n1_600 c1_600 x_0]) (x1_6.Data, 0) f1_600 ezy0 (by exact sc (sc (sc (sc sn)))) (by exact (fun _ h => ((((h).pm 1).pm 1).pm 2).pm 3)) ?_
  rintro zm0 ⟨x_0, v_0⟩ fx_0 zo0 zf0 zb0 ze0
  have zh0 : spec_l11Paint_L0 a_p0 x_0 v_0 = some zo0 := zf0
  unfold spec_l11Paint_L0 at zh0
  show WC _ _ _ _ _ [(1, .pointer (some ⟨b0_0, 0, .none⟩)), (2, .pointer (some ⟨b0_1, 0, .none⟩)), (3, .pointer (some ⟨b1_7, 0, .none⟩)), (4, .int .i64 v_0)] [Chunk.box b0_0 53 [.int .i64 a_p0.W, .int .i64 a_p0.H, .int .i64 a_p0.Back, .slice q0_0 a_p0.Surfaces.length k0_0], Chunk.box b0_1 33 [.int .i64 0, .int .i64 0, .slice .none 0 0], Chunk.box b1_7 33 [.int .i64 x1_6.W, .int .i64 x1_6.H, .slice a1_600 n1_600 c1_600], Chunk.own tInt fx_0 a1_600 n1_600 c1_600 x_0]
  refine WC.seq (WC.sr ?_)
  refine mv ?_
  refine sp (OpV.fieldAddr rfl fo_53_3) ?_
  refine sp (OpV.loadBox rfl pt_51 mq0 rfl) ?_
  refine sp (OpV.len rfl si_51 rfl) ?_
  refine sp (OpV.lss rfl rfl) ?_
  refine WL.nil (En.next ?_)
  refine WC.cond rfl ?_ ?_
  ·
   intro hc_1
   replace zh0 := ifO_t hc_1 zh0
   refine WC.skip (En.next (WC.seq (WC.block (WC.seq ?_))))
   obtain ⟨x5_3, e5_3, zh0⟩ := bnd zh0
   obtain ⟨g5_3, o5_3, _, ha5_3, ⟨a5_3_1, c5_3_1, rfl, r5_3_1⟩, hd5_3⟩ := Rd.atIdx r0_0 e5_3
   replace hd5_3 : ∀ (j : Nat) v, ([.int .i64 x5_3.Id, .int .i64 x5_3.X, .int .i64 x5_3.Y, .int .i64 x5_3.W, .int .i64 x5_3.H, .int .i64 x5_3.Alpha, .int .i64 x5_3.Orient, .bool x5_3.Visible, .int .i64 x5_3.Buffer.W, .int .i64 x5_3.Buffer.H, .slice a5_3_1 x5_3.Buffer.Data.length c5_3_1] : List Value)[j]? = some v → w.cell? ⟨g5_3, o5_3 + v_0.toNat * 11 + j, .none⟩ = some v := hd5_3
   obtain ⟨x5_5, e5_5, zh0⟩ := bnd zh0
   refine WC.region ?_
   refine sp (OpV.fieldAddr rfl fo_53_3) ?_
   refine sp (OpV.loadBox rfl pt_51 mq0 rfl) ?_
   refine mv ?_
   refine sp (OpV.idxA rfl rfl se_51 ha5_3 ⟨(idx_some e5_3).1, (idx_some e5_3).2.1⟩) ?_
   refine sp (OpV.loadN rfl ag_119 rfl (fun w hs => hs.cellsAt hd5_3)) ?_
   refine sp (OpV.call (ec rfl e0) ca_142 (fun w hs => w_spec_SurfaceRect e5_5 (r5_3_1.ext hs.below))) ?_
   refine WL.heavy rfl rfl rfl (OpH.alloc zc_141 ?_)
   intro b5_6
   refine WL.heavy0 rfl rfl (OpH.storeTo (A := []) [_, _, _, _] rfl rfl rfl ts_141 rfl rfl rfl ?_)
   refine WL.nil (En.next (WC.seq ?_))
   obtain ⟨x6_3, e6_3, zh0⟩ := bnd zh0
   obtain ⟨g6_3, o6_3, _, ha6_3, ⟨a6_3_1, c6_3_1, rfl, r6_3_1⟩, hd6_3⟩ := Rd.atIdx r0_0 e6_3
   replace hd6_3 : ∀ (j : Nat) v, ([.int .i64 x6_3.Id, .int .i64 x6_3.X, .int .i64 x6_3.Y, .int .i64 x6_3.W, .int .i64 x6_3.H, .int .i64 x6_3.Alpha, .int .i64 x6_3.Orient, .bool x6_3.Visible, .int .i64 x6_3.Buffer.W, .int .i64 x6_3.Buffer.H, .slice a6_3_1 x6_3.Buffer.Data.length c6_3_1] : List Value)[j]? = some v → w.cell? ⟨g6_3, o6_3 + v_0.toNat * 11 + j, .none⟩ = some v := hd6_3
   obtain ⟨x6_5, e6_5, zh0⟩ := bnd zh0
   refine WC.region ?_
   refine sp (OpV.fieldAddr rfl fo_53_3) ?_
   refine sp (OpV.loadBox rfl pt_51 mq1 rfl) ?_
   refine mv ?_
   refine sp (OpV.idxA rfl rfl se_51 ha6_3 ⟨(idx_some e6_3).1, (idx_some e6_3).2.1⟩) ?_
   refine sp (OpV.loadN rfl ag_119 rfl (fun w hs => hs.cellsAt hd6_3)) ?_
   refine WL.heavy rfl rfl rfl (OpH.callR (ec rfl e0) ca_143 (fun w hs => w_spec_PictureOf e6_5 (r6_3_1.ext hs.below)) ?_)
   rintro _ _ ⟨a6_500, n6_500, c6_500, f6_500, rfl, rfl⟩
   refine WL.heavy rfl rfl rfl (OpH.alloc zc_33 ?_)
   intro b6_6
   refine WL.heavy0 rfl rfl (OpH.storeTo (A := []) [_, _, _] rfl rfl rfl ts_33 rfl rfl rfl ?_)
   refine WL.nil (En.next (WC.seq ?_))
   obtain ⟨x7_6, e7_6, zh0⟩ := bnd zh0
   refine WC.region ?_
   refine sp (OpV.loadAll rfl mq2 ag_141) ?_
   refine sp (OpV.fieldAddr rfl fo_53_0) ?_
   refine sp (OpV.loadBox rfl pt_3 mq3 rfl) ?_
   refine sp (OpV.fieldAddr rfl fo_53_1) ?_
   refine sp (OpV.loadBox rfl pt_3 mq3 rfl) ?_
   refine sp (OpV.build (evps.cons rfl (evps.cons rfl (evps.nil))) (bd_141_2_3 _ _)) ?_
   refine sp (OpV.call (ec rfl (ec rfl e0)) ca_144 (fun w hs => w_spec_Intersect e7_6)) ?_
   refine WL.heavy rfl rfl rfl (OpH.alloc zc_141 ?_)
   intro b7_7
   refine WL.heavy0 rfl rfl (OpH.storeTo (A := []) [_, _, _, _] rfl rfl rfl ts_141 rfl rfl rfl ?_)
   refine WL.nil (En.next (WC.sr ?_))
   refine sp (OpV.fieldAddr rfl fo_141_1) ?_
   refine sp (OpV.loadBox rfl pt_3 mq0 rfl) ?_
   refine ag ?_
   refine WL.nil (En.next (WC.block ?_))
   obtain ⟨zy1, ezy1, zh0⟩ := bnd zh0
   refine WC.cut (X := ((List Int)) × ((List Nat))) (.exit 2) (fun x => zy1 = x.1) (fun x => match x with | (x_1e, fx_1e) => [(1, .pointer (some ⟨b0_0, 0, .none⟩)), (2, .pointer (some ⟨b0_1, 0, .none⟩)), (3, .pointer (some ⟨b1_7, 0, .none⟩)), (4, .int .i64 v_0)]) (fun x => match x with | (x_1e, fx_1e) => [Chunk.box b0_0 53 [.int .i64 a_p0.W, .int .i64 a_p0.H, .int .i64 a_p0.Back, .slice q0_0 a_p0.Surfaces.length k0_0], Chunk.box b0_1 33 [.int .i64 0, .int .i64 0, .slice .none 0 0], Chunk.box b1_7 33 [.int .i64 x1_6.W, .int .i64 x1_6.H, .slice a1_600 n1_600 c1_600], Chunk.own tInt fx_1e a1_600 n1_600 c1_600 x_1e]) ?_ ?_
   ·
    rintro ⟨x_1e, fx_1e⟩ hx
    replace hx : x_1e = zy1 := hx.symm
    subst hx
    show En _ _ _ _ [(1, .pointer (some ⟨b0_0, 0, .none⟩)), (2, .pointer (some ⟨b0_1, 0, .none⟩)), (3, .pointer (some ⟨b1_7, 0, .none⟩)), (4, .int .i64 v_0)] [Chunk.box b0_0 53 [.int .i64 a_p0.W, .int .i64 a_p0.H, .int .i64 a_p0.Back, .slice q0_0 a_p0.Surfaces.length k0_0], Chunk.box b0_1 33 [.int .i64 0, .int .i64 0, .slice .none 0 0], Chunk.box b1_7 33 [.int .i64 x1_6.W, .int .i64 x1_6.H, .slice a1_600 n1_600 c1_600], Chunk.own tInt fx_1e a1_600 n1_600 c1_600 x_1e]
    refine En.block_exit (En.block_norm (En.next (WC.region ?_)))
    refine mv ?_
    refine sp (OpV.addR rfl rfl) ?_
    refine ag ?_
    refine WL.nil ?_
    exact En.backP zb0 zh0 fx_1e (sc (sc (sc (sc sn)))) (fun _ h => h)
   ·
    intro zK1_0
    refine WC.loopP (G := (List Nat)) (fun s g => match s, g with | (x_1, v_1), fx_1 => [(1, .pointer (some ⟨b0_0, 0, .none⟩)), (2, .pointer (some ⟨b0_1, 0, .none⟩)), (3, .pointer (some ⟨b1_7, 0, .none⟩)), (4, .int .i64 v_0), (5, .pointer (some ⟨b5_6, 0, .none⟩)), (6, .pointer (some ⟨b6_6, 0, .none⟩)), (7, .pointer (some ⟨b7_7, 0, .none⟩)), (8, .int .i64 v_1)]) (fun s g => match s, g with | (x_1, v_1), fx_1 => [Chunk.box b0_0 53 [.int .i64 a_p0.W, .int .i64 a_p0.H, .int .i64 a_p0.Back, .slice q0_0 a_p0.Surfaces.length k0_0], Chunk.box b0_1 33 [.int .i64 0, .int .i64 0, .slice .none 0 0], Chunk.box b1_7 33 [.int .i64 x1_6.W, .int .i64 x1_6.H, .slice a1_600 n1_600 c1_600], Chunk.own tInt fx_1 a1_600 n1_600 c1_600 x_1, Chunk.box b5_6 141 [.int .i64 x5_5.X, .int .i64 x5_5.Y, .int .i64 x5_5.W, .int .i64 x5_5.H], Chunk.box b6_6 33 [.int .i64 x6_5.W, .int .i64 x6_5.H, .slice a6_500 n6_500 c6_500], Chunk.own tInt f6_500 a6_500 n6_500 c6_500 x6_5.Data, Chunk.box b7_7 141 [.int .i64 x7_6.X, .int .i64 x7_6.Y, .int .i64 x7_6.W, .int .i64 x7_6.H]]) (x_0, x7_6.Y) fx_0 ezy1 (by exact sc (sc (sc (sc (sc (sc (sc (sc sn)))))))) (by exact (fun _ h => (((((((h).pm 2).pm 2).pm 3).pm 7).pm 7).pm 7).pm 7)) ?_
    rintro zm1 ⟨x_1, v_1⟩ fx_1 zo1 zf1 zb1 ze1
    have zh1 : spec_l11Paint_L1 a_p0 x5_5 x6_5 x7_6 x_1 v_1 = some zo1 := zf1
    unfold spec_l11Paint_L1 at zh1
    show WC _ _ _ _ _ [(1, .pointer (some ⟨b0_0, 0, .none⟩)), (2, .pointer (some ⟨b0_1, 0, .none⟩)), (3, .pointer (some ⟨b1_7, 0, .none⟩)), (4, .int .i64 v_0), (5, .pointer (some ⟨b5_6, 0, .none⟩)), (6, .pointer (some ⟨b6_6, 0, .none⟩)), (7, .pointer (some ⟨b7_7, 0, .none⟩)), (8, .int .i64 v_1)] [Chunk.box b0_0 53 [.int .i64 a_p0.W, .int .i64 a_p0.H, .int .i64 a_p0.Back, .slice q0_0 a_p0.Surfaces.length k0_0], Chunk.box b0_1 33 [.int .i64 0, .int .i64 0, .slice .none 0 0], Chunk.box b1_7 33 [.int .i64 x1_6.W, .int .i64 x1_6.H, .slice a1_600 n1_600 c1_600], Chunk.own tInt fx_1 a1_600 n1_600 c1_600 x_1, Chunk.box b5_6 141 [.int .i64 x5_5.X, .int .i64 x5_5.Y, .int .i64 x5_5.W, .int .i64 x5_5.H], Chunk.box b6_6 33 [.int .i64 x6_5.W, .int .i64 x6_5.H, .slice a6_500 n6_500 c6_500], Chunk.own tInt f6_500 a6_500 n6_500 c6_500 x6_5.Data, Chunk.box b7_7 141 [.int .i64 x7_6.X, .int .i64 x7_6.Y, .int .i64 x7_6.W, .int .i64 x7_6.H]]
    refine WC.seq (WC.sr ?_)
    refine mv ?_
    refine sp (OpV.fieldAddr rfl fo_141_1) ?_
    refine sp (OpV.loadBox rfl pt_3 mq7 rfl) ?_
    refine sp (OpV.fieldAddr rfl fo_141_3) ?_
    refine sp (OpV.loadBox rfl pt_3 mq7 rfl) ?_
    refine sp (OpV.addR rfl rfl) ?_
    refine sp (OpV.lss rfl rfl) ?_
    refine WL.nil (En.next ?_)
    refine WC.cond rfl ?_ ?_
    ·
     intro hc_2
     replace zh1 := ifO_t hc_2 zh1
     refine WC.skip (En.next (WC.seq (WC.block (WC.sr ?_))))
     refine sp (OpV.fieldAddr rfl fo_141_0) ?_
     refine sp (OpV.loadBox rfl pt_3 mq7 rfl) ?_
     refine ag ?_
     refine WL.nil (En.next (WC.block ?_))
     obtain ⟨zy2, ezy2, zh1⟩ := bnd zh1
     refine WC.cut (X := ((List Int)) × ((List Nat))) (.exit 4) (fun x => zy2 = x.1) (fun x => match x with | (x_2e, fx_2e) => [(1, .pointer (some ⟨b0_0, 0, .none⟩)), (2, .pointer (some ⟨b0_1, 0, .none⟩)), (3, .pointer (some ⟨b1_7, 0, .none⟩)), (4, .int .i64 v_0), (5, .pointer (some ⟨b5_6, 0, .none⟩)), (6, .pointer (some ⟨b6_6, 0, .none⟩)), (7, .pointer (some ⟨b7_7, 0, .none⟩)), (8, .int .i64 v_1)]) (fun x => match x with | (x_2e, fx_2e) => [Chunk.box b0_0 53 [.int .i64 a_p0.W, .int .i64 a_p0.H, .int .i64 a_p0.Back, .slice q0_0 a_p0.Surfaces.length k0_0], Chunk.box b0_1 33 [.int .i64 0, .int .i64 0, .slice .none 0 0], Chunk.box b1_7 33 [.int .i64 x1_6.W, .int .i64 x1_6.H, .slice a1_600 n1_600 c1_600], Chunk.own tInt fx_2e a1_600 n1_600 c1_600 x_2e, Chunk.box b5_6 141 [.int .i64 x5_5.X, .int .i64 x5_5.Y, .int .i64 x5_5.W, .int .i64 x5_5.H], Chunk.box b6_6 33 [.int .i64 x6_5.W, .int .i64 x6_5.H, .slice a6_500 n6_500 c6_500], Chunk.own tInt f6_500 a6_500 n6_500 c6_500 x6_5.Data, Chunk.box b7_7 141 [.int .i64 x7_6.X, .int .i64 x7_6.Y, .int .i64 x7_6.W, .int .i64 x7_6.H]]) ?_ ?_
     ·
      rintro ⟨x_2e, fx_2e⟩ hx
      replace hx : x_2e = zy2 := hx.symm
      subst hx
      show En _ _ _ _ [(1, .pointer (some ⟨b0_0, 0, .none⟩)), (2, .pointer (some ⟨b0_1, 0, .none⟩)), (3, .pointer (some ⟨b1_7, 0, .none⟩)), (4, .int .i64 v_0), (5, .pointer (some ⟨b5_6, 0, .none⟩)), (6, .pointer (some ⟨b6_6, 0, .none⟩)), (7, .pointer (some ⟨b7_7, 0, .none⟩)), (8, .int .i64 v_1)] [Chunk.box b0_0 53 [.int .i64 a_p0.W, .int .i64 a_p0.H, .int .i64 a_p0.Back, .slice q0_0 a_p0.Surfaces.length k0_0], Chunk.box b0_1 33 [.int .i64 0, .int .i64 0, .slice .none 0 0], Chunk.box b1_7 33 [.int .i64 x1_6.W, .int .i64 x1_6.H, .slice a1_600 n1_600 c1_600], Chunk.own tInt fx_2e a1_600 n1_600 c1_600 x_2e, Chunk.box b5_6 141 [.int .i64 x5_5.X, .int .i64 x5_5.Y, .int .i64 x5_5.W, .int .i64 x5_5.H], Chunk.box b6_6 33 [.int .i64 x6_5.W, .int .i64 x6_5.H, .slice a6_500 n6_500 c6_500], Chunk.own tInt f6_500 a6_500 n6_500 c6_500 x6_5.Data, Chunk.box b7_7 141 [.int .i64 x7_6.X, .int .i64 x7_6.Y, .int .i64 x7_6.W, .int .i64 x7_6.H]]
      refine En.block_exit (En.block_norm (En.next (WC.region ?_)))
      refine mv ?_
      refine sp (OpV.addR rfl rfl) ?_
      refine ag ?_
      refine WL.nil ?_
      exact En.backP zb1 zh1 fx_2e (sc (sc (sc (sc (sc (sc (sc (sc sn)))))))) (fun _ h => h)
     ·
      intro zK2_0
      refine WC.loopP (G := (List Nat)) (fun s g => match s, g with | (x_2, v_2), fx_2 => [(1, .pointer (some ⟨b0_0, 0, .none⟩)), (2, .pointer (some ⟨b0_1, 0, .none⟩)), (3, .pointer (some ⟨b1_7, 0, .none⟩)), (4, .int .i64 v_0), (5, .pointer (some ⟨b5_6, 0, .none⟩)), (6, .pointer (some ⟨b6_6, 0, .none⟩)), (7, .pointer (some ⟨b7_7, 0, .none⟩)), (8, .int .i64 v_1), (9, .int .i64 v_2)]) (fun s g => match s, g with | (x_2, v_2), fx_2 => [Chunk.box b0_0 53 [.int .i64 a_p0.W, .int .i64 a_p0.H, .int .i64 a_p0.Back, .slice q0_0 a_p0.Surfaces.length k0_0], Chunk.box b0_1 33 [.int .i64 0, .int .i64 0, .slice .none 0 0], Chunk.box b1_7 33 [.int .i64 x1_6.W, .int .i64 x1_6.H, .slice a1_600 n1_600 c1_600], Chunk.own tInt fx_2 a1_600 n1_600 c1_600 x_2, Chunk.box b5_6 141 [.int .i64 x5_5.X, .int .i64 x5_5.Y, .int .i64 x5_5.W, .int .i64 x5_5.H], Chunk.box b6_6 33 [.int .i64 x6_5.W, .int .i64 x6_5.H, .slice a6_500 n6_500 c6_500], Chunk.own tInt f6_500 a6_500 n6_500 c6_500 x6_5.Data, Chunk.box b7_7 141 [.int .i64 x7_6.X, .int .i64 x7_6.Y, .int .i64 x7_6.W, .int .i64 x7_6.H]]) (x_1, x7_6.X) fx_1 ezy2 (by exact sc (sc (sc (sc (sc (sc (sc (sc (sc sn))))))))) (by exact (fun _ h => h)) ?_
      rintro zm2 ⟨x_2, v_2⟩ fx_2 zo2 zf2 zb2 ze2
      have zh2 : spec_l11Paint_L2 a_p0 x5_5 x6_5 x7_6 v_1 x_2 v_2 = some zo2 := zf2
      unfold spec_l11Paint_L2 at zh2
      show WC _ _ _ _ _ [(1, .pointer (some ⟨b0_0, 0, .none⟩)), (2, .pointer (some ⟨b0_1, 0, .none⟩)), (3, .pointer (some ⟨b1_7, 0, .none⟩)), (4, .int .i64 v_0), (5, .pointer (some ⟨b5_6, 0, .none⟩)), (6, .pointer (some ⟨b6_6, 0, .none⟩)), (7, .pointer (some ⟨b7_7, 0, .none⟩)), (8, .int .i64 v_1), (9, .int .i64 v_2)] [Chunk.box b0_0 53 [.int .i64 a_p0.W, .int .i64 a_p0.H, .int .i64 a_p0.Back, .slice q0_0 a_p0.Surfaces.length k0_0], Chunk.box b0_1 33 [.int .i64 0, .int .i64 0, .slice .none 0 0], Chunk.box b1_7 33 [.int .i64 x1_6.W, .int .i64 x1_6.H, .slice a1_600 n1_600 c1_600], Chunk.own tInt fx_2 a1_600 n1_600 c1_600 x_2, Chunk.box b5_6 141 [.int .i64 x5_5.X, .int .i64 x5_5.Y, .int .i64 x5_5.W, .int .i64 x5_5.H], Chunk.box b6_6 33 [.int .i64 x6_5.W, .int .i64 x6_5.H, .slice a6_500 n6_500 c6_500], Chunk.own tInt f6_500 a6_500 n6_500 c6_500 x6_5.Data, Chunk.box b7_7 141 [.int .i64 x7_6.X, .int .i64 x7_6.Y, .int .i64 x7_6.W, .int .i64 x7_6.H]]
      refine WC.seq (WC.sr ?_)
      refine mv ?_
      refine sp (OpV.fieldAddr rfl fo_141_0) ?_
      refine sp (OpV.loadBox rfl pt_3 mq7 rfl) ?_
      refine sp (OpV.fieldAddr rfl fo_141_2) ?_
      refine sp (OpV.loadBox rfl pt_3 mq7 rfl) ?_
      refine sp (OpV.addR rfl rfl) ?_
      refine sp (OpV.lss rfl rfl) ?_
      refine WL.nil (En.next ?_)
      refine WC.cond rfl ?_ ?_
      ·
       intro hc_3
       replace zh2 := ifO_t hc_3 zh2
       refine WC.skip (En.next (WC.seq (WC.block ?_)))
       refine WC.inh fun hin14 => ?_
       obtain ⟨x14_22, e14_22, zh2⟩ := bnd zh2
       obtain ⟨g14_22, o14_22, ha14_22⟩ := ownAddr hin14 mq6 e14_22
       have hn14_22 := ownLen hin14 mq6
       obtain ⟨x14_32, e14_32, zh2⟩ := bnd zh2
       obtain ⟨g14_32, o14_32, ha14_32⟩ := ownAddr hin14 mq3 e14_32
       have hn14_32 := ownLen hin14 mq3
       obtain ⟨x14_34, e14_34, zh2⟩ := bnd zh2
       have hn14_35 := ownLen hin14 mq3
       obtain ⟨x14_36, e14_36, zh2⟩ := bnd zh2
       obtain ⟨g14_35, o14_35, ha14_35⟩ := ownAddrU hin14 mq3 e14_36
       refine WC.wkF (fun _ h => h.pm 3) ?_
       refine WC.drawnH [_] ([_, _, _, _, _, _, _]) (fun _ h => h) (by kernel_rfl) ?_
       refine tk 0 rfl (OpV.fieldAddr rfl fo_33_2) ?_
       refine tk 1 rfl (OpV.loadBox rfl pt_28 mq2 rfl) ?_
       refine tk 2 rfl (OpV.move rfl) ?_
       refine tk 3 rfl (OpV.fieldAddr rfl fo_53_0) ?_
       refine tk 4 rfl (OpV.loadBox rfl pt_3 mq0 rfl) ?_
       refine tk 5 rfl (OpV.mulR rfl rfl) ?_
       refine tk 6 rfl (OpV.move rfl) ?_
       refine tk 7 rfl (OpV.addR rfl rfl) ?_
       refine tk 8 rfl (OpV.fieldAddr rfl fo_33_2) ?_
       refine tk 9 rfl (OpV.loadBox rfl pt_28 mq4 rfl) ?_
       refine tk 10 rfl (OpV.move rfl) ?_
       refine tk 11 rfl (OpV.fieldAddr rfl fo_141_1) ?_
       refine tk 12 rfl (OpV.loadBox rfl pt_3 mq3 rfl) ?_
       refine tk 13 rfl (OpV.subR rfl rfl) ?_
       refine tk 14 rfl (OpV.fieldAddr rfl fo_33_0) ?_
       refine tk 15 rfl (OpV.loadBox rfl pt_3 mq4 rfl) ?_
       refine tk 16 rfl (OpV.mulR rfl rfl) ?_
       refine tk 17 rfl (OpV.move rfl) ?_
       refine tk 18 rfl (OpV.addR rfl rfl) ?_
       refine tk 19 rfl (OpV.fieldAddr rfl fo_141_0) ?_
       refine tk 20 rfl (OpV.loadBox rfl pt_3 mq3 rfl) ?_
       refine tk 21 rfl (OpV.subR rfl rfl) ?_
       refine tk 22 rfl (OpV.idxA rfl rfl se_28 ha14_22 ⟨(idx_some e14_22).1, by rw [hn14_22]; exact (idx_some e14_22).2.1⟩) ?_
       refine tk 23 rfl (OpV.load1 rfl pt_3 (fun w hs => Rd.cell1 tInt_flat (Ow.rd (hs.mem mq5)) e14_22 ha14_22 rfl)) ?_
       refine tk 24 rfl (OpV.fieldAddr rfl fo_33_2) ?_
       refine tk 25 rfl (OpV.loadBox rfl pt_28 mq2 rfl) ?_
       refine tk 26 rfl (OpV.move rfl) ?_
       refine tk 27 rfl (OpV.fieldAddr rfl fo_53_0) ?_
       refine tk 28 rfl (OpV.loadBox rfl pt_3 mq0 rfl) ?_
       refine tk 29 rfl (OpV.mulR rfl rfl) ?_
       refine tk 30 rfl (OpV.move rfl) ?_
       refine tk 31 rfl (OpV.addR rfl rfl) ?_
       refine tk 32 rfl (OpV.idxA rfl rfl se_28 ha14_32 ⟨(idx_some e14_32).1, by rw [hn14_32]; exact (idx_some e14_32).2.1⟩) ?_
       refine al1 33 rfl ?_
       refine OpH.light (OpV.load1 rfl pt_3 (fun w hs => Rd.cell1 tInt_flat (Ow.rd (hs.mem mq0)) e14_32 ha14_32 rfl)) ?_
       refine ⟨[_], rfl, ?_⟩
       refine tk 34 rfl (OpV.call (ec rfl (ec rfl e0)) ca_145 (fun w hs => w_spec_Over e14_34)) ?_
       refine tk 35 rfl (OpV.idxA rfl rfl se_28 ha14_35 ⟨(upd_some e14_36).1.1, by rw [hn14_35]; exact (upd_some e14_36).1.2⟩) ?_
       refine al0 36 rfl ?_
       refine OpH.wkF (fun _ h => St.elFlat tInt_flat x14_34 h) ?_
       refine OpH.setEl (A := tInt) ha14_35 rfl rfl rfl ts_3 e14_36 ?_
       intro f14_36
       refine ⟨[_], rfl, ?_⟩
       refine WAE.rebase (H := []) ?_
       refine WAE.done (by kernel_rfl) ?_ _
       refine En.block_norm (En.next (WC.region ?_))
       refine mv ?_
       refine sp (OpV.addR rfl rfl) ?_
       refine ag ?_
       refine WL.nil ?_
       exact En.backP zb2 zh2 f14_36 (sc (sc (sc (sc (sc (sc (sc (sc (sc sn))))))))) (fun _ h => ((((((((h).pm 7).pm 7).pm 7).pm 7).pm 4).pm 7).pm 7).pm 7)
      ·
       intro hc_3
       replace zh2 := ifO_f hc_3 zh2
       refine WC.exit (En.then_exit (En.then_exit ?_))
       have hx := exitP ze2 zh2
       exact En.wk _ _ (sc (sc (sc (sc (sc (sc (sc (sc sn)))))))) (fun _ h => h) (zK2_0 (x_2, fx_2) hx.symm)
    ·
     intro hc_2
     replace zh1 := ifO_f hc_2 zh1
     refine WC.exit (En.then_exit (En.then_exit ?_))
     have hx := exitP ze1 zh1
     exact En.wk _ _ (sc (sc (sc (sc sn)))) (fun _ h => (h).sub (.cons_cons _ (.cons_cons _ (.cons_cons _ (.cons_cons _ (.cons _ (.cons _ (.cons _ (.cons _ (.slnil)))))))))) (zK1_0 (x_1, fx_1) hx.symm)
  ·
   intro hc_1
   replace zh0 := ifO_f hc_1 zh0
   refine WC.exit (En.then_exit (En.then_exit ?_))
   have hx := exitP ze0 zh0
   exact En.wk _ _ (sc (sc sn)) (fun _ h => ((((h).pm 3).pm 3).pm 3).sub (.cons_cons _ (.cons_cons _ (.cons_cons _ (.cons _ (.slnil)))))) (zK0_0 (x_0, fx_0) hx.symm)

theorem w_spec_Paint {s_p0 : SceneT} {r : ImageT} {q0_0 : Option Addr} {l0_0 k0_0 : Nat} (h : spec_Paint s_p0 = some r) {w : World} (r0_0 : Rd tSurface w q0_0 l0_0 k0_0 s_p0.Surfaces)   :
    Calls Try.prog 25 #[.agg #[.int .i64 s_p0.W, .int .i64 s_p0.H, .int .i64 s_p0.Back, .slice q0_0 l0_0 k0_0]] w (fun en w' => ∃ rv G, en = .returned rv ∧ (∃ (a0_0 : Option Addr) (n0_0 : Nat) (c0_0 : Nat) (f0_0 : List Nat), rv = .agg #[.int .i64 r.W, .int .i64 r.H, .slice a0_0 n0_0 c0_0] ∧ G = [Chunk.own tInt f0_0 a0_0 n0_0 c0_0 r.Data]) ∧ St w G w') := by
 obtain rfl := r0_0.1
 unfold spec_Paint at h
 refine enter (vs := [_]) Try.func25 rfl rfl rfl rfl ?_
 refine WC.sr ?_
 refine WL.heavy rfl rfl rfl (OpH.box rfl rfl ?_)
 intro b0_0
 refine WL.heavy rfl rfl rfl (OpH.alloc zc_33 ?_)
 intro b0_1
 refine WL.nil (En.next (WC.seq (WC.seq ?_)))
 obtain ⟨x1_1, e1_1, h⟩ := bnd h
 refine WC.region ?_
 refine sp (OpV.loadAll rfl mq1 ag_53) ?_
 refine sp (OpV.call (ec rfl e0) ca_82 (fun w hs => w_spec_SceneOk e1_1 (r0_0.ext hs.below))) ?_
 refine sp (OpV.not rfl) ?_
 refine WL.nil (En.next ?_)
 refine WC.cond rfl ?_ ?_
 ·
  intro hc_1
  replace h := ifO_t hc_1 h
  refine WC.sr ?_
  refine sp (OpV.build (evps.nil) bd_33_) ?_
  refine WL.heavy0 rfl rfl (OpH.storeTo (A := []) [_, _, _] rfl rfl rfl ts_33 rfl rfl rfl ?_)
  refine WL.nil (En.next (WC.ret (En.then_ret ?_)))
  refine En.ret1 rfl (Res.cell rfl mq0 ag_33) ?_
  obtain rfl := Option.some.inj h
  intro w' hs
  have hs := ((hs).ownNil (A := tInt)).sub (.cons_cons _ (.cons _ (.cons _ (.slnil))))
  exact ⟨_, _, rfl, ⟨.none, 0, 0, [], rfl, rfl⟩, hs⟩
 ·
  intro hc_1
  replace h := ifO_f hc_1 h
  refine WC.skip (En.next (WC.seq ?_))
  obtain ⟨x3_1, e3_1, h⟩ := bnd h
  refine WC.region ?_
  refine sp (OpV.loadAll rfl mq1 ag_53) ?_
  refine WL.heavy rfl rfl rfl (OpH.callR (ec rfl e0) ca_83 (fun w hs => w_spec_l11Paint e3_1 (r0_0.ext hs.below)) ?_)
  rintro _ _ ⟨a3_100, n3_100, c3_100, f3_100, rfl, rfl⟩
  refine WL.heavy0 rfl rfl (OpH.storeTo (A := [_]) [_, _, _] rfl rfl rfl ts_33 rfl rfl rfl ?_)
  refine WL.nil (En.next (WC.ret ?_))
  refine En.ret1 rfl (Res.cell rfl mq1 ag_33) ?_
  obtain rfl := Option.some.inj h
  intro w' hs
  have hs := (hs).sub (.cons_cons _ (.cons _ (.cons _ (.slnil))))
  exact ⟨_, _, rfl, ⟨a3_100, n3_100, c3_100, f3_100, rfl, rfl⟩, hs⟩

end Go.Proofs.Ytbdpbboonilhhaa
