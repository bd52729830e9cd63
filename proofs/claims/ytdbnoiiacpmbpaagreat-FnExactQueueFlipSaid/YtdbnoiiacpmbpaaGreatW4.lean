/- Walks: the program computes the pure functions. -/
import Derived.Test.YtdbnoiiacpmbpaaGreatW3
namespace Go.Proofs.YtdbnoiiacpmbpaaGreat
open Go.RowKit K
set_option maxRecDepth 100000
set_option maxHeartbeats 4000000

theorem w_impl_QueueFlip {f_p0 : FlipsT} {c_p1 : CrtcT} {fence_p2 : Int} {r : FlipsT × Bool} {q0_0 : Option Addr} {n0_0 k0_0 : Nat} {q0_1 : Option Addr} {n0_1 k0_1 : Nat} {q0_2 : Option Addr} {n0_2 k0_2 : Nat} {q1_0 : Option Addr} {n1_0 k1_0 : Nat} {q1_1 : Option Addr} {n1_1 k1_1 : Nat} {q1_2 : Option Addr} {n1_2 k1_2 : Nat} (h : impl_QueueFlip f_p0 c_p1 fence_p2 = some r) {w : World} (r0_0 : Rd tFlip w q0_0 n0_0 k0_0 f_p0.Pending) (r0_1 : Rd tInt w q0_1 n0_1 k0_1 f_p0.Signalled) (r0_2 : Rd tInt w q0_2 n0_2 k0_2 f_p0.Events) (r1_0 : Rd tPlane w q1_0 n1_0 k1_0 c_p1.Planes) (r1_1 : Rd tInt w q1_1 n1_1 k1_1 c_p1.Color.Matrix) (r1_2 : Rd tInt w q1_2 n1_2 k1_2 c_p1.Color.Curve)   :
    Calls Tryz.prog 36 #[.agg #[.slice q0_0 n0_0 k0_0, .slice q0_1 n0_1 k0_1, .int .i64 f_p0.Next, .slice q0_2 n0_2 k0_2], .agg #[.int .i64 c_p1.W, .int .i64 c_p1.H, .slice q1_0 n1_0 k1_0, .slice q1_1 n1_1 k1_1, .slice q1_2 n1_2 k1_2], .int .i64 fence_p2] w (fun en w' => ∃ rv G, en = .returned rv ∧ (∃ (a0_0 : Option Addr) (n0_0 : Nat) (c0_0 : Nat) (f0_0 : List Nat) (a0_1 : Option Addr) (n0_1 : Nat) (c0_1 : Nat) (f0_1 : List Nat) (a0_2 : Option Addr) (n0_2 : Nat) (c0_2 : Nat) (f0_2 : List Nat), rv = .tuple #[.agg #[.slice a0_0 n0_0 c0_0, .slice a0_1 n0_1 c0_1, .int .i64 r.1.Next, .slice a0_2 n0_2 c0_2], .bool r.2] ∧ G = [Chunk.own tFlip f0_0 a0_0 n0_0 c0_0 r.1.Pending, Chunk.own tInt f0_1 a0_1 n0_1 c0_1 r.1.Signalled, Chunk.own tInt f0_2 a0_2 n0_2 c0_2 r.1.Events]) ∧ St w G w') := by
 obtain rfl := r0_0.1
 obtain rfl := r0_1.1
 obtain rfl := r0_2.1
 obtain rfl := r1_0.1
 obtain rfl := r1_1.1
 obtain rfl := r1_2.1
 unfold impl_QueueFlip at h
 refine enter (vs := [_, _, _]) Tryz.func36 rfl rfl rfl rfl ?_
 refine WC.seq (WC.region ?_)
 refine WL.heavy rfl rfl rfl (OpH.box rfl rfl ?_)
 intro b0_0
 refine WL.heavy rfl rfl rfl (OpH.box rfl rfl ?_)
 intro b0_1
 refine WL.heavy rfl rfl rfl (OpH.alloc zc_63 ?_)
 intro b0_2
 refine sp (OpV.assign rfl) ?_
 refine WL.nil (En.next (WC.seq ?_))
 obtain ⟨x1_1, e1_1, h⟩ := bnd h
 refine WC.region ?_
 refine sp (OpV.loadAll rfl (.tail _ (.tail _ (.head _))) ag_63) ?_
 refine WL.heavy rfl rfl rfl (OpH.callR (evs.cons rfl (evs.nil)) ca_81 (fun w hs => w_impl_copyFlips e1_1 (r0_0.ext hs.below) (r0_1.ext hs.below) (r0_2.ext hs.below)) ?_)
 rintro _ _ ⟨a1_100, n1_100, c1_100, f1_100, a1_101, n1_101, c1_101, f1_101, a1_102, n1_102, c1_102, f1_102, rfl, rfl⟩
 refine WL.heavy rfl rfl rfl (OpH.alloc zc_63 ?_)
 intro b1_2
 refine WL.heavy0 rfl rfl (OpH.storeTo (A := []) [_, _, _, _] rfl rfl rfl ts_63 rfl rfl rfl ?_)
 refine WL.nil (En.next (WC.seq (WC.seq ?_)))
 obtain ⟨x2_1, e2_1, h⟩ := bnd h
 refine WC.region ?_
 refine sp (OpV.loadAll rfl (.tail _ (.tail _ (.tail _ (.tail _ (.tail _ (.tail _ (.head _))))))) ag_63) ?_
 refine sp (OpV.call (evs.cons rfl (evs.nil)) ca_82 (fun w hs => w_impl_FlipsOk e2_1 (r0_0.ext hs.below) (r0_1.ext hs.below) (r0_2.ext hs.below))) ?_
 refine sp (OpV.not rfl) ?_
 refine WL.nil (En.next ?_)
 refine WC.cond rfl ?_ ?_
 ·
  intro hc_1
  replace h := ifO_t hc_1 h
  refine WC.seq (WC.region ?_)
  refine sp (OpV.loadAll rfl (.head _) ag_63) ?_
  refine WL.heavy0 rfl rfl (OpH.storeTo (A := [_, _, _, _]) [_, _, _, _] rfl rfl rfl ts_63 rfl rfl rfl ?_)
  refine sp (OpV.assign rfl) ?_
  refine WL.nil (En.next (WC.ret (En.then_ret ?_)))
  refine En.ret2 rfl (Res.cell rfl (.tail _ (.tail _ (.tail _ (.tail _ (.head _))))) ag_63) (Res.tmp rfl) ?_
  obtain rfl := Option.some.inj h
  intro w' hs
  have hs := ((((hs).perm (List.perm_middle (l₁ := [_, _, _]))).perm (List.perm_middle (l₁ := [_, _, _]))).perm (List.perm_middle (l₁ := [_, _, _]))).sub (.cons_cons _ (.cons_cons _ (.cons_cons _ (.cons _ (.cons _ (.cons _ (.cons _ (.slnil))))))))
  exact ⟨_, _, rfl, ⟨a1_100, n1_100, c1_100, f1_100, a1_101, n1_101, c1_101, f1_101, a1_102, n1_102, c1_102, f1_102, rfl, rfl⟩, hs⟩
 ·
  intro hc_1
  replace h := ifO_f hc_1 h
  refine WC.skip (En.next (WC.seq ?_))
  obtain ⟨x4_6, e4_6, h⟩ := bnd h
  obtain ⟨x4_9, e4_9, h⟩ := bnd h
  refine WC.drawnH [_, _] ([_, _, _, _, _]) (fun _ h => h) (by kernel_rfl) ?_
  refine WAE.take (i := 0) rfl (by kernel_rfl) (by kernel_rfl) (by kernel_rfl) rfl rfl rfl (OpV.fieldAddr rfl fo_63_0) ?_
  refine WAE.take (i := 2) rfl (by kernel_rfl) (by kernel_rfl) (by kernel_rfl) rfl rfl rfl (OpV.fieldAddr rfl fo_63_2) ?_
  refine WAE.take (i := 3) rfl (by kernel_rfl) (by kernel_rfl) (by kernel_rfl) rfl rfl rfl (OpV.loadBox rfl pt_3 (.tail _ (.tail _ (.tail _ (.tail _ (.head _))))) rfl) ?_
  refine WAE.take (i := 4) rfl (by kernel_rfl) (by kernel_rfl) (by kernel_rfl) rfl rfl rfl (OpV.move rfl) ?_
  refine WAE.take (i := 5) rfl (by kernel_rfl) (by kernel_rfl) (by kernel_rfl) rfl rfl rfl (OpV.loadAll rfl (.tail _ (.tail _ (.tail _ (.head _)))) ag_46) ?_
  refine WAE.all (rs := [1, 6]) (by kernel_rfl) rfl (AllR.cons rfl rfl rfl rfl ?_ (AllR.cons rfl rfl rfl rfl ?_ AllR.nil))
  ·
   refine OpH.light (OpV.loadBox rfl pt_61 (.head _) rfl) ?_
   refine ⟨[_, _], rfl, ?_⟩
   refine WAE.all (rs := [6]) (by kernel_rfl) rfl (AllR.cons rfl rfl rfl rfl ?_ AllR.nil)
   refine OpH.callR (evs.cons rfl (evs.nil)) ca_70 (fun w hs => w_impl_copyCrtc e4_6 (r1_0.ext hs.below) (r1_1.ext hs.below) (r1_2.ext hs.below)) ?_
   rintro _ _ ⟨a4_600, n4_600, c4_600, f4_600, a4_601, n4_601, c4_601, f4_601, a4_602, n4_602, c4_602, f4_602, rfl, rfl⟩
   refine ⟨[_, _, _, _, _], rfl, ?_⟩
   refine WAE.take (i := 7) rfl (by kernel_rfl) (by kernel_rfl) (by kernel_rfl) rfl rfl rfl (OpV.build (evps.cons rfl (evps.cons rfl (evps.cons rfl (evps.nil)))) (bd_113_0_1_2 _ _ _ _ _ _ _ _ _ _ _ _ _)) ?_
   refine WAE.all (rs := [8]) (by kernel_rfl) rfl (AllR.cons rfl rfl rfl rfl ?_ AllR.nil)
   refine OpH.buildSlice (evps.cons rfl (evps.nil)) (bs_61_1_0 _ _ _ _ _ _ _ _ _ _ _ _ _) ?_
   intro b4_8
   refine ⟨[_, _, _, _, _, _], rfl, ?_⟩
   refine WAE.all (rs := [9]) (by kernel_rfl) rfl (AllR.cons rfl rfl rfl rfl ?_ AllR.nil)
   refine OpH.wkF (fun _ h => h.perm (List.perm_middle (l₁ := [_, _, _]))) ?_
   refine OpH.wkF (fun _ h => h.perm (List.perm_middle (l₁ := [_, _, _]))) ?_
   refine OpH.wkF (fun _ h => h.perm (List.perm_middle (l₁ := [_, _, _]))) ?_
   refine OpH.wkF (fun _ h => tFlip_mk f_p0.Next fence_p2 x4_6 h) ?_
   refine OpH.wkF (fun _ h => h.perm (List.perm_middle (l₁ := [_, _, _]))) ?_
   refine OpH.wkF (fun _ h => h.perm (List.perm_middle (l₁ := [_]))) ?_
   refine OpH.push (A := tFlip) rfl rfl rfl mi_61 rfl (by decide) (.head _) e4_9 ?_
   intro f4_9 a4_9 c4_9
   refine ⟨[_, _, _], rfl, ?_⟩
   refine WAE.take (i := 10) rfl (by kernel_rfl) (by kernel_rfl) (by kernel_rfl) rfl rfl rfl (OpV.fieldAddr rfl fo_63_0) ?_
   refine WAE.all (rs := [11]) (by kernel_rfl) rfl (AllR.cons0 rfl rfl rfl ?_ AllR.nil)
   refine OpH.storeTo (A := [_, _]) [_, _, _, _] rfl rfl rfl ts_61 rfl rfl rfl ?_
   refine ⟨[_, _, _], rfl, ?_⟩
   refine WAE.rebase (H := []) ?_
   refine WAE.done (by kernel_rfl) ?_ _
   refine En.next (WC.seq (WC.region ?_))
   refine sp (OpV.fieldAddr rfl fo_63_2) ?_
   refine sp (OpV.loadBox rfl pt_3 (.tail _ (.tail _ (.head _))) rfl) ?_
   refine sp (OpV.addR rfl rfl) ?_
   refine sp (OpV.fieldAddr rfl fo_63_2) ?_
   refine WL.heavy0 rfl rfl (OpH.storeTo (A := [_, _]) [_, _, _, _] rfl rfl rfl ts_3 rfl rfl rfl ?_)
   refine WL.nil (En.next (WC.seq (WC.seq ?_)))
   obtain ⟨x6_1, e6_1, h⟩ := bnd h
   refine WC.region ?_
   refine sp (OpV.loadAll rfl (.tail _ (.tail _ (.head _))) ag_63) ?_
   refine sp (OpV.call (evs.cons rfl (evs.nil)) ca_82 (fun w hs => w_impl_FlipsOk e6_1 (Ow.rd (hs.mem (.head _))) (Ow.rd (hs.mem (.tail _ (.tail _ (.tail _ (.head _)))))) (Ow.rd (hs.mem (.tail _ (.tail _ (.tail _ (.tail _ (.head _))))))))) ?_
   refine sp (OpV.not rfl) ?_
   refine WL.nil (En.next ?_)
   refine WC.cond rfl ?_ ?_
   ·
    intro hc_2
    replace h := ifO_t hc_2 h
    refine WC.seq ?_
    obtain ⟨x7_1, e7_1, h⟩ := bnd h
    refine WC.region ?_
    refine sp (OpV.loadAll rfl (.tail _ (.tail _ (.tail _ (.tail _ (.tail _ (.tail _ (.tail _ (.head _)))))))) ag_63) ?_
    refine WL.heavy rfl rfl rfl (OpH.callR (evs.cons rfl (evs.nil)) ca_81 (fun w hs => w_impl_copyFlips e7_1 (r0_0.ext hs.below) (r0_1.ext hs.below) (r0_2.ext hs.below)) ?_)
    rintro _ _ ⟨a7_100, n7_100, c7_100, f7_100, a7_101, n7_101, c7_101, f7_101, a7_102, n7_102, c7_102, f7_102, rfl, rfl⟩
    refine WL.heavy0 rfl rfl (OpH.storeTo (A := [_, _, _, _, _, _, _, _]) [_, _, _, _] rfl rfl rfl ts_63 rfl rfl rfl ?_)
    refine sp (OpV.assign rfl) ?_
    refine WL.nil (En.next (WC.ret (En.then_ret ?_)))
    refine En.ret2 rfl (Res.cell rfl (.tail _ (.tail _ (.tail _ (.tail _ (.tail _ (.tail _ (.tail _ (.tail _ (.head _))))))))) ag_63) (Res.tmp rfl) ?_
    obtain rfl := Option.some.inj h
    intro w' hs
    have hs := (hs).sub (.cons_cons _ (.cons_cons _ (.cons_cons _ (.cons _ (.cons _ (.cons _ (.cons _ (.cons _ (.cons _ (.cons _ (.cons _ (.slnil))))))))))))
    exact ⟨_, _, rfl, ⟨a7_100, n7_100, c7_100, f7_100, a7_101, n7_101, c7_101, f7_101, a7_102, n7_102, c7_102, f7_102, rfl, rfl⟩, hs⟩
   ·
    intro hc_2
    replace h := ifO_f hc_2 h
    refine WC.skip (En.next (WC.seq (WC.region ?_)))
    refine sp (OpV.loadAll rfl (.tail _ (.tail _ (.head _))) ag_63) ?_
    refine WL.heavy0 rfl rfl (OpH.storeTo (A := [_, _, _, _, _]) [_, _, _, _] rfl rfl rfl ts_63 rfl rfl rfl ?_)
    refine sp (OpV.assign rfl) ?_
    refine WL.nil (En.next (WC.ret ?_))
    refine En.ret2 rfl (Res.cell rfl (.tail _ (.tail _ (.tail _ (.tail _ (.tail _ (.head _)))))) ag_63) (Res.tmp rfl) ?_
    obtain rfl := Option.some.inj h
    intro w' hs
    have hs := ((((hs).perm (List.perm_middle (l₁ := [_, _, _, _]))).perm (List.perm_middle (l₁ := [_, _, _, _]))).perm (List.perm_middle (l₁ := [_, _]))).sub (.cons_cons _ (.cons_cons _ (.cons_cons _ (.cons _ (.cons _ (.cons _ (.cons _ (.cons _ (.slnil)))))))))
    exact ⟨_, _, rfl, ⟨a4_9, x4_9.length, c4_9, f4_9, a1_101, n1_101, c1_101, f1_101, a1_102, n1_102, c1_102, f1_102, rfl, rfl⟩, hs⟩
  ·
   refine OpH.callR (evs.cons rfl (evs.nil)) ca_70 (fun w hs => w_impl_copyCrtc e4_6 (r1_0.ext hs.below) (r1_1.ext hs.below) (r1_2.ext hs.below)) ?_
   rintro _ _ ⟨a4_600, n4_600, c4_600, f4_600, a4_601, n4_601, c4_601, f4_601, a4_602, n4_602, c4_602, f4_602, rfl, rfl⟩
   refine ⟨[_, _, _, _, _], rfl, ?_⟩
   refine WAE.take (i := 7) rfl (by kernel_rfl) (by kernel_rfl) (by kernel_rfl) rfl rfl rfl (OpV.build (evps.cons rfl (evps.cons rfl (evps.cons rfl (evps.nil)))) (bd_113_0_1_2 _ _ _ _ _ _ _ _ _ _ _ _ _)) ?_
   refine WAE.all (rs := [1, 8]) (by kernel_rfl) rfl (AllR.cons rfl rfl rfl rfl ?_ (AllR.cons rfl rfl rfl rfl ?_ AllR.nil))
   ·
    refine OpH.light (OpV.loadBox rfl pt_61 (.tail _ (.tail _ (.tail _ (.head _)))) rfl) ?_
    refine ⟨[_, _, _, _, _], rfl, ?_⟩
    refine WAE.all (rs := [8]) (by kernel_rfl) rfl (AllR.cons rfl rfl rfl rfl ?_ AllR.nil)
    refine OpH.buildSlice (evps.cons rfl (evps.nil)) (bs_61_1_0 _ _ _ _ _ _ _ _ _ _ _ _ _) ?_
    intro b4_8
    refine ⟨[_, _, _, _, _, _], rfl, ?_⟩
    refine WAE.all (rs := [9]) (by kernel_rfl) rfl (AllR.cons rfl rfl rfl rfl ?_ AllR.nil)
    refine OpH.wkF (fun _ h => h.perm (List.perm_middle (l₁ := [_, _, _]))) ?_
    refine OpH.wkF (fun _ h => h.perm (List.perm_middle (l₁ := [_, _, _]))) ?_
    refine OpH.wkF (fun _ h => h.perm (List.perm_middle (l₁ := [_, _, _]))) ?_
    refine OpH.wkF (fun _ h => tFlip_mk f_p0.Next fence_p2 x4_6 h) ?_
    refine OpH.wkF (fun _ h => h.perm (List.perm_middle (l₁ := [_, _, _]))) ?_
    refine OpH.wkF (fun _ h => h.perm (List.perm_middle (l₁ := [_]))) ?_
    refine OpH.push (A := tFlip) rfl rfl rfl mi_61 rfl (by decide) (.head _) e4_9 ?_
    intro f4_9 a4_9 c4_9
    refine ⟨[_, _, _], rfl, ?_⟩
    refine WAE.take (i := 10) rfl (by kernel_rfl) (by kernel_rfl) (by kernel_rfl) rfl rfl rfl (OpV.fieldAddr rfl fo_63_0) ?_
    refine WAE.all (rs := [11]) (by kernel_rfl) rfl (AllR.cons0 rfl rfl rfl ?_ AllR.nil)
    refine OpH.storeTo (A := [_, _]) [_, _, _, _] rfl rfl rfl ts_61 rfl rfl rfl ?_
    refine ⟨[_, _, _], rfl, ?_⟩
    refine WAE.rebase (H := []) ?_
    refine WAE.done (by kernel_rfl) ?_ _
    refine En.next (WC.seq (WC.region ?_))
    refine sp (OpV.fieldAddr rfl fo_63_2) ?_
    refine sp (OpV.loadBox rfl pt_3 (.tail _ (.tail _ (.head _))) rfl) ?_
    refine sp (OpV.addR rfl rfl) ?_
    refine sp (OpV.fieldAddr rfl fo_63_2) ?_
    refine WL.heavy0 rfl rfl (OpH.storeTo (A := [_, _]) [_, _, _, _] rfl rfl rfl ts_3 rfl rfl rfl ?_)
    refine WL.nil (En.next (WC.seq (WC.seq ?_)))
    obtain ⟨x6_1, e6_1, h⟩ := bnd h
    refine WC.region ?_
    refine sp (OpV.loadAll rfl (.tail _ (.tail _ (.head _))) ag_63) ?_
    refine sp (OpV.call (evs.cons rfl (evs.nil)) ca_82 (fun w hs => w_impl_FlipsOk e6_1 (Ow.rd (hs.mem (.head _))) (Ow.rd (hs.mem (.tail _ (.tail _ (.tail _ (.head _)))))) (Ow.rd (hs.mem (.tail _ (.tail _ (.tail _ (.tail _ (.head _))))))))) ?_
    refine sp (OpV.not rfl) ?_
    refine WL.nil (En.next ?_)
    refine WC.cond rfl ?_ ?_
    ·
     intro hc_3
     replace h := ifO_t hc_3 h
     refine WC.seq ?_
     obtain ⟨x7_1, e7_1, h⟩ := bnd h
     refine WC.region ?_
     refine sp (OpV.loadAll rfl (.tail _ (.tail _ (.tail _ (.tail _ (.tail _ (.tail _ (.tail _ (.head _)))))))) ag_63) ?_
     refine WL.heavy rfl rfl rfl (OpH.callR (evs.cons rfl (evs.nil)) ca_81 (fun w hs => w_impl_copyFlips e7_1 (r0_0.ext hs.below) (r0_1.ext hs.below) (r0_2.ext hs.below)) ?_)
     rintro _ _ ⟨a7_100, n7_100, c7_100, f7_100, a7_101, n7_101, c7_101, f7_101, a7_102, n7_102, c7_102, f7_102, rfl, rfl⟩
     refine WL.heavy0 rfl rfl (OpH.storeTo (A := [_, _, _, _, _, _, _, _]) [_, _, _, _] rfl rfl rfl ts_63 rfl rfl rfl ?_)
     refine sp (OpV.assign rfl) ?_
     refine WL.nil (En.next (WC.ret (En.then_ret ?_)))
     refine En.ret2 rfl (Res.cell rfl (.tail _ (.tail _ (.tail _ (.tail _ (.tail _ (.tail _ (.tail _ (.tail _ (.head _))))))))) ag_63) (Res.tmp rfl) ?_
     obtain rfl := Option.some.inj h
     intro w' hs
     have hs := (hs).sub (.cons_cons _ (.cons_cons _ (.cons_cons _ (.cons _ (.cons _ (.cons _ (.cons _ (.cons _ (.cons _ (.cons _ (.cons _ (.slnil))))))))))))
     exact ⟨_, _, rfl, ⟨a7_100, n7_100, c7_100, f7_100, a7_101, n7_101, c7_101, f7_101, a7_102, n7_102, c7_102, f7_102, rfl, rfl⟩, hs⟩
    ·
     intro hc_3
     replace h := ifO_f hc_3 h
     refine WC.skip (En.next (WC.seq (WC.region ?_)))
     refine sp (OpV.loadAll rfl (.tail _ (.tail _ (.head _))) ag_63) ?_
     refine WL.heavy0 rfl rfl (OpH.storeTo (A := [_, _, _, _, _]) [_, _, _, _] rfl rfl rfl ts_63 rfl rfl rfl ?_)
     refine sp (OpV.assign rfl) ?_
     refine WL.nil (En.next (WC.ret ?_))
     refine En.ret2 rfl (Res.cell rfl (.tail _ (.tail _ (.tail _ (.tail _ (.tail _ (.head _)))))) ag_63) (Res.tmp rfl) ?_
     obtain rfl := Option.some.inj h
     intro w' hs
     have hs := ((((hs).perm (List.perm_middle (l₁ := [_, _, _, _]))).perm (List.perm_middle (l₁ := [_, _, _, _]))).perm (List.perm_middle (l₁ := [_, _]))).sub (.cons_cons _ (.cons_cons _ (.cons_cons _ (.cons _ (.cons _ (.cons _ (.cons _ (.cons _ (.slnil)))))))))
     exact ⟨_, _, rfl, ⟨a4_9, x4_9.length, c4_9, f4_9, a1_101, n1_101, c1_101, f1_101, a1_102, n1_102, c1_102, f1_102, rfl, rfl⟩, hs⟩
   ·
    refine OpH.buildSlice (evps.cons rfl (evps.nil)) (bs_61_1_0 _ _ _ _ _ _ _ _ _ _ _ _ _) ?_
    intro b4_8
    refine ⟨[_, _, _, _, _, _], rfl, ?_⟩
    refine WAE.all (rs := [1]) (by kernel_rfl) rfl (AllR.cons rfl rfl rfl rfl ?_ AllR.nil)
    refine OpH.light (OpV.loadBox rfl pt_61 (.tail _ (.tail _ (.tail _ (.tail _ (.head _))))) rfl) ?_
    refine ⟨[_, _, _, _, _, _], rfl, ?_⟩
    refine WAE.all (rs := [9]) (by kernel_rfl) rfl (AllR.cons rfl rfl rfl rfl ?_ AllR.nil)
    refine OpH.wkF (fun _ h => h.perm (List.perm_middle (l₁ := [_, _, _]))) ?_
    refine OpH.wkF (fun _ h => h.perm (List.perm_middle (l₁ := [_, _, _]))) ?_
    refine OpH.wkF (fun _ h => h.perm (List.perm_middle (l₁ := [_, _, _]))) ?_
    refine OpH.wkF (fun _ h => tFlip_mk f_p0.Next fence_p2 x4_6 h) ?_
    refine OpH.wkF (fun _ h => h.perm (List.perm_middle (l₁ := [_, _, _]))) ?_
    refine OpH.wkF (fun _ h => h.perm (List.perm_middle (l₁ := [_]))) ?_
    refine OpH.push (A := tFlip) rfl rfl rfl mi_61 rfl (by decide) (.head _) e4_9 ?_
    intro f4_9 a4_9 c4_9
    refine ⟨[_, _, _], rfl, ?_⟩
    refine WAE.take (i := 10) rfl (by kernel_rfl) (by kernel_rfl) (by kernel_rfl) rfl rfl rfl (OpV.fieldAddr rfl fo_63_0) ?_
    refine WAE.all (rs := [11]) (by kernel_rfl) rfl (AllR.cons0 rfl rfl rfl ?_ AllR.nil)
    refine OpH.storeTo (A := [_, _]) [_, _, _, _] rfl rfl rfl ts_61 rfl rfl rfl ?_
    refine ⟨[_, _, _], rfl, ?_⟩
    refine WAE.rebase (H := []) ?_
    refine WAE.done (by kernel_rfl) ?_ _
    refine En.next (WC.seq (WC.region ?_))
    refine sp (OpV.fieldAddr rfl fo_63_2) ?_
    refine sp (OpV.loadBox rfl pt_3 (.tail _ (.tail _ (.head _))) rfl) ?_
    refine sp (OpV.addR rfl rfl) ?_
    refine sp (OpV.fieldAddr rfl fo_63_2) ?_
    refine WL.heavy0 rfl rfl (OpH.storeTo (A := [_, _]) [_, _, _, _] rfl rfl rfl ts_3 rfl rfl rfl ?_)
    refine WL.nil (En.next (WC.seq (WC.seq ?_)))
    obtain ⟨x6_1, e6_1, h⟩ := bnd h
    refine WC.region ?_
    refine sp (OpV.loadAll rfl (.tail _ (.tail _ (.head _))) ag_63) ?_
    refine sp (OpV.call (evs.cons rfl (evs.nil)) ca_82 (fun w hs => w_impl_FlipsOk e6_1 (Ow.rd (hs.mem (.head _))) (Ow.rd (hs.mem (.tail _ (.tail _ (.tail _ (.head _)))))) (Ow.rd (hs.mem (.tail _ (.tail _ (.tail _ (.tail _ (.head _))))))))) ?_
    refine sp (OpV.not rfl) ?_
    refine WL.nil (En.next ?_)
    refine WC.cond rfl ?_ ?_
    ·
     intro hc_4
     replace h := ifO_t hc_4 h
     refine WC.seq ?_
     obtain ⟨x7_1, e7_1, h⟩ := bnd h
     refine WC.region ?_
     refine sp (OpV.loadAll rfl (.tail _ (.tail _ (.tail _ (.tail _ (.tail _ (.tail _ (.tail _ (.head _)))))))) ag_63) ?_
     refine WL.heavy rfl rfl rfl (OpH.callR (evs.cons rfl (evs.nil)) ca_81 (fun w hs => w_impl_copyFlips e7_1 (r0_0.ext hs.below) (r0_1.ext hs.below) (r0_2.ext hs.below)) ?_)
     rintro _ _ ⟨a7_100, n7_100, c7_100, f7_100, a7_101, n7_101, c7_101, f7_101, a7_102, n7_102, c7_102, f7_102, rfl, rfl⟩
     refine WL.heavy0 rfl rfl (OpH.storeTo (A := [_, _, _, _, _, _, _, _]) [_, _, _, _] rfl rfl rfl ts_63 rfl rfl rfl ?_)
     refine sp (OpV.assign rfl) ?_
     refine WL.nil (En.next (WC.ret (En.then_ret ?_)))
     refine En.ret2 rfl (Res.cell rfl (.tail _ (.tail _ (.tail _ (.tail _ (.tail _ (.tail _ (.tail _ (.tail _ (.head _))))))))) ag_63) (Res.tmp rfl) ?_
     obtain rfl := Option.some.inj h
     intro w' hs
     have hs := (hs).sub (.cons_cons _ (.cons_cons _ (.cons_cons _ (.cons _ (.cons _ (.cons _ (.cons _ (.cons _ (.cons _ (.cons _ (.cons _ (.slnil))))))))))))
     exact ⟨_, _, rfl, ⟨a7_100, n7_100, c7_100, f7_100, a7_101, n7_101, c7_101, f7_101, a7_102, n7_102, c7_102, f7_102, rfl, rfl⟩, hs⟩
    ·
     intro hc_4
     replace h := ifO_f hc_4 h
     refine WC.skip (En.next (WC.seq (WC.region ?_)))
     refine sp (OpV.loadAll rfl (.tail _ (.tail _ (.head _))) ag_63) ?_
     refine WL.heavy0 rfl rfl (OpH.storeTo (A := [_, _, _, _, _]) [_, _, _, _] rfl rfl rfl ts_63 rfl rfl rfl ?_)
     refine sp (OpV.assign rfl) ?_
     refine WL.nil (En.next (WC.ret ?_))
     refine En.ret2 rfl (Res.cell rfl (.tail _ (.tail _ (.tail _ (.tail _ (.tail _ (.head _)))))) ag_63) (Res.tmp rfl) ?_
     obtain rfl := Option.some.inj h
     intro w' hs
     have hs := ((((hs).perm (List.perm_middle (l₁ := [_, _, _, _]))).perm (List.perm_middle (l₁ := [_, _, _, _]))).perm (List.perm_middle (l₁ := [_, _]))).sub (.cons_cons _ (.cons_cons _ (.cons_cons _ (.cons _ (.cons _ (.cons _ (.cons _ (.cons _ (.slnil)))))))))
     exact ⟨_, _, rfl, ⟨a4_9, x4_9.length, c4_9, f4_9, a1_101, n1_101, c1_101, f1_101, a1_102, n1_102, c1_102, f1_102, rfl, rfl⟩, hs⟩

theorem w_laws_eqIntS {a_p0 : List Int} {b_p1 : List Int} {r : Bool} {q0_0 : Option Addr} {n0_0 k0_0 : Nat} {q1_0 : Option Addr} {n1_0 k1_0 : Nat} (h : laws_eqIntS a_p0 b_p1 = some r) {w : World} (r0_0 : Rd tInt w q0_0 n0_0 k0_0 a_p0) (r1_0 : Rd tInt w q1_0 n1_0 k1_0 b_p1)   :
    Calls Tryz.prog 15 #[.slice q0_0 n0_0 k0_0, .slice q1_0 n1_0 k1_0] w (fun en w' => en = .returned (.bool r) ∧ Ext w w') := by
 obtain rfl := r0_0.1
 obtain rfl := r1_0.1
 unfold laws_eqIntS at h
 refine enter (vs := [_, _]) Tryz.func15 rfl rfl rfl rfl ?_
 refine WC.seq (WC.region ?_)
 refine sp (OpV.assign rfl) ?_
 refine WL.nil (En.next (WC.seq (WC.seq (WC.region ?_))))
 refine sp (OpV.move rfl) ?_
 refine sp (OpV.len rfl si_23 rfl) ?_
 refine sp (OpV.move rfl) ?_
 refine sp (OpV.len rfl si_23 rfl) ?_
 refine sp (OpV.neq rfl rfl) ?_
 refine WL.nil (En.next ?_)
 refine WC.cond rfl ?_ ?_
 ·
  intro hc_1
  replace h := ifO_t hc_1 h
  refine WC.seq (WC.region ?_)
  refine sp (OpV.assign rfl) ?_
  refine WL.nil (En.next (WC.ret (En.then_ret ?_)))
  refine En.ret1 rfl (Res.tmp rfl) ?_
  obtain rfl := Option.some.inj h
  intro w' hs
  exact ⟨rfl, hs.below⟩
 ·
  intro hc_1
  replace h := ifO_f hc_1 h
  refine WC.skip (En.next (WC.seq (WC.seq (WC.region ?_))))
  refine sp (OpV.assign rfl) ?_
  refine WL.nil (En.next (WC.block ?_))
  obtain ⟨zy0, ezy0, h⟩ := bnd h
  refine WC.cut (X := (Unit) × (Unit)) (.exit 0) (fun x => zy0 = .inl x.1) (fun x => match x with | ((), ()) => []) (fun x => match x with | ((), ()) => []) ?_ ?_
  ·
   rintro ⟨⟨⟩, ⟨⟩⟩ hx
   replace hx : .inl () = zy0 := hx.symm
   subst hx
   replace h := fork_l h
   show En _ _ _ _ [] []
   refine En.block_exit (En.next (WC.seq (WC.region ?_)))
   refine sp (OpV.assign rfl) ?_
   refine WL.nil (En.next (WC.ret ?_))
   refine En.ret1 rfl (Res.tmp rfl) ?_
   obtain rfl := Option.some.inj h
   intro w' hs
   exact ⟨rfl, hs.below⟩
  ·
   intro zK0_0
   refine WC.loopP (G := Unit) (fun s g => match s, g with | i_0, () => [(0, .slice q0_0 a_p0.length k0_0), (1, .slice q1_0 b_p1.length k1_0), (5, .int .i64 i_0)]) (fun s g => match s, g with | i_0, () => []) 0 () ezy0 (by exact Sub.cons rfl (Sub.cons rfl (Sub.cons rfl (Sub.nil _)))) (by exact (fun _ h => h)) ?_
   rintro zm0 i_0 ⟨⟩ zo0 zf0 zb0 ze0
   have zh0 : laws_eqIntS_L0 a_p0 b_p1 i_0 = some zo0 := zf0
   unfold laws_eqIntS_L0 at zh0
   show WC _ _ _ _ _ [(0, .slice q0_0 a_p0.length k0_0), (1, .slice q1_0 b_p1.length k1_0), (5, .int .i64 i_0)] []
   refine WC.seq (WC.seq (WC.region ?_))
   refine sp (OpV.move rfl) ?_
   refine sp (OpV.move rfl) ?_
   refine sp (OpV.len rfl si_23 rfl) ?_
   refine sp (OpV.lss rfl rfl) ?_
   refine WL.nil (En.next ?_)
   refine WC.cond rfl ?_ ?_
   ·
    intro hc_2
    replace zh0 := ifO_t hc_2 zh0
    refine WC.skip (En.next (WC.seq (WC.block (WC.seq ?_))))
    obtain ⟨x6_2, e6_2, zh0⟩ := bnd zh0
    obtain ⟨g6_2, o6_2, _, ha6_2, rfl, hd6_2⟩ := Rd.atIdx r0_0 e6_2
    replace hd6_2 : ∀ (j : Nat) v, ([.int .i64 x6_2] : List Value)[j]? = some v → w.cell? ⟨g6_2, o6_2 + i_0.toNat * 1 + j, .none⟩ = some v := hd6_2
    obtain ⟨x6_6, e6_6, zh0⟩ := bnd zh0
    obtain ⟨g6_6, o6_6, _, ha6_6, rfl, hd6_6⟩ := Rd.atIdx r1_0 e6_6
    replace hd6_6 : ∀ (j : Nat) v, ([.int .i64 x6_6] : List Value)[j]? = some v → w.cell? ⟨g6_6, o6_6 + i_0.toNat * 1 + j, .none⟩ = some v := hd6_6
    refine WC.drawn [(0, ?r6v0), (1, ?r6v1), (5, ?r6v5), (25, ?r6v25)] (by kernel_rfl) (by kernel_rfl) ?dH6 ?dK6
    case dH6 =>
     intro W hW hk
     refine hW.step rfl rfl rfl (OpV.move rfl) ?_
     refine hW.step rfl rfl rfl (OpV.move rfl) ?_
     refine hW.step rfl rfl rfl (OpV.idxA rfl rfl se_23 ha6_2 ⟨(idx_some e6_2).1, (idx_some e6_2).2.1⟩) ?_
     refine hW.step rfl rfl rfl (OpV.load1 rfl pt_3 (fun w hs => hs.cell (hd6_2 0 _ rfl))) ?_
     refine hW.step rfl rfl rfl (OpV.move rfl) ?_
     refine hW.step rfl rfl rfl (OpV.move rfl) ?_
     refine hW.step rfl rfl rfl (OpV.idxA rfl rfl se_23 ha6_6 ⟨(idx_some e6_6).1, (idx_some e6_6).2.1⟩) ?_
     refine hW.step rfl rfl rfl (OpV.load1 rfl pt_3 (fun w hs => hs.cell (hd6_6 0 _ rfl))) ?_
     refine hW.step rfl rfl rfl (OpV.neq rfl rfl) ?_
     refine hk _ ?_
     refine Sub.cons ?_ (Sub.cons ?_ (Sub.cons ?_ (Sub.cons ?_ (Sub.nil _))))
     all_goals exact rfl
    refine En.next ?_
    refine WC.cond rfl ?_ ?_
    ·
     intro hc_3
     replace zh0 := ifO_t hc_3 zh0
     refine WC.seq (WC.region ?_)
     refine sp (OpV.assign rfl) ?_
     refine WL.nil (En.next (WC.ret (En.block_ret (En.then_ret (En.then_ret (En.block_ret (En.then_ret ?_)))))))
     refine En.ret1 rfl (Res.tmp rfl) ?_
     have hx := exitP ze0 zh0
     subst hx
     replace h := fork_r h
     obtain rfl := Option.some.inj h
     intro w' hs
     exact ⟨rfl, hs.below⟩
    ·
     intro hc_3
     replace zh0 := ifO_f hc_3 zh0
     refine WC.skip (En.block_norm (En.next (WC.region ?_)))
     refine sp (OpV.move rfl) ?_
     refine sp (OpV.addR rfl rfl) ?_
     refine sp (OpV.assign rfl) ?_
     refine WL.nil ?_
     exact En.backP zb0 zh0 () (Sub.cons rfl (Sub.cons rfl (Sub.cons rfl (Sub.nil _)))) (fun _ h => h)
   ·
    intro hc_2
    replace zh0 := ifO_f hc_2 zh0
    refine WC.exit (En.then_exit (En.then_exit ?_))
    have hx := exitP ze0 zh0
    exact En.wk _ _ (Sub.nil _) (fun _ h => h) (zK0_0 ((), ()) hx.symm)

theorem w_laws_eqPlane {a_p0 : PlaneT} {b_p1 : PlaneT} {r : Bool} {q0_0 : Option Addr} {n0_0 k0_0 : Nat} {q1_0 : Option Addr} {n1_0 k1_0 : Nat} (h : laws_eqPlane a_p0 b_p1 = some r) {w : World} (r0_0 : Rd tInt w q0_0 n0_0 k0_0 a_p0.Words) (r1_0 : Rd tInt w q1_0 n1_0 k1_0 b_p1.Words)   :
    Calls Tryz.prog 62 #[.agg #[.bool a_p0.On, .int .i64 a_p0.X, .int .i64 a_p0.Y, .int .i64 a_p0.W, .int .i64 a_p0.H, .int .i64 a_p0.Layout, .slice q0_0 n0_0 k0_0, .int .i64 a_p0.Alpha, .int .i64 a_p0.Orient, .int .i64 a_p0.ToW, .int .i64 a_p0.ToH], .agg #[.bool b_p1.On, .int .i64 b_p1.X, .int .i64 b_p1.Y, .int .i64 b_p1.W, .int .i64 b_p1.H, .int .i64 b_p1.Layout, .slice q1_0 n1_0 k1_0, .int .i64 b_p1.Alpha, .int .i64 b_p1.Orient, .int .i64 b_p1.ToW, .int .i64 b_p1.ToH]] w (fun en w' => en = .returned (.bool r) ∧ Ext w w') := by
 obtain rfl := r0_0.1
 obtain rfl := r1_0.1
 unfold laws_eqPlane at h
 refine enter (vs := [_, _]) Tryz.func62 rfl rfl rfl rfl ?_
 refine WC.seq (WC.region ?_)
 refine WL.heavy rfl rfl rfl (OpH.box rfl rfl ?_)
 intro b0_0
 refine WL.heavy rfl rfl rfl (OpH.box rfl rfl ?_)
 intro b0_1
 refine sp (OpV.assign rfl) ?_
 refine WL.nil (En.next (WC.seq (WC.seq (WC.region ?_))))
 refine sp (OpV.fieldAddr rfl fo_82_0) ?_
 refine sp (OpV.loadBox rfl pt_4 (.tail _ (.head _)) rfl) ?_
 refine sp (OpV.fieldAddr rfl fo_82_0) ?_
 refine sp (OpV.loadBox rfl pt_4 (.head _) rfl) ?_
 refine sp (OpV.bneq rfl rfl ub_4) ?_
 refine WL.nil (En.next ?_)
 refine WC.cond rfl ?_ ?_
 ·
  intro hc_1
  replace h := ifO_t hc_1 h
  refine WC.seq (WC.region ?_)
  refine sp (OpV.assign rfl) ?_
  refine WL.nil (En.next (WC.ret (En.then_ret ?_)))
  refine En.ret1 rfl (Res.tmp rfl) ?_
  obtain rfl := Option.some.inj h
  intro w' hs
  exact ⟨rfl, hs.below⟩
 ·
  intro hc_1
  replace h := ifO_f hc_1 h
  refine WC.skip (En.next (WC.seq (WC.seq (WC.region ?_))))
  refine sp (OpV.fieldAddr rfl fo_82_1) ?_
  refine sp (OpV.loadBox rfl pt_3 (.tail _ (.head _)) rfl) ?_
  refine sp (OpV.fieldAddr rfl fo_82_1) ?_
  refine sp (OpV.loadBox rfl pt_3 (.head _) rfl) ?_
  refine sp (OpV.neq rfl rfl) ?_
  refine WL.nil (En.next ?_)
  refine WC.cond rfl ?_ ?_
  ·
   intro hc_2
   replace h := ifO_t hc_2 h
   refine WC.seq (WC.region ?_)
   refine sp (OpV.assign rfl) ?_
   refine WL.nil (En.next (WC.ret (En.then_ret ?_)))
   refine En.ret1 rfl (Res.tmp rfl) ?_
   obtain rfl := Option.some.inj h
   intro w' hs
   exact ⟨rfl, hs.below⟩
  ·
   intro hc_2
   replace h := ifO_f hc_2 h
   refine WC.skip (En.next (WC.seq (WC.seq (WC.region ?_))))
   refine sp (OpV.fieldAddr rfl fo_82_2) ?_
   refine sp (OpV.loadBox rfl pt_3 (.tail _ (.head _)) rfl) ?_
   refine sp (OpV.fieldAddr rfl fo_82_2) ?_
   refine sp (OpV.loadBox rfl pt_3 (.head _) rfl) ?_
   refine sp (OpV.neq rfl rfl) ?_
   refine WL.nil (En.next ?_)
   refine WC.cond rfl ?_ ?_
   ·
    intro hc_3
    replace h := ifO_t hc_3 h
    refine WC.seq (WC.region ?_)
    refine sp (OpV.assign rfl) ?_
    refine WL.nil (En.next (WC.ret (En.then_ret ?_)))
    refine En.ret1 rfl (Res.tmp rfl) ?_
    obtain rfl := Option.some.inj h
    intro w' hs
    exact ⟨rfl, hs.below⟩
   ·
    intro hc_3
    replace h := ifO_f hc_3 h
    refine WC.skip (En.next (WC.seq (WC.seq (WC.region ?_))))
    refine sp (OpV.fieldAddr rfl fo_82_3) ?_
    refine sp (OpV.loadBox rfl pt_3 (.tail _ (.head _)) rfl) ?_
    refine sp (OpV.fieldAddr rfl fo_82_3) ?_
    refine sp (OpV.loadBox rfl pt_3 (.head _) rfl) ?_
    refine sp (OpV.neq rfl rfl) ?_
    refine WL.nil (En.next ?_)
    refine WC.cond rfl ?_ ?_
    ·
     intro hc_4
     replace h := ifO_t hc_4 h
     refine WC.seq (WC.region ?_)
     refine sp (OpV.assign rfl) ?_
     refine WL.nil (En.next (WC.ret (En.then_ret ?_)))
     refine En.ret1 rfl (Res.tmp rfl) ?_
     obtain rfl := Option.some.inj h
     intro w' hs
     exact ⟨rfl, hs.below⟩
    ·
     intro hc_4
     replace h := ifO_f hc_4 h
     refine WC.skip (En.next (WC.seq (WC.seq (WC.region ?_))))
     refine sp (OpV.fieldAddr rfl fo_82_4) ?_
     refine sp (OpV.loadBox rfl pt_3 (.tail _ (.head _)) rfl) ?_
     refine sp (OpV.fieldAddr rfl fo_82_4) ?_
     refine sp (OpV.loadBox rfl pt_3 (.head _) rfl) ?_
     refine sp (OpV.neq rfl rfl) ?_
     refine WL.nil (En.next ?_)
     refine WC.cond rfl ?_ ?_
     ·
      intro hc_5
      replace h := ifO_t hc_5 h
      refine WC.seq (WC.region ?_)
      refine sp (OpV.assign rfl) ?_
      refine WL.nil (En.next (WC.ret (En.then_ret ?_)))
      refine En.ret1 rfl (Res.tmp rfl) ?_
      obtain rfl := Option.some.inj h
      intro w' hs
      exact ⟨rfl, hs.below⟩
     ·
      intro hc_5
      replace h := ifO_f hc_5 h
      refine WC.skip (En.next (WC.seq (WC.seq (WC.region ?_))))
      refine sp (OpV.fieldAddr rfl fo_82_5) ?_
      refine sp (OpV.loadBox rfl pt_3 (.tail _ (.head _)) rfl) ?_
      refine sp (OpV.fieldAddr rfl fo_82_5) ?_
      refine sp (OpV.loadBox rfl pt_3 (.head _) rfl) ?_
      refine sp (OpV.neq rfl rfl) ?_
      refine WL.nil (En.next ?_)
      refine WC.cond rfl ?_ ?_
      ·
       intro hc_6
       replace h := ifO_t hc_6 h
       refine WC.seq (WC.region ?_)
       refine sp (OpV.assign rfl) ?_
       refine WL.nil (En.next (WC.ret (En.then_ret ?_)))
       refine En.ret1 rfl (Res.tmp rfl) ?_
       obtain rfl := Option.some.inj h
       intro w' hs
       exact ⟨rfl, hs.below⟩
      ·
       intro hc_6
       replace h := ifO_f hc_6 h
       refine WC.skip (En.next (WC.seq (WC.seq ?_)))
       obtain ⟨x13_4, e13_4, h⟩ := bnd h
       refine WC.region ?_
       refine sp (OpV.fieldAddr rfl fo_82_6) ?_
       refine sp (OpV.loadBox rfl pt_23 (.tail _ (.head _)) rfl) ?_
       refine sp (OpV.fieldAddr rfl fo_82_6) ?_
       refine sp (OpV.loadBox rfl pt_23 (.head _) rfl) ?_
       refine sp (OpV.call (evs.cons rfl (evs.cons rfl (evs.nil))) ca_15 (fun w hs => w_laws_eqIntS e13_4 (r0_0.ext hs.below) (r1_0.ext hs.below))) ?_
       refine sp (OpV.not rfl) ?_
       refine WL.nil (En.next ?_)
       refine WC.cond rfl ?_ ?_
       ·
        intro hc_7
        replace h := ifO_t hc_7 h
        refine WC.seq (WC.region ?_)
        refine sp (OpV.assign rfl) ?_
        refine WL.nil (En.next (WC.ret (En.then_ret ?_)))
        refine En.ret1 rfl (Res.tmp rfl) ?_
        obtain rfl := Option.some.inj h
        intro w' hs
        exact ⟨rfl, hs.below⟩
       ·
        intro hc_7
        replace h := ifO_f hc_7 h
        refine WC.skip (En.next (WC.seq (WC.seq (WC.region ?_))))
        refine sp (OpV.fieldAddr rfl fo_82_7) ?_
        refine sp (OpV.loadBox rfl pt_3 (.tail _ (.head _)) rfl) ?_
        refine sp (OpV.fieldAddr rfl fo_82_7) ?_
        refine sp (OpV.loadBox rfl pt_3 (.head _) rfl) ?_
        refine sp (OpV.neq rfl rfl) ?_
        refine WL.nil (En.next ?_)
        refine WC.cond rfl ?_ ?_
        ·
         intro hc_8
         replace h := ifO_t hc_8 h
         refine WC.seq (WC.region ?_)
         refine sp (OpV.assign rfl) ?_
         refine WL.nil (En.next (WC.ret (En.then_ret ?_)))
         refine En.ret1 rfl (Res.tmp rfl) ?_
         obtain rfl := Option.some.inj h
         intro w' hs
         exact ⟨rfl, hs.below⟩
        ·
         intro hc_8
         replace h := ifO_f hc_8 h
         refine WC.skip (En.next (WC.seq (WC.seq (WC.region ?_))))
         refine sp (OpV.fieldAddr rfl fo_82_8) ?_
         refine sp (OpV.loadBox rfl pt_3 (.tail _ (.head _)) rfl) ?_
         refine sp (OpV.fieldAddr rfl fo_82_8) ?_
         refine sp (OpV.loadBox rfl pt_3 (.head _) rfl) ?_
         refine sp (OpV.neq rfl rfl) ?_
         refine WL.nil (En.next ?_)
         refine WC.cond rfl ?_ ?_
         ·
          intro hc_9
          replace h := ifO_t hc_9 h
          refine WC.seq (WC.region ?_)
          refine sp (OpV.assign rfl) ?_
          refine WL.nil (En.next (WC.ret (En.then_ret ?_)))
          refine En.ret1 rfl (Res.tmp rfl) ?_
          obtain rfl := Option.some.inj h
          intro w' hs
          exact ⟨rfl, hs.below⟩
         ·
          intro hc_9
          replace h := ifO_f hc_9 h
          refine WC.skip (En.next (WC.seq (WC.seq (WC.region ?_))))
          refine sp (OpV.fieldAddr rfl fo_82_9) ?_
          refine sp (OpV.loadBox rfl pt_3 (.tail _ (.head _)) rfl) ?_
          refine sp (OpV.fieldAddr rfl fo_82_9) ?_
          refine sp (OpV.loadBox rfl pt_3 (.head _) rfl) ?_
          refine sp (OpV.neq rfl rfl) ?_
          refine WL.nil (En.next ?_)
          refine WC.cond rfl ?_ ?_
          ·
           intro hc_10
           replace h := ifO_t hc_10 h
           refine WC.seq (WC.region ?_)
           refine sp (OpV.assign rfl) ?_
           refine WL.nil (En.next (WC.ret (En.then_ret ?_)))
           refine En.ret1 rfl (Res.tmp rfl) ?_
           obtain rfl := Option.some.inj h
           intro w' hs
           exact ⟨rfl, hs.below⟩
          ·
           intro hc_10
           replace h := ifO_f hc_10 h
           refine WC.skip (En.next (WC.seq (WC.seq (WC.region ?_))))
           refine sp (OpV.fieldAddr rfl fo_82_10) ?_
           refine sp (OpV.loadBox rfl pt_3 (.tail _ (.head _)) rfl) ?_
           refine sp (OpV.fieldAddr rfl fo_82_10) ?_
           refine sp (OpV.loadBox rfl pt_3 (.head _) rfl) ?_
           refine sp (OpV.neq rfl rfl) ?_
           refine WL.nil (En.next ?_)
           refine WC.cond rfl ?_ ?_
           ·
            intro hc_11
            replace h := ifO_t hc_11 h
            refine WC.seq (WC.region ?_)
            refine sp (OpV.assign rfl) ?_
            refine WL.nil (En.next (WC.ret (En.then_ret ?_)))
            refine En.ret1 rfl (Res.tmp rfl) ?_
            obtain rfl := Option.some.inj h
            intro w' hs
            exact ⟨rfl, hs.below⟩
           ·
            intro hc_11
            replace h := ifO_f hc_11 h
            refine WC.skip (En.next (WC.seq (WC.region ?_)))
            refine sp (OpV.assign rfl) ?_
            refine WL.nil (En.next (WC.ret ?_))
            refine En.ret1 rfl (Res.tmp rfl) ?_
            obtain rfl := Option.some.inj h
            intro w' hs
            exact ⟨rfl, hs.below⟩

theorem w_laws_eqPlaneS {a_p0 : List PlaneT} {b_p1 : List PlaneT} {r : Bool} {q0_0 : Option Addr} {n0_0 k0_0 : Nat} {q1_0 : Option Addr} {n1_0 k1_0 : Nat} (h : laws_eqPlaneS a_p0 b_p1 = some r) {w : World} (r0_0 : Rd tPlane w q0_0 n0_0 k0_0 a_p0) (r1_0 : Rd tPlane w q1_0 n1_0 k1_0 b_p1)   :
    Calls Tryz.prog 16 #[.slice q0_0 n0_0 k0_0, .slice q1_0 n1_0 k1_0] w (fun en w' => en = .returned (.bool r) ∧ Ext w w') := by
 obtain rfl := r0_0.1
 obtain rfl := r1_0.1
 unfold laws_eqPlaneS at h
 refine enter (vs := [_, _]) Tryz.func16 rfl rfl rfl rfl ?_
 refine WC.seq (WC.region ?_)
 refine sp (OpV.assign rfl) ?_
 refine WL.nil (En.next (WC.seq (WC.seq (WC.region ?_))))
 refine sp (OpV.move rfl) ?_
 refine sp (OpV.len rfl si_29 rfl) ?_
 refine sp (OpV.move rfl) ?_
 refine sp (OpV.len rfl si_29 rfl) ?_
 refine sp (OpV.neq rfl rfl) ?_
 refine WL.nil (En.next ?_)
 refine WC.cond rfl ?_ ?_
 ·
  intro hc_1
  replace h := ifO_t hc_1 h
  refine WC.seq (WC.region ?_)
  refine sp (OpV.assign rfl) ?_
  refine WL.nil (En.next (WC.ret (En.then_ret ?_)))
  refine En.ret1 rfl (Res.tmp rfl) ?_
  obtain rfl := Option.some.inj h
  intro w' hs
  exact ⟨rfl, hs.below⟩
 ·
  intro hc_1
  replace h := ifO_f hc_1 h
  refine WC.skip (En.next (WC.seq (WC.seq (WC.region ?_))))
  refine sp (OpV.assign rfl) ?_
  refine WL.nil (En.next (WC.block ?_))
  obtain ⟨zy0, ezy0, h⟩ := bnd h
  refine WC.cut (X := (Unit) × (Unit)) (.exit 0) (fun x => zy0 = .inl x.1) (fun x => match x with | ((), ()) => []) (fun x => match x with | ((), ()) => []) ?_ ?_
  ·
   rintro ⟨⟨⟩, ⟨⟩⟩ hx
   replace hx : .inl () = zy0 := hx.symm
   subst hx
   replace h := fork_l h
   show En _ _ _ _ [] []
   refine En.block_exit (En.next (WC.seq (WC.region ?_)))
   refine sp (OpV.assign rfl) ?_
   refine WL.nil (En.next (WC.ret ?_))
   refine En.ret1 rfl (Res.tmp rfl) ?_
   obtain rfl := Option.some.inj h
   intro w' hs
   exact ⟨rfl, hs.below⟩
  ·
   intro zK0_0
   refine WC.loopP (G := Unit) (fun s g => match s, g with | i_0, () => [(0, .slice q0_0 a_p0.length k0_0), (1, .slice q1_0 b_p1.length k1_0), (5, .int .i64 i_0)]) (fun s g => match s, g with | i_0, () => []) 0 () ezy0 (by exact Sub.cons rfl (Sub.cons rfl (Sub.cons rfl (Sub.nil _)))) (by exact (fun _ h => h)) ?_
   rintro zm0 i_0 ⟨⟩ zo0 zf0 zb0 ze0
   have zh0 : laws_eqPlaneS_L0 a_p0 b_p1 i_0 = some zo0 := zf0
   unfold laws_eqPlaneS_L0 at zh0
   show WC _ _ _ _ _ [(0, .slice q0_0 a_p0.length k0_0), (1, .slice q1_0 b_p1.length k1_0), (5, .int .i64 i_0)] []
   refine WC.seq (WC.seq (WC.region ?_))
   refine sp (OpV.move rfl) ?_
   refine sp (OpV.move rfl) ?_
   refine sp (OpV.len rfl si_29 rfl) ?_
   refine sp (OpV.lss rfl rfl) ?_
   refine WL.nil (En.next ?_)
   refine WC.cond rfl ?_ ?_
   ·
    intro hc_2
    replace zh0 := ifO_t hc_2 zh0
    refine WC.skip (En.next (WC.seq (WC.block (WC.seq ?_))))
    obtain ⟨x6_2, e6_2, zh0⟩ := bnd zh0
    obtain ⟨g6_2, o6_2, _, ha6_2, ⟨a6_2_1, c6_2_1, rfl, r6_2_1⟩, hd6_2⟩ := Rd.atIdx r0_0 e6_2
    replace hd6_2 : ∀ (j : Nat) v, ([.bool x6_2.On, .int .i64 x6_2.X, .int .i64 x6_2.Y, .int .i64 x6_2.W, .int .i64 x6_2.H, .int .i64 x6_2.Layout, .slice a6_2_1 x6_2.Words.length c6_2_1, .int .i64 x6_2.Alpha, .int .i64 x6_2.Orient, .int .i64 x6_2.ToW, .int .i64 x6_2.ToH] : List Value)[j]? = some v → w.cell? ⟨g6_2, o6_2 + i_0.toNat * 11 + j, .none⟩ = some v := hd6_2
    obtain ⟨x6_6, e6_6, zh0⟩ := bnd zh0
    obtain ⟨g6_6, o6_6, _, ha6_6, ⟨a6_6_1, c6_6_1, rfl, r6_6_1⟩, hd6_6⟩ := Rd.atIdx r1_0 e6_6
    replace hd6_6 : ∀ (j : Nat) v, ([.bool x6_6.On, .int .i64 x6_6.X, .int .i64 x6_6.Y, .int .i64 x6_6.W, .int .i64 x6_6.H, .int .i64 x6_6.Layout, .slice a6_6_1 x6_6.Words.length c6_6_1, .int .i64 x6_6.Alpha, .int .i64 x6_6.Orient, .int .i64 x6_6.ToW, .int .i64 x6_6.ToH] : List Value)[j]? = some v → w.cell? ⟨g6_6, o6_6 + i_0.toNat * 11 + j, .none⟩ = some v := hd6_6
    obtain ⟨x6_8, e6_8, zh0⟩ := bnd zh0
    refine WC.drawn [(0, ?r6v0), (1, ?r6v1), (5, ?r6v5), (26, ?r6v26)] (by kernel_rfl) (by kernel_rfl) ?dH6 ?dK6
    case dH6 =>
     intro W hW hk
     refine hW.step rfl rfl rfl (OpV.move rfl) ?_
     refine hW.step rfl rfl rfl (OpV.move rfl) ?_
     refine hW.step rfl rfl rfl (OpV.idxA rfl rfl se_29 ha6_2 ⟨(idx_some e6_2).1, (idx_some e6_2).2.1⟩) ?_
     refine hW.step rfl rfl rfl (OpV.loadN rfl ag_82 rfl (fun w hs => hs.cellsAt hd6_2)) ?_
     refine hW.step rfl rfl rfl (OpV.move rfl) ?_
     refine hW.step rfl rfl rfl (OpV.move rfl) ?_
     refine hW.step rfl rfl rfl (OpV.idxA rfl rfl se_29 ha6_6 ⟨(idx_some e6_6).1, (idx_some e6_6).2.1⟩) ?_
     refine hW.step rfl rfl rfl (OpV.loadN rfl ag_82 rfl (fun w hs => hs.cellsAt hd6_6)) ?_
     refine hW.step rfl rfl rfl (OpV.call (evs.cons rfl (evs.cons rfl (evs.nil))) ca_62 (fun w hs => w_laws_eqPlane e6_8 (r6_2_1.ext hs.below) (r6_6_1.ext hs.below))) ?_
     refine hW.step rfl rfl rfl (OpV.not rfl) ?_
     refine hk _ ?_
     refine Sub.cons ?_ (Sub.cons ?_ (Sub.cons ?_ (Sub.cons ?_ (Sub.nil _))))
     all_goals exact rfl
    refine En.next ?_
    refine WC.cond rfl ?_ ?_
    ·
     intro hc_3
     replace zh0 := ifO_t hc_3 zh0
     refine WC.seq (WC.region ?_)
     refine sp (OpV.assign rfl) ?_
     refine WL.nil (En.next (WC.ret (En.block_ret (En.then_ret (En.then_ret (En.block_ret (En.then_ret ?_)))))))
     refine En.ret1 rfl (Res.tmp rfl) ?_
     have hx := exitP ze0 zh0
     subst hx
     replace h := fork_r h
     obtain rfl := Option.some.inj h
     intro w' hs
     exact ⟨rfl, hs.below⟩
    ·
     intro hc_3
     replace zh0 := ifO_f hc_3 zh0
     refine WC.skip (En.block_norm (En.next (WC.region ?_)))
     refine sp (OpV.move rfl) ?_
     refine sp (OpV.addR rfl rfl) ?_
     refine sp (OpV.assign rfl) ?_
     refine WL.nil ?_
     exact En.backP zb0 zh0 () (Sub.cons rfl (Sub.cons rfl (Sub.cons rfl (Sub.nil _)))) (fun _ h => h)
   ·
    intro hc_2
    replace zh0 := ifO_f hc_2 zh0
    refine WC.exit (En.then_exit (En.then_exit ?_))
    have hx := exitP ze0 zh0
    exact En.wk _ _ (Sub.nil _) (fun _ h => h) (zK0_0 ((), ()) hx.symm)

theorem w_laws_eqColorMap {a_p0 : ColorMapT} {b_p1 : ColorMapT} {r : Bool} {q0_0 : Option Addr} {n0_0 k0_0 : Nat} {q0_1 : Option Addr} {n0_1 k0_1 : Nat} {q1_0 : Option Addr} {n1_0 k1_0 : Nat} {q1_1 : Option Addr} {n1_1 k1_1 : Nat} (h : laws_eqColorMap a_p0 b_p1 = some r) {w : World} (r0_0 : Rd tInt w q0_0 n0_0 k0_0 a_p0.Matrix) (r0_1 : Rd tInt w q0_1 n0_1 k0_1 a_p0.Curve) (r1_0 : Rd tInt w q1_0 n1_0 k1_0 b_p1.Matrix) (r1_1 : Rd tInt w q1_1 n1_1 k1_1 b_p1.Curve)   :
    Calls Tryz.prog 17 #[.agg #[.slice q0_0 n0_0 k0_0, .slice q0_1 n0_1 k0_1], .agg #[.slice q1_0 n1_0 k1_0, .slice q1_1 n1_1 k1_1]] w (fun en w' => en = .returned (.bool r) ∧ Ext w w') := by
 obtain rfl := r0_0.1
 obtain rfl := r0_1.1
 obtain rfl := r1_0.1
 obtain rfl := r1_1.1
 unfold laws_eqColorMap at h
 refine enter (vs := [_, _]) Tryz.func17 rfl rfl rfl rfl ?_
 refine WC.seq (WC.region ?_)
 refine WL.heavy rfl rfl rfl (OpH.box rfl rfl ?_)
 intro b0_0
 refine WL.heavy rfl rfl rfl (OpH.box rfl rfl ?_)
 intro b0_1
 refine sp (OpV.assign rfl) ?_
 refine WL.nil (En.next (WC.seq (WC.seq ?_)))
 obtain ⟨x1_4, e1_4, h⟩ := bnd h
 refine WC.region ?_
 refine sp (OpV.fieldAddr rfl fo_31_0) ?_
 refine sp (OpV.loadBox rfl pt_23 (.tail _ (.head _)) rfl) ?_
 refine sp (OpV.fieldAddr rfl fo_31_0) ?_
 refine sp (OpV.loadBox rfl pt_23 (.head _) rfl) ?_
 refine sp (OpV.call (evs.cons rfl (evs.cons rfl (evs.nil))) ca_15 (fun w hs => w_laws_eqIntS e1_4 (r0_0.ext hs.below) (r1_0.ext hs.below))) ?_
 refine sp (OpV.not rfl) ?_
 refine WL.nil (En.next ?_)
 refine WC.cond rfl ?_ ?_
 ·
  intro hc_1
  replace h := ifO_t hc_1 h
  refine WC.seq (WC.region ?_)
  refine sp (OpV.assign rfl) ?_
  refine WL.nil (En.next (WC.ret (En.then_ret ?_)))
  refine En.ret1 rfl (Res.tmp rfl) ?_
  obtain rfl := Option.some.inj h
  intro w' hs
  exact ⟨rfl, hs.below⟩
 ·
  intro hc_1
  replace h := ifO_f hc_1 h
  refine WC.skip (En.next (WC.seq (WC.seq ?_)))
  obtain ⟨x3_4, e3_4, h⟩ := bnd h
  refine WC.region ?_
  refine sp (OpV.fieldAddr rfl fo_31_1) ?_
  refine sp (OpV.loadBox rfl pt_23 (.tail _ (.head _)) rfl) ?_
  refine sp (OpV.fieldAddr rfl fo_31_1) ?_
  refine sp (OpV.loadBox rfl pt_23 (.head _) rfl) ?_
  refine sp (OpV.call (evs.cons rfl (evs.cons rfl (evs.nil))) ca_15 (fun w hs => w_laws_eqIntS e3_4 (r0_1.ext hs.below) (r1_1.ext hs.below))) ?_
  refine sp (OpV.not rfl) ?_
  refine WL.nil (En.next ?_)
  refine WC.cond rfl ?_ ?_
  ·
   intro hc_2
   replace h := ifO_t hc_2 h
   refine WC.seq (WC.region ?_)
   refine sp (OpV.assign rfl) ?_
   refine WL.nil (En.next (WC.ret (En.then_ret ?_)))
   refine En.ret1 rfl (Res.tmp rfl) ?_
   obtain rfl := Option.some.inj h
   intro w' hs
   exact ⟨rfl, hs.below⟩
  ·
   intro hc_2
   replace h := ifO_f hc_2 h
   refine WC.skip (En.next (WC.seq (WC.region ?_)))
   refine sp (OpV.assign rfl) ?_
   refine WL.nil (En.next (WC.ret ?_))
   refine En.ret1 rfl (Res.tmp rfl) ?_
   obtain rfl := Option.some.inj h
   intro w' hs
   exact ⟨rfl, hs.below⟩

theorem w_laws_eqCrtc {a_p0 : CrtcT} {b_p1 : CrtcT} {r : Bool} {q0_0 : Option Addr} {n0_0 k0_0 : Nat} {q0_1 : Option Addr} {n0_1 k0_1 : Nat} {q0_2 : Option Addr} {n0_2 k0_2 : Nat} {q1_0 : Option Addr} {n1_0 k1_0 : Nat} {q1_1 : Option Addr} {n1_1 k1_1 : Nat} {q1_2 : Option Addr} {n1_2 k1_2 : Nat} (h : laws_eqCrtc a_p0 b_p1 = some r) {w : World} (r0_0 : Rd tPlane w q0_0 n0_0 k0_0 a_p0.Planes) (r0_1 : Rd tInt w q0_1 n0_1 k0_1 a_p0.Color.Matrix) (r0_2 : Rd tInt w q0_2 n0_2 k0_2 a_p0.Color.Curve) (r1_0 : Rd tPlane w q1_0 n1_0 k1_0 b_p1.Planes) (r1_1 : Rd tInt w q1_1 n1_1 k1_1 b_p1.Color.Matrix) (r1_2 : Rd tInt w q1_2 n1_2 k1_2 b_p1.Color.Curve)   :
    Calls Tryz.prog 28 #[.agg #[.int .i64 a_p0.W, .int .i64 a_p0.H, .slice q0_0 n0_0 k0_0, .slice q0_1 n0_1 k0_1, .slice q0_2 n0_2 k0_2], .agg #[.int .i64 b_p1.W, .int .i64 b_p1.H, .slice q1_0 n1_0 k1_0, .slice q1_1 n1_1 k1_1, .slice q1_2 n1_2 k1_2]] w (fun en w' => en = .returned (.bool r) ∧ Ext w w') := by
 obtain rfl := r0_0.1
 obtain rfl := r0_1.1
 obtain rfl := r0_2.1
 obtain rfl := r1_0.1
 obtain rfl := r1_1.1
 obtain rfl := r1_2.1
 unfold laws_eqCrtc at h
 refine enter (vs := [_, _]) Tryz.func28 rfl rfl rfl rfl ?_
 refine WC.seq (WC.region ?_)
 refine WL.heavy rfl rfl rfl (OpH.box rfl rfl ?_)
 intro b0_0
 refine WL.heavy rfl rfl rfl (OpH.box rfl rfl ?_)
 intro b0_1
 refine sp (OpV.assign rfl) ?_
 refine WL.nil (En.next (WC.seq (WC.seq (WC.region ?_))))
 refine sp (OpV.fieldAddr rfl fo_46_0) ?_
 refine sp (OpV.loadBox rfl pt_3 (.tail _ (.head _)) rfl) ?_
 refine sp (OpV.fieldAddr rfl fo_46_0) ?_
 refine sp (OpV.loadBox rfl pt_3 (.head _) rfl) ?_
 refine sp (OpV.neq rfl rfl) ?_
 refine WL.nil (En.next ?_)
 refine WC.cond rfl ?_ ?_
 ·
  intro hc_1
  replace h := ifO_t hc_1 h
  refine WC.seq (WC.region ?_)
  refine sp (OpV.assign rfl) ?_
  refine WL.nil (En.next (WC.ret (En.then_ret ?_)))
  refine En.ret1 rfl (Res.tmp rfl) ?_
  obtain rfl := Option.some.inj h
  intro w' hs
  exact ⟨rfl, hs.below⟩
 ·
  intro hc_1
  replace h := ifO_f hc_1 h
  refine WC.skip (En.next (WC.seq (WC.seq (WC.region ?_))))
  refine sp (OpV.fieldAddr rfl fo_46_1) ?_
  refine sp (OpV.loadBox rfl pt_3 (.tail _ (.head _)) rfl) ?_
  refine sp (OpV.fieldAddr rfl fo_46_1) ?_
  refine sp (OpV.loadBox rfl pt_3 (.head _) rfl) ?_
  refine sp (OpV.neq rfl rfl) ?_
  refine WL.nil (En.next ?_)
  refine WC.cond rfl ?_ ?_
  ·
   intro hc_2
   replace h := ifO_t hc_2 h
   refine WC.seq (WC.region ?_)
   refine sp (OpV.assign rfl) ?_
   refine WL.nil (En.next (WC.ret (En.then_ret ?_)))
   refine En.ret1 rfl (Res.tmp rfl) ?_
   obtain rfl := Option.some.inj h
   intro w' hs
   exact ⟨rfl, hs.below⟩
  ·
   intro hc_2
   replace h := ifO_f hc_2 h
   refine WC.skip (En.next (WC.seq (WC.seq ?_)))
   obtain ⟨x5_4, e5_4, h⟩ := bnd h
   refine WC.region ?_
   refine sp (OpV.fieldAddr rfl fo_46_2) ?_
   refine sp (OpV.loadBox rfl pt_29 (.tail _ (.head _)) rfl) ?_
   refine sp (OpV.fieldAddr rfl fo_46_2) ?_
   refine sp (OpV.loadBox rfl pt_29 (.head _) rfl) ?_
   refine sp (OpV.call (evs.cons rfl (evs.cons rfl (evs.nil))) ca_16 (fun w hs => w_laws_eqPlaneS e5_4 (r0_0.ext hs.below) (r1_0.ext hs.below))) ?_
   refine sp (OpV.not rfl) ?_
   refine WL.nil (En.next ?_)
   refine WC.cond rfl ?_ ?_
   ·
    intro hc_3
    replace h := ifO_t hc_3 h
    refine WC.seq (WC.region ?_)
    refine sp (OpV.assign rfl) ?_
    refine WL.nil (En.next (WC.ret (En.then_ret ?_)))
    refine En.ret1 rfl (Res.tmp rfl) ?_
    obtain rfl := Option.some.inj h
    intro w' hs
    exact ⟨rfl, hs.below⟩
   ·
    intro hc_3
    replace h := ifO_f hc_3 h
    refine WC.skip (En.next (WC.seq (WC.seq ?_)))
    obtain ⟨x7_4, e7_4, h⟩ := bnd h
    refine WC.region ?_
    refine sp (OpV.fieldAddr rfl fo_46_3) ?_
    refine sp (OpV.loadPart rfl (.tail _ (.head _)) ag_31 rfl rfl) ?_
    refine sp (OpV.fieldAddr rfl fo_46_3) ?_
    refine sp (OpV.loadPart rfl (.head _) ag_31 rfl rfl) ?_
    refine sp (OpV.call (evs.cons rfl (evs.cons rfl (evs.nil))) ca_17 (fun w hs => w_laws_eqColorMap e7_4 (r0_1.ext hs.below) (r0_2.ext hs.below) (r1_1.ext hs.below) (r1_2.ext hs.below))) ?_
    refine sp (OpV.not rfl) ?_
    refine WL.nil (En.next ?_)
    refine WC.cond rfl ?_ ?_
    ·
     intro hc_4
     replace h := ifO_t hc_4 h
     refine WC.seq (WC.region ?_)
     refine sp (OpV.assign rfl) ?_
     refine WL.nil (En.next (WC.ret (En.then_ret ?_)))
     refine En.ret1 rfl (Res.tmp rfl) ?_
     obtain rfl := Option.some.inj h
     intro w' hs
     exact ⟨rfl, hs.below⟩
    ·
     intro hc_4
     replace h := ifO_f hc_4 h
     refine WC.skip (En.next (WC.seq (WC.region ?_)))
     refine sp (OpV.assign rfl) ?_
     refine WL.nil (En.next (WC.ret ?_))
     refine En.ret1 rfl (Res.tmp rfl) ?_
     obtain rfl := Option.some.inj h
     intro w' hs
     exact ⟨rfl, hs.below⟩

theorem w_laws_eqFlip {a_p0 : FlipT} {b_p1 : FlipT} {r : Bool} {q0_0 : Option Addr} {n0_0 k0_0 : Nat} {q0_1 : Option Addr} {n0_1 k0_1 : Nat} {q0_2 : Option Addr} {n0_2 k0_2 : Nat} {q1_0 : Option Addr} {n1_0 k1_0 : Nat} {q1_1 : Option Addr} {n1_1 k1_1 : Nat} {q1_2 : Option Addr} {n1_2 k1_2 : Nat} (h : laws_eqFlip a_p0 b_p1 = some r) {w : World} (r0_0 : Rd tPlane w q0_0 n0_0 k0_0 a_p0.State.Planes) (r0_1 : Rd tInt w q0_1 n0_1 k0_1 a_p0.State.Color.Matrix) (r0_2 : Rd tInt w q0_2 n0_2 k0_2 a_p0.State.Color.Curve) (r1_0 : Rd tPlane w q1_0 n1_0 k1_0 b_p1.State.Planes) (r1_1 : Rd tInt w q1_1 n1_1 k1_1 b_p1.State.Color.Matrix) (r1_2 : Rd tInt w q1_2 n1_2 k1_2 b_p1.State.Color.Curve)   :
    Calls Tryz.prog 118 #[.agg #[.int .i64 a_p0.Seq, .int .i64 a_p0.Fence, .int .i64 a_p0.State.W, .int .i64 a_p0.State.H, .slice q0_0 n0_0 k0_0, .slice q0_1 n0_1 k0_1, .slice q0_2 n0_2 k0_2], .agg #[.int .i64 b_p1.Seq, .int .i64 b_p1.Fence, .int .i64 b_p1.State.W, .int .i64 b_p1.State.H, .slice q1_0 n1_0 k1_0, .slice q1_1 n1_1 k1_1, .slice q1_2 n1_2 k1_2]] w (fun en w' => en = .returned (.bool r) ∧ Ext w w') := by
 obtain rfl := r0_0.1
 obtain rfl := r0_1.1
 obtain rfl := r0_2.1
 obtain rfl := r1_0.1
 obtain rfl := r1_1.1
 obtain rfl := r1_2.1
 unfold laws_eqFlip at h
 refine enter (vs := [_, _]) Tryz.func118 rfl rfl rfl rfl ?_
 refine WC.seq (WC.region ?_)
 refine WL.heavy rfl rfl rfl (OpH.box rfl rfl ?_)
 intro b0_0
 refine WL.heavy rfl rfl rfl (OpH.box rfl rfl ?_)
 intro b0_1
 refine sp (OpV.assign rfl) ?_
 refine WL.nil (En.next (WC.seq (WC.seq (WC.region ?_))))
 refine sp (OpV.fieldAddr rfl fo_113_0) ?_
 refine sp (OpV.loadBox rfl pt_3 (.tail _ (.head _)) rfl) ?_
 refine sp (OpV.fieldAddr rfl fo_113_0) ?_
 refine sp (OpV.loadBox rfl pt_3 (.head _) rfl) ?_
 refine sp (OpV.neq rfl rfl) ?_
 refine WL.nil (En.next ?_)
 refine WC.cond rfl ?_ ?_
 ·
  intro hc_1
  replace h := ifO_t hc_1 h
  refine WC.seq (WC.region ?_)
  refine sp (OpV.assign rfl) ?_
  refine WL.nil (En.next (WC.ret (En.then_ret ?_)))
  refine En.ret1 rfl (Res.tmp rfl) ?_
  obtain rfl := Option.some.inj h
  intro w' hs
  exact ⟨rfl, hs.below⟩
 ·
  intro hc_1
  replace h := ifO_f hc_1 h
  refine WC.skip (En.next (WC.seq (WC.seq (WC.region ?_))))
  refine sp (OpV.fieldAddr rfl fo_113_1) ?_
  refine sp (OpV.loadBox rfl pt_3 (.tail _ (.head _)) rfl) ?_
  refine sp (OpV.fieldAddr rfl fo_113_1) ?_
  refine sp (OpV.loadBox rfl pt_3 (.head _) rfl) ?_
  refine sp (OpV.neq rfl rfl) ?_
  refine WL.nil (En.next ?_)
  refine WC.cond rfl ?_ ?_
  ·
   intro hc_2
   replace h := ifO_t hc_2 h
   refine WC.seq (WC.region ?_)
   refine sp (OpV.assign rfl) ?_
   refine WL.nil (En.next (WC.ret (En.then_ret ?_)))
   refine En.ret1 rfl (Res.tmp rfl) ?_
   obtain rfl := Option.some.inj h
   intro w' hs
   exact ⟨rfl, hs.below⟩
  ·
   intro hc_2
   replace h := ifO_f hc_2 h
   refine WC.skip (En.next (WC.seq (WC.seq ?_)))
   obtain ⟨x5_4, e5_4, h⟩ := bnd h
   refine WC.region ?_
   refine sp (OpV.fieldAddr rfl fo_113_2) ?_
   refine sp (OpV.loadPart rfl (.tail _ (.head _)) ag_46 rfl rfl) ?_
   refine sp (OpV.fieldAddr rfl fo_113_2) ?_
   refine sp (OpV.loadPart rfl (.head _) ag_46 rfl rfl) ?_
   refine sp (OpV.call (evs.cons rfl (evs.cons rfl (evs.nil))) ca_28 (fun w hs => w_laws_eqCrtc e5_4 (r0_0.ext hs.below) (r0_1.ext hs.below) (r0_2.ext hs.below) (r1_0.ext hs.below) (r1_1.ext hs.below) (r1_2.ext hs.below))) ?_
   refine sp (OpV.not rfl) ?_
   refine WL.nil (En.next ?_)
   refine WC.cond rfl ?_ ?_
   ·
    intro hc_3
    replace h := ifO_t hc_3 h
    refine WC.seq (WC.region ?_)
    refine sp (OpV.assign rfl) ?_
    refine WL.nil (En.next (WC.ret (En.then_ret ?_)))
    refine En.ret1 rfl (Res.tmp rfl) ?_
    obtain rfl := Option.some.inj h
    intro w' hs
    exact ⟨rfl, hs.below⟩
   ·
    intro hc_3
    replace h := ifO_f hc_3 h
    refine WC.skip (En.next (WC.seq (WC.region ?_)))
    refine sp (OpV.assign rfl) ?_
    refine WL.nil (En.next (WC.ret ?_))
    refine En.ret1 rfl (Res.tmp rfl) ?_
    obtain rfl := Option.some.inj h
    intro w' hs
    exact ⟨rfl, hs.below⟩

theorem w_laws_eqFlipS {a_p0 : List FlipT} {b_p1 : List FlipT} {r : Bool} {q0_0 : Option Addr} {n0_0 k0_0 : Nat} {q1_0 : Option Addr} {n1_0 k1_0 : Nat} (h : laws_eqFlipS a_p0 b_p1 = some r) {w : World} (r0_0 : Rd tFlip w q0_0 n0_0 k0_0 a_p0) (r1_0 : Rd tFlip w q1_0 n1_0 k1_0 b_p1)   :
    Calls Tryz.prog 83 #[.slice q0_0 n0_0 k0_0, .slice q1_0 n1_0 k1_0] w (fun en w' => en = .returned (.bool r) ∧ Ext w w') := by
 obtain rfl := r0_0.1
 obtain rfl := r1_0.1
 unfold laws_eqFlipS at h
 refine enter (vs := [_, _]) Tryz.func83 rfl rfl rfl rfl ?_
 refine WC.seq (WC.region ?_)
 refine sp (OpV.assign rfl) ?_
 refine WL.nil (En.next (WC.seq (WC.seq (WC.region ?_))))
 refine sp (OpV.move rfl) ?_
 refine sp (OpV.len rfl si_61 rfl) ?_
 refine sp (OpV.move rfl) ?_
 refine sp (OpV.len rfl si_61 rfl) ?_
 refine sp (OpV.neq rfl rfl) ?_
 refine WL.nil (En.next ?_)
 refine WC.cond rfl ?_ ?_
 ·
  intro hc_1
  replace h := ifO_t hc_1 h
  refine WC.seq (WC.region ?_)
  refine sp (OpV.assign rfl) ?_
  refine WL.nil (En.next (WC.ret (En.then_ret ?_)))
  refine En.ret1 rfl (Res.tmp rfl) ?_
  obtain rfl := Option.some.inj h
  intro w' hs
  exact ⟨rfl, hs.below⟩
 ·
  intro hc_1
  replace h := ifO_f hc_1 h
  refine WC.skip (En.next (WC.seq (WC.seq (WC.region ?_))))
  refine sp (OpV.assign rfl) ?_
  refine WL.nil (En.next (WC.block ?_))
  obtain ⟨zy0, ezy0, h⟩ := bnd h
  refine WC.cut (X := (Unit) × (Unit)) (.exit 0) (fun x => zy0 = .inl x.1) (fun x => match x with | ((), ()) => []) (fun x => match x with | ((), ()) => []) ?_ ?_
  ·
   rintro ⟨⟨⟩, ⟨⟩⟩ hx
   replace hx : .inl () = zy0 := hx.symm
   subst hx
   replace h := fork_l h
   show En _ _ _ _ [] []
   refine En.block_exit (En.next (WC.seq (WC.region ?_)))
   refine sp (OpV.assign rfl) ?_
   refine WL.nil (En.next (WC.ret ?_))
   refine En.ret1 rfl (Res.tmp rfl) ?_
   obtain rfl := Option.some.inj h
   intro w' hs
   exact ⟨rfl, hs.below⟩
  ·
   intro zK0_0
   refine WC.loopP (G := Unit) (fun s g => match s, g with | i_0, () => [(0, .slice q0_0 a_p0.length k0_0), (1, .slice q1_0 b_p1.length k1_0), (5, .int .i64 i_0)]) (fun s g => match s, g with | i_0, () => []) 0 () ezy0 (by exact Sub.cons rfl (Sub.cons rfl (Sub.cons rfl (Sub.nil _)))) (by exact (fun _ h => h)) ?_
   rintro zm0 i_0 ⟨⟩ zo0 zf0 zb0 ze0
   have zh0 : laws_eqFlipS_L0 a_p0 b_p1 i_0 = some zo0 := zf0
   unfold laws_eqFlipS_L0 at zh0
   show WC _ _ _ _ _ [(0, .slice q0_0 a_p0.length k0_0), (1, .slice q1_0 b_p1.length k1_0), (5, .int .i64 i_0)] []
   refine WC.seq (WC.seq (WC.region ?_))
   refine sp (OpV.move rfl) ?_
   refine sp (OpV.move rfl) ?_
   refine sp (OpV.len rfl si_61 rfl) ?_
   refine sp (OpV.lss rfl rfl) ?_
   refine WL.nil (En.next ?_)
   refine WC.cond rfl ?_ ?_
   ·
    intro hc_2
    replace zh0 := ifO_t hc_2 zh0
    refine WC.skip (En.next (WC.seq (WC.block (WC.seq ?_))))
    obtain ⟨x6_2, e6_2, zh0⟩ := bnd zh0
    obtain ⟨g6_2, o6_2, _, ha6_2, ⟨a6_2_1, c6_2_1, a6_2_2, c6_2_2, a6_2_3, c6_2_3, rfl, r6_2_1, r6_2_2, r6_2_3⟩, hd6_2⟩ := Rd.atIdx r0_0 e6_2
    replace hd6_2 : ∀ (j : Nat) v, ([.int .i64 x6_2.Seq, .int .i64 x6_2.Fence, .int .i64 x6_2.State.W, .int .i64 x6_2.State.H, .slice a6_2_1 x6_2.State.Planes.length c6_2_1, .slice a6_2_2 x6_2.State.Color.Matrix.length c6_2_2, .slice a6_2_3 x6_2.State.Color.Curve.length c6_2_3] : List Value)[j]? = some v → w.cell? ⟨g6_2, o6_2 + i_0.toNat * 7 + j, .none⟩ = some v := hd6_2
    obtain ⟨x6_6, e6_6, zh0⟩ := bnd zh0
    obtain ⟨g6_6, o6_6, _, ha6_6, ⟨a6_6_1, c6_6_1, a6_6_2, c6_6_2, a6_6_3, c6_6_3, rfl, r6_6_1, r6_6_2, r6_6_3⟩, hd6_6⟩ := Rd.atIdx r1_0 e6_6
    replace hd6_6 : ∀ (j : Nat) v, ([.int .i64 x6_6.Seq, .int .i64 x6_6.Fence, .int .i64 x6_6.State.W, .int .i64 x6_6.State.H, .slice a6_6_1 x6_6.State.Planes.length c6_6_1, .slice a6_6_2 x6_6.State.Color.Matrix.length c6_6_2, .slice a6_6_3 x6_6.State.Color.Curve.length c6_6_3] : List Value)[j]? = some v → w.cell? ⟨g6_6, o6_6 + i_0.toNat * 7 + j, .none⟩ = some v := hd6_6
    obtain ⟨x6_8, e6_8, zh0⟩ := bnd zh0
    refine WC.drawn [(0, ?r6v0), (1, ?r6v1), (5, ?r6v5), (26, ?r6v26)] (by kernel_rfl) (by kernel_rfl) ?dH6 ?dK6
    case dH6 =>
     intro W hW hk
     refine hW.step rfl rfl rfl (OpV.move rfl) ?_
     refine hW.step rfl rfl rfl (OpV.move rfl) ?_
     refine hW.step rfl rfl rfl (OpV.idxA rfl rfl se_61 ha6_2 ⟨(idx_some e6_2).1, (idx_some e6_2).2.1⟩) ?_
     refine hW.step rfl rfl rfl (OpV.loadN rfl ag_113 rfl (fun w hs => hs.cellsAt hd6_2)) ?_
     refine hW.step rfl rfl rfl (OpV.move rfl) ?_
     refine hW.step rfl rfl rfl (OpV.move rfl) ?_
     refine hW.step rfl rfl rfl (OpV.idxA rfl rfl se_61 ha6_6 ⟨(idx_some e6_6).1, (idx_some e6_6).2.1⟩) ?_
     refine hW.step rfl rfl rfl (OpV.loadN rfl ag_113 rfl (fun w hs => hs.cellsAt hd6_6)) ?_
     refine hW.step rfl rfl rfl (OpV.call (evs.cons rfl (evs.cons rfl (evs.nil))) ca_118 (fun w hs => w_laws_eqFlip e6_8 (r6_2_1.ext hs.below) (r6_2_2.ext hs.below) (r6_2_3.ext hs.below) (r6_6_1.ext hs.below) (r6_6_2.ext hs.below) (r6_6_3.ext hs.below))) ?_
     refine hW.step rfl rfl rfl (OpV.not rfl) ?_
     refine hk _ ?_
     refine Sub.cons ?_ (Sub.cons ?_ (Sub.cons ?_ (Sub.cons ?_ (Sub.nil _))))
     all_goals exact rfl
    refine En.next ?_
    refine WC.cond rfl ?_ ?_
    ·
     intro hc_3
     replace zh0 := ifO_t hc_3 zh0
     refine WC.seq (WC.region ?_)
     refine sp (OpV.assign rfl) ?_
     refine WL.nil (En.next (WC.ret (En.block_ret (En.then_ret (En.then_ret (En.block_ret (En.then_ret ?_)))))))
     refine En.ret1 rfl (Res.tmp rfl) ?_
     have hx := exitP ze0 zh0
     subst hx
     replace h := fork_r h
     obtain rfl := Option.some.inj h
     intro w' hs
     exact ⟨rfl, hs.below⟩
    ·
     intro hc_3
     replace zh0 := ifO_f hc_3 zh0
     refine WC.skip (En.block_norm (En.next (WC.region ?_)))
     refine sp (OpV.move rfl) ?_
     refine sp (OpV.addR rfl rfl) ?_
     refine sp (OpV.assign rfl) ?_
     refine WL.nil ?_
     exact En.backP zb0 zh0 () (Sub.cons rfl (Sub.cons rfl (Sub.cons rfl (Sub.nil _)))) (fun _ h => h)
   ·
    intro hc_2
    replace zh0 := ifO_f hc_2 zh0
    refine WC.exit (En.then_exit (En.then_exit ?_))
    have hx := exitP ze0 zh0
    exact En.wk _ _ (Sub.nil _) (fun _ h => h) (zK0_0 ((), ()) hx.symm)

theorem w_laws_eqFlips {a_p0 : FlipsT} {b_p1 : FlipsT} {r : Bool} {q0_0 : Option Addr} {n0_0 k0_0 : Nat} {q0_1 : Option Addr} {n0_1 k0_1 : Nat} {q0_2 : Option Addr} {n0_2 k0_2 : Nat} {q1_0 : Option Addr} {n1_0 k1_0 : Nat} {q1_1 : Option Addr} {n1_1 k1_1 : Nat} {q1_2 : Option Addr} {n1_2 k1_2 : Nat} (h : laws_eqFlips a_p0 b_p1 = some r) {w : World} (r0_0 : Rd tFlip w q0_0 n0_0 k0_0 a_p0.Pending) (r0_1 : Rd tInt w q0_1 n0_1 k0_1 a_p0.Signalled) (r0_2 : Rd tInt w q0_2 n0_2 k0_2 a_p0.Events) (r1_0 : Rd tFlip w q1_0 n1_0 k1_0 b_p1.Pending) (r1_1 : Rd tInt w q1_1 n1_1 k1_1 b_p1.Signalled) (r1_2 : Rd tInt w q1_2 n1_2 k1_2 b_p1.Events)   :
    Calls Tryz.prog 37 #[.agg #[.slice q0_0 n0_0 k0_0, .slice q0_1 n0_1 k0_1, .int .i64 a_p0.Next, .slice q0_2 n0_2 k0_2], .agg #[.slice q1_0 n1_0 k1_0, .slice q1_1 n1_1 k1_1, .int .i64 b_p1.Next, .slice q1_2 n1_2 k1_2]] w (fun en w' => en = .returned (.bool r) ∧ Ext w w') := by
 obtain rfl := r0_0.1
 obtain rfl := r0_1.1
 obtain rfl := r0_2.1
 obtain rfl := r1_0.1
 obtain rfl := r1_1.1
 obtain rfl := r1_2.1
 unfold laws_eqFlips at h
 refine enter (vs := [_, _]) Tryz.func37 rfl rfl rfl rfl ?_
 refine WC.seq (WC.region ?_)
 refine WL.heavy rfl rfl rfl (OpH.box rfl rfl ?_)
 intro b0_0
 refine WL.heavy rfl rfl rfl (OpH.box rfl rfl ?_)
 intro b0_1
 refine sp (OpV.assign rfl) ?_
 refine WL.nil (En.next (WC.seq (WC.seq ?_)))
 obtain ⟨x1_4, e1_4, h⟩ := bnd h
 refine WC.region ?_
 refine sp (OpV.fieldAddr rfl fo_63_0) ?_
 refine sp (OpV.loadBox rfl pt_61 (.tail _ (.head _)) rfl) ?_
 refine sp (OpV.fieldAddr rfl fo_63_0) ?_
 refine sp (OpV.loadBox rfl pt_61 (.head _) rfl) ?_
 refine sp (OpV.call (evs.cons rfl (evs.cons rfl (evs.nil))) ca_83 (fun w hs => w_laws_eqFlipS e1_4 (r0_0.ext hs.below) (r1_0.ext hs.below))) ?_
 refine sp (OpV.not rfl) ?_
 refine WL.nil (En.next ?_)
 refine WC.cond rfl ?_ ?_
 ·
  intro hc_1
  replace h := ifO_t hc_1 h
  refine WC.seq (WC.region ?_)
  refine sp (OpV.assign rfl) ?_
  refine WL.nil (En.next (WC.ret (En.then_ret ?_)))
  refine En.ret1 rfl (Res.tmp rfl) ?_
  obtain rfl := Option.some.inj h
  intro w' hs
  exact ⟨rfl, hs.below⟩
 ·
  intro hc_1
  replace h := ifO_f hc_1 h
  refine WC.skip (En.next (WC.seq (WC.seq ?_)))
  obtain ⟨x3_4, e3_4, h⟩ := bnd h
  refine WC.region ?_
  refine sp (OpV.fieldAddr rfl fo_63_1) ?_
  refine sp (OpV.loadBox rfl pt_23 (.tail _ (.head _)) rfl) ?_
  refine sp (OpV.fieldAddr rfl fo_63_1) ?_
  refine sp (OpV.loadBox rfl pt_23 (.head _) rfl) ?_
  refine sp (OpV.call (evs.cons rfl (evs.cons rfl (evs.nil))) ca_15 (fun w hs => w_laws_eqIntS e3_4 (r0_1.ext hs.below) (r1_1.ext hs.below))) ?_
  refine sp (OpV.not rfl) ?_
  refine WL.nil (En.next ?_)
  refine WC.cond rfl ?_ ?_
  ·
   intro hc_2
   replace h := ifO_t hc_2 h
   refine WC.seq (WC.region ?_)
   refine sp (OpV.assign rfl) ?_
   refine WL.nil (En.next (WC.ret (En.then_ret ?_)))
   refine En.ret1 rfl (Res.tmp rfl) ?_
   obtain rfl := Option.some.inj h
   intro w' hs
   exact ⟨rfl, hs.below⟩
  ·
   intro hc_2
   replace h := ifO_f hc_2 h
   refine WC.skip (En.next (WC.seq (WC.seq (WC.region ?_))))
   refine sp (OpV.fieldAddr rfl fo_63_2) ?_
   refine sp (OpV.loadBox rfl pt_3 (.tail _ (.head _)) rfl) ?_
   refine sp (OpV.fieldAddr rfl fo_63_2) ?_
   refine sp (OpV.loadBox rfl pt_3 (.head _) rfl) ?_
   refine sp (OpV.neq rfl rfl) ?_
   refine WL.nil (En.next ?_)
   refine WC.cond rfl ?_ ?_
   ·
    intro hc_3
    replace h := ifO_t hc_3 h
    refine WC.seq (WC.region ?_)
    refine sp (OpV.assign rfl) ?_
    refine WL.nil (En.next (WC.ret (En.then_ret ?_)))
    refine En.ret1 rfl (Res.tmp rfl) ?_
    obtain rfl := Option.some.inj h
    intro w' hs
    exact ⟨rfl, hs.below⟩
   ·
    intro hc_3
    replace h := ifO_f hc_3 h
    refine WC.skip (En.next (WC.seq (WC.seq ?_)))
    obtain ⟨x7_4, e7_4, h⟩ := bnd h
    refine WC.region ?_
    refine sp (OpV.fieldAddr rfl fo_63_3) ?_
    refine sp (OpV.loadBox rfl pt_23 (.tail _ (.head _)) rfl) ?_
    refine sp (OpV.fieldAddr rfl fo_63_3) ?_
    refine sp (OpV.loadBox rfl pt_23 (.head _) rfl) ?_
    refine sp (OpV.call (evs.cons rfl (evs.cons rfl (evs.nil))) ca_15 (fun w hs => w_laws_eqIntS e7_4 (r0_2.ext hs.below) (r1_2.ext hs.below))) ?_
    refine sp (OpV.not rfl) ?_
    refine WL.nil (En.next ?_)
    refine WC.cond rfl ?_ ?_
    ·
     intro hc_4
     replace h := ifO_t hc_4 h
     refine WC.seq (WC.region ?_)
     refine sp (OpV.assign rfl) ?_
     refine WL.nil (En.next (WC.ret (En.then_ret ?_)))
     refine En.ret1 rfl (Res.tmp rfl) ?_
     obtain rfl := Option.some.inj h
     intro w' hs
     exact ⟨rfl, hs.below⟩
    ·
     intro hc_4
     replace h := ifO_f hc_4 h
     refine WC.skip (En.next (WC.seq (WC.region ?_)))
     refine sp (OpV.assign rfl) ?_
     refine WL.nil (En.next (WC.ret ?_))
     refine En.ret1 rfl (Res.tmp rfl) ?_
     obtain rfl := Option.some.inj h
     intro w' hs
     exact ⟨rfl, hs.below⟩

theorem w_laws_markIntS {a_p0 : List Int} {k_p1 : Int} {r : Int × (List Int)} {q0_0 : Option Addr} {n0_0 k0_0 : Nat} {f0_0 : List Nat} (h : laws_markIntS a_p0 k_p1 = some r) {w0 w : World} {C : List Chunk} (hs0 : St w0 (Chunk.own tInt f0_0 q0_0 n0_0 k0_0 a_p0 :: C) w)  :
    Calls Tryz.prog 20 #[.slice q0_0 n0_0 k0_0, .int .i64 k_p1] w (fun en w' => ∃ rv G, en = .returned rv ∧ (∃ (g0_0 : List Nat), rv = .int .i64 r.1 ∧ G = Chunk.own tInt g0_0 q0_0 n0_0 k0_0 r.2 :: C) ∧ St w0 G w') := by
 unfold laws_markIntS at h
 refine enterF hs0 (vs := [_, _]) Tryz.func20 rfl rfl rfl rfl ?_
 refine WC.seq (WC.region ?_)
 refine sp (OpV.assign rfl) ?_
 refine WL.nil (En.next (WC.seq (WC.seq (WC.region ?_))))
 refine sp (OpV.assign rfl) ?_
 refine WL.nil (En.next (WC.block ?_))
 obtain ⟨zy0, ezy0, h⟩ := bnd h
 refine WC.cut (X := (Int × (List Int)) × ((List Nat))) (.exit 0) (fun x => zy0 = x.1) (fun x => match x with | ((k_0e, p_0e), fp_0e) => [(1, .int .i64 k_0e)]) (fun x => match x with | ((k_0e, p_0e), fp_0e) => (Chunk.own tInt fp_0e q0_0 n0_0 k0_0 p_0e :: C)) ?_ ?_
 ·
  rintro ⟨⟨k_0e, p_0e⟩, fp_0e⟩ hx
  replace hx : (k_0e, p_0e) = zy0 := hx.symm
  subst hx
  show En _ _ _ _ [(1, .int .i64 k_0e)] (Chunk.own tInt fp_0e q0_0 n0_0 k0_0 p_0e :: C)
  refine En.block_exit (En.next (WC.seq (WC.region ?_)))
  refine sp (OpV.move rfl) ?_
  refine sp (OpV.assign rfl) ?_
  refine WL.nil (En.next (WC.ret ?_))
  refine En.ret1 rfl (Res.tmp rfl) ?_
  obtain rfl := Option.some.inj h
  intro w' hs
  have hs := hs
  exact ⟨_, _, rfl, ⟨fp_0e, rfl, rfl⟩, hs⟩
 ·
  intro zK0_0
  refine WC.loopP (G := (List Nat)) (fun s g => match s, g with | (a_0, k_0, i_0), fa_0 => [(0, .slice q0_0 n0_0 k0_0), (1, .int .i64 k_0), (5, .int .i64 i_0)]) (fun s g => match s, g with | (a_0, k_0, i_0), fa_0 => (Chunk.own tInt fa_0 q0_0 n0_0 k0_0 a_0 :: C)) (a_p0, k_p1, 0) f0_0 ezy0 (by exact Sub.cons rfl (Sub.cons rfl (Sub.cons rfl (Sub.nil _)))) (by exact (fun _ h => h)) ?_
  rintro zm0 ⟨a_0, k_0, i_0⟩ fa_0 zo0 zf0 zb0 ze0
  have zh0 : laws_markIntS_L0 a_0 k_0 i_0 = some zo0 := zf0
  unfold laws_markIntS_L0 at zh0
  show WC _ _ _ _ _ [(0, .slice q0_0 n0_0 k0_0), (1, .int .i64 k_0), (5, .int .i64 i_0)] (Chunk.own tInt fa_0 q0_0 n0_0 k0_0 a_0 :: C)
  refine WC.seq (WC.seq (WC.region ?_))
  refine sp (OpV.move rfl) ?_
  refine sp (OpV.move rfl) ?_
  refine sp (OpV.inhF fun hin => OpV.lenO (xs := a_0) rfl si_23 rfl (ownLen hin (.head _))) ?_
  refine sp (OpV.lss rfl rfl) ?_
  refine WL.nil (En.next ?_)
  refine WC.cond rfl ?_ ?_
  ·
   intro hc_1
   replace zh0 := ifO_t hc_1 zh0
   refine WC.skip (En.next (WC.seq (WC.block (WC.seq ?_))))
   refine WC.inh fun hin4 => ?_
   have hn4_3 := ownLen hin4 (.head _)
   obtain ⟨x4_4, e4_4, zh0⟩ := bnd zh0
   obtain ⟨g4_3, ha4_3⟩ := ownAddrU hin4 (.head _) e4_4
   refine WC.region ?_
   refine sp (OpV.move rfl) ?_
   refine sp (OpV.move rfl) ?_
   refine sp (OpV.move rfl) ?_
   refine sp (OpV.idxA rfl rfl se_23 ha4_3 ⟨(upd_some e4_4).1.1, by rw [hn4_3]; exact (upd_some e4_4).1.2⟩) ?_
   refine WL.wkF (fun _ h => St.elFlat tInt_flat k_0 h) ?_
   refine WL.heavy0 rfl rfl (OpH.setEl (A := tInt) ha4_3 rfl rfl rfl ts_3 e4_4 ?_)
   intro f4_4
   refine WL.nil (En.next (WC.region ?_))
   refine sp (OpV.move rfl) ?_
   refine sp (OpV.addR rfl rfl) ?_
   refine sp (OpV.assign rfl) ?_
   refine WL.nil (En.block_norm (En.next (WC.region ?_)))
   refine sp (OpV.move rfl) ?_
   refine sp (OpV.addR rfl rfl) ?_
   refine sp (OpV.assign rfl) ?_
   refine WL.nil ?_
   exact En.backP zb0 zh0 f4_4 (Sub.cons rfl (Sub.cons rfl (Sub.cons rfl (Sub.nil _)))) (fun _ h => h)
  ·
   intro hc_1
   replace zh0 := ifO_f hc_1 zh0
   refine WC.exit (En.then_exit (En.then_exit ?_))
   have hx := exitP ze0 zh0
   exact En.wk _ _ (Sub.cons rfl (Sub.nil _)) (fun _ h => h) (zK0_0 ((k_0, a_0), fa_0) hx.symm)

theorem w_laws_markPlaneS {a_p0 : List PlaneT} {a_p1 : Int} {r : Int × (List PlaneT)} {q0_0 : Option Addr} {n0_0 k0_0 : Nat} {f0_0 : List Nat} (h : laws_markPlaneS a_p0 a_p1 = some r) {w0 w : World} {C : List Chunk} (hs0 : St w0 (Chunk.own tPlane f0_0 q0_0 n0_0 k0_0 a_p0 :: C) w)  :
    Calls Tryz.prog 18 #[.slice q0_0 n0_0 k0_0, .int .i64 a_p1] w (fun en w' => ∃ rv G, en = .returned rv ∧ (∃ (g0_0 : List Nat), rv = .int .i64 r.1 ∧ G = Chunk.own tPlane g0_0 q0_0 n0_0 k0_0 r.2 :: C) ∧ St w0 G w') := by
 unfold laws_markPlaneS at h
 refine enterF hs0 (vs := [_, _]) Tryz.func18 rfl rfl rfl rfl ?_
 refine WC.seq (WC.region ?_)
 refine sp (OpV.assign rfl) ?_
 refine WL.nil (En.next (WC.seq (WC.seq (WC.region ?_))))
 refine sp (OpV.assign rfl) ?_
 refine WL.nil (En.next (WC.block ?_))
 obtain ⟨zy0, ezy0, h⟩ := bnd h
 refine WC.cut (X := (Int × (List PlaneT)) × ((List Nat))) (.exit 0) (fun x => zy0 = x.1) (fun x => match x with | ((v_0e, p_0e), fp_0e) => [(1, .int .i64 v_0e)]) (fun x => match x with | ((v_0e, p_0e), fp_0e) => (Chunk.own tPlane fp_0e q0_0 n0_0 k0_0 p_0e :: C)) ?_ ?_
 ·
  rintro ⟨⟨v_0e, p_0e⟩, fp_0e⟩ hx
  replace hx : (v_0e, p_0e) = zy0 := hx.symm
  subst hx
  show En _ _ _ _ [(1, .int .i64 v_0e)] (Chunk.own tPlane fp_0e q0_0 n0_0 k0_0 p_0e :: C)
  refine En.block_exit (En.next (WC.seq (WC.region ?_)))
  refine sp (OpV.move rfl) ?_
  refine sp (OpV.assign rfl) ?_
  refine WL.nil (En.next (WC.ret ?_))
  refine En.ret1 rfl (Res.tmp rfl) ?_
  obtain rfl := Option.some.inj h
  intro w' hs
  have hs := hs
  exact ⟨_, _, rfl, ⟨fp_0e, rfl, rfl⟩, hs⟩
 ·
  intro zK0_0
  refine WC.loopP (G := (List Nat)) (fun s g => match s, g with | (v_0, v1_0, v2_0), fv_0 => [(0, .slice q0_0 n0_0 k0_0), (1, .int .i64 v1_0), (5, .int .i64 v2_0)]) (fun s g => match s, g with | (v_0, v1_0, v2_0), fv_0 => (Chunk.own tPlane fv_0 q0_0 n0_0 k0_0 v_0 :: C)) (a_p0, a_p1, 0) f0_0 ezy0 (by exact Sub.cons rfl (Sub.cons rfl (Sub.cons rfl (Sub.nil _)))) (by exact (fun _ h => h)) ?_
  rintro zm0 ⟨v_0, v1_0, v2_0⟩ fv_0 zo0 zf0 zb0 ze0
  have zh0 : laws_markPlaneS_L0 v_0 v1_0 v2_0 = some zo0 := zf0
  unfold laws_markPlaneS_L0 at zh0
  show WC _ _ _ _ _ [(0, .slice q0_0 n0_0 k0_0), (1, .int .i64 v1_0), (5, .int .i64 v2_0)] (Chunk.own tPlane fv_0 q0_0 n0_0 k0_0 v_0 :: C)
  refine WC.seq (WC.seq (WC.region ?_))
  refine sp (OpV.move rfl) ?_
  refine sp (OpV.move rfl) ?_
  refine sp (OpV.inhF fun hin => OpV.lenO (xs := v_0) rfl si_29 rfl (ownLen hin (.head _))) ?_
  refine sp (OpV.lss rfl rfl) ?_
  refine WL.nil (En.next ?_)
  refine WC.cond rfl ?_ ?_
  ·
   intro hc_1
   replace zh0 := ifO_t hc_1 zh0
   refine WC.skip (En.next (WC.seq (WC.block (WC.seq ?_))))
   refine WC.inh fun hin4 => ?_
   obtain ⟨x4_5, e4_5, zh0⟩ := bnd zh0
   obtain ⟨g4_5, ha4_5⟩ := ownAddr hin4 (.head _) e4_5
   have hn4_5 := ownLen hin4 (.head _)
   obtain ⟨x4_7, e4_7, zh0⟩ := bnd zh0
   refine WC.region ?_
   refine sp (OpV.move rfl) ?_
   refine sp (OpV.move rfl) ?_
   refine sp (OpV.move rfl) ?_
   refine sp (OpV.remR rfl rfl rfl) ?_
   refine sp (OpV.eql rfl rfl) ?_
   refine sp (OpV.idxA rfl rfl se_29 ha4_5 ⟨(idx_some e4_5).1, by rw [hn4_5]; exact (idx_some e4_5).2.1⟩) ?_
   refine sp (OpV.fieldAddr rfl fo_82_0) ?_
   refine WL.heavy0 rfl rfl (OpH.setFld (F := []) (A := tPlane) (off := 0) (i := v2_0) (v' := (PlaneT.mk (decide ((Int.tmod v1_0 3) = 0)) x4_5.X x4_5.Y x4_5.W x4_5.H x4_5.Layout x4_5.Words x4_5.Alpha x4_5.Orient x4_5.ToW x4_5.ToH)) ha4_5 rfl rfl rfl ts_4 rfl rfl e4_5 (fun _ _ _ ⟨_, _, _, hp, he, h0⟩ => ⟨_, _, _, hp, by rw [he]; rfl, h0⟩) e4_7 ?_)
   refine WL.nil (En.next (WC.seq (WC.region ?_)))
   refine sp (OpV.move rfl) ?_
   refine sp (OpV.addR rfl rfl) ?_
   refine sp (OpV.assign rfl) ?_
   refine WL.nil (En.next (WC.seq ?_))
   refine WC.inh fun hin6 => ?_
   obtain ⟨x6_3, e6_3, zh0⟩ := bnd zh0
   obtain ⟨g6_3, ha6_3⟩ := ownAddr hin6 (.head _) e6_3
   have hn6_3 := ownLen hin6 (.head _)
   obtain ⟨x6_5, e6_5, zh0⟩ := bnd zh0
   refine WC.region ?_
   refine sp (OpV.move rfl) ?_
   refine sp (OpV.move rfl) ?_
   refine sp (OpV.move rfl) ?_
   refine sp (OpV.idxA rfl rfl se_29 ha6_3 ⟨(idx_some e6_3).1, by rw [hn6_3]; exact (idx_some e6_3).2.1⟩) ?_
   refine sp (OpV.fieldAddr rfl fo_82_1) ?_
   refine WL.heavy0 rfl rfl (OpH.setFld (F := []) (A := tPlane) (off := 1) (i := v2_0) (v' := (PlaneT.mk x6_3.On (wr (v1_0 + 1)) x6_3.Y x6_3.W x6_3.H x6_3.Layout x6_3.Words x6_3.Alpha x6_3.Orient x6_3.ToW x6_3.ToH)) ha6_3 rfl rfl rfl ts_3 rfl rfl e6_3 (fun _ _ _ ⟨_, _, _, hp, he, h0⟩ => ⟨_, _, _, hp, by rw [he]; rfl, h0⟩) e6_5 ?_)
   refine WL.nil (En.next (WC.seq (WC.region ?_)))
   refine sp (OpV.move rfl) ?_
   refine sp (OpV.addR rfl rfl) ?_
   refine sp (OpV.assign rfl) ?_
   refine WL.nil (En.next (WC.seq ?_))
   refine WC.inh fun hin8 => ?_
   obtain ⟨x8_3, e8_3, zh0⟩ := bnd zh0
   obtain ⟨g8_3, ha8_3⟩ := ownAddr hin8 (.head _) e8_3
   have hn8_3 := ownLen hin8 (.head _)
   obtain ⟨x8_5, e8_5, zh0⟩ := bnd zh0
   refine WC.region ?_
   refine sp (OpV.move rfl) ?_
   refine sp (OpV.move rfl) ?_
   refine sp (OpV.move rfl) ?_
   refine sp (OpV.idxA rfl rfl se_29 ha8_3 ⟨(idx_some e8_3).1, by rw [hn8_3]; exact (idx_some e8_3).2.1⟩) ?_
   refine sp (OpV.fieldAddr rfl fo_82_2) ?_
   refine WL.heavy0 rfl rfl (OpH.setFld (F := []) (A := tPlane) (off := 2) (i := v2_0) (v' := (PlaneT.mk x8_3.On x8_3.X (wr ((wr (v1_0 + 1)) + 1)) x8_3.W x8_3.H x8_3.Layout x8_3.Words x8_3.Alpha x8_3.Orient x8_3.ToW x8_3.ToH)) ha8_3 rfl rfl rfl ts_3 rfl rfl e8_3 (fun _ _ _ ⟨_, _, _, hp, he, h0⟩ => ⟨_, _, _, hp, by rw [he]; rfl, h0⟩) e8_5 ?_)
   refine WL.nil (En.next (WC.seq (WC.region ?_)))
   refine sp (OpV.move rfl) ?_
   refine sp (OpV.addR rfl rfl) ?_
   refine sp (OpV.assign rfl) ?_
   refine WL.nil (En.next (WC.seq ?_))
   refine WC.inh fun hin10 => ?_
   obtain ⟨x10_3, e10_3, zh0⟩ := bnd zh0
   obtain ⟨g10_3, ha10_3⟩ := ownAddr hin10 (.head _) e10_3
   have hn10_3 := ownLen hin10 (.head _)
   obtain ⟨x10_5, e10_5, zh0⟩ := bnd zh0
   refine WC.region ?_
   refine sp (OpV.move rfl) ?_
   refine sp (OpV.move rfl) ?_
   refine sp (OpV.move rfl) ?_
   refine sp (OpV.idxA rfl rfl se_29 ha10_3 ⟨(idx_some e10_3).1, by rw [hn10_3]; exact (idx_some e10_3).2.1⟩) ?_
   refine sp (OpV.fieldAddr rfl fo_82_3) ?_
   refine WL.heavy0 rfl rfl (OpH.setFld (F := []) (A := tPlane) (off := 3) (i := v2_0) (v' := (PlaneT.mk x10_3.On x10_3.X x10_3.Y (wr ((wr ((wr (v1_0 + 1)) + 1)) + 1)) x10_3.H x10_3.Layout x10_3.Words x10_3.Alpha x10_3.Orient x10_3.ToW x10_3.ToH)) ha10_3 rfl rfl rfl ts_3 rfl rfl e10_3 (fun _ _ _ ⟨_, _, _, hp, he, h0⟩ => ⟨_, _, _, hp, by rw [he]; rfl, h0⟩) e10_5 ?_)
   refine WL.nil (En.next (WC.seq (WC.region ?_)))
   refine sp (OpV.move rfl) ?_
   refine sp (OpV.addR rfl rfl) ?_
   refine sp (OpV.assign rfl) ?_
   refine WL.nil (En.next (WC.seq ?_))
   refine WC.inh fun hin12 => ?_
   obtain ⟨x12_3, e12_3, zh0⟩ := bnd zh0
   obtain ⟨g12_3, ha12_3⟩ := ownAddr hin12 (.head _) e12_3
   have hn12_3 := ownLen hin12 (.head _)
   obtain ⟨x12_5, e12_5, zh0⟩ := bnd zh0
   refine WC.region ?_
   refine sp (OpV.move rfl) ?_
   refine sp (OpV.move rfl) ?_
   refine sp (OpV.move rfl) ?_
   refine sp (OpV.idxA rfl rfl se_29 ha12_3 ⟨(idx_some e12_3).1, by rw [hn12_3]; exact (idx_some e12_3).2.1⟩) ?_
   refine sp (OpV.fieldAddr rfl fo_82_4) ?_
   refine WL.heavy0 rfl rfl (OpH.setFld (F := []) (A := tPlane) (off := 4) (i := v2_0) (v' := (PlaneT.mk x12_3.On x12_3.X x12_3.Y x12_3.W (wr ((wr ((wr ((wr (v1_0 + 1)) + 1)) + 1)) + 1)) x12_3.Layout x12_3.Words x12_3.Alpha x12_3.Orient x12_3.ToW x12_3.ToH)) ha12_3 rfl rfl rfl ts_3 rfl rfl e12_3 (fun _ _ _ ⟨_, _, _, hp, he, h0⟩ => ⟨_, _, _, hp, by rw [he]; rfl, h0⟩) e12_5 ?_)
   refine WL.nil (En.next (WC.seq (WC.region ?_)))
   refine sp (OpV.move rfl) ?_
   refine sp (OpV.addR rfl rfl) ?_
   refine sp (OpV.assign rfl) ?_
   refine WL.nil (En.next (WC.seq ?_))
   refine WC.inh fun hin14 => ?_
   obtain ⟨x14_3, e14_3, zh0⟩ := bnd zh0
   obtain ⟨g14_3, ha14_3⟩ := ownAddr hin14 (.head _) e14_3
   have hn14_3 := ownLen hin14 (.head _)
   obtain ⟨x14_5, e14_5, zh0⟩ := bnd zh0
   refine WC.region ?_
   refine sp (OpV.move rfl) ?_
   refine sp (OpV.move rfl) ?_
   refine sp (OpV.move rfl) ?_
   refine sp (OpV.idxA rfl rfl se_29 ha14_3 ⟨(idx_some e14_3).1, by rw [hn14_3]; exact (idx_some e14_3).2.1⟩) ?_
   refine sp (OpV.fieldAddr rfl fo_82_5) ?_
   refine WL.heavy0 rfl rfl (OpH.setFld (F := []) (A := tPlane) (off := 5) (i := v2_0) (v' := (PlaneT.mk x14_3.On x14_3.X x14_3.Y x14_3.W x14_3.H (wr ((wr ((wr ((wr ((wr (v1_0 + 1)) + 1)) + 1)) + 1)) + 1)) x14_3.Words x14_3.Alpha x14_3.Orient x14_3.ToW x14_3.ToH)) ha14_3 rfl rfl rfl ts_3 rfl rfl e14_3 (fun _ _ _ ⟨_, _, _, hp, he, h0⟩ => ⟨_, _, _, hp, by rw [he]; rfl, h0⟩) e14_5 ?_)
   refine WL.nil (En.next (WC.seq (WC.region ?_)))
   refine sp (OpV.move rfl) ?_
   refine sp (OpV.addR rfl rfl) ?_
   refine sp (OpV.assign rfl) ?_
   refine WL.nil (En.next (WC.seq ?_))
   refine WC.inh fun hin16 => ?_
   obtain ⟨x16_2, e16_2, zh0⟩ := bnd zh0
   obtain ⟨g16_2, ha16_2⟩ := ownAddr hin16 (.head _) e16_2
   have hn16_2 := ownLen hin16 (.head _)
   obtain ⟨⟨x16_6a, x16_6b⟩, e16_6, zh0⟩ := bnd zh0
   obtain ⟨x16_u, e16_u, zh0⟩ := bnd zh0
   refine WC.exF (fun w h => St.focus (F := []) e16_2 h) ?_
   rintro ⟨css16_2, fps16_2, cs16_2, fz16_2⟩ ⟨hcs16_2, hk16_2⟩
   refine WC.exF (X := (Option Addr) × Nat × (List Nat)) (Pre := fun x => match x with | (a16_2_0, c16_2_0, f16_2_0) => cs16_2 = [.bool x16_2.On, .int .i64 x16_2.X, .int .i64 x16_2.Y, .int .i64 x16_2.W, .int .i64 x16_2.H, .int .i64 x16_2.Layout, .slice a16_2_0 x16_2.Words.length c16_2_0, .int .i64 x16_2.Alpha, .int .i64 x16_2.Orient, .int .i64 x16_2.ToW, .int .i64 x16_2.ToH]) (F' := fun x => match x with | (a16_2_0, c16_2_0, f16_2_0) => (Chunk.own tInt f16_2_0 a16_2_0 x16_2.Words.length c16_2_0 x16_2.Words :: Chunk.row tPlane.T tPlane.k q0_0 x14_5.length k0_0 css16_2.flatten :: Chunk.inX tPlane css16_2 fps16_2 x14_5 v2_0.toNat :: C)) (fun w h => let ⟨a16_2_0, c16_2_0, f16_2_0, e, hs⟩ := tPlane_open (F := []) h; ⟨(a16_2_0, c16_2_0, f16_2_0), e, hs⟩) ?_
   rintro ⟨a16_2_0, c16_2_0, f16_2_0⟩ hz16_2
   replace hz16_2 : cs16_2 = [.bool x16_2.On, .int .i64 x16_2.X, .int .i64 x16_2.Y, .int .i64 x16_2.W, .int .i64 x16_2.H, .int .i64 x16_2.Layout, .slice a16_2_0 x16_2.Words.length c16_2_0, .int .i64 x16_2.Alpha, .int .i64 x16_2.Orient, .int .i64 x16_2.ToW, .int .i64 x16_2.ToH] := hz16_2
   subst hz16_2
   show WC _ _ _ _ _ _ (Chunk.own tInt f16_2_0 a16_2_0 x16_2.Words.length c16_2_0 x16_2.Words :: Chunk.row tPlane.T tPlane.k q0_0 x14_5.length k0_0 css16_2.flatten :: Chunk.inX tPlane css16_2 fps16_2 x14_5 v2_0.toNat :: C)
   refine WC.region ?_
   refine sp (OpV.move rfl) ?_
   refine sp (OpV.move rfl) ?_
   refine sp (OpV.idxA rfl rfl se_29 ha16_2 ⟨(idx_some e16_2).1, by rw [hn16_2]; exact (idx_some e16_2).2.1⟩) ?_
   refine sp (OpV.fieldAddr rfl fo_82_6) ?_
   refine sp (OpV.load1 rfl pt_23 (fun w hs => focCell (j := 6) (hs.mem (.tail _ (.head _))) hk16_2 hcs16_2 ha16_2 rfl)) ?_
   refine sp (OpV.move rfl) ?_
   refine WL.heavy rfl rfl rfl (OpH.callX (evs.cons rfl (evs.cons rfl (evs.nil))) ca_20 (fun w hs => w_laws_markIntS e16_6 hs) ?_)
   rintro _ _ ⟨g16_600, rfl, rfl⟩
   refine sp (OpV.assign rfl) ?_
   refine WL.nil ?_
   refine En.exF (fun w h => St.unfocus (F := []) hcs16_2 hn16_2 e16_u (tPlane_mk x16_2.On x16_2.X x16_2.Y x16_2.W x16_2.H x16_2.Layout x16_6b x16_2.Alpha x16_2.Orient x16_2.ToW x16_2.ToH h)) ?_
   rintro fp16_u _
   refine En.next (WC.seq ?_)
   refine WC.inh fun hin17 => ?_
   obtain ⟨x17_3, e17_3, zh0⟩ := bnd zh0
   obtain ⟨g17_3, ha17_3⟩ := ownAddr hin17 (.head _) e17_3
   have hn17_3 := ownLen hin17 (.head _)
   obtain ⟨x17_5, e17_5, zh0⟩ := bnd zh0
   refine WC.region ?_
   refine sp (OpV.move rfl) ?_
   refine sp (OpV.move rfl) ?_
   refine sp (OpV.move rfl) ?_
   refine sp (OpV.idxA rfl rfl se_29 ha17_3 ⟨(idx_some e17_3).1, by rw [hn17_3]; exact (idx_some e17_3).2.1⟩) ?_
   refine sp (OpV.fieldAddr rfl fo_82_7) ?_
   refine WL.heavy0 rfl rfl (OpH.setFld (F := []) (A := tPlane) (off := 7) (i := v2_0) (v' := (PlaneT.mk x17_3.On x17_3.X x17_3.Y x17_3.W x17_3.H x17_3.Layout x17_3.Words x16_6a x17_3.Orient x17_3.ToW x17_3.ToH)) ha17_3 rfl rfl rfl ts_3 rfl rfl e17_3 (fun _ _ _ ⟨_, _, _, hp, he, h0⟩ => ⟨_, _, _, hp, by rw [he]; rfl, h0⟩) e17_5 ?_)
   refine WL.nil (En.next (WC.seq (WC.region ?_)))
   refine sp (OpV.move rfl) ?_
   refine sp (OpV.addR rfl rfl) ?_
   refine sp (OpV.assign rfl) ?_
   refine WL.nil (En.next (WC.seq ?_))
   refine WC.inh fun hin19 => ?_
   obtain ⟨x19_3, e19_3, zh0⟩ := bnd zh0
   obtain ⟨g19_3, ha19_3⟩ := ownAddr hin19 (.head _) e19_3
   have hn19_3 := ownLen hin19 (.head _)
   obtain ⟨x19_5, e19_5, zh0⟩ := bnd zh0
   refine WC.region ?_
   refine sp (OpV.move rfl) ?_
   refine sp (OpV.move rfl) ?_
   refine sp (OpV.move rfl) ?_
   refine sp (OpV.idxA rfl rfl se_29 ha19_3 ⟨(idx_some e19_3).1, by rw [hn19_3]; exact (idx_some e19_3).2.1⟩) ?_
   refine sp (OpV.fieldAddr rfl fo_82_8) ?_
   refine WL.heavy0 rfl rfl (OpH.setFld (F := []) (A := tPlane) (off := 8) (i := v2_0) (v' := (PlaneT.mk x19_3.On x19_3.X x19_3.Y x19_3.W x19_3.H x19_3.Layout x19_3.Words x19_3.Alpha (wr (x16_6a + 1)) x19_3.ToW x19_3.ToH)) ha19_3 rfl rfl rfl ts_3 rfl rfl e19_3 (fun _ _ _ ⟨_, _, _, hp, he, h0⟩ => ⟨_, _, _, hp, by rw [he]; rfl, h0⟩) e19_5 ?_)
   refine WL.nil (En.next (WC.seq (WC.region ?_)))
   refine sp (OpV.move rfl) ?_
   refine sp (OpV.addR rfl rfl) ?_
   refine sp (OpV.assign rfl) ?_
   refine WL.nil (En.next (WC.seq ?_))
   refine WC.inh fun hin21 => ?_
   obtain ⟨x21_3, e21_3, zh0⟩ := bnd zh0
   obtain ⟨g21_3, ha21_3⟩ := ownAddr hin21 (.head _) e21_3
   have hn21_3 := ownLen hin21 (.head _)
   obtain ⟨x21_5, e21_5, zh0⟩ := bnd zh0
   refine WC.region ?_
   refine sp (OpV.move rfl) ?_
   refine sp (OpV.move rfl) ?_
   refine sp (OpV.move rfl) ?_
   refine sp (OpV.idxA rfl rfl se_29 ha21_3 ⟨(idx_some e21_3).1, by rw [hn21_3]; exact (idx_some e21_3).2.1⟩) ?_
   refine sp (OpV.fieldAddr rfl fo_82_9) ?_
   refine WL.heavy0 rfl rfl (OpH.setFld (F := []) (A := tPlane) (off := 9) (i := v2_0) (v' := (PlaneT.mk x21_3.On x21_3.X x21_3.Y x21_3.W x21_3.H x21_3.Layout x21_3.Words x21_3.Alpha x21_3.Orient (wr ((wr (x16_6a + 1)) + 1)) x21_3.ToH)) ha21_3 rfl rfl rfl ts_3 rfl rfl e21_3 (fun _ _ _ ⟨_, _, _, hp, he, h0⟩ => ⟨_, _, _, hp, by rw [he]; rfl, h0⟩) e21_5 ?_)
   refine WL.nil (En.next (WC.seq (WC.region ?_)))
   refine sp (OpV.move rfl) ?_
   refine sp (OpV.addR rfl rfl) ?_
   refine sp (OpV.assign rfl) ?_
   refine WL.nil (En.next (WC.seq ?_))
   refine WC.inh fun hin23 => ?_
   obtain ⟨x23_3, e23_3, zh0⟩ := bnd zh0
   obtain ⟨g23_3, ha23_3⟩ := ownAddr hin23 (.head _) e23_3
   have hn23_3 := ownLen hin23 (.head _)
   obtain ⟨x23_5, e23_5, zh0⟩ := bnd zh0
   refine WC.region ?_
   refine sp (OpV.move rfl) ?_
   refine sp (OpV.move rfl) ?_
   refine sp (OpV.move rfl) ?_
   refine sp (OpV.idxA rfl rfl se_29 ha23_3 ⟨(idx_some e23_3).1, by rw [hn23_3]; exact (idx_some e23_3).2.1⟩) ?_
   refine sp (OpV.fieldAddr rfl fo_82_10) ?_
   refine WL.heavy0 rfl rfl (OpH.setFld (F := []) (A := tPlane) (off := 10) (i := v2_0) (v' := (PlaneT.mk x23_3.On x23_3.X x23_3.Y x23_3.W x23_3.H x23_3.Layout x23_3.Words x23_3.Alpha x23_3.Orient x23_3.ToW (wr ((wr ((wr (x16_6a + 1)) + 1)) + 1)))) ha23_3 rfl rfl rfl ts_3 rfl rfl e23_3 (fun _ _ _ ⟨_, _, _, hp, he, h0⟩ => ⟨_, _, _, hp, by rw [he]; rfl, h0⟩) e23_5 ?_)
   refine WL.nil (En.next (WC.region ?_))
   refine sp (OpV.move rfl) ?_
   refine sp (OpV.addR rfl rfl) ?_
   refine sp (OpV.assign rfl) ?_
   refine WL.nil (En.block_norm (En.next (WC.region ?_)))
   refine sp (OpV.move rfl) ?_
   refine sp (OpV.addR rfl rfl) ?_
   refine sp (OpV.assign rfl) ?_
   refine WL.nil ?_
   exact En.backP zb0 zh0 fp16_u (Sub.cons rfl (Sub.cons rfl (Sub.cons rfl (Sub.nil _)))) (fun _ h => h)
  ·
   intro hc_1
   replace zh0 := ifO_f hc_1 zh0
   refine WC.exit (En.then_exit (En.then_exit ?_))
   have hx := exitP ze0 zh0
   exact En.wk _ _ (Sub.cons rfl (Sub.nil _)) (fun _ h => h) (zK0_0 ((v1_0, v_0), fv_0) hx.symm)

theorem w_laws_markFlipS {a_p0 : List FlipT} {a_p1 : Int} {r : Int × (List FlipT)} {q0_0 : Option Addr} {n0_0 k0_0 : Nat} {f0_0 : List Nat} (h : laws_markFlipS a_p0 a_p1 = some r) {w0 w : World} {C : List Chunk} (hs0 : St w0 (Chunk.own tFlip f0_0 q0_0 n0_0 k0_0 a_p0 :: C) w)  :
    Calls Tryz.prog 84 #[.slice q0_0 n0_0 k0_0, .int .i64 a_p1] w (fun en w' => ∃ rv G, en = .returned rv ∧ (∃ (g0_0 : List Nat), rv = .int .i64 r.1 ∧ G = Chunk.own tFlip g0_0 q0_0 n0_0 k0_0 r.2 :: C) ∧ St w0 G w') := by
 unfold laws_markFlipS at h
 refine enterF hs0 (vs := [_, _]) Tryz.func84 rfl rfl rfl rfl ?_
 refine WC.seq (WC.region ?_)
 refine sp (OpV.assign rfl) ?_
 refine WL.nil (En.next (WC.seq (WC.seq (WC.region ?_))))
 refine sp (OpV.assign rfl) ?_
 refine WL.nil (En.next (WC.block ?_))
 obtain ⟨zy0, ezy0, h⟩ := bnd h
 refine WC.cut (X := (Int × (List FlipT)) × ((List Nat))) (.exit 0) (fun x => zy0 = x.1) (fun x => match x with | ((v_0e, p_0e), fp_0e) => [(1, .int .i64 v_0e)]) (fun x => match x with | ((v_0e, p_0e), fp_0e) => (Chunk.own tFlip fp_0e q0_0 n0_0 k0_0 p_0e :: C)) ?_ ?_
 ·
  rintro ⟨⟨v_0e, p_0e⟩, fp_0e⟩ hx
  replace hx : (v_0e, p_0e) = zy0 := hx.symm
  subst hx
  show En _ _ _ _ [(1, .int .i64 v_0e)] (Chunk.own tFlip fp_0e q0_0 n0_0 k0_0 p_0e :: C)
  refine En.block_exit (En.next (WC.seq (WC.region ?_)))
  refine sp (OpV.move rfl) ?_
  refine sp (OpV.assign rfl) ?_
  refine WL.nil (En.next (WC.ret ?_))
  refine En.ret1 rfl (Res.tmp rfl) ?_
  obtain rfl := Option.some.inj h
  intro w' hs
  have hs := hs
  exact ⟨_, _, rfl, ⟨fp_0e, rfl, rfl⟩, hs⟩
 ·
  intro zK0_0
  refine WC.loopP (G := (List Nat)) (fun s g => match s, g with | (v_0, v1_0, v2_0), fv_0 => [(0, .slice q0_0 n0_0 k0_0), (1, .int .i64 v1_0), (5, .int .i64 v2_0)]) (fun s g => match s, g with | (v_0, v1_0, v2_0), fv_0 => (Chunk.own tFlip fv_0 q0_0 n0_0 k0_0 v_0 :: C)) (a_p0, a_p1, 0) f0_0 ezy0 (by exact Sub.cons rfl (Sub.cons rfl (Sub.cons rfl (Sub.nil _)))) (by exact (fun _ h => h)) ?_
  rintro zm0 ⟨v_0, v1_0, v2_0⟩ fv_0 zo0 zf0 zb0 ze0
  have zh0 : laws_markFlipS_L0 v_0 v1_0 v2_0 = some zo0 := zf0
  unfold laws_markFlipS_L0 at zh0
  show WC _ _ _ _ _ [(0, .slice q0_0 n0_0 k0_0), (1, .int .i64 v1_0), (5, .int .i64 v2_0)] (Chunk.own tFlip fv_0 q0_0 n0_0 k0_0 v_0 :: C)
  refine WC.seq (WC.seq (WC.region ?_))
  refine sp (OpV.move rfl) ?_
  refine sp (OpV.move rfl) ?_
  refine sp (OpV.inhF fun hin => OpV.lenO (xs := v_0) rfl si_61 rfl (ownLen hin (.head _))) ?_
  refine sp (OpV.lss rfl rfl) ?_
  refine WL.nil (En.next ?_)
  refine WC.cond rfl ?_ ?_
  ·
   intro hc_1
   replace zh0 := ifO_t hc_1 zh0
   refine WC.skip (En.next (WC.seq (WC.block (WC.seq ?_))))
   refine WC.inh fun hin4 => ?_
   obtain ⟨x4_3, e4_3, zh0⟩ := bnd zh0
   obtain ⟨g4_3, ha4_3⟩ := ownAddr hin4 (.head _) e4_3
   have hn4_3 := ownLen hin4 (.head _)
   obtain ⟨x4_5, e4_5, zh0⟩ := bnd zh0
   refine WC.region ?_
   refine sp (OpV.move rfl) ?_
   refine sp (OpV.move rfl) ?_
   refine sp (OpV.move rfl) ?_
   refine sp (OpV.idxA rfl rfl se_61 ha4_3 ⟨(idx_some e4_3).1, by rw [hn4_3]; exact (idx_some e4_3).2.1⟩) ?_
   refine sp (OpV.fieldAddr rfl fo_113_0) ?_
   refine WL.heavy0 rfl rfl (OpH.setFld (F := []) (A := tFlip) (off := 0) (i := v2_0) (v' := (FlipT.mk v1_0 x4_3.Fence x4_3.State)) ha4_3 rfl rfl rfl ts_3 rfl rfl e4_3 (fun _ _ _ ⟨_, _, _, _, _, _, _, _, _, hp, he, h0, h1, h2⟩ => ⟨_, _, _, _, _, _, _, _, _, hp, by rw [he]; rfl, h0, h1, h2⟩) e4_5 ?_)
   refine WL.nil (En.next (WC.seq (WC.region ?_)))
   refine sp (OpV.move rfl) ?_
   refine sp (OpV.addR rfl rfl) ?_
   refine sp (OpV.assign rfl) ?_
   refine WL.nil (En.next (WC.seq ?_))
   refine WC.inh fun hin6 => ?_
   obtain ⟨x6_3, e6_3, zh0⟩ := bnd zh0
   obtain ⟨g6_3, ha6_3⟩ := ownAddr hin6 (.head _) e6_3
   have hn6_3 := ownLen hin6 (.head _)
   obtain ⟨x6_5, e6_5, zh0⟩ := bnd zh0
   refine WC.region ?_
   refine sp (OpV.move rfl) ?_
   refine sp (OpV.move rfl) ?_
   refine sp (OpV.move rfl) ?_
   refine sp (OpV.idxA rfl rfl se_61 ha6_3 ⟨(idx_some e6_3).1, by rw [hn6_3]; exact (idx_some e6_3).2.1⟩) ?_
   refine sp (OpV.fieldAddr rfl fo_113_1) ?_
   refine WL.heavy0 rfl rfl (OpH.setFld (F := []) (A := tFlip) (off := 1) (i := v2_0) (v' := (FlipT.mk x6_3.Seq (wr (v1_0 + 1)) x6_3.State)) ha6_3 rfl rfl rfl ts_3 rfl rfl e6_3 (fun _ _ _ ⟨_, _, _, _, _, _, _, _, _, hp, he, h0, h1, h2⟩ => ⟨_, _, _, _, _, _, _, _, _, hp, by rw [he]; rfl, h0, h1, h2⟩) e6_5 ?_)
   refine WL.nil (En.next (WC.seq (WC.region ?_)))
   refine sp (OpV.move rfl) ?_
   refine sp (OpV.addR rfl rfl) ?_
   refine sp (OpV.assign rfl) ?_
   refine WL.nil (En.next (WC.seq ?_))
   refine WC.inh fun hin8 => ?_
   obtain ⟨x8_3, e8_3, zh0⟩ := bnd zh0
   obtain ⟨g8_3, ha8_3⟩ := ownAddr hin8 (.head _) e8_3
   have hn8_3 := ownLen hin8 (.head _)
   obtain ⟨x8_6, e8_6, zh0⟩ := bnd zh0
   refine WC.region ?_
   refine sp (OpV.move rfl) ?_
   refine sp (OpV.move rfl) ?_
   refine sp (OpV.move rfl) ?_
   refine sp (OpV.idxA rfl rfl se_61 ha8_3 ⟨(idx_some e8_3).1, by rw [hn8_3]; exact (idx_some e8_3).2.1⟩) ?_
   refine sp (OpV.fieldAddr rfl fo_113_2) ?_
   refine sp (OpV.fieldAddr rfl fo_46_0) ?_
   refine WL.heavy0 rfl rfl (OpH.setFld (F := []) (A := tFlip) (off := 2) (i := v2_0) (v' := (FlipT.mk x8_3.Seq x8_3.Fence (CrtcT.mk (wr ((wr (v1_0 + 1)) + 1)) x8_3.State.H x8_3.State.Planes x8_3.State.Color))) ha8_3 rfl rfl rfl ts_3 rfl rfl e8_3 (fun _ _ _ ⟨_, _, _, _, _, _, _, _, _, hp, he, h0, h1, h2⟩ => ⟨_, _, _, _, _, _, _, _, _, hp, by rw [he]; rfl, h0, h1, h2⟩) e8_6 ?_)
   refine WL.nil (En.next (WC.seq (WC.region ?_)))
   refine sp (OpV.move rfl) ?_
   refine sp (OpV.addR rfl rfl) ?_
   refine sp (OpV.assign rfl) ?_
   refine WL.nil (En.next (WC.seq ?_))
   refine WC.inh fun hin10 => ?_
   obtain ⟨x10_3, e10_3, zh0⟩ := bnd zh0
   obtain ⟨g10_3, ha10_3⟩ := ownAddr hin10 (.head _) e10_3
   have hn10_3 := ownLen hin10 (.head _)
   obtain ⟨x10_6, e10_6, zh0⟩ := bnd zh0
   refine WC.region ?_
   refine sp (OpV.move rfl) ?_
   refine sp (OpV.move rfl) ?_
   refine sp (OpV.move rfl) ?_
   refine sp (OpV.idxA rfl rfl se_61 ha10_3 ⟨(idx_some e10_3).1, by rw [hn10_3]; exact (idx_some e10_3).2.1⟩) ?_
   refine sp (OpV.fieldAddr rfl fo_113_2) ?_
   refine sp (OpV.fieldAddr rfl fo_46_1) ?_
   refine WL.heavy0 rfl rfl (OpH.setFld (F := []) (A := tFlip) (off := 3) (i := v2_0) (v' := (FlipT.mk x10_3.Seq x10_3.Fence (CrtcT.mk x10_3.State.W (wr ((wr ((wr (v1_0 + 1)) + 1)) + 1)) x10_3.State.Planes x10_3.State.Color))) ha10_3 rfl rfl rfl ts_3 rfl rfl e10_3 (fun _ _ _ ⟨_, _, _, _, _, _, _, _, _, hp, he, h0, h1, h2⟩ => ⟨_, _, _, _, _, _, _, _, _, hp, by rw [he]; rfl, h0, h1, h2⟩) e10_6 ?_)
   refine WL.nil (En.next (WC.seq (WC.region ?_)))
   refine sp (OpV.move rfl) ?_
   refine sp (OpV.addR rfl rfl) ?_
   refine sp (OpV.assign rfl) ?_
   refine WL.nil (En.next (WC.seq ?_))
   refine WC.inh fun hin12 => ?_
   obtain ⟨x12_2, e12_2, zh0⟩ := bnd zh0
   obtain ⟨g12_2, ha12_2⟩ := ownAddr hin12 (.head _) e12_2
   have hn12_2 := ownLen hin12 (.head _)
   obtain ⟨⟨x12_7a, x12_7b⟩, e12_7, zh0⟩ := bnd zh0
   obtain ⟨x12_u, e12_u, zh0⟩ := bnd zh0
   refine WC.exF (fun w h => St.focus (F := []) e12_2 h) ?_
   rintro ⟨css12_2, fps12_2, cs12_2, fz12_2⟩ ⟨hcs12_2, hk12_2⟩
   refine WC.exF (X := (Option Addr) × Nat × (List Nat) × (Option Addr) × Nat × (List Nat) × (Option Addr) × Nat × (List Nat)) (Pre := fun x => match x with | (a12_2_0, c12_2_0, f12_2_0, a12_2_1, c12_2_1, f12_2_1, a12_2_2, c12_2_2, f12_2_2) => cs12_2 = [.int .i64 x12_2.Seq, .int .i64 x12_2.Fence, .int .i64 x12_2.State.W, .int .i64 x12_2.State.H, .slice a12_2_0 x12_2.State.Planes.length c12_2_0, .slice a12_2_1 x12_2.State.Color.Matrix.length c12_2_1, .slice a12_2_2 x12_2.State.Color.Curve.length c12_2_2]) (F' := fun x => match x with | (a12_2_0, c12_2_0, f12_2_0, a12_2_1, c12_2_1, f12_2_1, a12_2_2, c12_2_2, f12_2_2) => (Chunk.own tPlane f12_2_0 a12_2_0 x12_2.State.Planes.length c12_2_0 x12_2.State.Planes :: Chunk.own tInt f12_2_1 a12_2_1 x12_2.State.Color.Matrix.length c12_2_1 x12_2.State.Color.Matrix :: Chunk.own tInt f12_2_2 a12_2_2 x12_2.State.Color.Curve.length c12_2_2 x12_2.State.Color.Curve :: Chunk.row tFlip.T tFlip.k q0_0 x10_6.length k0_0 css12_2.flatten :: Chunk.inX tFlip css12_2 fps12_2 x10_6 v2_0.toNat :: C)) (fun w h => let ⟨a12_2_0, c12_2_0, f12_2_0, a12_2_1, c12_2_1, f12_2_1, a12_2_2, c12_2_2, f12_2_2, e, hs⟩ := tFlip_open (F := []) h; ⟨(a12_2_0, c12_2_0, f12_2_0, a12_2_1, c12_2_1, f12_2_1, a12_2_2, c12_2_2, f12_2_2), e, hs⟩) ?_
   rintro ⟨a12_2_0, c12_2_0, f12_2_0, a12_2_1, c12_2_1, f12_2_1, a12_2_2, c12_2_2, f12_2_2⟩ hz12_2
   replace hz12_2 : cs12_2 = [.int .i64 x12_2.Seq, .int .i64 x12_2.Fence, .int .i64 x12_2.State.W, .int .i64 x12_2.State.H, .slice a12_2_0 x12_2.State.Planes.length c12_2_0, .slice a12_2_1 x12_2.State.Color.Matrix.length c12_2_1, .slice a12_2_2 x12_2.State.Color.Curve.length c12_2_2] := hz12_2
   subst hz12_2
   show WC _ _ _ _ _ _ (Chunk.own tPlane f12_2_0 a12_2_0 x12_2.State.Planes.length c12_2_0 x12_2.State.Planes :: Chunk.own tInt f12_2_1 a12_2_1 x12_2.State.Color.Matrix.length c12_2_1 x12_2.State.Color.Matrix :: Chunk.own tInt f12_2_2 a12_2_2 x12_2.State.Color.Curve.length c12_2_2 x12_2.State.Color.Curve :: Chunk.row tFlip.T tFlip.k q0_0 x10_6.length k0_0 css12_2.flatten :: Chunk.inX tFlip css12_2 fps12_2 x10_6 v2_0.toNat :: C)
   refine WC.region ?_
   refine sp (OpV.move rfl) ?_
   refine sp (OpV.move rfl) ?_
   refine sp (OpV.idxA rfl rfl se_61 ha12_2 ⟨(idx_some e12_2).1, by rw [hn12_2]; exact (idx_some e12_2).2.1⟩) ?_
   refine sp (OpV.fieldAddr rfl fo_113_2) ?_
   refine sp (OpV.fieldAddr rfl fo_46_2) ?_
   refine sp (OpV.load1 rfl pt_29 (fun w hs => focCell (j := 4) (hs.mem (.tail _ (.tail _ (.tail _ (.head _))))) hk12_2 hcs12_2 ha12_2 rfl)) ?_
   refine sp (OpV.move rfl) ?_
   refine WL.heavy rfl rfl rfl (OpH.callX (evs.cons rfl (evs.cons rfl (evs.nil))) ca_18 (fun w hs => w_laws_markPlaneS e12_7 hs) ?_)
   rintro _ _ ⟨g12_700, rfl, rfl⟩
   refine sp (OpV.assign rfl) ?_
   refine WL.nil ?_
   refine En.exF (fun w h => St.unfocus (F := []) hcs12_2 hn12_2 e12_u (tFlip_mk x12_2.Seq x12_2.Fence (CrtcT.mk x12_2.State.W x12_2.State.H x12_7b x12_2.State.Color) h)) ?_
   rintro fp12_u _
   refine En.next (WC.seq ?_)
   refine WC.inh fun hin13 => ?_
   obtain ⟨x13_2, e13_2, zh0⟩ := bnd zh0
   obtain ⟨g13_2, ha13_2⟩ := ownAddr hin13 (.head _) e13_2
   have hn13_2 := ownLen hin13 (.head _)
   obtain ⟨⟨x13_8a, x13_8b⟩, e13_8, zh0⟩ := bnd zh0
   obtain ⟨x13_u, e13_u, zh0⟩ := bnd zh0
   refine WC.exF (fun w h => St.focus (F := []) e13_2 h) ?_
   rintro ⟨css13_2, fps13_2, cs13_2, fz13_2⟩ ⟨hcs13_2, hk13_2⟩
   refine WC.exF (X := (Option Addr) × Nat × (List Nat) × (Option Addr) × Nat × (List Nat) × (Option Addr) × Nat × (List Nat)) (Pre := fun x => match x with | (a13_2_0, c13_2_0, f13_2_0, a13_2_1, c13_2_1, f13_2_1, a13_2_2, c13_2_2, f13_2_2) => cs13_2 = [.int .i64 x13_2.Seq, .int .i64 x13_2.Fence, .int .i64 x13_2.State.W, .int .i64 x13_2.State.H, .slice a13_2_0 x13_2.State.Planes.length c13_2_0, .slice a13_2_1 x13_2.State.Color.Matrix.length c13_2_1, .slice a13_2_2 x13_2.State.Color.Curve.length c13_2_2]) (F' := fun x => match x with | (a13_2_0, c13_2_0, f13_2_0, a13_2_1, c13_2_1, f13_2_1, a13_2_2, c13_2_2, f13_2_2) => (Chunk.own tPlane f13_2_0 a13_2_0 x13_2.State.Planes.length c13_2_0 x13_2.State.Planes :: Chunk.own tInt f13_2_1 a13_2_1 x13_2.State.Color.Matrix.length c13_2_1 x13_2.State.Color.Matrix :: Chunk.own tInt f13_2_2 a13_2_2 x13_2.State.Color.Curve.length c13_2_2 x13_2.State.Color.Curve :: Chunk.row tFlip.T tFlip.k q0_0 x12_u.length k0_0 css13_2.flatten :: Chunk.inX tFlip css13_2 fps13_2 x12_u v2_0.toNat :: C)) (fun w h => let ⟨a13_2_0, c13_2_0, f13_2_0, a13_2_1, c13_2_1, f13_2_1, a13_2_2, c13_2_2, f13_2_2, e, hs⟩ := tFlip_open (F := []) h; ⟨(a13_2_0, c13_2_0, f13_2_0, a13_2_1, c13_2_1, f13_2_1, a13_2_2, c13_2_2, f13_2_2), e, hs⟩) ?_
   rintro ⟨a13_2_0, c13_2_0, f13_2_0, a13_2_1, c13_2_1, f13_2_1, a13_2_2, c13_2_2, f13_2_2⟩ hz13_2
   replace hz13_2 : cs13_2 = [.int .i64 x13_2.Seq, .int .i64 x13_2.Fence, .int .i64 x13_2.State.W, .int .i64 x13_2.State.H, .slice a13_2_0 x13_2.State.Planes.length c13_2_0, .slice a13_2_1 x13_2.State.Color.Matrix.length c13_2_1, .slice a13_2_2 x13_2.State.Color.Curve.length c13_2_2] := hz13_2
   subst hz13_2
   show WC _ _ _ _ _ _ (Chunk.own tPlane f13_2_0 a13_2_0 x13_2.State.Planes.length c13_2_0 x13_2.State.Planes :: Chunk.own tInt f13_2_1 a13_2_1 x13_2.State.Color.Matrix.length c13_2_1 x13_2.State.Color.Matrix :: Chunk.own tInt f13_2_2 a13_2_2 x13_2.State.Color.Curve.length c13_2_2 x13_2.State.Color.Curve :: Chunk.row tFlip.T tFlip.k q0_0 x12_u.length k0_0 css13_2.flatten :: Chunk.inX tFlip css13_2 fps13_2 x12_u v2_0.toNat :: C)
   refine WC.region ?_
   refine sp (OpV.move rfl) ?_
   refine sp (OpV.move rfl) ?_
   refine sp (OpV.idxA rfl rfl se_61 ha13_2 ⟨(idx_some e13_2).1, by rw [hn13_2]; exact (idx_some e13_2).2.1⟩) ?_
   refine sp (OpV.fieldAddr rfl fo_113_2) ?_
   refine sp (OpV.fieldAddr rfl fo_46_3) ?_
   refine sp (OpV.fieldAddr rfl fo_31_0) ?_
   refine sp (OpV.load1 rfl pt_23 (fun w hs => focCell (j := 5) (hs.mem (.tail _ (.tail _ (.tail _ (.head _))))) hk13_2 hcs13_2 ha13_2 rfl)) ?_
   refine sp (OpV.move rfl) ?_
   refine WL.wkF (fun _ h => h.perm (List.perm_middle (l₁ := [_]))) ?_
   refine WL.heavy rfl rfl rfl (OpH.callX (evs.cons rfl (evs.cons rfl (evs.nil))) ca_20 (fun w hs => w_laws_markIntS e13_8 hs) ?_)
   rintro _ _ ⟨g13_800, rfl, rfl⟩
   refine sp (OpV.assign rfl) ?_
   refine WL.nil ?_
   refine En.wk _ _ (Sub.refl _) (fun _ h => (((((h).perm (List.perm_middle (l₁ := [_, _, _, _]))).perm (List.perm_middle (l₁ := [_, _, _, _]))).perm (List.perm_middle (l₁ := [_, _, _, _]))).perm (List.perm_middle (l₁ := [_, _, _]))).perm (List.perm_middle (l₁ := [_, _, _, _]))) ?_
   refine En.exF (fun w h => St.unfocus (F := []) hcs13_2 hn13_2 e13_u (tFlip_mk x13_2.Seq x13_2.Fence (CrtcT.mk x13_2.State.W x13_2.State.H x13_2.State.Planes (ColorMapT.mk x13_8b x13_2.State.Color.Curve)) h)) ?_
   rintro fp13_u _
   refine En.next ?_
   refine WC.inh fun hin14 => ?_
   obtain ⟨x14_2, e14_2, zh0⟩ := bnd zh0
   obtain ⟨g14_2, ha14_2⟩ := ownAddr hin14 (.head _) e14_2
   have hn14_2 := ownLen hin14 (.head _)
   obtain ⟨⟨x14_8a, x14_8b⟩, e14_8, zh0⟩ := bnd zh0
   obtain ⟨x14_u, e14_u, zh0⟩ := bnd zh0
   refine WC.exF (fun w h => St.focus (F := []) e14_2 h) ?_
   rintro ⟨css14_2, fps14_2, cs14_2, fz14_2⟩ ⟨hcs14_2, hk14_2⟩
   refine WC.exF (X := (Option Addr) × Nat × (List Nat) × (Option Addr) × Nat × (List Nat) × (Option Addr) × Nat × (List Nat)) (Pre := fun x => match x with | (a14_2_0, c14_2_0, f14_2_0, a14_2_1, c14_2_1, f14_2_1, a14_2_2, c14_2_2, f14_2_2) => cs14_2 = [.int .i64 x14_2.Seq, .int .i64 x14_2.Fence, .int .i64 x14_2.State.W, .int .i64 x14_2.State.H, .slice a14_2_0 x14_2.State.Planes.length c14_2_0, .slice a14_2_1 x14_2.State.Color.Matrix.length c14_2_1, .slice a14_2_2 x14_2.State.Color.Curve.length c14_2_2]) (F' := fun x => match x with | (a14_2_0, c14_2_0, f14_2_0, a14_2_1, c14_2_1, f14_2_1, a14_2_2, c14_2_2, f14_2_2) => (Chunk.own tPlane f14_2_0 a14_2_0 x14_2.State.Planes.length c14_2_0 x14_2.State.Planes :: Chunk.own tInt f14_2_1 a14_2_1 x14_2.State.Color.Matrix.length c14_2_1 x14_2.State.Color.Matrix :: Chunk.own tInt f14_2_2 a14_2_2 x14_2.State.Color.Curve.length c14_2_2 x14_2.State.Color.Curve :: Chunk.row tFlip.T tFlip.k q0_0 x13_u.length k0_0 css14_2.flatten :: Chunk.inX tFlip css14_2 fps14_2 x13_u v2_0.toNat :: C)) (fun w h => let ⟨a14_2_0, c14_2_0, f14_2_0, a14_2_1, c14_2_1, f14_2_1, a14_2_2, c14_2_2, f14_2_2, e, hs⟩ := tFlip_open (F := []) h; ⟨(a14_2_0, c14_2_0, f14_2_0, a14_2_1, c14_2_1, f14_2_1, a14_2_2, c14_2_2, f14_2_2), e, hs⟩) ?_
   rintro ⟨a14_2_0, c14_2_0, f14_2_0, a14_2_1, c14_2_1, f14_2_1, a14_2_2, c14_2_2, f14_2_2⟩ hz14_2
   replace hz14_2 : cs14_2 = [.int .i64 x14_2.Seq, .int .i64 x14_2.Fence, .int .i64 x14_2.State.W, .int .i64 x14_2.State.H, .slice a14_2_0 x14_2.State.Planes.length c14_2_0, .slice a14_2_1 x14_2.State.Color.Matrix.length c14_2_1, .slice a14_2_2 x14_2.State.Color.Curve.length c14_2_2] := hz14_2
   subst hz14_2
   show WC _ _ _ _ _ _ (Chunk.own tPlane f14_2_0 a14_2_0 x14_2.State.Planes.length c14_2_0 x14_2.State.Planes :: Chunk.own tInt f14_2_1 a14_2_1 x14_2.State.Color.Matrix.length c14_2_1 x14_2.State.Color.Matrix :: Chunk.own tInt f14_2_2 a14_2_2 x14_2.State.Color.Curve.length c14_2_2 x14_2.State.Color.Curve :: Chunk.row tFlip.T tFlip.k q0_0 x13_u.length k0_0 css14_2.flatten :: Chunk.inX tFlip css14_2 fps14_2 x13_u v2_0.toNat :: C)
   refine WC.region ?_
   refine sp (OpV.move rfl) ?_
   refine sp (OpV.move rfl) ?_
   refine sp (OpV.idxA rfl rfl se_61 ha14_2 ⟨(idx_some e14_2).1, by rw [hn14_2]; exact (idx_some e14_2).2.1⟩) ?_
   refine sp (OpV.fieldAddr rfl fo_113_2) ?_
   refine sp (OpV.fieldAddr rfl fo_46_3) ?_
   refine sp (OpV.fieldAddr rfl fo_31_1) ?_
   refine sp (OpV.load1 rfl pt_23 (fun w hs => focCell (j := 6) (hs.mem (.tail _ (.tail _ (.tail _ (.head _))))) hk14_2 hcs14_2 ha14_2 rfl)) ?_
   refine sp (OpV.move rfl) ?_
   refine WL.wkF (fun _ h => h.perm (List.perm_middle (l₁ := [_, _]))) ?_
   refine WL.heavy rfl rfl rfl (OpH.callX (evs.cons rfl (evs.cons rfl (evs.nil))) ca_20 (fun w hs => w_laws_markIntS e14_8 hs) ?_)
   rintro _ _ ⟨g14_800, rfl, rfl⟩
   refine sp (OpV.assign rfl) ?_
   refine WL.nil ?_
   refine En.wk _ _ (Sub.refl _) (fun _ h => (((((h).perm (List.perm_middle (l₁ := [_, _, _, _]))).perm (List.perm_middle (l₁ := [_, _, _, _]))).perm (List.perm_middle (l₁ := [_, _]))).perm (List.perm_middle (l₁ := [_, _, _, _]))).perm (List.perm_middle (l₁ := [_, _, _, _]))) ?_
   refine En.exF (fun w h => St.unfocus (F := []) hcs14_2 hn14_2 e14_u (tFlip_mk x14_2.Seq x14_2.Fence (CrtcT.mk x14_2.State.W x14_2.State.H x14_2.State.Planes (ColorMapT.mk x14_2.State.Color.Matrix x14_8b)) h)) ?_
   rintro fp14_u _
   refine En.block_norm (En.next (WC.region ?_))
   refine sp (OpV.move rfl) ?_
   refine sp (OpV.addR rfl rfl) ?_
   refine sp (OpV.assign rfl) ?_
   refine WL.nil ?_
   exact En.backP zb0 zh0 fp14_u (Sub.cons rfl (Sub.cons rfl (Sub.cons rfl (Sub.nil _)))) (fun _ h => h)
  ·
   intro hc_1
   replace zh0 := ifO_f hc_1 zh0
   refine WC.exit (En.then_exit (En.then_exit ?_))
   have hx := exitP ze0 zh0
   exact En.wk _ _ (Sub.cons rfl (Sub.nil _)) (fun _ h => h) (zK0_0 ((v1_0, v_0), fv_0) hx.symm)

theorem w_laws_markFlips {a_p0 : FlipsT} {k_p1 : Int} {r : Int × (List FlipT) × (List Int) × (List Int)} {q0_0 : Option Addr} {n0_0 k0_0 : Nat} {f0_0 : List Nat} {q0_1 : Option Addr} {n0_1 k0_1 : Nat} {f0_1 : List Nat} {q0_2 : Option Addr} {n0_2 k0_2 : Nat} {f0_2 : List Nat} (h : laws_markFlips a_p0 k_p1 = some r) {w0 w : World} {C : List Chunk} (hs0 : St w0 (Chunk.own tFlip f0_0 q0_0 n0_0 k0_0 a_p0.Pending :: Chunk.own tInt f0_1 q0_1 n0_1 k0_1 a_p0.Signalled :: Chunk.own tInt f0_2 q0_2 n0_2 k0_2 a_p0.Events :: C) w)  :
    Calls Tryz.prog 38 #[.agg #[.slice q0_0 n0_0 k0_0, .slice q0_1 n0_1 k0_1, .int .i64 a_p0.Next, .slice q0_2 n0_2 k0_2], .int .i64 k_p1] w (fun en w' => ∃ rv G, en = .returned rv ∧ (∃ (g0_0 : List Nat) (g0_1 : List Nat) (g0_2 : List Nat), rv = .int .i64 r.1 ∧ G = Chunk.own tFlip g0_0 q0_0 n0_0 k0_0 r.2.1 :: Chunk.own tInt g0_1 q0_1 n0_1 k0_1 r.2.2.1 :: Chunk.own tInt g0_2 q0_2 n0_2 k0_2 r.2.2.2 :: C) ∧ St w0 G w') := by
 unfold laws_markFlips at h
 refine enterF hs0 (vs := [_, _]) Tryz.func38 rfl rfl rfl rfl ?_
 refine WC.seq (WC.region ?_)
 refine WL.heavy rfl rfl rfl (OpH.box rfl rfl ?_)
 intro b0_0
 refine sp (OpV.assign rfl) ?_
 refine WL.nil (En.next (WC.seq ?_))
 obtain ⟨⟨x1_3a, x1_3b⟩, e1_3, h⟩ := bnd h
 refine WC.region ?_
 refine sp (OpV.fieldAddr rfl fo_63_0) ?_
 refine sp (OpV.loadBox rfl pt_61 (.head _) rfl) ?_
 refine sp (OpV.move rfl) ?_
 refine WL.wkF (fun _ h => h.perm (List.perm_middle (l₁ := [_]))) ?_
 refine WL.heavy rfl rfl rfl (OpH.callX (evs.cons rfl (evs.cons rfl (evs.nil))) ca_84 (fun w hs => w_laws_markFlipS e1_3 hs) ?_)
 rintro _ _ ⟨g1_300, rfl, rfl⟩
 refine sp (OpV.assign rfl) ?_
 refine WL.nil (En.next (WC.seq ?_))
 obtain ⟨⟨x2_3a, x2_3b⟩, e2_3, h⟩ := bnd h
 refine WC.region ?_
 refine sp (OpV.fieldAddr rfl fo_63_1) ?_
 refine sp (OpV.loadBox rfl pt_23 (.tail _ (.head _)) rfl) ?_
 refine sp (OpV.move rfl) ?_
 refine WL.wkF (fun _ h => h.perm (List.perm_middle (l₁ := [_, _]))) ?_
 refine WL.heavy rfl rfl rfl (OpH.callX (evs.cons rfl (evs.cons rfl (evs.nil))) ca_20 (fun w hs => w_laws_markIntS e2_3 hs) ?_)
 rintro _ _ ⟨g2_300, rfl, rfl⟩
 refine sp (OpV.assign rfl) ?_
 refine WL.nil (En.next (WC.seq ?_))
 obtain ⟨⟨x3_3a, x3_3b⟩, e3_3, h⟩ := bnd h
 refine WC.region ?_
 refine sp (OpV.fieldAddr rfl fo_63_3) ?_
 refine sp (OpV.loadBox rfl pt_23 (.tail _ (.tail _ (.head _))) rfl) ?_
 refine sp (OpV.move rfl) ?_
 refine WL.wkF (fun _ h => h.perm (List.perm_middle (l₁ := [_, _, _]))) ?_
 refine WL.heavy rfl rfl rfl (OpH.callX (evs.cons rfl (evs.cons rfl (evs.nil))) ca_20 (fun w hs => w_laws_markIntS e3_3 hs) ?_)
 rintro _ _ ⟨g3_300, rfl, rfl⟩
 refine sp (OpV.assign rfl) ?_
 refine WL.nil (En.next (WC.seq (WC.region ?_)))
 refine sp (OpV.move rfl) ?_
 refine sp (OpV.assign rfl) ?_
 refine WL.nil (En.next (WC.ret ?_))
 refine En.ret1 rfl (Res.tmp rfl) ?_
 obtain rfl := Option.some.inj h
 intro w' hs
 have hs := (((hs).perm (List.perm_middle (l₁ := [_]))).perm (List.perm_middle (l₁ := [_, _]))).sub (.cons_cons _ (.cons_cons _ (.cons_cons _ (.cons _ (List.Sublist.refl _)))))
 exact ⟨_, _, rfl, ⟨g1_300, g2_300, g3_300, rfl, rfl⟩, hs⟩

theorem w_laws_markColorMap {a_p0 : ColorMapT} {k_p1 : Int} {r : Int × (List Int) × (List Int)} {q0_0 : Option Addr} {n0_0 k0_0 : Nat} {f0_0 : List Nat} {q0_1 : Option Addr} {n0_1 k0_1 : Nat} {f0_1 : List Nat} (h : laws_markColorMap a_p0 k_p1 = some r) {w0 w : World} {C : List Chunk} (hs0 : St w0 (Chunk.own tInt f0_0 q0_0 n0_0 k0_0 a_p0.Matrix :: Chunk.own tInt f0_1 q0_1 n0_1 k0_1 a_p0.Curve :: C) w)  :
    Calls Tryz.prog 19 #[.agg #[.slice q0_0 n0_0 k0_0, .slice q0_1 n0_1 k0_1], .int .i64 k_p1] w (fun en w' => ∃ rv G, en = .returned rv ∧ (∃ (g0_0 : List Nat) (g0_1 : List Nat), rv = .int .i64 r.1 ∧ G = Chunk.own tInt g0_0 q0_0 n0_0 k0_0 r.2.1 :: Chunk.own tInt g0_1 q0_1 n0_1 k0_1 r.2.2 :: C) ∧ St w0 G w') := by
 unfold laws_markColorMap at h
 refine enterF hs0 (vs := [_, _]) Tryz.func19 rfl rfl rfl rfl ?_
 refine WC.seq (WC.region ?_)
 refine WL.heavy rfl rfl rfl (OpH.box rfl rfl ?_)
 intro b0_0
 refine sp (OpV.assign rfl) ?_
 refine WL.nil (En.next (WC.seq ?_))
 obtain ⟨⟨x1_3a, x1_3b⟩, e1_3, h⟩ := bnd h
 refine WC.region ?_
 refine sp (OpV.fieldAddr rfl fo_31_0) ?_
 refine sp (OpV.loadBox rfl pt_23 (.head _) rfl) ?_
 refine sp (OpV.move rfl) ?_
 refine WL.wkF (fun _ h => h.perm (List.perm_middle (l₁ := [_]))) ?_
 refine WL.heavy rfl rfl rfl (OpH.callX (evs.cons rfl (evs.cons rfl (evs.nil))) ca_20 (fun w hs => w_laws_markIntS e1_3 hs) ?_)
 rintro _ _ ⟨g1_300, rfl, rfl⟩
 refine sp (OpV.assign rfl) ?_
 refine WL.nil (En.next (WC.seq ?_))
 obtain ⟨⟨x2_3a, x2_3b⟩, e2_3, h⟩ := bnd h
 refine WC.region ?_
 refine sp (OpV.fieldAddr rfl fo_31_1) ?_
 refine sp (OpV.loadBox rfl pt_23 (.tail _ (.head _)) rfl) ?_
 refine sp (OpV.move rfl) ?_
 refine WL.wkF (fun _ h => h.perm (List.perm_middle (l₁ := [_, _]))) ?_
 refine WL.heavy rfl rfl rfl (OpH.callX (evs.cons rfl (evs.cons rfl (evs.nil))) ca_20 (fun w hs => w_laws_markIntS e2_3 hs) ?_)
 rintro _ _ ⟨g2_300, rfl, rfl⟩
 refine sp (OpV.assign rfl) ?_
 refine WL.nil (En.next (WC.seq (WC.region ?_)))
 refine sp (OpV.move rfl) ?_
 refine sp (OpV.assign rfl) ?_
 refine WL.nil (En.next (WC.ret ?_))
 refine En.ret1 rfl (Res.tmp rfl) ?_
 obtain rfl := Option.some.inj h
 intro w' hs
 have hs := ((hs).perm (List.perm_middle (l₁ := [_]))).sub (.cons_cons _ (.cons_cons _ (.cons _ (List.Sublist.refl _))))
 exact ⟨_, _, rfl, ⟨g1_300, g2_300, rfl, rfl⟩, hs⟩

theorem w_laws_markCrtc {a_p0 : CrtcT} {k_p1 : Int} {r : Int × (List PlaneT) × (List Int) × (List Int)} {q0_0 : Option Addr} {n0_0 k0_0 : Nat} {f0_0 : List Nat} {q0_1 : Option Addr} {n0_1 k0_1 : Nat} {f0_1 : List Nat} {q0_2 : Option Addr} {n0_2 k0_2 : Nat} {f0_2 : List Nat} (h : laws_markCrtc a_p0 k_p1 = some r) {w0 w : World} {C : List Chunk} (hs0 : St w0 (Chunk.own tPlane f0_0 q0_0 n0_0 k0_0 a_p0.Planes :: Chunk.own tInt f0_1 q0_1 n0_1 k0_1 a_p0.Color.Matrix :: Chunk.own tInt f0_2 q0_2 n0_2 k0_2 a_p0.Color.Curve :: C) w)  :
    Calls Tryz.prog 30 #[.agg #[.int .i64 a_p0.W, .int .i64 a_p0.H, .slice q0_0 n0_0 k0_0, .slice q0_1 n0_1 k0_1, .slice q0_2 n0_2 k0_2], .int .i64 k_p1] w (fun en w' => ∃ rv G, en = .returned rv ∧ (∃ (g0_0 : List Nat) (g0_1 : List Nat) (g0_2 : List Nat), rv = .int .i64 r.1 ∧ G = Chunk.own tPlane g0_0 q0_0 n0_0 k0_0 r.2.1 :: Chunk.own tInt g0_1 q0_1 n0_1 k0_1 r.2.2.1 :: Chunk.own tInt g0_2 q0_2 n0_2 k0_2 r.2.2.2 :: C) ∧ St w0 G w') := by
 unfold laws_markCrtc at h
 refine enterF hs0 (vs := [_, _]) Tryz.func30 rfl rfl rfl rfl ?_
 refine WC.seq (WC.region ?_)
 refine WL.heavy rfl rfl rfl (OpH.box rfl rfl ?_)
 intro b0_0
 refine sp (OpV.assign rfl) ?_
 refine WL.nil (En.next (WC.seq ?_))
 obtain ⟨⟨x1_3a, x1_3b⟩, e1_3, h⟩ := bnd h
 refine WC.region ?_
 refine sp (OpV.fieldAddr rfl fo_46_2) ?_
 refine sp (OpV.loadBox rfl pt_29 (.head _) rfl) ?_
 refine sp (OpV.move rfl) ?_
 refine WL.wkF (fun _ h => h.perm (List.perm_middle (l₁ := [_]))) ?_
 refine WL.heavy rfl rfl rfl (OpH.callX (evs.cons rfl (evs.cons rfl (evs.nil))) ca_18 (fun w hs => w_laws_markPlaneS e1_3 hs) ?_)
 rintro _ _ ⟨g1_300, rfl, rfl⟩
 refine sp (OpV.assign rfl) ?_
 refine WL.nil (En.next (WC.seq ?_))
 obtain ⟨⟨x2_3a, x2_3b, x2_3c⟩, e2_3, h⟩ := bnd h
 refine WC.region ?_
 refine sp (OpV.fieldAddr rfl fo_46_3) ?_
 refine sp (OpV.loadPart rfl (.tail _ (.head _)) ag_31 rfl rfl) ?_
 refine sp (OpV.move rfl) ?_
 refine WL.wkF (fun _ h => h.perm (List.perm_middle (l₁ := [_, _, _]))) ?_
 refine WL.wkF (fun _ h => h.perm (List.perm_middle (l₁ := [_, _, _]))) ?_
 refine WL.heavy rfl rfl rfl (OpH.callX (evs.cons rfl (evs.cons rfl (evs.nil))) ca_19 (fun w hs => w_laws_markColorMap e2_3 hs) ?_)
 rintro _ _ ⟨g2_300, g2_301, rfl, rfl⟩
 refine sp (OpV.assign rfl) ?_
 refine WL.nil (En.next (WC.seq (WC.region ?_)))
 refine sp (OpV.move rfl) ?_
 refine sp (OpV.assign rfl) ?_
 refine WL.nil (En.next (WC.ret ?_))
 refine En.ret1 rfl (Res.tmp rfl) ?_
 obtain rfl := Option.some.inj h
 intro w' hs
 have hs := ((((hs).perm (List.perm_middle (l₁ := [_]))).perm (List.perm_middle (l₁ := [_]))).perm (List.perm_middle (l₁ := [_, _]))).sub (.cons_cons _ (.cons_cons _ (.cons_cons _ (.cons _ (List.Sublist.refl _)))))
 exact ⟨_, _, rfl, ⟨g1_300, g2_300, g2_301, rfl, rfl⟩, hs⟩

theorem w_laws_heldIntS {a_p0 : List Int} {k_p1 : Int} {r : Int} {q0_0 : Option Addr} {n0_0 k0_0 : Nat} (h : laws_heldIntS a_p0 k_p1 = some r) {w : World} (r0_0 : Rd tInt w q0_0 n0_0 k0_0 a_p0)   :
    Calls Tryz.prog 21 #[.slice q0_0 n0_0 k0_0, .int .i64 k_p1] w (fun en w' => en = .returned (.int .i64 r) ∧ Ext w w') := by
 obtain rfl := r0_0.1
 unfold laws_heldIntS at h
 refine enter (vs := [_, _]) Tryz.func21 rfl rfl rfl rfl ?_
 refine WC.seq (WC.region ?_)
 refine sp (OpV.assign rfl) ?_
 refine WL.nil (En.next (WC.seq (WC.seq (WC.region ?_))))
 refine sp (OpV.assign rfl) ?_
 refine WL.nil (En.next (WC.block ?_))
 obtain ⟨zy0, ezy0, h⟩ := bnd h
 refine WC.cut (X := (Int) × (Unit)) (.exit 0) (fun x => zy0 = .inl x.1) (fun x => match x with | (k_0e, ()) => [(1, .int .i64 k_0e)]) (fun x => match x with | (k_0e, ()) => []) ?_ ?_
 ·
  rintro ⟨k_0e, ⟨⟩⟩ hx
  replace hx : .inl k_0e = zy0 := hx.symm
  subst hx
  replace h := fork_l h
  show En _ _ _ _ [(1, .int .i64 k_0e)] []
  refine En.block_exit (En.next (WC.seq (WC.region ?_)))
  refine sp (OpV.move rfl) ?_
  refine sp (OpV.assign rfl) ?_
  refine WL.nil (En.next (WC.ret ?_))
  refine En.ret1 rfl (Res.tmp rfl) ?_
  obtain rfl := Option.some.inj h
  intro w' hs
  exact ⟨rfl, hs.below⟩
 ·
  intro zK0_0
  refine WC.loopP (G := Unit) (fun s g => match s, g with | (k_0, i_0), () => [(0, .slice q0_0 a_p0.length k0_0), (1, .int .i64 k_0), (5, .int .i64 i_0)]) (fun s g => match s, g with | (k_0, i_0), () => []) (k_p1, 0) () ezy0 (by exact Sub.cons rfl (Sub.cons rfl (Sub.cons rfl (Sub.nil _)))) (by exact (fun _ h => h)) ?_
  rintro zm0 ⟨k_0, i_0⟩ ⟨⟩ zo0 zf0 zb0 ze0
  have zh0 : laws_heldIntS_L0 a_p0 k_0 i_0 = some zo0 := zf0
  unfold laws_heldIntS_L0 at zh0
  show WC _ _ _ _ _ [(0, .slice q0_0 a_p0.length k0_0), (1, .int .i64 k_0), (5, .int .i64 i_0)] []
  refine WC.seq (WC.seq (WC.region ?_))
  refine sp (OpV.move rfl) ?_
  refine sp (OpV.move rfl) ?_
  refine sp (OpV.len rfl si_23 rfl) ?_
  refine sp (OpV.lss rfl rfl) ?_
  refine WL.nil (En.next ?_)
  refine WC.cond rfl ?_ ?_
  ·
   intro hc_1
   replace zh0 := ifO_t hc_1 zh0
   refine WC.skip (En.next (WC.seq (WC.block (WC.seq (WC.seq ?_)))))
   obtain ⟨x4_2, e4_2, zh0⟩ := bnd zh0
   obtain ⟨g4_2, o4_2, _, ha4_2, rfl, hd4_2⟩ := Rd.atIdx r0_0 e4_2
   replace hd4_2 : ∀ (j : Nat) v, ([.int .i64 x4_2] : List Value)[j]? = some v → w.cell? ⟨g4_2, o4_2 + i_0.toNat * 1 + j, .none⟩ = some v := hd4_2
   refine WC.region ?_
   refine sp (OpV.move rfl) ?_
   refine sp (OpV.move rfl) ?_
   refine sp (OpV.idxA rfl rfl se_23 ha4_2 ⟨(idx_some e4_2).1, (idx_some e4_2).2.1⟩) ?_
   refine sp (OpV.load1 rfl pt_3 (fun w hs => hs.cell (hd4_2 0 _ rfl))) ?_
   refine sp (OpV.move rfl) ?_
   refine sp (OpV.neq rfl rfl) ?_
   refine WL.nil (En.next ?_)
   refine WC.cond rfl ?_ ?_
   ·
    intro hc_2
    replace zh0 := ifO_t hc_2 zh0
    refine WC.seq (WC.region ?_)
    refine sp (OpV.assign rfl) ?_
    refine WL.nil (En.next (WC.ret (En.then_ret (En.block_ret (En.then_ret (En.then_ret (En.block_ret (En.then_ret ?_))))))))
    refine En.ret1 rfl (Res.tmp rfl) ?_
    have hx := exitP ze0 zh0
    subst hx
    replace h := fork_r h
    obtain rfl := Option.some.inj h
    intro w' hs
    exact ⟨rfl, hs.below⟩
   ·
    intro hc_2
    replace zh0 := ifO_f hc_2 zh0
    refine WC.skip (En.next (WC.region ?_))
    refine sp (OpV.move rfl) ?_
    refine sp (OpV.addR rfl rfl) ?_
    refine sp (OpV.assign rfl) ?_
    refine WL.nil (En.block_norm (En.next (WC.region ?_)))
    refine sp (OpV.move rfl) ?_
    refine sp (OpV.addR rfl rfl) ?_
    refine sp (OpV.assign rfl) ?_
    refine WL.nil ?_
    exact En.backP zb0 zh0 () (Sub.cons rfl (Sub.cons rfl (Sub.cons rfl (Sub.nil _)))) (fun _ h => h)
  ·
   intro hc_1
   replace zh0 := ifO_f hc_1 zh0
   refine WC.exit (En.then_exit (En.then_exit ?_))
   have hx := exitP ze0 zh0
   exact En.wk _ _ (Sub.cons rfl (Sub.nil _)) (fun _ h => h) (zK0_0 (k_0, ()) hx.symm)

theorem w_laws_heldPlaneS {a_p0 : List PlaneT} {a_p1 : Int} {r : Int} {q0_0 : Option Addr} {n0_0 k0_0 : Nat} (h : laws_heldPlaneS a_p0 a_p1 = some r) {w : World} (r0_0 : Rd tPlane w q0_0 n0_0 k0_0 a_p0)   :
    Calls Tryz.prog 75 #[.slice q0_0 n0_0 k0_0, .int .i64 a_p1] w (fun en w' => en = .returned (.int .i64 r) ∧ Ext w w') := by
 obtain rfl := r0_0.1
 unfold laws_heldPlaneS at h
 refine enter (vs := [_, _]) Tryz.func75 rfl rfl rfl rfl ?_
 refine WC.seq (WC.region ?_)
 refine sp (OpV.assign rfl) ?_
 refine WL.nil (En.next (WC.seq (WC.seq (WC.region ?_))))
 refine sp (OpV.assign rfl) ?_
 refine WL.nil (En.next (WC.block ?_))
 obtain ⟨zy0, ezy0, h⟩ := bnd h
 refine WC.cut (X := (Int) × (Unit)) (.exit 0) (fun x => zy0 = .inl x.1) (fun x => match x with | (v_0e, ()) => [(1, .int .i64 v_0e)]) (fun x => match x with | (v_0e, ()) => []) ?_ ?_
 ·
  rintro ⟨v_0e, ⟨⟩⟩ hx
  replace hx : .inl v_0e = zy0 := hx.symm
  subst hx
  replace h := fork_l h
  show En _ _ _ _ [(1, .int .i64 v_0e)] []
  refine En.block_exit (En.next (WC.seq (WC.region ?_)))
  refine sp (OpV.move rfl) ?_
  refine sp (OpV.assign rfl) ?_
  refine WL.nil (En.next (WC.ret ?_))
  refine En.ret1 rfl (Res.tmp rfl) ?_
  obtain rfl := Option.some.inj h
  intro w' hs
  exact ⟨rfl, hs.below⟩
 ·
  intro zK0_0
  refine WC.loopP (G := Unit) (fun s g => match s, g with | (v_0, v1_0), () => [(0, .slice q0_0 a_p0.length k0_0), (1, .int .i64 v_0), (5, .int .i64 v1_0)]) (fun s g => match s, g with | (v_0, v1_0), () => []) (a_p1, 0) () ezy0 (by exact Sub.cons rfl (Sub.cons rfl (Sub.cons rfl (Sub.nil _)))) (by exact (fun _ h => h)) ?_
  rintro zm0 ⟨v_0, v1_0⟩ ⟨⟩ zo0 zf0 zb0 ze0
  have zh0 : laws_heldPlaneS_L0 a_p0 v_0 v1_0 = some zo0 := zf0
  unfold laws_heldPlaneS_L0 at zh0
  show WC _ _ _ _ _ [(0, .slice q0_0 a_p0.length k0_0), (1, .int .i64 v_0), (5, .int .i64 v1_0)] []
  refine WC.seq (WC.seq (WC.region ?_))
  refine sp (OpV.move rfl) ?_
  refine sp (OpV.move rfl) ?_
  refine sp (OpV.len rfl si_29 rfl) ?_
  refine sp (OpV.lss rfl rfl) ?_
  refine WL.nil (En.next ?_)
  refine WC.cond rfl ?_ ?_
  ·
   intro hc_1
   replace zh0 := ifO_t hc_1 zh0
   refine WC.skip (En.next (WC.seq (WC.block (WC.seq (WC.seq ?_)))))
   obtain ⟨x4_2, e4_2, zh0⟩ := bnd zh0
   obtain ⟨g4_2, o4_2, _, ha4_2, ⟨a4_2_1, c4_2_1, rfl, r4_2_1⟩, hd4_2⟩ := Rd.atIdx r0_0 e4_2
   replace hd4_2 : ∀ (j : Nat) v, ([.bool x4_2.On, .int .i64 x4_2.X, .int .i64 x4_2.Y, .int .i64 x4_2.W, .int .i64 x4_2.H, .int .i64 x4_2.Layout, .slice a4_2_1 x4_2.Words.length c4_2_1, .int .i64 x4_2.Alpha, .int .i64 x4_2.Orient, .int .i64 x4_2.ToW, .int .i64 x4_2.ToH] : List Value)[j]? = some v → w.cell? ⟨g4_2, o4_2 + v1_0.toNat * 11 + j, .none⟩ = some v := hd4_2
   refine WC.region ?_
   refine sp (OpV.move rfl) ?_
   refine sp (OpV.move rfl) ?_
   refine sp (OpV.idxA rfl rfl se_29 ha4_2 ⟨(idx_some e4_2).1, (idx_some e4_2).2.1⟩) ?_
   refine sp (OpV.fieldAddr rfl fo_82_0) ?_
   refine sp (OpV.load1 rfl pt_4 (fun w hs => hs.cell (hd4_2 0 _ rfl))) ?_
   refine sp (OpV.move rfl) ?_
   refine sp (OpV.remR rfl rfl rfl) ?_
   refine sp (OpV.eql rfl rfl) ?_
   refine sp (OpV.bneq rfl rfl ub_4) ?_
   refine WL.nil (En.next ?_)
   refine WC.cond rfl ?_ ?_
   ·
    intro hc_2
    replace zh0 := ifO_t hc_2 zh0
    refine WC.seq (WC.region ?_)
    refine sp (OpV.assign rfl) ?_
    refine WL.nil (En.next (WC.ret (En.then_ret (En.block_ret (En.then_ret (En.then_ret (En.block_ret (En.then_ret ?_))))))))
    refine En.ret1 rfl (Res.tmp rfl) ?_
    have hx := exitP ze0 zh0
    subst hx
    replace h := fork_r h
    obtain rfl := Option.some.inj h
    intro w' hs
    exact ⟨rfl, hs.below⟩
   ·
    intro hc_2
    replace zh0 := ifO_f hc_2 zh0
    refine WC.skip (En.next (WC.seq (WC.region ?_)))
    refine sp (OpV.move rfl) ?_
    refine sp (OpV.addR rfl rfl) ?_
    refine sp (OpV.assign rfl) ?_
    refine WL.nil (En.next (WC.seq (WC.seq ?_)))
    obtain ⟨x7_2, e7_2, zh0⟩ := bnd zh0
    obtain ⟨g7_2, o7_2, _, ha7_2, ⟨a7_2_1, c7_2_1, rfl, r7_2_1⟩, hd7_2⟩ := Rd.atIdx r0_0 e7_2
    replace hd7_2 : ∀ (j : Nat) v, ([.bool x7_2.On, .int .i64 x7_2.X, .int .i64 x7_2.Y, .int .i64 x7_2.W, .int .i64 x7_2.H, .int .i64 x7_2.Layout, .slice a7_2_1 x7_2.Words.length c7_2_1, .int .i64 x7_2.Alpha, .int .i64 x7_2.Orient, .int .i64 x7_2.ToW, .int .i64 x7_2.ToH] : List Value)[j]? = some v → w.cell? ⟨g7_2, o7_2 + v1_0.toNat * 11 + j, .none⟩ = some v := hd7_2
    refine WC.region ?_
    refine sp (OpV.move rfl) ?_
    refine sp (OpV.move rfl) ?_
    refine sp (OpV.idxA rfl rfl se_29 ha7_2 ⟨(idx_some e7_2).1, (idx_some e7_2).2.1⟩) ?_
    refine sp (OpV.fieldAddr rfl fo_82_1) ?_
    refine sp (OpV.load1 rfl pt_3 (fun w hs => hs.cell (hd7_2 1 _ rfl))) ?_
    refine sp (OpV.move rfl) ?_
    refine sp (OpV.neq rfl rfl) ?_
    refine WL.nil (En.next ?_)
    refine WC.cond rfl ?_ ?_
    ·
     intro hc_3
     replace zh0 := ifO_t hc_3 zh0
     refine WC.seq (WC.region ?_)
     refine sp (OpV.assign rfl) ?_
     refine WL.nil (En.next (WC.ret (En.then_ret (En.block_ret (En.then_ret (En.then_ret (En.block_ret (En.then_ret ?_))))))))
     refine En.ret1 rfl (Res.tmp rfl) ?_
     have hx := exitP ze0 zh0
     subst hx
     replace h := fork_r h
     obtain rfl := Option.some.inj h
     intro w' hs
     exact ⟨rfl, hs.below⟩
    ·
     intro hc_3
     replace zh0 := ifO_f hc_3 zh0
     refine WC.skip (En.next (WC.seq (WC.region ?_)))
     refine sp (OpV.move rfl) ?_
     refine sp (OpV.addR rfl rfl) ?_
     refine sp (OpV.assign rfl) ?_
     refine WL.nil (En.next (WC.seq (WC.seq ?_)))
     obtain ⟨x10_2, e10_2, zh0⟩ := bnd zh0
     obtain ⟨g10_2, o10_2, _, ha10_2, ⟨a10_2_1, c10_2_1, rfl, r10_2_1⟩, hd10_2⟩ := Rd.atIdx r0_0 e10_2
     replace hd10_2 : ∀ (j : Nat) v, ([.bool x10_2.On, .int .i64 x10_2.X, .int .i64 x10_2.Y, .int .i64 x10_2.W, .int .i64 x10_2.H, .int .i64 x10_2.Layout, .slice a10_2_1 x10_2.Words.length c10_2_1, .int .i64 x10_2.Alpha, .int .i64 x10_2.Orient, .int .i64 x10_2.ToW, .int .i64 x10_2.ToH] : List Value)[j]? = some v → w.cell? ⟨g10_2, o10_2 + v1_0.toNat * 11 + j, .none⟩ = some v := hd10_2
     refine WC.region ?_
     refine sp (OpV.move rfl) ?_
     refine sp (OpV.move rfl) ?_
     refine sp (OpV.idxA rfl rfl se_29 ha10_2 ⟨(idx_some e10_2).1, (idx_some e10_2).2.1⟩) ?_
     refine sp (OpV.fieldAddr rfl fo_82_2) ?_
     refine sp (OpV.load1 rfl pt_3 (fun w hs => hs.cell (hd10_2 2 _ rfl))) ?_
     refine sp (OpV.move rfl) ?_
     refine sp (OpV.neq rfl rfl) ?_
     refine WL.nil (En.next ?_)
     refine WC.cond rfl ?_ ?_
     ·
      intro hc_4
      replace zh0 := ifO_t hc_4 zh0
      refine WC.seq (WC.region ?_)
      refine sp (OpV.assign rfl) ?_
      refine WL.nil (En.next (WC.ret (En.then_ret (En.block_ret (En.then_ret (En.then_ret (En.block_ret (En.then_ret ?_))))))))
      refine En.ret1 rfl (Res.tmp rfl) ?_
      have hx := exitP ze0 zh0
      subst hx
      replace h := fork_r h
      obtain rfl := Option.some.inj h
      intro w' hs
      exact ⟨rfl, hs.below⟩
     ·
      intro hc_4
      replace zh0 := ifO_f hc_4 zh0
      refine WC.skip (En.next (WC.seq (WC.region ?_)))
      refine sp (OpV.move rfl) ?_
      refine sp (OpV.addR rfl rfl) ?_
      refine sp (OpV.assign rfl) ?_
      refine WL.nil (En.next (WC.seq (WC.seq ?_)))
      obtain ⟨x13_2, e13_2, zh0⟩ := bnd zh0
      obtain ⟨g13_2, o13_2, _, ha13_2, ⟨a13_2_1, c13_2_1, rfl, r13_2_1⟩, hd13_2⟩ := Rd.atIdx r0_0 e13_2
      replace hd13_2 : ∀ (j : Nat) v, ([.bool x13_2.On, .int .i64 x13_2.X, .int .i64 x13_2.Y, .int .i64 x13_2.W, .int .i64 x13_2.H, .int .i64 x13_2.Layout, .slice a13_2_1 x13_2.Words.length c13_2_1, .int .i64 x13_2.Alpha, .int .i64 x13_2.Orient, .int .i64 x13_2.ToW, .int .i64 x13_2.ToH] : List Value)[j]? = some v → w.cell? ⟨g13_2, o13_2 + v1_0.toNat * 11 + j, .none⟩ = some v := hd13_2
      refine WC.region ?_
      refine sp (OpV.move rfl) ?_
      refine sp (OpV.move rfl) ?_
      refine sp (OpV.idxA rfl rfl se_29 ha13_2 ⟨(idx_some e13_2).1, (idx_some e13_2).2.1⟩) ?_
      refine sp (OpV.fieldAddr rfl fo_82_3) ?_
      refine sp (OpV.load1 rfl pt_3 (fun w hs => hs.cell (hd13_2 3 _ rfl))) ?_
      refine sp (OpV.move rfl) ?_
      refine sp (OpV.neq rfl rfl) ?_
      refine WL.nil (En.next ?_)
      refine WC.cond rfl ?_ ?_
      ·
       intro hc_5
       replace zh0 := ifO_t hc_5 zh0
       refine WC.seq (WC.region ?_)
       refine sp (OpV.assign rfl) ?_
       refine WL.nil (En.next (WC.ret (En.then_ret (En.block_ret (En.then_ret (En.then_ret (En.block_ret (En.then_ret ?_))))))))
       refine En.ret1 rfl (Res.tmp rfl) ?_
       have hx := exitP ze0 zh0
       subst hx
       replace h := fork_r h
       obtain rfl := Option.some.inj h
       intro w' hs
       exact ⟨rfl, hs.below⟩
      ·
       intro hc_5
       replace zh0 := ifO_f hc_5 zh0
       refine WC.skip (En.next (WC.seq (WC.region ?_)))
       refine sp (OpV.move rfl) ?_
       refine sp (OpV.addR rfl rfl) ?_
       refine sp (OpV.assign rfl) ?_
       refine WL.nil (En.next (WC.seq (WC.seq ?_)))
       obtain ⟨x16_2, e16_2, zh0⟩ := bnd zh0
       obtain ⟨g16_2, o16_2, _, ha16_2, ⟨a16_2_1, c16_2_1, rfl, r16_2_1⟩, hd16_2⟩ := Rd.atIdx r0_0 e16_2
       replace hd16_2 : ∀ (j : Nat) v, ([.bool x16_2.On, .int .i64 x16_2.X, .int .i64 x16_2.Y, .int .i64 x16_2.W, .int .i64 x16_2.H, .int .i64 x16_2.Layout, .slice a16_2_1 x16_2.Words.length c16_2_1, .int .i64 x16_2.Alpha, .int .i64 x16_2.Orient, .int .i64 x16_2.ToW, .int .i64 x16_2.ToH] : List Value)[j]? = some v → w.cell? ⟨g16_2, o16_2 + v1_0.toNat * 11 + j, .none⟩ = some v := hd16_2
       refine WC.region ?_
       refine sp (OpV.move rfl) ?_
       refine sp (OpV.move rfl) ?_
       refine sp (OpV.idxA rfl rfl se_29 ha16_2 ⟨(idx_some e16_2).1, (idx_some e16_2).2.1⟩) ?_
       refine sp (OpV.fieldAddr rfl fo_82_4) ?_
       refine sp (OpV.load1 rfl pt_3 (fun w hs => hs.cell (hd16_2 4 _ rfl))) ?_
       refine sp (OpV.move rfl) ?_
       refine sp (OpV.neq rfl rfl) ?_
       refine WL.nil (En.next ?_)
       refine WC.cond rfl ?_ ?_
       ·
        intro hc_6
        replace zh0 := ifO_t hc_6 zh0
        refine WC.seq (WC.region ?_)
        refine sp (OpV.assign rfl) ?_
        refine WL.nil (En.next (WC.ret (En.then_ret (En.block_ret (En.then_ret (En.then_ret (En.block_ret (En.then_ret ?_))))))))
        refine En.ret1 rfl (Res.tmp rfl) ?_
        have hx := exitP ze0 zh0
        subst hx
        replace h := fork_r h
        obtain rfl := Option.some.inj h
        intro w' hs
        exact ⟨rfl, hs.below⟩
       ·
        intro hc_6
        replace zh0 := ifO_f hc_6 zh0
        refine WC.skip (En.next (WC.seq (WC.region ?_)))
        refine sp (OpV.move rfl) ?_
        refine sp (OpV.addR rfl rfl) ?_
        refine sp (OpV.assign rfl) ?_
        refine WL.nil (En.next (WC.seq (WC.seq ?_)))
        obtain ⟨x19_2, e19_2, zh0⟩ := bnd zh0
        obtain ⟨g19_2, o19_2, _, ha19_2, ⟨a19_2_1, c19_2_1, rfl, r19_2_1⟩, hd19_2⟩ := Rd.atIdx r0_0 e19_2
        replace hd19_2 : ∀ (j : Nat) v, ([.bool x19_2.On, .int .i64 x19_2.X, .int .i64 x19_2.Y, .int .i64 x19_2.W, .int .i64 x19_2.H, .int .i64 x19_2.Layout, .slice a19_2_1 x19_2.Words.length c19_2_1, .int .i64 x19_2.Alpha, .int .i64 x19_2.Orient, .int .i64 x19_2.ToW, .int .i64 x19_2.ToH] : List Value)[j]? = some v → w.cell? ⟨g19_2, o19_2 + v1_0.toNat * 11 + j, .none⟩ = some v := hd19_2
        refine WC.region ?_
        refine sp (OpV.move rfl) ?_
        refine sp (OpV.move rfl) ?_
        refine sp (OpV.idxA rfl rfl se_29 ha19_2 ⟨(idx_some e19_2).1, (idx_some e19_2).2.1⟩) ?_
        refine sp (OpV.fieldAddr rfl fo_82_5) ?_
        refine sp (OpV.load1 rfl pt_3 (fun w hs => hs.cell (hd19_2 5 _ rfl))) ?_
        refine sp (OpV.move rfl) ?_
        refine sp (OpV.neq rfl rfl) ?_
        refine WL.nil (En.next ?_)
        refine WC.cond rfl ?_ ?_
        ·
         intro hc_7
         replace zh0 := ifO_t hc_7 zh0
         refine WC.seq (WC.region ?_)
         refine sp (OpV.assign rfl) ?_
         refine WL.nil (En.next (WC.ret (En.then_ret (En.block_ret (En.then_ret (En.then_ret (En.block_ret (En.then_ret ?_))))))))
         refine En.ret1 rfl (Res.tmp rfl) ?_
         have hx := exitP ze0 zh0
         subst hx
         replace h := fork_r h
         obtain rfl := Option.some.inj h
         intro w' hs
         exact ⟨rfl, hs.below⟩
        ·
         intro hc_7
         replace zh0 := ifO_f hc_7 zh0
         refine WC.skip (En.next (WC.seq (WC.region ?_)))
         refine sp (OpV.move rfl) ?_
         refine sp (OpV.addR rfl rfl) ?_
         refine sp (OpV.assign rfl) ?_
         refine WL.nil (En.next (WC.seq ?_))
         obtain ⟨x22_2, e22_2, zh0⟩ := bnd zh0
         obtain ⟨g22_2, o22_2, _, ha22_2, ⟨a22_2_1, c22_2_1, rfl, r22_2_1⟩, hd22_2⟩ := Rd.atIdx r0_0 e22_2
         replace hd22_2 : ∀ (j : Nat) v, ([.bool x22_2.On, .int .i64 x22_2.X, .int .i64 x22_2.Y, .int .i64 x22_2.W, .int .i64 x22_2.H, .int .i64 x22_2.Layout, .slice a22_2_1 x22_2.Words.length c22_2_1, .int .i64 x22_2.Alpha, .int .i64 x22_2.Orient, .int .i64 x22_2.ToW, .int .i64 x22_2.ToH] : List Value)[j]? = some v → w.cell? ⟨g22_2, o22_2 + v1_0.toNat * 11 + j, .none⟩ = some v := hd22_2
         obtain ⟨x22_6, e22_6, zh0⟩ := bnd zh0
         refine WC.region ?_
         refine sp (OpV.move rfl) ?_
         refine sp (OpV.move rfl) ?_
         refine sp (OpV.idxA rfl rfl se_29 ha22_2 ⟨(idx_some e22_2).1, (idx_some e22_2).2.1⟩) ?_
         refine sp (OpV.fieldAddr rfl fo_82_6) ?_
         refine sp (OpV.load1 rfl pt_23 (fun w hs => hs.cell (hd22_2 6 _ rfl))) ?_
         refine sp (OpV.move rfl) ?_
         refine sp (OpV.call (evs.cons rfl (evs.cons rfl (evs.nil))) ca_21 (fun w hs => w_laws_heldIntS e22_6 (r22_2_1.ext hs.below))) ?_
         refine sp (OpV.assign rfl) ?_
         refine WL.nil (En.next (WC.seq (WC.seq (WC.region ?_))))
         refine sp (OpV.move rfl) ?_
         refine sp (OpV.lss rfl rfl) ?_
         refine WL.nil (En.next ?_)
         refine WC.cond rfl ?_ ?_
         ·
          intro hc_8
          replace zh0 := ifO_t hc_8 zh0
          refine WC.seq (WC.region ?_)
          refine sp (OpV.assign rfl) ?_
          refine WL.nil (En.next (WC.ret (En.then_ret (En.block_ret (En.then_ret (En.then_ret (En.block_ret (En.then_ret ?_))))))))
          refine En.ret1 rfl (Res.tmp rfl) ?_
          have hx := exitP ze0 zh0
          subst hx
          replace h := fork_r h
          obtain rfl := Option.some.inj h
          intro w' hs
          exact ⟨rfl, hs.below⟩
         ·
          intro hc_8
          replace zh0 := ifO_f hc_8 zh0
          refine WC.skip (En.next (WC.seq (WC.seq ?_)))
          obtain ⟨x25_2, e25_2, zh0⟩ := bnd zh0
          obtain ⟨g25_2, o25_2, _, ha25_2, ⟨a25_2_1, c25_2_1, rfl, r25_2_1⟩, hd25_2⟩ := Rd.atIdx r0_0 e25_2
          replace hd25_2 : ∀ (j : Nat) v, ([.bool x25_2.On, .int .i64 x25_2.X, .int .i64 x25_2.Y, .int .i64 x25_2.W, .int .i64 x25_2.H, .int .i64 x25_2.Layout, .slice a25_2_1 x25_2.Words.length c25_2_1, .int .i64 x25_2.Alpha, .int .i64 x25_2.Orient, .int .i64 x25_2.ToW, .int .i64 x25_2.ToH] : List Value)[j]? = some v → w.cell? ⟨g25_2, o25_2 + v1_0.toNat * 11 + j, .none⟩ = some v := hd25_2
          refine WC.region ?_
          refine sp (OpV.move rfl) ?_
          refine sp (OpV.move rfl) ?_
          refine sp (OpV.idxA rfl rfl se_29 ha25_2 ⟨(idx_some e25_2).1, (idx_some e25_2).2.1⟩) ?_
          refine sp (OpV.fieldAddr rfl fo_82_7) ?_
          refine sp (OpV.load1 rfl pt_3 (fun w hs => hs.cell (hd25_2 7 _ rfl))) ?_
          refine sp (OpV.move rfl) ?_
          refine sp (OpV.neq rfl rfl) ?_
          refine WL.nil (En.next ?_)
          refine WC.cond rfl ?_ ?_
          ·
           intro hc_9
           replace zh0 := ifO_t hc_9 zh0
           refine WC.seq (WC.region ?_)
           refine sp (OpV.assign rfl) ?_
           refine WL.nil (En.next (WC.ret (En.then_ret (En.block_ret (En.then_ret (En.then_ret (En.block_ret (En.then_ret ?_))))))))
           refine En.ret1 rfl (Res.tmp rfl) ?_
           have hx := exitP ze0 zh0
           subst hx
           replace h := fork_r h
           obtain rfl := Option.some.inj h
           intro w' hs
           exact ⟨rfl, hs.below⟩
          ·
           intro hc_9
           replace zh0 := ifO_f hc_9 zh0
           refine WC.skip (En.next (WC.seq (WC.region ?_)))
           refine sp (OpV.move rfl) ?_
           refine sp (OpV.addR rfl rfl) ?_
           refine sp (OpV.assign rfl) ?_
           refine WL.nil (En.next (WC.seq (WC.seq ?_)))
           obtain ⟨x28_2, e28_2, zh0⟩ := bnd zh0
           obtain ⟨g28_2, o28_2, _, ha28_2, ⟨a28_2_1, c28_2_1, rfl, r28_2_1⟩, hd28_2⟩ := Rd.atIdx r0_0 e28_2
           replace hd28_2 : ∀ (j : Nat) v, ([.bool x28_2.On, .int .i64 x28_2.X, .int .i64 x28_2.Y, .int .i64 x28_2.W, .int .i64 x28_2.H, .int .i64 x28_2.Layout, .slice a28_2_1 x28_2.Words.length c28_2_1, .int .i64 x28_2.Alpha, .int .i64 x28_2.Orient, .int .i64 x28_2.ToW, .int .i64 x28_2.ToH] : List Value)[j]? = some v → w.cell? ⟨g28_2, o28_2 + v1_0.toNat * 11 + j, .none⟩ = some v := hd28_2
           refine WC.region ?_
           refine sp (OpV.move rfl) ?_
           refine sp (OpV.move rfl) ?_
           refine sp (OpV.idxA rfl rfl se_29 ha28_2 ⟨(idx_some e28_2).1, (idx_some e28_2).2.1⟩) ?_
           refine sp (OpV.fieldAddr rfl fo_82_8) ?_
           refine sp (OpV.load1 rfl pt_3 (fun w hs => hs.cell (hd28_2 8 _ rfl))) ?_
           refine sp (OpV.move rfl) ?_
           refine sp (OpV.neq rfl rfl) ?_
           refine WL.nil (En.next ?_)
           refine WC.cond rfl ?_ ?_
           ·
            intro hc_10
            replace zh0 := ifO_t hc_10 zh0
            refine WC.seq (WC.region ?_)
            refine sp (OpV.assign rfl) ?_
            refine WL.nil (En.next (WC.ret (En.then_ret (En.block_ret (En.then_ret (En.then_ret (En.block_ret (En.then_ret ?_))))))))
            refine En.ret1 rfl (Res.tmp rfl) ?_
            have hx := exitP ze0 zh0
            subst hx
            replace h := fork_r h
            obtain rfl := Option.some.inj h
            intro w' hs
            exact ⟨rfl, hs.below⟩
           ·
            intro hc_10
            replace zh0 := ifO_f hc_10 zh0
            refine WC.skip (En.next (WC.seq (WC.region ?_)))
            refine sp (OpV.move rfl) ?_
            refine sp (OpV.addR rfl rfl) ?_
            refine sp (OpV.assign rfl) ?_
            refine WL.nil (En.next (WC.seq (WC.seq ?_)))
            obtain ⟨x31_2, e31_2, zh0⟩ := bnd zh0
            obtain ⟨g31_2, o31_2, _, ha31_2, ⟨a31_2_1, c31_2_1, rfl, r31_2_1⟩, hd31_2⟩ := Rd.atIdx r0_0 e31_2
            replace hd31_2 : ∀ (j : Nat) v, ([.bool x31_2.On, .int .i64 x31_2.X, .int .i64 x31_2.Y, .int .i64 x31_2.W, .int .i64 x31_2.H, .int .i64 x31_2.Layout, .slice a31_2_1 x31_2.Words.length c31_2_1, .int .i64 x31_2.Alpha, .int .i64 x31_2.Orient, .int .i64 x31_2.ToW, .int .i64 x31_2.ToH] : List Value)[j]? = some v → w.cell? ⟨g31_2, o31_2 + v1_0.toNat * 11 + j, .none⟩ = some v := hd31_2
            refine WC.region ?_
            refine sp (OpV.move rfl) ?_
            refine sp (OpV.move rfl) ?_
            refine sp (OpV.idxA rfl rfl se_29 ha31_2 ⟨(idx_some e31_2).1, (idx_some e31_2).2.1⟩) ?_
            refine sp (OpV.fieldAddr rfl fo_82_9) ?_
            refine sp (OpV.load1 rfl pt_3 (fun w hs => hs.cell (hd31_2 9 _ rfl))) ?_
            refine sp (OpV.move rfl) ?_
            refine sp (OpV.neq rfl rfl) ?_
            refine WL.nil (En.next ?_)
            refine WC.cond rfl ?_ ?_
            ·
             intro hc_11
             replace zh0 := ifO_t hc_11 zh0
             refine WC.seq (WC.region ?_)
             refine sp (OpV.assign rfl) ?_
             refine WL.nil (En.next (WC.ret (En.then_ret (En.block_ret (En.then_ret (En.then_ret (En.block_ret (En.then_ret ?_))))))))
             refine En.ret1 rfl (Res.tmp rfl) ?_
             have hx := exitP ze0 zh0
             subst hx
             replace h := fork_r h
             obtain rfl := Option.some.inj h
             intro w' hs
             exact ⟨rfl, hs.below⟩
            ·
             intro hc_11
             replace zh0 := ifO_f hc_11 zh0
             refine WC.skip (En.next (WC.seq (WC.region ?_)))
             refine sp (OpV.move rfl) ?_
             refine sp (OpV.addR rfl rfl) ?_
             refine sp (OpV.assign rfl) ?_
             refine WL.nil (En.next (WC.seq (WC.seq ?_)))
             obtain ⟨x34_2, e34_2, zh0⟩ := bnd zh0
             obtain ⟨g34_2, o34_2, _, ha34_2, ⟨a34_2_1, c34_2_1, rfl, r34_2_1⟩, hd34_2⟩ := Rd.atIdx r0_0 e34_2
             replace hd34_2 : ∀ (j : Nat) v, ([.bool x34_2.On, .int .i64 x34_2.X, .int .i64 x34_2.Y, .int .i64 x34_2.W, .int .i64 x34_2.H, .int .i64 x34_2.Layout, .slice a34_2_1 x34_2.Words.length c34_2_1, .int .i64 x34_2.Alpha, .int .i64 x34_2.Orient, .int .i64 x34_2.ToW, .int .i64 x34_2.ToH] : List Value)[j]? = some v → w.cell? ⟨g34_2, o34_2 + v1_0.toNat * 11 + j, .none⟩ = some v := hd34_2
             refine WC.region ?_
             refine sp (OpV.move rfl) ?_
             refine sp (OpV.move rfl) ?_
             refine sp (OpV.idxA rfl rfl se_29 ha34_2 ⟨(idx_some e34_2).1, (idx_some e34_2).2.1⟩) ?_
             refine sp (OpV.fieldAddr rfl fo_82_10) ?_
             refine sp (OpV.load1 rfl pt_3 (fun w hs => hs.cell (hd34_2 10 _ rfl))) ?_
             refine sp (OpV.move rfl) ?_
             refine sp (OpV.neq rfl rfl) ?_
             refine WL.nil (En.next ?_)
             refine WC.cond rfl ?_ ?_
             ·
              intro hc_12
              replace zh0 := ifO_t hc_12 zh0
              refine WC.seq (WC.region ?_)
              refine sp (OpV.assign rfl) ?_
              refine WL.nil (En.next (WC.ret (En.then_ret (En.block_ret (En.then_ret (En.then_ret (En.block_ret (En.then_ret ?_))))))))
              refine En.ret1 rfl (Res.tmp rfl) ?_
              have hx := exitP ze0 zh0
              subst hx
              replace h := fork_r h
              obtain rfl := Option.some.inj h
              intro w' hs
              exact ⟨rfl, hs.below⟩
             ·
              intro hc_12
              replace zh0 := ifO_f hc_12 zh0
              refine WC.skip (En.next (WC.region ?_))
              refine sp (OpV.move rfl) ?_
              refine sp (OpV.addR rfl rfl) ?_
              refine sp (OpV.assign rfl) ?_
              refine WL.nil (En.block_norm (En.next (WC.region ?_)))
              refine sp (OpV.move rfl) ?_
              refine sp (OpV.addR rfl rfl) ?_
              refine sp (OpV.assign rfl) ?_
              refine WL.nil ?_
              exact En.backP zb0 zh0 () (Sub.cons rfl (Sub.cons rfl (Sub.cons rfl (Sub.nil _)))) (fun _ h => h)
  ·
   intro hc_1
   replace zh0 := ifO_f hc_1 zh0
   refine WC.exit (En.then_exit (En.then_exit ?_))
   have hx := exitP ze0 zh0
   exact En.wk _ _ (Sub.cons rfl (Sub.nil _)) (fun _ h => h) (zK0_0 (v_0, ()) hx.symm)

theorem w_laws_heldFlipS {a_p0 : List FlipT} {a_p1 : Int} {r : Int} {q0_0 : Option Addr} {n0_0 k0_0 : Nat} (h : laws_heldFlipS a_p0 a_p1 = some r) {w : World} (r0_0 : Rd tFlip w q0_0 n0_0 k0_0 a_p0)   :
    Calls Tryz.prog 85 #[.slice q0_0 n0_0 k0_0, .int .i64 a_p1] w (fun en w' => en = .returned (.int .i64 r) ∧ Ext w w') := by
 obtain rfl := r0_0.1
 unfold laws_heldFlipS at h
 refine enter (vs := [_, _]) Tryz.func85 rfl rfl rfl rfl ?_
 refine WC.seq (WC.region ?_)
 refine sp (OpV.assign rfl) ?_
 refine WL.nil (En.next (WC.seq (WC.seq (WC.region ?_))))
 refine sp (OpV.assign rfl) ?_
 refine WL.nil (En.next (WC.block ?_))
 obtain ⟨zy0, ezy0, h⟩ := bnd h
 refine WC.cut (X := (Int) × (Unit)) (.exit 0) (fun x => zy0 = .inl x.1) (fun x => match x with | (v_0e, ()) => [(1, .int .i64 v_0e)]) (fun x => match x with | (v_0e, ()) => []) ?_ ?_
 ·
  rintro ⟨v_0e, ⟨⟩⟩ hx
  replace hx : .inl v_0e = zy0 := hx.symm
  subst hx
  replace h := fork_l h
  show En _ _ _ _ [(1, .int .i64 v_0e)] []
  refine En.block_exit (En.next (WC.seq (WC.region ?_)))
  refine sp (OpV.move rfl) ?_
  refine sp (OpV.assign rfl) ?_
  refine WL.nil (En.next (WC.ret ?_))
  refine En.ret1 rfl (Res.tmp rfl) ?_
  obtain rfl := Option.some.inj h
  intro w' hs
  exact ⟨rfl, hs.below⟩
 ·
  intro zK0_0
  refine WC.loopP (G := Unit) (fun s g => match s, g with | (v_0, v1_0), () => [(0, .slice q0_0 a_p0.length k0_0), (1, .int .i64 v_0), (5, .int .i64 v1_0)]) (fun s g => match s, g with | (v_0, v1_0), () => []) (a_p1, 0) () ezy0 (by exact Sub.cons rfl (Sub.cons rfl (Sub.cons rfl (Sub.nil _)))) (by exact (fun _ h => h)) ?_
  rintro zm0 ⟨v_0, v1_0⟩ ⟨⟩ zo0 zf0 zb0 ze0
  have zh0 : laws_heldFlipS_L0 a_p0 v_0 v1_0 = some zo0 := zf0
  unfold laws_heldFlipS_L0 at zh0
  show WC _ _ _ _ _ [(0, .slice q0_0 a_p0.length k0_0), (1, .int .i64 v_0), (5, .int .i64 v1_0)] []
  refine WC.seq (WC.seq (WC.region ?_))
  refine sp (OpV.move rfl) ?_
  refine sp (OpV.move rfl) ?_
  refine sp (OpV.len rfl si_61 rfl) ?_
  refine sp (OpV.lss rfl rfl) ?_
  refine WL.nil (En.next ?_)
  refine WC.cond rfl ?_ ?_
  ·
   intro hc_1
   replace zh0 := ifO_t hc_1 zh0
   refine WC.skip (En.next (WC.seq (WC.block (WC.seq (WC.seq ?_)))))
   obtain ⟨x4_2, e4_2, zh0⟩ := bnd zh0
   obtain ⟨g4_2, o4_2, _, ha4_2, ⟨a4_2_1, c4_2_1, a4_2_2, c4_2_2, a4_2_3, c4_2_3, rfl, r4_2_1, r4_2_2, r4_2_3⟩, hd4_2⟩ := Rd.atIdx r0_0 e4_2
   replace hd4_2 : ∀ (j : Nat) v, ([.int .i64 x4_2.Seq, .int .i64 x4_2.Fence, .int .i64 x4_2.State.W, .int .i64 x4_2.State.H, .slice a4_2_1 x4_2.State.Planes.length c4_2_1, .slice a4_2_2 x4_2.State.Color.Matrix.length c4_2_2, .slice a4_2_3 x4_2.State.Color.Curve.length c4_2_3] : List Value)[j]? = some v → w.cell? ⟨g4_2, o4_2 + v1_0.toNat * 7 + j, .none⟩ = some v := hd4_2
   refine WC.region ?_
   refine sp (OpV.move rfl) ?_
   refine sp (OpV.move rfl) ?_
   refine sp (OpV.idxA rfl rfl se_61 ha4_2 ⟨(idx_some e4_2).1, (idx_some e4_2).2.1⟩) ?_
   refine sp (OpV.fieldAddr rfl fo_113_0) ?_
   refine sp (OpV.load1 rfl pt_3 (fun w hs => hs.cell (hd4_2 0 _ rfl))) ?_
   refine sp (OpV.move rfl) ?_
   refine sp (OpV.neq rfl rfl) ?_
   refine WL.nil (En.next ?_)
   refine WC.cond rfl ?_ ?_
   ·
    intro hc_2
    replace zh0 := ifO_t hc_2 zh0
    refine WC.seq (WC.region ?_)
    refine sp (OpV.assign rfl) ?_
    refine WL.nil (En.next (WC.ret (En.then_ret (En.block_ret (En.then_ret (En.then_ret (En.block_ret (En.then_ret ?_))))))))
    refine En.ret1 rfl (Res.tmp rfl) ?_
    have hx := exitP ze0 zh0
    subst hx
    replace h := fork_r h
    obtain rfl := Option.some.inj h
    intro w' hs
    exact ⟨rfl, hs.below⟩
   ·
    intro hc_2
    replace zh0 := ifO_f hc_2 zh0
    refine WC.skip (En.next (WC.seq (WC.region ?_)))
    refine sp (OpV.move rfl) ?_
    refine sp (OpV.addR rfl rfl) ?_
    refine sp (OpV.assign rfl) ?_
    refine WL.nil (En.next (WC.seq (WC.seq ?_)))
    obtain ⟨x7_2, e7_2, zh0⟩ := bnd zh0
    obtain ⟨g7_2, o7_2, _, ha7_2, ⟨a7_2_1, c7_2_1, a7_2_2, c7_2_2, a7_2_3, c7_2_3, rfl, r7_2_1, r7_2_2, r7_2_3⟩, hd7_2⟩ := Rd.atIdx r0_0 e7_2
    replace hd7_2 : ∀ (j : Nat) v, ([.int .i64 x7_2.Seq, .int .i64 x7_2.Fence, .int .i64 x7_2.State.W, .int .i64 x7_2.State.H, .slice a7_2_1 x7_2.State.Planes.length c7_2_1, .slice a7_2_2 x7_2.State.Color.Matrix.length c7_2_2, .slice a7_2_3 x7_2.State.Color.Curve.length c7_2_3] : List Value)[j]? = some v → w.cell? ⟨g7_2, o7_2 + v1_0.toNat * 7 + j, .none⟩ = some v := hd7_2
    refine WC.region ?_
    refine sp (OpV.move rfl) ?_
    refine sp (OpV.move rfl) ?_
    refine sp (OpV.idxA rfl rfl se_61 ha7_2 ⟨(idx_some e7_2).1, (idx_some e7_2).2.1⟩) ?_
    refine sp (OpV.fieldAddr rfl fo_113_1) ?_
    refine sp (OpV.load1 rfl pt_3 (fun w hs => hs.cell (hd7_2 1 _ rfl))) ?_
    refine sp (OpV.move rfl) ?_
    refine sp (OpV.neq rfl rfl) ?_
    refine WL.nil (En.next ?_)
    refine WC.cond rfl ?_ ?_
    ·
     intro hc_3
     replace zh0 := ifO_t hc_3 zh0
     refine WC.seq (WC.region ?_)
     refine sp (OpV.assign rfl) ?_
     refine WL.nil (En.next (WC.ret (En.then_ret (En.block_ret (En.then_ret (En.then_ret (En.block_ret (En.then_ret ?_))))))))
     refine En.ret1 rfl (Res.tmp rfl) ?_
     have hx := exitP ze0 zh0
     subst hx
     replace h := fork_r h
     obtain rfl := Option.some.inj h
     intro w' hs
     exact ⟨rfl, hs.below⟩
    ·
     intro hc_3
     replace zh0 := ifO_f hc_3 zh0
     refine WC.skip (En.next (WC.seq (WC.region ?_)))
     refine sp (OpV.move rfl) ?_
     refine sp (OpV.addR rfl rfl) ?_
     refine sp (OpV.assign rfl) ?_
     refine WL.nil (En.next (WC.seq (WC.seq ?_)))
     obtain ⟨x10_2, e10_2, zh0⟩ := bnd zh0
     obtain ⟨g10_2, o10_2, _, ha10_2, ⟨a10_2_1, c10_2_1, a10_2_2, c10_2_2, a10_2_3, c10_2_3, rfl, r10_2_1, r10_2_2, r10_2_3⟩, hd10_2⟩ := Rd.atIdx r0_0 e10_2
     replace hd10_2 : ∀ (j : Nat) v, ([.int .i64 x10_2.Seq, .int .i64 x10_2.Fence, .int .i64 x10_2.State.W, .int .i64 x10_2.State.H, .slice a10_2_1 x10_2.State.Planes.length c10_2_1, .slice a10_2_2 x10_2.State.Color.Matrix.length c10_2_2, .slice a10_2_3 x10_2.State.Color.Curve.length c10_2_3] : List Value)[j]? = some v → w.cell? ⟨g10_2, o10_2 + v1_0.toNat * 7 + j, .none⟩ = some v := hd10_2
     refine WC.region ?_
     refine sp (OpV.move rfl) ?_
     refine sp (OpV.move rfl) ?_
     refine sp (OpV.idxA rfl rfl se_61 ha10_2 ⟨(idx_some e10_2).1, (idx_some e10_2).2.1⟩) ?_
     refine sp (OpV.fieldAddr rfl fo_113_2) ?_
     refine sp (OpV.fieldAddr rfl fo_46_0) ?_
     refine sp (OpV.load1 rfl pt_3 (fun w hs => hs.cell (hd10_2 2 _ rfl))) ?_
     refine sp (OpV.move rfl) ?_
     refine sp (OpV.neq rfl rfl) ?_
     refine WL.nil (En.next ?_)
     refine WC.cond rfl ?_ ?_
     ·
      intro hc_4
      replace zh0 := ifO_t hc_4 zh0
      refine WC.seq (WC.region ?_)
      refine sp (OpV.assign rfl) ?_
      refine WL.nil (En.next (WC.ret (En.then_ret (En.block_ret (En.then_ret (En.then_ret (En.block_ret (En.then_ret ?_))))))))
      refine En.ret1 rfl (Res.tmp rfl) ?_
      have hx := exitP ze0 zh0
      subst hx
      replace h := fork_r h
      obtain rfl := Option.some.inj h
      intro w' hs
      exact ⟨rfl, hs.below⟩
     ·
      intro hc_4
      replace zh0 := ifO_f hc_4 zh0
      refine WC.skip (En.next (WC.seq (WC.region ?_)))
      refine sp (OpV.move rfl) ?_
      refine sp (OpV.addR rfl rfl) ?_
      refine sp (OpV.assign rfl) ?_
      refine WL.nil (En.next (WC.seq (WC.seq ?_)))
      obtain ⟨x13_2, e13_2, zh0⟩ := bnd zh0
      obtain ⟨g13_2, o13_2, _, ha13_2, ⟨a13_2_1, c13_2_1, a13_2_2, c13_2_2, a13_2_3, c13_2_3, rfl, r13_2_1, r13_2_2, r13_2_3⟩, hd13_2⟩ := Rd.atIdx r0_0 e13_2
      replace hd13_2 : ∀ (j : Nat) v, ([.int .i64 x13_2.Seq, .int .i64 x13_2.Fence, .int .i64 x13_2.State.W, .int .i64 x13_2.State.H, .slice a13_2_1 x13_2.State.Planes.length c13_2_1, .slice a13_2_2 x13_2.State.Color.Matrix.length c13_2_2, .slice a13_2_3 x13_2.State.Color.Curve.length c13_2_3] : List Value)[j]? = some v → w.cell? ⟨g13_2, o13_2 + v1_0.toNat * 7 + j, .none⟩ = some v := hd13_2
      refine WC.region ?_
      refine sp (OpV.move rfl) ?_
      refine sp (OpV.move rfl) ?_
      refine sp (OpV.idxA rfl rfl se_61 ha13_2 ⟨(idx_some e13_2).1, (idx_some e13_2).2.1⟩) ?_
      refine sp (OpV.fieldAddr rfl fo_113_2) ?_
      refine sp (OpV.fieldAddr rfl fo_46_1) ?_
      refine sp (OpV.load1 rfl pt_3 (fun w hs => hs.cell (hd13_2 3 _ rfl))) ?_
      refine sp (OpV.move rfl) ?_
      refine sp (OpV.neq rfl rfl) ?_
      refine WL.nil (En.next ?_)
      refine WC.cond rfl ?_ ?_
      ·
       intro hc_5
       replace zh0 := ifO_t hc_5 zh0
       refine WC.seq (WC.region ?_)
       refine sp (OpV.assign rfl) ?_
       refine WL.nil (En.next (WC.ret (En.then_ret (En.block_ret (En.then_ret (En.then_ret (En.block_ret (En.then_ret ?_))))))))
       refine En.ret1 rfl (Res.tmp rfl) ?_
       have hx := exitP ze0 zh0
       subst hx
       replace h := fork_r h
       obtain rfl := Option.some.inj h
       intro w' hs
       exact ⟨rfl, hs.below⟩
      ·
       intro hc_5
       replace zh0 := ifO_f hc_5 zh0
       refine WC.skip (En.next (WC.seq (WC.region ?_)))
       refine sp (OpV.move rfl) ?_
       refine sp (OpV.addR rfl rfl) ?_
       refine sp (OpV.assign rfl) ?_
       refine WL.nil (En.next (WC.seq ?_))
       obtain ⟨x16_2, e16_2, zh0⟩ := bnd zh0
       obtain ⟨g16_2, o16_2, _, ha16_2, ⟨a16_2_1, c16_2_1, a16_2_2, c16_2_2, a16_2_3, c16_2_3, rfl, r16_2_1, r16_2_2, r16_2_3⟩, hd16_2⟩ := Rd.atIdx r0_0 e16_2
       replace hd16_2 : ∀ (j : Nat) v, ([.int .i64 x16_2.Seq, .int .i64 x16_2.Fence, .int .i64 x16_2.State.W, .int .i64 x16_2.State.H, .slice a16_2_1 x16_2.State.Planes.length c16_2_1, .slice a16_2_2 x16_2.State.Color.Matrix.length c16_2_2, .slice a16_2_3 x16_2.State.Color.Curve.length c16_2_3] : List Value)[j]? = some v → w.cell? ⟨g16_2, o16_2 + v1_0.toNat * 7 + j, .none⟩ = some v := hd16_2
       obtain ⟨x16_7, e16_7, zh0⟩ := bnd zh0
       refine WC.region ?_
       refine sp (OpV.move rfl) ?_
       refine sp (OpV.move rfl) ?_
       refine sp (OpV.idxA rfl rfl se_61 ha16_2 ⟨(idx_some e16_2).1, (idx_some e16_2).2.1⟩) ?_
       refine sp (OpV.fieldAddr rfl fo_113_2) ?_
       refine sp (OpV.fieldAddr rfl fo_46_2) ?_
       refine sp (OpV.load1 rfl pt_29 (fun w hs => hs.cell (hd16_2 4 _ rfl))) ?_
       refine sp (OpV.move rfl) ?_
       refine sp (OpV.call (evs.cons rfl (evs.cons rfl (evs.nil))) ca_75 (fun w hs => w_laws_heldPlaneS e16_7 (r16_2_1.ext hs.below))) ?_
       refine sp (OpV.assign rfl) ?_
       refine WL.nil (En.next (WC.seq (WC.seq (WC.region ?_))))
       refine sp (OpV.move rfl) ?_
       refine sp (OpV.lss rfl rfl) ?_
       refine WL.nil (En.next ?_)
       refine WC.cond rfl ?_ ?_
       ·
        intro hc_6
        replace zh0 := ifO_t hc_6 zh0
        refine WC.seq (WC.region ?_)
        refine sp (OpV.assign rfl) ?_
        refine WL.nil (En.next (WC.ret (En.then_ret (En.block_ret (En.then_ret (En.then_ret (En.block_ret (En.then_ret ?_))))))))
        refine En.ret1 rfl (Res.tmp rfl) ?_
        have hx := exitP ze0 zh0
        subst hx
        replace h := fork_r h
        obtain rfl := Option.some.inj h
        intro w' hs
        exact ⟨rfl, hs.below⟩
       ·
        intro hc_6
        replace zh0 := ifO_f hc_6 zh0
        refine WC.skip (En.next (WC.seq ?_))
        obtain ⟨x19_2, e19_2, zh0⟩ := bnd zh0
        obtain ⟨g19_2, o19_2, _, ha19_2, ⟨a19_2_1, c19_2_1, a19_2_2, c19_2_2, a19_2_3, c19_2_3, rfl, r19_2_1, r19_2_2, r19_2_3⟩, hd19_2⟩ := Rd.atIdx r0_0 e19_2
        replace hd19_2 : ∀ (j : Nat) v, ([.int .i64 x19_2.Seq, .int .i64 x19_2.Fence, .int .i64 x19_2.State.W, .int .i64 x19_2.State.H, .slice a19_2_1 x19_2.State.Planes.length c19_2_1, .slice a19_2_2 x19_2.State.Color.Matrix.length c19_2_2, .slice a19_2_3 x19_2.State.Color.Curve.length c19_2_3] : List Value)[j]? = some v → w.cell? ⟨g19_2, o19_2 + v1_0.toNat * 7 + j, .none⟩ = some v := hd19_2
        obtain ⟨x19_8, e19_8, zh0⟩ := bnd zh0
        refine WC.region ?_
        refine sp (OpV.move rfl) ?_
        refine sp (OpV.move rfl) ?_
        refine sp (OpV.idxA rfl rfl se_61 ha19_2 ⟨(idx_some e19_2).1, (idx_some e19_2).2.1⟩) ?_
        refine sp (OpV.fieldAddr rfl fo_113_2) ?_
        refine sp (OpV.fieldAddr rfl fo_46_3) ?_
        refine sp (OpV.fieldAddr rfl fo_31_0) ?_
        refine sp (OpV.load1 rfl pt_23 (fun w hs => hs.cell (hd19_2 5 _ rfl))) ?_
        refine sp (OpV.move rfl) ?_
        refine sp (OpV.call (evs.cons rfl (evs.cons rfl (evs.nil))) ca_21 (fun w hs => w_laws_heldIntS e19_8 (r19_2_2.ext hs.below))) ?_
        refine sp (OpV.assign rfl) ?_
        refine WL.nil (En.next (WC.seq (WC.seq (WC.region ?_))))
        refine sp (OpV.move rfl) ?_
        refine sp (OpV.lss rfl rfl) ?_
        refine WL.nil (En.next ?_)
        refine WC.cond rfl ?_ ?_
        ·
         intro hc_7
         replace zh0 := ifO_t hc_7 zh0
         refine WC.seq (WC.region ?_)
         refine sp (OpV.assign rfl) ?_
         refine WL.nil (En.next (WC.ret (En.then_ret (En.block_ret (En.then_ret (En.then_ret (En.block_ret (En.then_ret ?_))))))))
         refine En.ret1 rfl (Res.tmp rfl) ?_
         have hx := exitP ze0 zh0
         subst hx
         replace h := fork_r h
         obtain rfl := Option.some.inj h
         intro w' hs
         exact ⟨rfl, hs.below⟩
        ·
         intro hc_7
         replace zh0 := ifO_f hc_7 zh0
         refine WC.skip (En.next (WC.seq ?_))
         obtain ⟨x22_2, e22_2, zh0⟩ := bnd zh0
         obtain ⟨g22_2, o22_2, _, ha22_2, ⟨a22_2_1, c22_2_1, a22_2_2, c22_2_2, a22_2_3, c22_2_3, rfl, r22_2_1, r22_2_2, r22_2_3⟩, hd22_2⟩ := Rd.atIdx r0_0 e22_2
         replace hd22_2 : ∀ (j : Nat) v, ([.int .i64 x22_2.Seq, .int .i64 x22_2.Fence, .int .i64 x22_2.State.W, .int .i64 x22_2.State.H, .slice a22_2_1 x22_2.State.Planes.length c22_2_1, .slice a22_2_2 x22_2.State.Color.Matrix.length c22_2_2, .slice a22_2_3 x22_2.State.Color.Curve.length c22_2_3] : List Value)[j]? = some v → w.cell? ⟨g22_2, o22_2 + v1_0.toNat * 7 + j, .none⟩ = some v := hd22_2
         obtain ⟨x22_8, e22_8, zh0⟩ := bnd zh0
         refine WC.region ?_
         refine sp (OpV.move rfl) ?_
         refine sp (OpV.move rfl) ?_
         refine sp (OpV.idxA rfl rfl se_61 ha22_2 ⟨(idx_some e22_2).1, (idx_some e22_2).2.1⟩) ?_
         refine sp (OpV.fieldAddr rfl fo_113_2) ?_
         refine sp (OpV.fieldAddr rfl fo_46_3) ?_
         refine sp (OpV.fieldAddr rfl fo_31_1) ?_
         refine sp (OpV.load1 rfl pt_23 (fun w hs => hs.cell (hd22_2 6 _ rfl))) ?_
         refine sp (OpV.move rfl) ?_
         refine sp (OpV.call (evs.cons rfl (evs.cons rfl (evs.nil))) ca_21 (fun w hs => w_laws_heldIntS e22_8 (r22_2_3.ext hs.below))) ?_
         refine sp (OpV.assign rfl) ?_
         refine WL.nil (En.next (WC.seq (WC.region ?_)))
         refine sp (OpV.move rfl) ?_
         refine sp (OpV.lss rfl rfl) ?_
         refine WL.nil (En.next ?_)
         refine WC.cond rfl ?_ ?_
         ·
          intro hc_8
          replace zh0 := ifO_t hc_8 zh0
          refine WC.seq (WC.region ?_)
          refine sp (OpV.assign rfl) ?_
          refine WL.nil (En.next (WC.ret (En.block_ret (En.then_ret (En.then_ret (En.block_ret (En.then_ret ?_)))))))
          refine En.ret1 rfl (Res.tmp rfl) ?_
          have hx := exitP ze0 zh0
          subst hx
          replace h := fork_r h
          obtain rfl := Option.some.inj h
          intro w' hs
          exact ⟨rfl, hs.below⟩
         ·
          intro hc_8
          replace zh0 := ifO_f hc_8 zh0
          refine WC.skip (En.block_norm (En.next (WC.region ?_)))
          refine sp (OpV.move rfl) ?_
          refine sp (OpV.addR rfl rfl) ?_
          refine sp (OpV.assign rfl) ?_
          refine WL.nil ?_
          exact En.backP zb0 zh0 () (Sub.cons rfl (Sub.cons rfl (Sub.cons rfl (Sub.nil _)))) (fun _ h => h)
  ·
   intro hc_1
   replace zh0 := ifO_f hc_1 zh0
   refine WC.exit (En.then_exit (En.then_exit ?_))
   have hx := exitP ze0 zh0
   exact En.wk _ _ (Sub.cons rfl (Sub.nil _)) (fun _ h => h) (zK0_0 (v_0, ()) hx.symm)

theorem w_laws_heldFlips {a_p0 : FlipsT} {k_p1 : Int} {r : Int} {q0_0 : Option Addr} {n0_0 k0_0 : Nat} {q0_1 : Option Addr} {n0_1 k0_1 : Nat} {q0_2 : Option Addr} {n0_2 k0_2 : Nat} (h : laws_heldFlips a_p0 k_p1 = some r) {w : World} (r0_0 : Rd tFlip w q0_0 n0_0 k0_0 a_p0.Pending) (r0_1 : Rd tInt w q0_1 n0_1 k0_1 a_p0.Signalled) (r0_2 : Rd tInt w q0_2 n0_2 k0_2 a_p0.Events)   :
    Calls Tryz.prog 39 #[.agg #[.slice q0_0 n0_0 k0_0, .slice q0_1 n0_1 k0_1, .int .i64 a_p0.Next, .slice q0_2 n0_2 k0_2], .int .i64 k_p1] w (fun en w' => en = .returned (.int .i64 r) ∧ Ext w w') := by
 obtain rfl := r0_0.1
 obtain rfl := r0_1.1
 obtain rfl := r0_2.1
 unfold laws_heldFlips at h
 refine enter (vs := [_, _]) Tryz.func39 rfl rfl rfl rfl ?_
 refine WC.seq (WC.region ?_)
 refine WL.heavy rfl rfl rfl (OpH.box rfl rfl ?_)
 intro b0_0
 refine sp (OpV.assign rfl) ?_
 refine WL.nil (En.next (WC.seq ?_))
 obtain ⟨x1_3, e1_3, h⟩ := bnd h
 refine WC.region ?_
 refine sp (OpV.fieldAddr rfl fo_63_0) ?_
 refine sp (OpV.loadBox rfl pt_61 (.head _) rfl) ?_
 refine sp (OpV.move rfl) ?_
 refine sp (OpV.call (evs.cons rfl (evs.cons rfl (evs.nil))) ca_85 (fun w hs => w_laws_heldFlipS e1_3 (r0_0.ext hs.below))) ?_
 refine sp (OpV.assign rfl) ?_
 refine WL.nil (En.next (WC.seq (WC.seq (WC.region ?_))))
 refine sp (OpV.move rfl) ?_
 refine sp (OpV.lss rfl rfl) ?_
 refine WL.nil (En.next ?_)
 refine WC.cond rfl ?_ ?_
 ·
  intro hc_1
  replace h := ifO_t hc_1 h
  refine WC.seq (WC.region ?_)
  refine sp (OpV.assign rfl) ?_
  refine WL.nil (En.next (WC.ret (En.then_ret ?_)))
  refine En.ret1 rfl (Res.tmp rfl) ?_
  obtain rfl := Option.some.inj h
  intro w' hs
  exact ⟨rfl, hs.below⟩
 ·
  intro hc_1
  replace h := ifO_f hc_1 h
  refine WC.skip (En.next (WC.seq ?_))
  obtain ⟨x4_3, e4_3, h⟩ := bnd h
  refine WC.region ?_
  refine sp (OpV.fieldAddr rfl fo_63_1) ?_
  refine sp (OpV.loadBox rfl pt_23 (.head _) rfl) ?_
  refine sp (OpV.move rfl) ?_
  refine sp (OpV.call (evs.cons rfl (evs.cons rfl (evs.nil))) ca_21 (fun w hs => w_laws_heldIntS e4_3 (r0_1.ext hs.below))) ?_
  refine sp (OpV.assign rfl) ?_
  refine WL.nil (En.next (WC.seq (WC.seq (WC.region ?_))))
  refine sp (OpV.move rfl) ?_
  refine sp (OpV.lss rfl rfl) ?_
  refine WL.nil (En.next ?_)
  refine WC.cond rfl ?_ ?_
  ·
   intro hc_2
   replace h := ifO_t hc_2 h
   refine WC.seq (WC.region ?_)
   refine sp (OpV.assign rfl) ?_
   refine WL.nil (En.next (WC.ret (En.then_ret ?_)))
   refine En.ret1 rfl (Res.tmp rfl) ?_
   obtain rfl := Option.some.inj h
   intro w' hs
   exact ⟨rfl, hs.below⟩
  ·
   intro hc_2
   replace h := ifO_f hc_2 h
   refine WC.skip (En.next (WC.seq ?_))
   obtain ⟨x7_3, e7_3, h⟩ := bnd h
   refine WC.region ?_
   refine sp (OpV.fieldAddr rfl fo_63_3) ?_
   refine sp (OpV.loadBox rfl pt_23 (.head _) rfl) ?_
   refine sp (OpV.move rfl) ?_
   refine sp (OpV.call (evs.cons rfl (evs.cons rfl (evs.nil))) ca_21 (fun w hs => w_laws_heldIntS e7_3 (r0_2.ext hs.below))) ?_
   refine sp (OpV.assign rfl) ?_
   refine WL.nil (En.next (WC.seq (WC.seq (WC.region ?_))))
   refine sp (OpV.move rfl) ?_
   refine sp (OpV.lss rfl rfl) ?_
   refine WL.nil (En.next ?_)
   refine WC.cond rfl ?_ ?_
   ·
    intro hc_3
    replace h := ifO_t hc_3 h
    refine WC.seq (WC.region ?_)
    refine sp (OpV.assign rfl) ?_
    refine WL.nil (En.next (WC.ret (En.then_ret ?_)))
    refine En.ret1 rfl (Res.tmp rfl) ?_
    obtain rfl := Option.some.inj h
    intro w' hs
    exact ⟨rfl, hs.below⟩
   ·
    intro hc_3
    replace h := ifO_f hc_3 h
    refine WC.skip (En.next (WC.seq (WC.region ?_)))
    refine sp (OpV.move rfl) ?_
    refine sp (OpV.assign rfl) ?_
    refine WL.nil (En.next (WC.ret ?_))
    refine En.ret1 rfl (Res.tmp rfl) ?_
    obtain rfl := Option.some.inj h
    intro w' hs
    exact ⟨rfl, hs.below⟩

theorem w_laws_FnExactQueueFlip {a_p0 : FlipsT} {a_p1 : CrtcT} {a_p2 : Int} {r : Bool} {q0_0 : Option Addr} {n0_0 k0_0 : Nat} {q0_1 : Option Addr} {n0_1 k0_1 : Nat} {q0_2 : Option Addr} {n0_2 k0_2 : Nat} {q1_0 : Option Addr} {n1_0 k1_0 : Nat} {q1_1 : Option Addr} {n1_1 k1_1 : Nat} {q1_2 : Option Addr} {n1_2 k1_2 : Nat} (h : laws_FnExactQueueFlip a_p0 a_p1 a_p2 = some r) {w : World} (r0_0 : Rd tFlip w q0_0 n0_0 k0_0 a_p0.Pending) (r0_1 : Rd tInt w q0_1 n0_1 k0_1 a_p0.Signalled) (r0_2 : Rd tInt w q0_2 n0_2 k0_2 a_p0.Events) (r1_0 : Rd tPlane w q1_0 n1_0 k1_0 a_p1.Planes) (r1_1 : Rd tInt w q1_1 n1_1 k1_1 a_p1.Color.Matrix) (r1_2 : Rd tInt w q1_2 n1_2 k1_2 a_p1.Color.Curve)   :
    Calls Tryz.prog 5 #[.agg #[.slice q0_0 n0_0 k0_0, .slice q0_1 n0_1 k0_1, .int .i64 a_p0.Next, .slice q0_2 n0_2 k0_2], .agg #[.int .i64 a_p1.W, .int .i64 a_p1.H, .slice q1_0 n1_0 k1_0, .slice q1_1 n1_1 k1_1, .slice q1_2 n1_2 k1_2], .int .i64 a_p2] w (fun en w' => en = .returned (.bool r) ∧ Ext w w') := by
 obtain rfl := r0_0.1
 obtain rfl := r0_1.1
 obtain rfl := r0_2.1
 obtain rfl := r1_0.1
 obtain rfl := r1_1.1
 obtain rfl := r1_2.1
 unfold laws_FnExactQueueFlip at h
 refine enter (vs := [_, _, _]) Tryz.func5 rfl rfl rfl rfl ?_
 refine WC.seq (WC.region ?_)
 refine WL.heavy rfl rfl rfl (OpH.box rfl rfl ?_)
 intro b0_0
 refine WL.heavy rfl rfl rfl (OpH.box rfl rfl ?_)
 intro b0_1
 refine sp (OpV.assign rfl) ?_
 refine WL.nil (En.next (WC.seq (WC.region ?_)))
 refine sp (OpV.assign rfl) ?_
 refine WL.nil (En.next (WC.seq ?_))
 obtain ⟨x2_2, e2_2, h⟩ := bnd h
 refine WC.region ?_
 refine sp (OpV.loadAll rfl (.tail _ (.head _)) ag_59) ?_
 refine sp (OpV.move rfl) ?_
 refine sp (OpV.call (evs.cons rfl (evs.cons rfl (evs.nil))) ca_33 (fun w hs => w_laws_szFlips e2_2 (r0_0.ext hs.below) (r0_1.ext hs.below) (r0_2.ext hs.below))) ?_
 refine sp (OpV.assign rfl) ?_
 refine WL.nil (En.next (WC.seq (WC.seq (WC.region ?_))))
 refine sp (OpV.move rfl) ?_
 refine sp (OpV.lss rfl rfl) ?_
 refine WL.nil (En.next ?_)
 refine WC.cond rfl ?_ ?_
 ·
  intro hc_1
  replace h := ifO_t hc_1 h
  refine WC.seq (WC.region ?_)
  refine sp (OpV.assign rfl) ?_
  refine WL.nil (En.next (WC.ret (En.then_ret ?_)))
  refine En.ret1 rfl (Res.tmp rfl) ?_
  obtain rfl := Option.some.inj h
  intro w' hs
  exact ⟨rfl, hs.below⟩
 ·
  intro hc_1
  replace h := ifO_f hc_1 h
  refine WC.skip (En.next (WC.seq ?_))
  obtain ⟨x5_2, e5_2, h⟩ := bnd h
  refine WC.region ?_
  refine sp (OpV.loadAll rfl (.head _) ag_41) ?_
  refine sp (OpV.move rfl) ?_
  refine sp (OpV.call (evs.cons rfl (evs.cons rfl (evs.nil))) ca_22 (fun w hs => w_laws_szCrtc e5_2 (r1_0.ext hs.below) (r1_1.ext hs.below) (r1_2.ext hs.below))) ?_
  refine sp (OpV.assign rfl) ?_
  refine WL.nil (En.next (WC.seq (WC.seq (WC.region ?_))))
  refine sp (OpV.move rfl) ?_
  refine sp (OpV.lss rfl rfl) ?_
  refine WL.nil (En.next ?_)
  refine WC.cond rfl ?_ ?_
  ·
   intro hc_2
   replace h := ifO_t hc_2 h
   refine WC.seq (WC.region ?_)
   refine sp (OpV.assign rfl) ?_
   refine WL.nil (En.next (WC.ret (En.then_ret ?_)))
   refine En.ret1 rfl (Res.tmp rfl) ?_
   obtain rfl := Option.some.inj h
   intro w' hs
   exact ⟨rfl, hs.below⟩
  ·
   intro hc_2
   replace h := ifO_f hc_2 h
   refine WC.skip (En.next (WC.seq ?_))
   obtain ⟨x8_1, e8_1, h⟩ := bnd h
   obtain ⟨x8_3, e8_3, h⟩ := bnd h
   obtain ⟨⟨x8_5a, x8_5b⟩, e8_5, h⟩ := bnd h
   refine WC.cut (X := Nat × (Option Addr) × Nat × Nat × (Option Addr) × Nat × Nat × (Option Addr) × Nat × Nat × (List Nat) × (List Nat) × (List Nat) × (List Nat) × (Option Addr) × Nat × Nat × (List Nat) × (Option Addr) × Nat × Nat × (List Nat) × (Option Addr) × Nat × Nat × (List Nat) × (Option Addr) × Nat × Nat × (List Nat) × (Option Addr) × Nat × Nat × (List Nat) × (Option Addr) × Nat × Nat) .normal (fun _ => True) (fun x => match x with | (b8_9, a8_500, n8_500, c8_500, a8_501, n8_501, c8_501, a8_502, n8_502, c8_502, f8_500, f8_501, f8_502, f8_300, a8_300, n8_300, c8_300, f8_301, a8_301, n8_301, c8_301, f8_302, a8_302, n8_302, c8_302, f8_100, a8_100, n8_100, c8_100, f8_101, a8_101, n8_101, c8_101, f8_102, a8_102, n8_102, c8_102) => [(2, .int .i64 a_p2), (3, .pointer (some ⟨b0_0, 0, .none⟩)), (4, .pointer (some ⟨b0_1, 0, .none⟩)), (8, .pointer (some ⟨b8_9, 0, .none⟩)), (9, .bool x8_5b)]) (fun x => match x with | (b8_9, a8_500, n8_500, c8_500, a8_501, n8_501, c8_501, a8_502, n8_502, c8_502, f8_500, f8_501, f8_502, f8_300, a8_300, n8_300, c8_300, f8_301, a8_301, n8_301, c8_301, f8_302, a8_302, n8_302, c8_302, f8_100, a8_100, n8_100, c8_100, f8_101, a8_101, n8_101, c8_101, f8_102, a8_102, n8_102, c8_102) => [Chunk.box b8_9 63 [.slice a8_500 n8_500 c8_500, .slice a8_501 n8_501 c8_501, .int .i64 x8_5a.Next, .slice a8_502 n8_502 c8_502], Chunk.own tFlip f8_500 a8_500 n8_500 c8_500 x8_5a.Pending, Chunk.own tInt f8_501 a8_501 n8_501 c8_501 x8_5a.Signalled, Chunk.own tInt f8_502 a8_502 n8_502 c8_502 x8_5a.Events, Chunk.box b0_1 41 [.int .i64 a_p1.W, .int .i64 a_p1.H, .slice q1_0 a_p1.Planes.length k1_0, .slice q1_1 a_p1.Color.Matrix.length k1_1, .slice q1_2 a_p1.Color.Curve.length k1_2], Chunk.box b0_0 59 [.slice q0_0 a_p0.Pending.length k0_0, .slice q0_1 a_p0.Signalled.length k0_1, .int .i64 a_p0.Next, .slice q0_2 a_p0.Events.length k0_2]]) ?_ ?_
   ·
    rintro ⟨b8_9, a8_500, n8_500, c8_500, a8_501, n8_501, c8_501, a8_502, n8_502, c8_502, f8_500, f8_501, f8_502, f8_300, a8_300, n8_300, c8_300, f8_301, a8_301, n8_301, c8_301, f8_302, a8_302, n8_302, c8_302, f8_100, a8_100, n8_100, c8_100, f8_101, a8_101, n8_101, c8_101, f8_102, a8_102, n8_102, c8_102⟩ _
    show En _ _ _ _ [(2, .int .i64 a_p2), (3, .pointer (some ⟨b0_0, 0, .none⟩)), (4, .pointer (some ⟨b0_1, 0, .none⟩)), (8, .pointer (some ⟨b8_9, 0, .none⟩)), (9, .bool x8_5b)] [Chunk.box b8_9 63 [.slice a8_500 n8_500 c8_500, .slice a8_501 n8_501 c8_501, .int .i64 x8_5a.Next, .slice a8_502 n8_502 c8_502], Chunk.own tFlip f8_500 a8_500 n8_500 c8_500 x8_5a.Pending, Chunk.own tInt f8_501 a8_501 n8_501 c8_501 x8_5a.Signalled, Chunk.own tInt f8_502 a8_502 n8_502 c8_502 x8_5a.Events, Chunk.box b0_1 41 [.int .i64 a_p1.W, .int .i64 a_p1.H, .slice q1_0 a_p1.Planes.length k1_0, .slice q1_1 a_p1.Color.Matrix.length k1_1, .slice q1_2 a_p1.Color.Curve.length k1_2], Chunk.box b0_0 59 [.slice q0_0 a_p0.Pending.length k0_0, .slice q0_1 a_p0.Signalled.length k0_1, .int .i64 a_p0.Next, .slice q0_2 a_p0.Events.length k0_2]]
    refine En.next (WC.seq ?_)
    obtain ⟨x9_1, e9_1, h⟩ := bnd h
    refine WC.region ?_
    refine sp (OpV.loadAll rfl (.tail _ (.tail _ (.tail _ (.tail _ (.tail _ (.head _)))))) ag_59) ?_
    refine WL.heavy rfl rfl rfl (OpH.callR (evs.cons rfl (evs.nil)) ca_35 (fun w hs => w_laws_toFlips e9_1 (r0_0.ext hs.below) (r0_1.ext hs.below) (r0_2.ext hs.below)) ?_)
    rintro _ _ ⟨a9_100, n9_100, c9_100, f9_100, a9_101, n9_101, c9_101, f9_101, a9_102, n9_102, c9_102, f9_102, rfl, rfl⟩
    refine WL.heavy rfl rfl rfl (OpH.alloc zc_63 ?_)
    intro b9_2
    refine WL.heavy0 rfl rfl (OpH.storeTo (A := []) [_, _, _, _] rfl rfl rfl ts_63 rfl rfl rfl ?_)
    refine WL.nil (En.next (WC.seq ?_))
    obtain ⟨x10_1, e10_1, h⟩ := bnd h
    refine WC.region ?_
    refine sp (OpV.loadAll rfl (.tail _ (.tail _ (.tail _ (.tail _ (.tail _ (.tail _ (.tail _ (.tail _ (.head _))))))))) ag_41) ?_
    refine WL.heavy rfl rfl rfl (OpH.callR (evs.cons rfl (evs.nil)) ca_25 (fun w hs => w_laws_toCrtc e10_1 (r1_0.ext hs.below) (r1_1.ext hs.below) (r1_2.ext hs.below)) ?_)
    rintro _ _ ⟨a10_100, n10_100, c10_100, f10_100, a10_101, n10_101, c10_101, f10_101, a10_102, n10_102, c10_102, f10_102, rfl, rfl⟩
    refine WL.heavy rfl rfl rfl (OpH.alloc zc_46 ?_)
    intro b10_2
    refine WL.heavy0 rfl rfl (OpH.storeTo (A := []) [_, _, _, _, _] rfl rfl rfl ts_46 rfl rfl rfl ?_)
    refine WL.nil (En.next (WC.seq ?_))
    obtain ⟨⟨x11_3a, x11_3b⟩, e11_3, h⟩ := bnd h
    refine WC.region ?_
    refine sp (OpV.loadAll rfl (.tail _ (.tail _ (.tail _ (.tail _ (.head _))))) ag_63) ?_
    refine sp (OpV.loadAll rfl (.head _) ag_46) ?_
    refine sp (OpV.move rfl) ?_
    refine WL.heavy rfl rfl rfl (OpH.callR (evs.cons rfl (evs.cons rfl (evs.cons rfl (evs.nil)))) ca_36 (fun w hs => w_impl_QueueFlip e11_3 (Ow.rd (hs.mem (.tail _ (.tail _ (.tail _ (.tail _ (.tail _ (.head _)))))))) (Ow.rd (hs.mem (.tail _ (.tail _ (.tail _ (.tail _ (.tail _ (.tail _ (.head _))))))))) (Ow.rd (hs.mem (.tail _ (.tail _ (.tail _ (.tail _ (.tail _ (.tail _ (.tail _ (.head _)))))))))) (Ow.rd (hs.mem (.tail _ (.head _)))) (Ow.rd (hs.mem (.tail _ (.tail _ (.head _))))) (Ow.rd (hs.mem (.tail _ (.tail _ (.tail _ (.head _))))))) ?_)
    rintro _ _ ⟨a11_300, n11_300, c11_300, f11_300, a11_301, n11_301, c11_301, f11_301, a11_302, n11_302, c11_302, f11_302, rfl, rfl⟩
    refine sp (OpV.move rfl) ?_
    refine sp (OpV.extract rfl rfl) ?_
    refine sp (OpV.extract rfl rfl) ?_
    refine WL.heavy rfl rfl rfl (OpH.alloc zc_63 ?_)
    intro b11_7
    refine WL.heavy0 rfl rfl (OpH.storeTo (A := []) [_, _, _, _] rfl rfl rfl ts_63 rfl rfl rfl ?_)
    refine sp (OpV.assign rfl) ?_
    refine WL.nil (En.next (WC.seq (WC.seq ?_)))
    obtain ⟨x12_2, e12_2, h⟩ := bnd h
    refine WC.region ?_
    refine sp (OpV.loadAll rfl (.head _) ag_63) ?_
    refine sp (OpV.loadAll rfl (.tail _ (.tail _ (.tail _ (.tail _ (.tail _ (.tail _ (.tail _ (.tail _ (.tail _ (.tail _ (.tail _ (.tail _ (.head _))))))))))))) ag_63) ?_
    refine sp (OpV.call (evs.cons rfl (evs.cons rfl (evs.nil))) ca_37 (fun w hs => w_laws_eqFlips e12_2 (Ow.rd (hs.mem (.tail _ (.head _)))) (Ow.rd (hs.mem (.tail _ (.tail _ (.head _))))) (Ow.rd (hs.mem (.tail _ (.tail _ (.tail _ (.head _)))))) (Ow.rd (hs.mem (.tail _ (.tail _ (.tail _ (.tail _ (.tail _ (.tail _ (.tail _ (.tail _ (.tail _ (.tail _ (.tail _ (.tail _ (.tail _ (.head _)))))))))))))))) (Ow.rd (hs.mem (.tail _ (.tail _ (.tail _ (.tail _ (.tail _ (.tail _ (.tail _ (.tail _ (.tail _ (.tail _ (.tail _ (.tail _ (.tail _ (.tail _ (.head _))))))))))))))))) (Ow.rd (hs.mem (.tail _ (.tail _ (.tail _ (.tail _ (.tail _ (.tail _ (.tail _ (.tail _ (.tail _ (.tail _ (.tail _ (.tail _ (.tail _ (.tail _ (.tail _ (.head _)))))))))))))))))))) ?_
    refine sp (OpV.not rfl) ?_
    refine sp (OpV.move rfl) ?_
    refine Lt.ofWL.or 53 57 56 (p := ?pz1) (rest := ?qz1) (B := ?Bz1) rfl ?Tz1 ?Fz1 ?az1 ?bz1 ?cz1 ?dz1 ?ez1
    case Tz1 =>
     intro hcz1 hkz1
     refine sk ?_
     refine sk ?_
     refine sk ?_
     refine hkz1 _ ?_
     repeat (first | exact Sub.refl _ | refine Sub.skip rfl ?_)
    case Fz1 =>
     intro hcz1 hkz1
     refine sp (OpV.move rfl) ?_
     refine sp (OpV.move rfl) ?_
     refine sp (OpV.bneq rfl rfl ub_4) ?_
     refine hkz1 _ ?_ ?_
     exact rfl
     repeat (first | exact Sub.refl _ | refine Sub.skip rfl ?_)
    case az1 => exact rfl
    case bz1 => exact rfl
    case cz1 => exact rfl
    case dz1 => exact rfl
    refine WL.nil (En.next ?_)
    refine WC.cond rfl ?_ ?_
    ·
     intro hc_3
     replace h := ifO_t hc_3 h
     refine WC.seq (WC.region ?_)
     refine sp (OpV.assign rfl) ?_
     refine WL.nil (En.next (WC.ret (En.then_ret ?_)))
     refine En.ret1 rfl (Res.tmp rfl) ?_
     obtain rfl := Option.some.inj h
     intro w' hs
     exact ⟨rfl, hs.below⟩
    ·
     intro hc_3
     replace h := ifO_f hc_3 h
     refine WC.skip (En.next (WC.seq (WC.seq ?_)))
     obtain ⟨x14_2, e14_2, h⟩ := bnd h
     obtain ⟨x14_3, e14_3, h⟩ := bnd h
     refine WC.drawnH [] ([_, _, _, _, _, _, _, _, _, _, _, _, _, _, _, _, _, _]) (fun _ h => h) (by kernel_rfl) ?_
     refine WAE.take (i := 0) rfl (by kernel_rfl) (by kernel_rfl) (by kernel_rfl) rfl rfl rfl (OpV.loadAll rfl (.tail _ (.tail _ (.tail _ (.tail _ (.tail _ (.tail _ (.tail _ (.tail _ (.head _))))))))) ag_63) ?_
     refine WAE.take (i := 1) rfl (by kernel_rfl) (by kernel_rfl) (by kernel_rfl) rfl rfl rfl (OpV.loadAll rfl (.tail _ (.tail _ (.tail _ (.tail _ (.tail _ (.tail _ (.tail _ (.tail _ (.tail _ (.tail _ (.tail _ (.tail _ (.tail _ (.tail _ (.tail _ (.tail _ (.tail _ (.head _)))))))))))))))))) ag_59) ?_
     refine WAE.all (rs := [2]) (by kernel_rfl) rfl (AllR.cons rfl rfl rfl rfl ?_ AllR.nil)
     refine OpH.callR (evs.cons rfl (evs.nil)) ca_35 (fun w hs => w_laws_toFlips e14_2 (r0_0.ext hs.below) (r0_1.ext hs.below) (r0_2.ext hs.below)) ?_
     rintro _ _ ⟨a14_200, n14_200, c14_200, f14_200, a14_201, n14_201, c14_201, f14_201, a14_202, n14_202, c14_202, f14_202, rfl, rfl⟩
     refine ⟨[_, _, _], rfl, ?_⟩
     refine WAE.rebase (H := []) ?_
     refine WAE.take (i := 3) rfl (by kernel_rfl) (by kernel_rfl) (by kernel_rfl) rfl rfl rfl (OpV.call (evs.cons rfl (evs.cons rfl (evs.nil))) ca_37 (fun w hs => w_laws_eqFlips e14_3 (Ow.rd (hs.mem (.tail _ (.tail _ (.tail _ (.tail _ (.tail _ (.tail _ (.tail _ (.tail _ (.tail _ (.tail _ (.tail _ (.tail _ (.head _))))))))))))))) (Ow.rd (hs.mem (.tail _ (.tail _ (.tail _ (.tail _ (.tail _ (.tail _ (.tail _ (.tail _ (.tail _ (.tail _ (.tail _ (.tail _ (.tail _ (.head _)))))))))))))))) (Ow.rd (hs.mem (.tail _ (.tail _ (.tail _ (.tail _ (.tail _ (.tail _ (.tail _ (.tail _ (.tail _ (.tail _ (.tail _ (.tail _ (.tail _ (.tail _ (.head _))))))))))))))))) (Ow.rd (hs.mem (.head _))) (Ow.rd (hs.mem (.tail _ (.head _)))) (Ow.rd (hs.mem (.tail _ (.tail _ (.head _))))))) ?_
     refine WAE.take (i := 4) rfl (by kernel_rfl) (by kernel_rfl) (by kernel_rfl) rfl rfl rfl (OpV.not rfl) ?_
     refine WAE.done (by kernel_rfl) ?_ _
     refine En.next ?_
     refine WC.cond rfl ?_ ?_
     ·
      intro hc_4
      replace h := ifO_t hc_4 h
      refine WC.seq (WC.region ?_)
      refine sp (OpV.assign rfl) ?_
      refine WL.nil (En.next (WC.ret (En.then_ret ?_)))
      refine En.ret1 rfl (Res.tmp rfl) ?_
      obtain rfl := Option.some.inj h
      intro w' hs
      exact ⟨rfl, hs.below⟩
     ·
      intro hc_4
      replace h := ifO_f hc_4 h
      refine WC.skip (En.next (WC.seq (WC.seq ?_)))
      obtain ⟨x16_2, e16_2, h⟩ := bnd h
      obtain ⟨x16_3, e16_3, h⟩ := bnd h
      refine WC.drawnH [] ([_, _, _, _, _, _, _, _, _, _, _, _, _, _, _, _, _, _, _, _, _]) (fun _ h => h) (by kernel_rfl) ?_
      refine WAE.take (i := 0) rfl (by kernel_rfl) (by kernel_rfl) (by kernel_rfl) rfl rfl rfl (OpV.loadAll rfl (.tail _ (.tail _ (.tail _ (.tail _ (.tail _ (.tail _ (.tail _ (.head _)))))))) ag_46) ?_
      refine WAE.take (i := 1) rfl (by kernel_rfl) (by kernel_rfl) (by kernel_rfl) rfl rfl rfl (OpV.loadAll rfl (.tail _ (.tail _ (.tail _ (.tail _ (.tail _ (.tail _ (.tail _ (.tail _ (.tail _ (.tail _ (.tail _ (.tail _ (.tail _ (.tail _ (.tail _ (.tail _ (.tail _ (.tail _ (.tail _ (.head _)))))))))))))))))))) ag_41) ?_
      refine WAE.all (rs := [2]) (by kernel_rfl) rfl (AllR.cons rfl rfl rfl rfl ?_ AllR.nil)
      refine OpH.callR (evs.cons rfl (evs.nil)) ca_25 (fun w hs => w_laws_toCrtc e16_2 (r1_0.ext hs.below) (r1_1.ext hs.below) (r1_2.ext hs.below)) ?_
      rintro _ _ ⟨a16_200, n16_200, c16_200, f16_200, a16_201, n16_201, c16_201, f16_201, a16_202, n16_202, c16_202, f16_202, rfl, rfl⟩
      refine ⟨[_, _, _], rfl, ?_⟩
      refine WAE.rebase (H := []) ?_
      refine WAE.take (i := 3) rfl (by kernel_rfl) (by kernel_rfl) (by kernel_rfl) rfl rfl rfl (OpV.call (evs.cons rfl (evs.cons rfl (evs.nil))) ca_28 (fun w hs => w_laws_eqCrtc e16_3 (Ow.rd (hs.mem (.tail _ (.tail _ (.tail _ (.tail _ (.tail _ (.tail _ (.tail _ (.tail _ (.tail _ (.tail _ (.tail _ (.head _)))))))))))))) (Ow.rd (hs.mem (.tail _ (.tail _ (.tail _ (.tail _ (.tail _ (.tail _ (.tail _ (.tail _ (.tail _ (.tail _ (.tail _ (.tail _ (.head _))))))))))))))) (Ow.rd (hs.mem (.tail _ (.tail _ (.tail _ (.tail _ (.tail _ (.tail _ (.tail _ (.tail _ (.tail _ (.tail _ (.tail _ (.tail _ (.tail _ (.head _)))))))))))))))) (Ow.rd (hs.mem (.head _))) (Ow.rd (hs.mem (.tail _ (.head _)))) (Ow.rd (hs.mem (.tail _ (.tail _ (.head _))))))) ?_
      refine WAE.take (i := 4) rfl (by kernel_rfl) (by kernel_rfl) (by kernel_rfl) rfl rfl rfl (OpV.not rfl) ?_
      refine WAE.done (by kernel_rfl) ?_ _
      refine En.next ?_
      refine WC.cond rfl ?_ ?_
      ·
       intro hc_5
       replace h := ifO_t hc_5 h
       refine WC.seq (WC.region ?_)
       refine sp (OpV.assign rfl) ?_
       refine WL.nil (En.next (WC.ret (En.then_ret ?_)))
       refine En.ret1 rfl (Res.tmp rfl) ?_
       obtain rfl := Option.some.inj h
       intro w' hs
       exact ⟨rfl, hs.below⟩
      ·
       intro hc_5
       replace h := ifO_f hc_5 h
       refine WC.skip (En.next (WC.seq (WC.region ?_)))
       refine sp (OpV.assign rfl) ?_
       refine WL.nil (En.next (WC.seq ?_))
       obtain ⟨⟨x19_2a, x19_2b, x19_2c, x19_2d⟩, e19_2, h⟩ := bnd h
       refine WC.region ?_
       refine sp (OpV.loadAll rfl (.tail _ (.tail _ (.tail _ (.tail _ (.tail _ (.tail _ (.tail _ (.tail _ (.tail _ (.tail _ (.tail _ (.tail _ (.tail _ (.tail _ (.head _))))))))))))))) ag_63) ?_
       refine sp (OpV.move rfl) ?_
       refine WL.wkF (fun _ h => h.perm (List.perm_middle (l₁ := [_, _, _, _, _, _, _, _, _, _, _, _, _, _, _, _, _]))) ?_
       refine WL.wkF (fun _ h => h.perm (List.perm_middle (l₁ := [_, _, _, _, _, _, _, _, _, _, _, _, _, _, _, _, _]))) ?_
       refine WL.wkF (fun _ h => h.perm (List.perm_middle (l₁ := [_, _, _, _, _, _, _, _, _, _, _, _, _, _, _, _, _]))) ?_
       refine WL.heavy rfl rfl rfl (OpH.callX (evs.cons rfl (evs.cons rfl (evs.nil))) ca_38 (fun w hs => w_laws_markFlips e19_2 hs) ?_)
       rintro _ _ ⟨g19_200, g19_201, g19_202, rfl, rfl⟩
       refine sp (OpV.assign rfl) ?_
       refine WL.nil (En.next (WC.seq ?_))
       obtain ⟨⟨x20_2a, x20_2b, x20_2c, x20_2d⟩, e20_2, h⟩ := bnd h
       refine WC.region ?_
       refine sp (OpV.loadAll rfl (.tail _ (.tail _ (.tail _ (.tail _ (.tail _ (.tail _ (.tail _ (.tail _ (.tail _ (.tail _ (.tail _ (.tail _ (.tail _ (.head _)))))))))))))) ag_46) ?_
       refine sp (OpV.move rfl) ?_
       refine WL.wkF (fun _ h => h.perm (List.perm_middle (l₁ := [_, _, _, _, _, _, _, _, _, _, _, _, _, _, _, _]))) ?_
       refine WL.wkF (fun _ h => h.perm (List.perm_middle (l₁ := [_, _, _, _, _, _, _, _, _, _, _, _, _, _, _, _]))) ?_
       refine WL.wkF (fun _ h => h.perm (List.perm_middle (l₁ := [_, _, _, _, _, _, _, _, _, _, _, _, _, _, _, _]))) ?_
       refine WL.heavy rfl rfl rfl (OpH.callX (evs.cons rfl (evs.cons rfl (evs.nil))) ca_30 (fun w hs => w_laws_markCrtc e20_2 hs) ?_)
       rintro _ _ ⟨g20_200, g20_201, g20_202, rfl, rfl⟩
       refine sp (OpV.assign rfl) ?_
       refine WL.nil (En.next (WC.seq (WC.seq ?_)))
       obtain ⟨q21_7, e21_7, h⟩ := bnd h
       refine WC.region ?_
       refine sp (OpV.move rfl) ?_
       refine sp (OpV.lss rfl rfl) ?_
       refine sp (OpV.move rfl) ?_
       refine Lt.ofWL.orQ 76 81 80 (p := ?pz2) (rest := ?qz2) (B := q21_7) rfl (fun hz => orO_t e21_7 hz) ?Tz2 ?Fz2 ?az2 ?bz2 ?cz2 ?dz2 ?ez2
       case Tz2 =>
        intro hcz2 hkz2
        refine sk ?_
        refine sk ?_
        refine sk ?_
        refine sk ?_
        refine hkz2 _ ?_
        repeat (first | exact Sub.refl _ | refine Sub.skip rfl ?_)
       case Fz2 =>
        intro hcz2 hkz2
        have hqz2 := orO_f e21_7 hcz2
        obtain ⟨x21_5, e21_5, hqz2⟩ := bnd hqz2
        obtain rfl := Option.some.inj hqz2
        refine sp (OpV.loadAll rfl (.tail _ (.tail _ (.tail _ (.tail _ (.tail _ (.tail _ (.tail _ (.tail _ (.tail _ (.tail _ (.tail _ (.tail _ (.head _))))))))))))) ag_63) ?_
        refine sp (OpV.loadAll rfl (.tail _ (.tail _ (.tail _ (.tail _ (.tail _ (.tail _ (.tail _ (.tail _ (.tail _ (.tail _ (.tail _ (.tail _ (.tail _ (.tail _ (.tail _ (.tail _ (.tail _ (.tail _ (.head _))))))))))))))))))) ag_63) ?_
        refine sp (OpV.call (evs.cons rfl (evs.cons rfl (evs.nil))) ca_37 (fun w hs => w_laws_eqFlips e21_5 (Ow.rd (hs.mem (.tail _ (.tail _ (.tail _ (.tail _ (.tail _ (.tail _ (.tail _ (.tail _ (.tail _ (.tail _ (.tail _ (.tail _ (.tail _ (.head _)))))))))))))))) (Ow.rd (hs.mem (.tail _ (.tail _ (.tail _ (.tail _ (.tail _ (.tail _ (.tail _ (.tail _ (.tail _ (.tail _ (.tail _ (.tail _ (.tail _ (.tail _ (.head _))))))))))))))))) (Ow.rd (hs.mem (.tail _ (.tail _ (.tail _ (.tail _ (.tail _ (.tail _ (.tail _ (.tail _ (.tail _ (.tail _ (.tail _ (.tail _ (.tail _ (.tail _ (.tail _ (.head _)))))))))))))))))) (Ow.rd (hs.mem (.tail _ (.tail _ (.tail _ (.tail _ (.tail _ (.tail _ (.tail _ (.tail _ (.tail _ (.tail _ (.tail _ (.tail _ (.tail _ (.tail _ (.tail _ (.tail _ (.tail _ (.tail _ (.tail _ (.head _)))))))))))))))))))))) (Ow.rd (hs.mem (.tail _ (.tail _ (.tail _ (.tail _ (.tail _ (.tail _ (.tail _ (.tail _ (.tail _ (.tail _ (.tail _ (.tail _ (.tail _ (.tail _ (.tail _ (.tail _ (.tail _ (.tail _ (.tail _ (.tail _ (.head _))))))))))))))))))))))) (Ow.rd (hs.mem (.tail _ (.tail _ (.tail _ (.tail _ (.tail _ (.tail _ (.tail _ (.tail _ (.tail _ (.tail _ (.tail _ (.tail _ (.tail _ (.tail _ (.tail _ (.tail _ (.tail _ (.tail _ (.tail _ (.tail _ (.tail _ (.head _)))))))))))))))))))))))))) ?_
        refine sp (OpV.not rfl) ?_
        refine hkz2 _ ?_ ?_
        exact rfl
        repeat (first | exact Sub.refl _ | refine Sub.skip rfl ?_)
       case az2 => exact rfl
       case bz2 => exact rfl
       case cz2 => exact rfl
       case dz2 => exact rfl
       refine sp (OpV.move rfl) ?_
       refine Lt.ofWL.or 82 86 85 (p := ?pz3) (rest := ?qz3) (B := ?Bz3) rfl ?Tz3 ?Fz3 ?az3 ?bz3 ?cz3 ?dz3 ?ez3
       case Tz3 =>
        intro hcz3 hkz3
        refine sk ?_
        refine sk ?_
        refine sk ?_
        refine hkz3 _ ?_
        repeat (first | exact Sub.refl _ | refine Sub.skip rfl ?_)
       case Fz3 =>
        intro hcz3 hkz3
        refine sp (OpV.move rfl) ?_
        refine sp (OpV.move rfl) ?_
        refine sp (OpV.bneq rfl rfl ub_4) ?_
        refine hkz3 _ ?_ ?_
        exact rfl
        repeat (first | exact Sub.refl _ | refine Sub.skip rfl ?_)
       case az3 => exact rfl
       case bz3 => exact rfl
       case cz3 => exact rfl
       case dz3 => exact rfl
       refine WL.nil (En.next ?_)
       refine WC.cond rfl ?_ ?_
       ·
        intro hc_6
        replace h := ifO_t hc_6 h
        refine WC.seq (WC.region ?_)
        refine sp (OpV.assign rfl) ?_
        refine WL.nil (En.next (WC.ret (En.then_ret ?_)))
        refine En.ret1 rfl (Res.tmp rfl) ?_
        obtain rfl := Option.some.inj h
        intro w' hs
        exact ⟨rfl, hs.below⟩
       ·
        intro hc_6
        replace h := ifO_f hc_6 h
        refine WC.skip (En.next (WC.seq (WC.region ?_)))
        refine sp (OpV.assign rfl) ?_
        refine WL.nil (En.next (WC.seq ?_))
        obtain ⟨⟨x24_2a, x24_2b, x24_2c, x24_2d⟩, e24_2, h⟩ := bnd h
        refine WC.region ?_
        refine sp (OpV.loadAll rfl (.tail _ (.tail _ (.tail _ (.tail _ (.tail _ (.tail _ (.tail _ (.tail _ (.tail _ (.tail _ (.tail _ (.tail _ (.head _))))))))))))) ag_63) ?_
        refine sp (OpV.move rfl) ?_
        refine WL.wkF (fun _ h => h.perm (List.perm_middle (l₁ := [_, _, _, _, _, _, _, _, _, _, _, _, _, _, _]))) ?_
        refine WL.wkF (fun _ h => h.perm (List.perm_middle (l₁ := [_, _, _, _, _, _, _, _, _, _, _, _, _, _, _]))) ?_
        refine WL.wkF (fun _ h => h.perm (List.perm_middle (l₁ := [_, _, _, _, _, _, _, _, _, _, _, _, _, _, _]))) ?_
        refine WL.heavy rfl rfl rfl (OpH.callX (evs.cons rfl (evs.cons rfl (evs.nil))) ca_38 (fun w hs => w_laws_markFlips e24_2 hs) ?_)
        rintro _ _ ⟨g24_200, g24_201, g24_202, rfl, rfl⟩
        refine sp (OpV.assign rfl) ?_
        refine WL.nil (En.next (WC.seq (WC.region ?_)))
        refine sp (OpV.assign rfl) ?_
        refine WL.nil (En.next (WC.seq ?_))
        obtain ⟨x26_2, e26_2, h⟩ := bnd h
        refine WC.region ?_
        refine sp (OpV.loadAll rfl (.tail _ (.tail _ (.tail _ (.tail _ (.tail _ (.tail _ (.tail _ (.tail _ (.tail _ (.tail _ (.tail _ (.tail _ (.tail _ (.tail _ (.tail _ (.head _)))))))))))))))) ag_63) ?_
        refine sp (OpV.move rfl) ?_
        refine sp (OpV.call (evs.cons rfl (evs.cons rfl (evs.nil))) ca_39 (fun w hs => w_laws_heldFlips e26_2 (Ow.rd (hs.mem (.head _))) (Ow.rd (hs.mem (.tail _ (.head _)))) (Ow.rd (hs.mem (.tail _ (.tail _ (.head _))))))) ?_
        refine sp (OpV.assign rfl) ?_
        refine WL.nil (En.next (WC.seq (WC.seq (WC.region ?_))))
        refine sp (OpV.move rfl) ?_
        refine sp (OpV.lss rfl rfl) ?_
        refine WL.nil (En.next ?_)
        refine WC.cond rfl ?_ ?_
        ·
         intro hc_7
         replace h := ifO_t hc_7 h
         refine WC.seq (WC.region ?_)
         refine sp (OpV.assign rfl) ?_
         refine WL.nil (En.next (WC.ret (En.then_ret ?_)))
         refine En.ret1 rfl (Res.tmp rfl) ?_
         obtain rfl := Option.some.inj h
         intro w' hs
         exact ⟨rfl, hs.below⟩
        ·
         intro hc_7
         replace h := ifO_f hc_7 h
         refine WC.skip (En.next (WC.seq (WC.seq (WC.region ?_))))
         refine sp (OpV.move rfl) ?_
         refine sp (OpV.move rfl) ?_
         refine sp (OpV.neq rfl rfl) ?_
         refine WL.nil (En.next ?_)
         refine WC.cond rfl ?_ ?_
         ·
          intro hc_8
          replace h := ifO_t hc_8 h
          refine WC.seq (WC.region ?_)
          refine sp (OpV.assign rfl) ?_
          refine WL.nil (En.next (WC.ret (En.then_ret ?_)))
          refine En.ret1 rfl (Res.tmp rfl) ?_
          obtain rfl := Option.some.inj h
          intro w' hs
          exact ⟨rfl, hs.below⟩
         ·
          intro hc_8
          replace h := ifO_f hc_8 h
          refine WC.skip (En.next (WC.seq ?_))
          obtain ⟨x31_1, e31_1, h⟩ := bnd h
          obtain ⟨x31_3, e31_3, h⟩ := bnd h
          obtain ⟨⟨x31_5a, x31_5b⟩, e31_5, h⟩ := bnd h
          refine WC.cut (X := Nat × (Option Addr) × Nat × Nat × (Option Addr) × Nat × Nat × (Option Addr) × Nat × Nat × (List Nat) × (List Nat) × (List Nat) × (List Nat) × (Option Addr) × Nat × Nat × (List Nat) × (Option Addr) × Nat × Nat × (List Nat) × (Option Addr) × Nat × Nat × (List Nat) × (Option Addr) × Nat × Nat × (List Nat) × (Option Addr) × Nat × Nat × (List Nat) × (Option Addr) × Nat × Nat) .normal (fun _ => True) (fun x => match x with | (b31_9, a31_500, n31_500, c31_500, a31_501, n31_501, c31_501, a31_502, n31_502, c31_502, f31_500, f31_501, f31_502, f31_300, a31_300, n31_300, c31_300, f31_301, a31_301, n31_301, c31_301, f31_302, a31_302, n31_302, c31_302, f31_100, a31_100, n31_100, c31_100, f31_101, a31_101, n31_101, c31_101, f31_102, a31_102, n31_102, c31_102) => [(8, .pointer (some ⟨b8_9, 0, .none⟩)), (9, .bool x8_5b), (12, .pointer (some ⟨b11_7, 0, .none⟩)), (15, .int .i64 x24_2a), (17, .pointer (some ⟨b31_9, 0, .none⟩)), (18, .bool x31_5b)]) (fun x => match x with | (b31_9, a31_500, n31_500, c31_500, a31_501, n31_501, c31_501, a31_502, n31_502, c31_502, f31_500, f31_501, f31_502, f31_300, a31_300, n31_300, c31_300, f31_301, a31_301, n31_301, c31_301, f31_302, a31_302, n31_302, c31_302, f31_100, a31_100, n31_100, c31_100, f31_101, a31_101, n31_101, c31_101, f31_102, a31_102, n31_102, c31_102) => [Chunk.box b31_9 63 [.slice a31_500 n31_500 c31_500, .slice a31_501 n31_501 c31_501, .int .i64 x31_5a.Next, .slice a31_502 n31_502 c31_502], Chunk.own tFlip f31_500 a31_500 n31_500 c31_500 x31_5a.Pending, Chunk.own tInt f31_501 a31_501 n31_501 c31_501 x31_5a.Signalled, Chunk.own tInt f31_502 a31_502 n31_502 c31_502 x31_5a.Events, Chunk.own tFlip g24_200 a11_300 n11_300 c11_300 x24_2b, Chunk.own tInt g24_201 a11_301 n11_301 c11_301 x24_2c, Chunk.own tInt g24_202 a11_302 n11_302 c11_302 x24_2d, Chunk.box b11_7 63 [.slice a11_300 n11_300 c11_300, .slice a11_301 n11_301 c11_301, .int .i64 x11_3a.Next, .slice a11_302 n11_302 c11_302], Chunk.box b8_9 63 [.slice a8_500 n8_500 c8_500, .slice a8_501 n8_501 c8_501, .int .i64 x8_5a.Next, .slice a8_502 n8_502 c8_502], Chunk.own tFlip f8_500 a8_500 n8_500 c8_500 x8_5a.Pending, Chunk.own tInt f8_501 a8_501 n8_501 c8_501 x8_5a.Signalled, Chunk.own tInt f8_502 a8_502 n8_502 c8_502 x8_5a.Events]) ?_ ?_
          ·
           rintro ⟨b31_9, a31_500, n31_500, c31_500, a31_501, n31_501, c31_501, a31_502, n31_502, c31_502, f31_500, f31_501, f31_502, f31_300, a31_300, n31_300, c31_300, f31_301, a31_301, n31_301, c31_301, f31_302, a31_302, n31_302, c31_302, f31_100, a31_100, n31_100, c31_100, f31_101, a31_101, n31_101, c31_101, f31_102, a31_102, n31_102, c31_102⟩ _
           show En _ _ _ _ [(8, .pointer (some ⟨b8_9, 0, .none⟩)), (9, .bool x8_5b), (12, .pointer (some ⟨b11_7, 0, .none⟩)), (15, .int .i64 x24_2a), (17, .pointer (some ⟨b31_9, 0, .none⟩)), (18, .bool x31_5b)] [Chunk.box b31_9 63 [.slice a31_500 n31_500 c31_500, .slice a31_501 n31_501 c31_501, .int .i64 x31_5a.Next, .slice a31_502 n31_502 c31_502], Chunk.own tFlip f31_500 a31_500 n31_500 c31_500 x31_5a.Pending, Chunk.own tInt f31_501 a31_501 n31_501 c31_501 x31_5a.Signalled, Chunk.own tInt f31_502 a31_502 n31_502 c31_502 x31_5a.Events, Chunk.own tFlip g24_200 a11_300 n11_300 c11_300 x24_2b, Chunk.own tInt g24_201 a11_301 n11_301 c11_301 x24_2c, Chunk.own tInt g24_202 a11_302 n11_302 c11_302 x24_2d, Chunk.box b11_7 63 [.slice a11_300 n11_300 c11_300, .slice a11_301 n11_301 c11_301, .int .i64 x11_3a.Next, .slice a11_302 n11_302 c11_302], Chunk.box b8_9 63 [.slice a8_500 n8_500 c8_500, .slice a8_501 n8_501 c8_501, .int .i64 x8_5a.Next, .slice a8_502 n8_502 c8_502], Chunk.own tFlip f8_500 a8_500 n8_500 c8_500 x8_5a.Pending, Chunk.own tInt f8_501 a8_501 n8_501 c8_501 x8_5a.Signalled, Chunk.own tInt f8_502 a8_502 n8_502 c8_502 x8_5a.Events]
           refine En.next (WC.seq (WC.seq ?_))
           obtain ⟨x32_2, e32_2, h⟩ := bnd h
           refine WC.region ?_
           refine sp (OpV.loadAll rfl (.head _) ag_63) ?_
           refine sp (OpV.loadAll rfl (.tail _ (.tail _ (.tail _ (.tail _ (.tail _ (.tail _ (.tail _ (.tail _ (.head _))))))))) ag_63) ?_
           refine sp (OpV.call (evs.cons rfl (evs.cons rfl (evs.nil))) ca_37 (fun w hs => w_laws_eqFlips e32_2 (Ow.rd (hs.mem (.tail _ (.head _)))) (Ow.rd (hs.mem (.tail _ (.tail _ (.head _))))) (Ow.rd (hs.mem (.tail _ (.tail _ (.tail _ (.head _)))))) (Ow.rd (hs.mem (.tail _ (.tail _ (.tail _ (.tail _ (.tail _ (.tail _ (.tail _ (.tail _ (.tail _ (.head _)))))))))))) (Ow.rd (hs.mem (.tail _ (.tail _ (.tail _ (.tail _ (.tail _ (.tail _ (.tail _ (.tail _ (.tail _ (.tail _ (.head _))))))))))))) (Ow.rd (hs.mem (.tail _ (.tail _ (.tail _ (.tail _ (.tail _ (.tail _ (.tail _ (.tail _ (.tail _ (.tail _ (.tail _ (.head _)))))))))))))))) ?_
           refine sp (OpV.not rfl) ?_
           refine sp (OpV.move rfl) ?_
           refine Lt.ofWL.or 111 115 114 (p := ?pz4) (rest := ?qz4) (B := ?Bz4) rfl ?Tz4 ?Fz4 ?az4 ?bz4 ?cz4 ?dz4 ?ez4
           case Tz4 =>
            intro hcz4 hkz4
            refine sk ?_
            refine sk ?_
            refine sk ?_
            refine hkz4 _ ?_
            repeat (first | exact Sub.refl _ | refine Sub.skip rfl ?_)
           case Fz4 =>
            intro hcz4 hkz4
            refine sp (OpV.move rfl) ?_
            refine sp (OpV.move rfl) ?_
            refine sp (OpV.bneq rfl rfl ub_4) ?_
            refine hkz4 _ ?_ ?_
            exact rfl
            repeat (first | exact Sub.refl _ | refine Sub.skip rfl ?_)
           case az4 => exact rfl
           case bz4 => exact rfl
           case cz4 => exact rfl
           case dz4 => exact rfl
           refine WL.nil (En.next ?_)
           refine WC.cond rfl ?_ ?_
           ·
            intro hc_9
            replace h := ifO_t hc_9 h
            refine WC.seq (WC.region ?_)
            refine sp (OpV.assign rfl) ?_
            refine WL.nil (En.next (WC.ret (En.then_ret ?_)))
            refine En.ret1 rfl (Res.tmp rfl) ?_
            obtain rfl := Option.some.inj h
            intro w' hs
            exact ⟨rfl, hs.below⟩
           ·
            intro hc_9
            replace h := ifO_f hc_9 h
            refine WC.skip (En.next (WC.seq (WC.region ?_)))
            refine sp (OpV.assign rfl) ?_
            refine WL.nil (En.next (WC.seq ?_))
            obtain ⟨x35_2, e35_2, h⟩ := bnd h
            refine WC.region ?_
            refine sp (OpV.loadAll rfl (.tail _ (.tail _ (.tail _ (.tail _ (.tail _ (.tail _ (.tail _ (.head _)))))))) ag_63) ?_
            refine sp (OpV.move rfl) ?_
            refine sp (OpV.call (evs.cons rfl (evs.cons rfl (evs.nil))) ca_39 (fun w hs => w_laws_heldFlips e35_2 (Ow.rd (hs.mem (.tail _ (.tail _ (.tail _ (.tail _ (.head _))))))) (Ow.rd (hs.mem (.tail _ (.tail _ (.tail _ (.tail _ (.tail _ (.head _)))))))) (Ow.rd (hs.mem (.tail _ (.tail _ (.tail _ (.tail _ (.tail _ (.tail _ (.head _))))))))))) ?_
            refine sp (OpV.assign rfl) ?_
            refine WL.nil (En.next (WC.seq (WC.seq (WC.region ?_))))
            refine sp (OpV.move rfl) ?_
            refine sp (OpV.lss rfl rfl) ?_
            refine WL.nil (En.next ?_)
            refine WC.cond rfl ?_ ?_
            ·
             intro hc_10
             replace h := ifO_t hc_10 h
             refine WC.seq (WC.region ?_)
             refine sp (OpV.assign rfl) ?_
             refine WL.nil (En.next (WC.ret (En.then_ret ?_)))
             refine En.ret1 rfl (Res.tmp rfl) ?_
             obtain rfl := Option.some.inj h
             intro w' hs
             exact ⟨rfl, hs.below⟩
            ·
             intro hc_10
             replace h := ifO_f hc_10 h
             refine WC.skip (En.next (WC.seq (WC.seq (WC.region ?_))))
             refine sp (OpV.move rfl) ?_
             refine sp (OpV.move rfl) ?_
             refine sp (OpV.neq rfl rfl) ?_
             refine WL.nil (En.next ?_)
             refine WC.cond rfl ?_ ?_
             ·
              intro hc_11
              replace h := ifO_t hc_11 h
              refine WC.seq (WC.region ?_)
              refine sp (OpV.assign rfl) ?_
              refine WL.nil (En.next (WC.ret (En.then_ret ?_)))
              refine En.ret1 rfl (Res.tmp rfl) ?_
              obtain rfl := Option.some.inj h
              intro w' hs
              exact ⟨rfl, hs.below⟩
             ·
              intro hc_11
              replace h := ifO_f hc_11 h
              refine WC.skip (En.next (WC.seq (WC.region ?_)))
              refine sp (OpV.assign rfl) ?_
              refine WL.nil (En.next (WC.ret ?_))
              refine En.ret1 rfl (Res.tmp rfl) ?_
              obtain rfl := Option.some.inj h
              intro w' hs
              exact ⟨rfl, hs.below⟩
          ·
           intro KR31
           refine WC.drawnH [] ([_, _, _, _, _, _, _, _, _, _, _, _, _, _, _, _, _, _, _, _, _, _, _, _]) (fun _ h => h) (by kernel_rfl) ?_
           refine WAE.take (i := 0) rfl (by kernel_rfl) (by kernel_rfl) (by kernel_rfl) rfl rfl rfl (OpV.loadAll rfl (.tail _ (.tail _ (.tail _ (.tail _ (.tail _ (.tail _ (.tail _ (.tail _ (.tail _ (.tail _ (.tail _ (.tail _ (.tail _ (.tail _ (.tail _ (.tail _ (.tail _ (.tail _ (.tail _ (.tail _ (.tail _ (.tail _ (.tail _ (.head _)))))))))))))))))))))))) ag_59) ?_
           refine WAE.take (i := 2) rfl (by kernel_rfl) (by kernel_rfl) (by kernel_rfl) rfl rfl rfl (OpV.loadAll rfl (.tail _ (.tail _ (.tail _ (.tail _ (.tail _ (.tail _ (.tail _ (.tail _ (.tail _ (.tail _ (.tail _ (.tail _ (.tail _ (.tail _ (.tail _ (.tail _ (.tail _ (.tail _ (.tail _ (.tail _ (.tail _ (.tail _ (.head _))))))))))))))))))))))) ag_41) ?_
           refine WAE.take (i := 4) rfl (by kernel_rfl) (by kernel_rfl) (by kernel_rfl) rfl rfl rfl (OpV.move rfl) ?_
           refine WAE.all (rs := [1, 9]) (by kernel_rfl) rfl (AllR.cons rfl rfl rfl rfl ?_ (AllR.cons rfl rfl rfl rfl ?_ AllR.nil))
           ·
            refine OpH.callR (evs.cons rfl (evs.nil)) ca_35 (fun w hs => w_laws_toFlips e31_1 (r0_0.ext hs.below) (r0_1.ext hs.below) (r0_2.ext hs.below)) ?_
            rintro _ _ ⟨a31_100, n31_100, c31_100, f31_100, a31_101, n31_101, c31_101, f31_101, a31_102, n31_102, c31_102, f31_102, rfl, rfl⟩
            refine ⟨[_, _, _], rfl, ?_⟩
            refine WAE.rebase (H := []) ?_
            refine WAE.all (rs := [3, 9]) (by kernel_rfl) rfl (AllR.cons rfl rfl rfl rfl ?_ (AllR.cons rfl rfl rfl rfl ?_ AllR.nil))
            ·
             refine OpH.callR (evs.cons rfl (evs.nil)) ca_25 (fun w hs => w_laws_toCrtc e31_3 (r1_0.ext hs.below) (r1_1.ext hs.below) (r1_2.ext hs.below)) ?_
             rintro _ _ ⟨a31_300, n31_300, c31_300, f31_300, a31_301, n31_301, c31_301, f31_301, a31_302, n31_302, c31_302, f31_302, rfl, rfl⟩
             refine ⟨[_, _, _], rfl, ?_⟩
             refine WAE.rebase (H := []) ?_
             refine WAE.all (rs := [5, 9]) (by kernel_rfl) rfl (AllR.cons rfl rfl rfl rfl ?_ (AllR.cons rfl rfl rfl rfl ?_ AllR.nil))
             ·
              refine OpH.callR (evs.cons rfl (evs.cons rfl (evs.cons rfl (evs.nil)))) ca_36 (fun w hs => w_impl_QueueFlip e31_5 (Ow.rd (hs.mem (.tail _ (.tail _ (.tail _ (.head _)))))) (Ow.rd (hs.mem (.tail _ (.tail _ (.tail _ (.tail _ (.head _))))))) (Ow.rd (hs.mem (.tail _ (.tail _ (.tail _ (.tail _ (.tail _ (.head _)))))))) (Ow.rd (hs.mem (.head _))) (Ow.rd (hs.mem (.tail _ (.head _)))) (Ow.rd (hs.mem (.tail _ (.tail _ (.head _)))))) ?_
              rintro _ _ ⟨a31_500, n31_500, c31_500, f31_500, a31_501, n31_501, c31_501, f31_501, a31_502, n31_502, c31_502, f31_502, rfl, rfl⟩
              refine ⟨[_, _, _], rfl, ?_⟩
              refine WAE.rebase (H := []) ?_
              refine WAE.take (i := 6) rfl (by kernel_rfl) (by kernel_rfl) (by kernel_rfl) rfl rfl rfl (OpV.move rfl) ?_
              refine WAE.take (i := 7) rfl (by kernel_rfl) (by kernel_rfl) (by kernel_rfl) rfl rfl rfl (OpV.extract rfl rfl) ?_
              refine WAE.take (i := 8) rfl (by kernel_rfl) (by kernel_rfl) (by kernel_rfl) rfl rfl rfl (OpV.extract rfl rfl) ?_
              refine WAE.all (rs := [9]) (by kernel_rfl) rfl (AllR.cons rfl rfl rfl rfl ?_ AllR.nil)
              refine OpH.alloc zc_63 ?_
              intro b31_9
              refine ⟨[_], rfl, ?_⟩
              refine WAE.all (rs := [10]) (by kernel_rfl) rfl (AllR.cons0 rfl rfl rfl ?_ AllR.nil)
              refine OpH.storeTo (A := []) [_, _, _, _] rfl rfl rfl ts_63 rfl rfl rfl ?_
              refine ⟨[_], rfl, ?_⟩
              refine WAE.rebase (H := []) ?_
              refine WAE.take (i := 11) rfl (by kernel_rfl) (by kernel_rfl) (by kernel_rfl) rfl rfl rfl (OpV.assign rfl) ?_
              refine WAE.done (by kernel_rfl) ?_ _
              exact En.wk _ _ (Sub.cons rfl (Sub.cons rfl (Sub.cons rfl (Sub.cons rfl (Sub.cons rfl (Sub.cons rfl (Sub.nil _))))))) (fun _ h => (((((((((((((h).perm (List.perm_middle (l₁ := [_, _, _, _, _, _, _, _, _, _, _, _, _, _, _, _, _, _, _, _, _, _, _, _, _, _, _, _, _, _, _]))).perm (List.perm_middle (l₁ := [_, _, _, _, _, _, _, _, _, _, _, _, _, _, _, _, _, _, _, _, _, _, _, _, _, _, _, _, _, _, _]))).perm (List.perm_middle (l₁ := [_, _, _, _, _, _, _, _, _, _, _, _, _, _, _, _, _, _, _, _, _, _, _, _, _, _, _, _, _, _, _]))).perm (List.perm_middle (l₁ := [_, _, _, _, _, _, _, _, _, _, _, _, _, _, _, _, _, _, _, _, _, _, _, _, _, _, _, _, _, _, _]))).perm (List.perm_middle (l₁ := [_, _, _, _, _, _, _, _, _, _, _, _, _, _, _, _, _, _, _, _, _, _, _, _, _, _, _, _, _]))).perm (List.perm_middle (l₁ := [_, _, _, _, _, _, _, _, _, _, _, _, _, _, _, _, _]))).perm (List.perm_middle (l₁ := [_, _, _, _, _, _, _, _, _, _, _, _, _, _, _, _, _]))).perm (List.perm_middle (l₁ := [_, _, _, _, _, _, _, _, _, _, _, _, _, _, _, _, _]))).perm (List.perm_middle (l₁ := [_, _, _, _, _, _, _, _, _, _, _]))).perm (List.perm_middle (l₁ := [_, _, _, _, _, _, _, _, _, _, _]))).perm (List.perm_middle (l₁ := [_, _, _, _, _, _, _, _, _, _, _]))).perm (List.perm_middle (l₁ := [_, _, _, _, _, _, _, _, _, _, _]))).sub (.cons_cons _ (.cons_cons _ (.cons_cons _ (.cons_cons _ (.cons_cons _ (.cons_cons _ (.cons_cons _ (.cons_cons _ (.cons_cons _ (.cons_cons _ (.cons_cons _ (.cons_cons _ (.cons _ (.cons _ (.cons _ (.cons _ (.cons _ (.cons _ (.cons _ (.cons _ (.cons _ (.cons _ (.cons _ (.cons _ (.cons _ (.cons _ (.cons _ (.cons _ (.cons _ (.cons _ (.cons _ (.cons _ (.cons _ (.cons _ (.slnil)))))))))))))))))))))))))))))))))))) (KR31 (b31_9, a31_500, n31_500, c31_500, a31_501, n31_501, c31_501, a31_502, n31_502, c31_502, f31_500, f31_501, f31_502, f31_300, a31_300, n31_300, c31_300, f31_301, a31_301, n31_301, c31_301, f31_302, a31_302, n31_302, c31_302, f31_100, a31_100, n31_100, c31_100, f31_101, a31_101, n31_101, c31_101, f31_102, a31_102, n31_102, c31_102) trivial)
             ·
              refine OpH.alloc zc_63 ?_
              intro b31_9
              refine ⟨[_], rfl, ?_⟩
              refine WAE.all (rs := [5]) (by kernel_rfl) rfl (AllR.cons rfl rfl rfl rfl ?_ AllR.nil)
              refine OpH.callR (evs.cons rfl (evs.cons rfl (evs.cons rfl (evs.nil)))) ca_36 (fun w hs => w_impl_QueueFlip e31_5 (Ow.rd (hs.mem (.tail _ (.tail _ (.tail _ (.tail _ (.head _))))))) (Ow.rd (hs.mem (.tail _ (.tail _ (.tail _ (.tail _ (.tail _ (.head _)))))))) (Ow.rd (hs.mem (.tail _ (.tail _ (.tail _ (.tail _ (.tail _ (.tail _ (.head _))))))))) (Ow.rd (hs.mem (.tail _ (.head _)))) (Ow.rd (hs.mem (.tail _ (.tail _ (.head _))))) (Ow.rd (hs.mem (.tail _ (.tail _ (.tail _ (.head _))))))) ?_
              rintro _ _ ⟨a31_500, n31_500, c31_500, f31_500, a31_501, n31_501, c31_501, f31_501, a31_502, n31_502, c31_502, f31_502, rfl, rfl⟩
              refine ⟨[_, _, _, _], rfl, ?_⟩
              refine WAE.take (i := 6) rfl (by kernel_rfl) (by kernel_rfl) (by kernel_rfl) rfl rfl rfl (OpV.move rfl) ?_
              refine WAE.take (i := 7) rfl (by kernel_rfl) (by kernel_rfl) (by kernel_rfl) rfl rfl rfl (OpV.extract rfl rfl) ?_
              refine WAE.take (i := 8) rfl (by kernel_rfl) (by kernel_rfl) (by kernel_rfl) rfl rfl rfl (OpV.extract rfl rfl) ?_
              refine WAE.all (rs := [10]) (by kernel_rfl) rfl (AllR.cons0 rfl rfl rfl ?_ AllR.nil)
              refine OpH.storeTo (A := [_, _, _]) [_, _, _, _] rfl rfl rfl ts_63 rfl rfl rfl ?_
              refine ⟨[_, _, _, _], rfl, ?_⟩
              refine WAE.rebase (H := []) ?_
              refine WAE.take (i := 11) rfl (by kernel_rfl) (by kernel_rfl) (by kernel_rfl) rfl rfl rfl (OpV.assign rfl) ?_
              refine WAE.done (by kernel_rfl) ?_ _
              exact En.wk _ _ (Sub.cons rfl (Sub.cons rfl (Sub.cons rfl (Sub.cons rfl (Sub.cons rfl (Sub.cons rfl (Sub.nil _))))))) (fun _ h => (((((((((((((h).perm (List.perm_middle (l₁ := [_, _, _, _, _, _, _, _, _, _, _, _, _, _, _, _, _, _, _, _, _, _, _, _, _, _, _, _, _, _, _]))).perm (List.perm_middle (l₁ := [_, _, _, _, _, _, _, _, _, _, _, _, _, _, _, _, _, _, _, _, _, _, _, _, _, _, _, _, _, _, _]))).perm (List.perm_middle (l₁ := [_, _, _, _, _, _, _, _, _, _, _, _, _, _, _, _, _, _, _, _, _, _, _, _, _, _, _, _, _, _, _]))).perm (List.perm_middle (l₁ := [_, _, _, _, _, _, _, _, _, _, _, _, _, _, _, _, _, _, _, _, _, _, _, _, _, _, _, _, _, _, _]))).perm (List.perm_middle (l₁ := [_, _, _, _, _, _, _, _, _, _, _, _, _, _, _, _, _, _, _, _, _, _, _, _, _, _, _, _, _]))).perm (List.perm_middle (l₁ := [_, _, _, _, _, _, _, _, _, _, _, _, _, _, _, _, _]))).perm (List.perm_middle (l₁ := [_, _, _, _, _, _, _, _, _, _, _, _, _, _, _, _, _]))).perm (List.perm_middle (l₁ := [_, _, _, _, _, _, _, _, _, _, _, _, _, _, _, _, _]))).perm (List.perm_middle (l₁ := [_, _, _, _, _, _, _, _, _, _]))).perm (List.perm_middle (l₁ := [_, _, _, _, _, _, _, _, _, _]))).perm (List.perm_middle (l₁ := [_, _, _, _, _, _, _, _, _, _]))).perm (List.perm_middle (l₁ := [_, _, _, _, _, _, _, _, _, _, _]))).sub (.cons_cons _ (.cons_cons _ (.cons_cons _ (.cons_cons _ (.cons_cons _ (.cons_cons _ (.cons_cons _ (.cons_cons _ (.cons_cons _ (.cons_cons _ (.cons_cons _ (.cons_cons _ (.cons _ (.cons _ (.cons _ (.cons _ (.cons _ (.cons _ (.cons _ (.cons _ (.cons _ (.cons _ (.cons _ (.cons _ (.cons _ (.cons _ (.cons _ (.cons _ (.cons _ (.cons _ (.cons _ (.cons _ (.cons _ (.cons _ (.slnil)))))))))))))))))))))))))))))))))))) (KR31 (b31_9, a31_500, n31_500, c31_500, a31_501, n31_501, c31_501, a31_502, n31_502, c31_502, f31_500, f31_501, f31_502, f31_300, a31_300, n31_300, c31_300, f31_301, a31_301, n31_301, c31_301, f31_302, a31_302, n31_302, c31_302, f31_100, a31_100, n31_100, c31_100, f31_101, a31_101, n31_101, c31_101, f31_102, a31_102, n31_102, c31_102) trivial)
            ·
             refine OpH.alloc zc_63 ?_
             intro b31_9
             refine ⟨[_], rfl, ?_⟩
             refine WAE.all (rs := [3]) (by kernel_rfl) rfl (AllR.cons rfl rfl rfl rfl ?_ AllR.nil)
             refine OpH.callR (evs.cons rfl (evs.nil)) ca_25 (fun w hs => w_laws_toCrtc e31_3 (r1_0.ext hs.below) (r1_1.ext hs.below) (r1_2.ext hs.below)) ?_
             rintro _ _ ⟨a31_300, n31_300, c31_300, f31_300, a31_301, n31_301, c31_301, f31_301, a31_302, n31_302, c31_302, f31_302, rfl, rfl⟩
             refine ⟨[_, _, _, _], rfl, ?_⟩
             refine WAE.all (rs := [5]) (by kernel_rfl) rfl (AllR.cons rfl rfl rfl rfl ?_ AllR.nil)
             refine OpH.callR (evs.cons rfl (evs.cons rfl (evs.cons rfl (evs.nil)))) ca_36 (fun w hs => w_impl_QueueFlip e31_5 (Ow.rd (hs.mem (.tail _ (.tail _ (.tail _ (.tail _ (.head _))))))) (Ow.rd (hs.mem (.tail _ (.tail _ (.tail _ (.tail _ (.tail _ (.head _)))))))) (Ow.rd (hs.mem (.tail _ (.tail _ (.tail _ (.tail _ (.tail _ (.tail _ (.head _))))))))) (Ow.rd (hs.mem (.head _))) (Ow.rd (hs.mem (.tail _ (.head _)))) (Ow.rd (hs.mem (.tail _ (.tail _ (.head _)))))) ?_
             rintro _ _ ⟨a31_500, n31_500, c31_500, f31_500, a31_501, n31_501, c31_501, f31_501, a31_502, n31_502, c31_502, f31_502, rfl, rfl⟩
             refine ⟨[_, _, _, _, _, _, _], rfl, ?_⟩
             refine WAE.take (i := 6) rfl (by kernel_rfl) (by kernel_rfl) (by kernel_rfl) rfl rfl rfl (OpV.move rfl) ?_
             refine WAE.take (i := 7) rfl (by kernel_rfl) (by kernel_rfl) (by kernel_rfl) rfl rfl rfl (OpV.extract rfl rfl) ?_
             refine WAE.take (i := 8) rfl (by kernel_rfl) (by kernel_rfl) (by kernel_rfl) rfl rfl rfl (OpV.extract rfl rfl) ?_
             refine WAE.all (rs := [10]) (by kernel_rfl) rfl (AllR.cons0 rfl rfl rfl ?_ AllR.nil)
             refine OpH.storeTo (A := [_, _, _, _, _, _]) [_, _, _, _] rfl rfl rfl ts_63 rfl rfl rfl ?_
             refine ⟨[_, _, _, _, _, _, _], rfl, ?_⟩
             refine WAE.rebase (H := []) ?_
             refine WAE.take (i := 11) rfl (by kernel_rfl) (by kernel_rfl) (by kernel_rfl) rfl rfl rfl (OpV.assign rfl) ?_
             refine WAE.done (by kernel_rfl) ?_ _
             exact En.wk _ _ (Sub.cons rfl (Sub.cons rfl (Sub.cons rfl (Sub.cons rfl (Sub.cons rfl (Sub.cons rfl (Sub.nil _))))))) (fun _ h => (((((((((((((h).perm (List.perm_middle (l₁ := [_, _, _, _, _, _, _, _, _, _, _, _, _, _, _, _, _, _, _, _, _, _, _, _, _, _, _, _, _, _, _]))).perm (List.perm_middle (l₁ := [_, _, _, _, _, _, _, _, _, _, _, _, _, _, _, _, _, _, _, _, _, _, _, _, _, _, _, _, _, _, _]))).perm (List.perm_middle (l₁ := [_, _, _, _, _, _, _, _, _, _, _, _, _, _, _, _, _, _, _, _, _, _, _, _, _, _, _, _, _, _, _]))).perm (List.perm_middle (l₁ := [_, _, _, _, _, _, _, _, _, _, _, _, _, _, _, _, _, _, _, _, _, _, _, _, _, _, _, _, _, _, _]))).perm (List.perm_middle (l₁ := [_, _, _, _, _, _, _, _, _, _, _, _, _, _, _, _, _, _, _, _, _, _, _, _, _, _, _, _, _]))).perm (List.perm_middle (l₁ := [_, _, _, _, _, _, _, _, _, _, _, _, _, _, _, _, _]))).perm (List.perm_middle (l₁ := [_, _, _, _, _, _, _, _, _, _, _, _, _, _, _, _, _]))).perm (List.perm_middle (l₁ := [_, _, _, _, _, _, _, _, _, _, _, _, _, _, _, _, _]))).perm (List.perm_middle (l₁ := [_, _, _, _, _, _, _, _, _, _]))).perm (List.perm_middle (l₁ := [_, _, _, _, _, _, _, _, _, _]))).perm (List.perm_middle (l₁ := [_, _, _, _, _, _, _, _, _, _]))).perm (List.perm_middle (l₁ := [_, _, _, _, _, _, _, _, _, _, _, _, _, _]))).sub (.cons_cons _ (.cons_cons _ (.cons_cons _ (.cons_cons _ (.cons_cons _ (.cons_cons _ (.cons_cons _ (.cons_cons _ (.cons_cons _ (.cons_cons _ (.cons_cons _ (.cons_cons _ (.cons _ (.cons _ (.cons _ (.cons _ (.cons _ (.cons _ (.cons _ (.cons _ (.cons _ (.cons _ (.cons _ (.cons _ (.cons _ (.cons _ (.cons _ (.cons _ (.cons _ (.cons _ (.cons _ (.cons _ (.cons _ (.cons _ (.slnil)))))))))))))))))))))))))))))))))))) (KR31 (b31_9, a31_500, n31_500, c31_500, a31_501, n31_501, c31_501, a31_502, n31_502, c31_502, f31_500, f31_501, f31_502, f31_300, a31_300, n31_300, c31_300, f31_301, a31_301, n31_301, c31_301, f31_302, a31_302, n31_302, c31_302, f31_100, a31_100, n31_100, c31_100, f31_101, a31_101, n31_101, c31_101, f31_102, a31_102, n31_102, c31_102) trivial)
           ·
            refine OpH.alloc zc_63 ?_
            intro b31_9
            refine ⟨[_], rfl, ?_⟩
            refine WAE.all (rs := [1]) (by kernel_rfl) rfl (AllR.cons rfl rfl rfl rfl ?_ AllR.nil)
            refine OpH.callR (evs.cons rfl (evs.nil)) ca_35 (fun w hs => w_laws_toFlips e31_1 (r0_0.ext hs.below) (r0_1.ext hs.below) (r0_2.ext hs.below)) ?_
            rintro _ _ ⟨a31_100, n31_100, c31_100, f31_100, a31_101, n31_101, c31_101, f31_101, a31_102, n31_102, c31_102, f31_102, rfl, rfl⟩
            refine ⟨[_, _, _, _], rfl, ?_⟩
            refine WAE.all (rs := [3]) (by kernel_rfl) rfl (AllR.cons rfl rfl rfl rfl ?_ AllR.nil)
            refine OpH.callR (evs.cons rfl (evs.nil)) ca_25 (fun w hs => w_laws_toCrtc e31_3 (r1_0.ext hs.below) (r1_1.ext hs.below) (r1_2.ext hs.below)) ?_
            rintro _ _ ⟨a31_300, n31_300, c31_300, f31_300, a31_301, n31_301, c31_301, f31_301, a31_302, n31_302, c31_302, f31_302, rfl, rfl⟩
            refine ⟨[_, _, _, _, _, _, _], rfl, ?_⟩
            refine WAE.all (rs := [5]) (by kernel_rfl) rfl (AllR.cons rfl rfl rfl rfl ?_ AllR.nil)
            refine OpH.callR (evs.cons rfl (evs.cons rfl (evs.cons rfl (evs.nil)))) ca_36 (fun w hs => w_impl_QueueFlip e31_5 (Ow.rd (hs.mem (.tail _ (.tail _ (.tail _ (.head _)))))) (Ow.rd (hs.mem (.tail _ (.tail _ (.tail _ (.tail _ (.head _))))))) (Ow.rd (hs.mem (.tail _ (.tail _ (.tail _ (.tail _ (.tail _ (.head _)))))))) (Ow.rd (hs.mem (.head _))) (Ow.rd (hs.mem (.tail _ (.head _)))) (Ow.rd (hs.mem (.tail _ (.tail _ (.head _)))))) ?_
            rintro _ _ ⟨a31_500, n31_500, c31_500, f31_500, a31_501, n31_501, c31_501, f31_501, a31_502, n31_502, c31_502, f31_502, rfl, rfl⟩
            refine ⟨[_, _, _, _, _, _, _, _, _, _], rfl, ?_⟩
            refine WAE.take (i := 6) rfl (by kernel_rfl) (by kernel_rfl) (by kernel_rfl) rfl rfl rfl (OpV.move rfl) ?_
            refine WAE.take (i := 7) rfl (by kernel_rfl) (by kernel_rfl) (by kernel_rfl) rfl rfl rfl (OpV.extract rfl rfl) ?_
            refine WAE.take (i := 8) rfl (by kernel_rfl) (by kernel_rfl) (by kernel_rfl) rfl rfl rfl (OpV.extract rfl rfl) ?_
            refine WAE.all (rs := [10]) (by kernel_rfl) rfl (AllR.cons0 rfl rfl rfl ?_ AllR.nil)
            refine OpH.storeTo (A := [_, _, _, _, _, _, _, _, _]) [_, _, _, _] rfl rfl rfl ts_63 rfl rfl rfl ?_
            refine ⟨[_, _, _, _, _, _, _, _, _, _], rfl, ?_⟩
            refine WAE.rebase (H := []) ?_
            refine WAE.take (i := 11) rfl (by kernel_rfl) (by kernel_rfl) (by kernel_rfl) rfl rfl rfl (OpV.assign rfl) ?_
            refine WAE.done (by kernel_rfl) ?_ _
            exact En.wk _ _ (Sub.cons rfl (Sub.cons rfl (Sub.cons rfl (Sub.cons rfl (Sub.cons rfl (Sub.cons rfl (Sub.nil _))))))) (fun _ h => (((((((((((((h).perm (List.perm_middle (l₁ := [_, _, _, _, _, _, _, _, _, _, _, _, _, _, _, _, _, _, _, _, _, _, _, _, _, _, _, _, _, _, _]))).perm (List.perm_middle (l₁ := [_, _, _, _, _, _, _, _, _, _, _, _, _, _, _, _, _, _, _, _, _, _, _, _, _, _, _, _, _, _, _]))).perm (List.perm_middle (l₁ := [_, _, _, _, _, _, _, _, _, _, _, _, _, _, _, _, _, _, _, _, _, _, _, _, _, _, _, _, _, _, _]))).perm (List.perm_middle (l₁ := [_, _, _, _, _, _, _, _, _, _, _, _, _, _, _, _, _, _, _, _, _, _, _, _, _, _, _, _, _, _, _]))).perm (List.perm_middle (l₁ := [_, _, _, _, _, _, _, _, _, _, _, _, _, _, _, _, _, _, _, _, _, _, _, _, _, _, _, _, _]))).perm (List.perm_middle (l₁ := [_, _, _, _, _, _, _, _, _, _, _, _, _, _, _, _, _]))).perm (List.perm_middle (l₁ := [_, _, _, _, _, _, _, _, _, _, _, _, _, _, _, _, _]))).perm (List.perm_middle (l₁ := [_, _, _, _, _, _, _, _, _, _, _, _, _, _, _, _, _]))).perm (List.perm_middle (l₁ := [_, _, _, _, _, _, _, _, _, _]))).perm (List.perm_middle (l₁ := [_, _, _, _, _, _, _, _, _, _]))).perm (List.perm_middle (l₁ := [_, _, _, _, _, _, _, _, _, _]))).perm (List.perm_middle (l₁ := [_, _, _, _, _, _, _, _, _, _, _, _, _, _, _, _, _]))).sub (.cons_cons _ (.cons_cons _ (.cons_cons _ (.cons_cons _ (.cons_cons _ (.cons_cons _ (.cons_cons _ (.cons_cons _ (.cons_cons _ (.cons_cons _ (.cons_cons _ (.cons_cons _ (.cons _ (.cons _ (.cons _ (.cons _ (.cons _ (.cons _ (.cons _ (.cons _ (.cons _ (.cons _ (.cons _ (.cons _ (.cons _ (.cons _ (.cons _ (.cons _ (.cons _ (.cons _ (.cons _ (.cons _ (.cons _ (.cons _ (.slnil)))))))))))))))))))))))))))))))))))) (KR31 (b31_9, a31_500, n31_500, c31_500, a31_501, n31_501, c31_501, a31_502, n31_502, c31_502, f31_500, f31_501, f31_502, f31_300, a31_300, n31_300, c31_300, f31_301, a31_301, n31_301, c31_301, f31_302, a31_302, n31_302, c31_302, f31_100, a31_100, n31_100, c31_100, f31_101, a31_101, n31_101, c31_101, f31_102, a31_102, n31_102, c31_102) trivial)
   ·
    intro KR8
    refine WC.drawnH [] ([_, _]) (fun _ h => h) (by kernel_rfl) ?_
    refine WAE.take (i := 0) rfl (by kernel_rfl) (by kernel_rfl) (by kernel_rfl) rfl rfl rfl (OpV.loadAll rfl (.tail _ (.head _)) ag_59) ?_
    refine WAE.take (i := 2) rfl (by kernel_rfl) (by kernel_rfl) (by kernel_rfl) rfl rfl rfl (OpV.loadAll rfl (.head _) ag_41) ?_
    refine WAE.take (i := 4) rfl (by kernel_rfl) (by kernel_rfl) (by kernel_rfl) rfl rfl rfl (OpV.move rfl) ?_
    refine WAE.all (rs := [1, 9]) (by kernel_rfl) rfl (AllR.cons rfl rfl rfl rfl ?_ (AllR.cons rfl rfl rfl rfl ?_ AllR.nil))
    ·
     refine OpH.callR (evs.cons rfl (evs.nil)) ca_35 (fun w hs => w_laws_toFlips e8_1 (r0_0.ext hs.below) (r0_1.ext hs.below) (r0_2.ext hs.below)) ?_
     rintro _ _ ⟨a8_100, n8_100, c8_100, f8_100, a8_101, n8_101, c8_101, f8_101, a8_102, n8_102, c8_102, f8_102, rfl, rfl⟩
     refine ⟨[_, _, _], rfl, ?_⟩
     refine WAE.rebase (H := []) ?_
     refine WAE.all (rs := [3, 9]) (by kernel_rfl) rfl (AllR.cons rfl rfl rfl rfl ?_ (AllR.cons rfl rfl rfl rfl ?_ AllR.nil))
     ·
      refine OpH.callR (evs.cons rfl (evs.nil)) ca_25 (fun w hs => w_laws_toCrtc e8_3 (r1_0.ext hs.below) (r1_1.ext hs.below) (r1_2.ext hs.below)) ?_
      rintro _ _ ⟨a8_300, n8_300, c8_300, f8_300, a8_301, n8_301, c8_301, f8_301, a8_302, n8_302, c8_302, f8_302, rfl, rfl⟩
      refine ⟨[_, _, _], rfl, ?_⟩
      refine WAE.rebase (H := []) ?_
      refine WAE.all (rs := [5, 9]) (by kernel_rfl) rfl (AllR.cons rfl rfl rfl rfl ?_ (AllR.cons rfl rfl rfl rfl ?_ AllR.nil))
      ·
       refine OpH.callR (evs.cons rfl (evs.cons rfl (evs.cons rfl (evs.nil)))) ca_34 (fun w hs => w_spec_QueueFlip e8_5 (Ow.rd (hs.mem (.tail _ (.tail _ (.tail _ (.head _)))))) (Ow.rd (hs.mem (.tail _ (.tail _ (.tail _ (.tail _ (.head _))))))) (Ow.rd (hs.mem (.tail _ (.tail _ (.tail _ (.tail _ (.tail _ (.head _)))))))) (Ow.rd (hs.mem (.head _))) (Ow.rd (hs.mem (.tail _ (.head _)))) (Ow.rd (hs.mem (.tail _ (.tail _ (.head _)))))) ?_
       rintro _ _ ⟨a8_500, n8_500, c8_500, f8_500, a8_501, n8_501, c8_501, f8_501, a8_502, n8_502, c8_502, f8_502, rfl, rfl⟩
       refine ⟨[_, _, _], rfl, ?_⟩
       refine WAE.rebase (H := []) ?_
       refine WAE.take (i := 6) rfl (by kernel_rfl) (by kernel_rfl) (by kernel_rfl) rfl rfl rfl (OpV.move rfl) ?_
       refine WAE.take (i := 7) rfl (by kernel_rfl) (by kernel_rfl) (by kernel_rfl) rfl rfl rfl (OpV.extract rfl rfl) ?_
       refine WAE.take (i := 8) rfl (by kernel_rfl) (by kernel_rfl) (by kernel_rfl) rfl rfl rfl (OpV.extract rfl rfl) ?_
       refine WAE.all (rs := [9]) (by kernel_rfl) rfl (AllR.cons rfl rfl rfl rfl ?_ AllR.nil)
       refine OpH.alloc zc_63 ?_
       intro b8_9
       refine ⟨[_], rfl, ?_⟩
       refine WAE.all (rs := [10]) (by kernel_rfl) rfl (AllR.cons0 rfl rfl rfl ?_ AllR.nil)
       refine OpH.storeTo (A := []) [_, _, _, _] rfl rfl rfl ts_63 rfl rfl rfl ?_
       refine ⟨[_], rfl, ?_⟩
       refine WAE.rebase (H := []) ?_
       refine WAE.take (i := 11) rfl (by kernel_rfl) (by kernel_rfl) (by kernel_rfl) rfl rfl rfl (OpV.assign rfl) ?_
       refine WAE.done (by kernel_rfl) ?_ _
       exact En.wk _ _ (Sub.cons rfl (Sub.cons rfl (Sub.cons rfl (Sub.cons rfl (Sub.cons rfl (Sub.nil _)))))) (fun _ h => (((((((h).perm (List.perm_middle (l₁ := [_, _, _, _, _, _, _, _, _, _, _]))).perm (List.perm_middle (l₁ := [_, _, _, _, _, _, _, _, _, _, _]))).perm (List.perm_middle (l₁ := [_, _, _, _, _]))).perm (List.perm_middle (l₁ := [_, _, _, _, _]))).perm (List.perm_middle (l₁ := [_, _, _, _, _]))).perm (List.perm_middle (l₁ := [_, _, _, _, _]))).sub (.cons_cons _ (.cons_cons _ (.cons_cons _ (.cons_cons _ (.cons_cons _ (.cons_cons _ (.cons _ (.cons _ (.cons _ (.cons _ (.cons _ (.cons _ (.slnil)))))))))))))) (KR8 (b8_9, a8_500, n8_500, c8_500, a8_501, n8_501, c8_501, a8_502, n8_502, c8_502, f8_500, f8_501, f8_502, f8_300, a8_300, n8_300, c8_300, f8_301, a8_301, n8_301, c8_301, f8_302, a8_302, n8_302, c8_302, f8_100, a8_100, n8_100, c8_100, f8_101, a8_101, n8_101, c8_101, f8_102, a8_102, n8_102, c8_102) trivial)
      ·
       refine OpH.alloc zc_63 ?_
       intro b8_9
       refine ⟨[_], rfl, ?_⟩
       refine WAE.all (rs := [5]) (by kernel_rfl) rfl (AllR.cons rfl rfl rfl rfl ?_ AllR.nil)
       refine OpH.callR (evs.cons rfl (evs.cons rfl (evs.cons rfl (evs.nil)))) ca_34 (fun w hs => w_spec_QueueFlip e8_5 (Ow.rd (hs.mem (.tail _ (.tail _ (.tail _ (.tail _ (.head _))))))) (Ow.rd (hs.mem (.tail _ (.tail _ (.tail _ (.tail _ (.tail _ (.head _)))))))) (Ow.rd (hs.mem (.tail _ (.tail _ (.tail _ (.tail _ (.tail _ (.tail _ (.head _))))))))) (Ow.rd (hs.mem (.tail _ (.head _)))) (Ow.rd (hs.mem (.tail _ (.tail _ (.head _))))) (Ow.rd (hs.mem (.tail _ (.tail _ (.tail _ (.head _))))))) ?_
       rintro _ _ ⟨a8_500, n8_500, c8_500, f8_500, a8_501, n8_501, c8_501, f8_501, a8_502, n8_502, c8_502, f8_502, rfl, rfl⟩
       refine ⟨[_, _, _, _], rfl, ?_⟩
       refine WAE.take (i := 6) rfl (by kernel_rfl) (by kernel_rfl) (by kernel_rfl) rfl rfl rfl (OpV.move rfl) ?_
       refine WAE.take (i := 7) rfl (by kernel_rfl) (by kernel_rfl) (by kernel_rfl) rfl rfl rfl (OpV.extract rfl rfl) ?_
       refine WAE.take (i := 8) rfl (by kernel_rfl) (by kernel_rfl) (by kernel_rfl) rfl rfl rfl (OpV.extract rfl rfl) ?_
       refine WAE.all (rs := [10]) (by kernel_rfl) rfl (AllR.cons0 rfl rfl rfl ?_ AllR.nil)
       refine OpH.storeTo (A := [_, _, _]) [_, _, _, _] rfl rfl rfl ts_63 rfl rfl rfl ?_
       refine ⟨[_, _, _, _], rfl, ?_⟩
       refine WAE.rebase (H := []) ?_
       refine WAE.take (i := 11) rfl (by kernel_rfl) (by kernel_rfl) (by kernel_rfl) rfl rfl rfl (OpV.assign rfl) ?_
       refine WAE.done (by kernel_rfl) ?_ _
       exact En.wk _ _ (Sub.cons rfl (Sub.cons rfl (Sub.cons rfl (Sub.cons rfl (Sub.cons rfl (Sub.nil _)))))) (fun _ h => (((((((h).perm (List.perm_middle (l₁ := [_, _, _, _, _, _, _, _, _, _, _]))).perm (List.perm_middle (l₁ := [_, _, _, _, _, _, _, _, _, _, _]))).perm (List.perm_middle (l₁ := [_, _, _, _]))).perm (List.perm_middle (l₁ := [_, _, _, _]))).perm (List.perm_middle (l₁ := [_, _, _, _]))).perm (List.perm_middle (l₁ := [_, _, _, _, _]))).sub (.cons_cons _ (.cons_cons _ (.cons_cons _ (.cons_cons _ (.cons_cons _ (.cons_cons _ (.cons _ (.cons _ (.cons _ (.cons _ (.cons _ (.cons _ (.slnil)))))))))))))) (KR8 (b8_9, a8_500, n8_500, c8_500, a8_501, n8_501, c8_501, a8_502, n8_502, c8_502, f8_500, f8_501, f8_502, f8_300, a8_300, n8_300, c8_300, f8_301, a8_301, n8_301, c8_301, f8_302, a8_302, n8_302, c8_302, f8_100, a8_100, n8_100, c8_100, f8_101, a8_101, n8_101, c8_101, f8_102, a8_102, n8_102, c8_102) trivial)
     ·
      refine OpH.alloc zc_63 ?_
      intro b8_9
      refine ⟨[_], rfl, ?_⟩
      refine WAE.all (rs := [3]) (by kernel_rfl) rfl (AllR.cons rfl rfl rfl rfl ?_ AllR.nil)
      refine OpH.callR (evs.cons rfl (evs.nil)) ca_25 (fun w hs => w_laws_toCrtc e8_3 (r1_0.ext hs.below) (r1_1.ext hs.below) (r1_2.ext hs.below)) ?_
      rintro _ _ ⟨a8_300, n8_300, c8_300, f8_300, a8_301, n8_301, c8_301, f8_301, a8_302, n8_302, c8_302, f8_302, rfl, rfl⟩
      refine ⟨[_, _, _, _], rfl, ?_⟩
      refine WAE.all (rs := [5]) (by kernel_rfl) rfl (AllR.cons rfl rfl rfl rfl ?_ AllR.nil)
      refine OpH.callR (evs.cons rfl (evs.cons rfl (evs.cons rfl (evs.nil)))) ca_34 (fun w hs => w_spec_QueueFlip e8_5 (Ow.rd (hs.mem (.tail _ (.tail _ (.tail _ (.tail _ (.head _))))))) (Ow.rd (hs.mem (.tail _ (.tail _ (.tail _ (.tail _ (.tail _ (.head _)))))))) (Ow.rd (hs.mem (.tail _ (.tail _ (.tail _ (.tail _ (.tail _ (.tail _ (.head _))))))))) (Ow.rd (hs.mem (.head _))) (Ow.rd (hs.mem (.tail _ (.head _)))) (Ow.rd (hs.mem (.tail _ (.tail _ (.head _)))))) ?_
      rintro _ _ ⟨a8_500, n8_500, c8_500, f8_500, a8_501, n8_501, c8_501, f8_501, a8_502, n8_502, c8_502, f8_502, rfl, rfl⟩
      refine ⟨[_, _, _, _, _, _, _], rfl, ?_⟩
      refine WAE.take (i := 6) rfl (by kernel_rfl) (by kernel_rfl) (by kernel_rfl) rfl rfl rfl (OpV.move rfl) ?_
      refine WAE.take (i := 7) rfl (by kernel_rfl) (by kernel_rfl) (by kernel_rfl) rfl rfl rfl (OpV.extract rfl rfl) ?_
      refine WAE.take (i := 8) rfl (by kernel_rfl) (by kernel_rfl) (by kernel_rfl) rfl rfl rfl (OpV.extract rfl rfl) ?_
      refine WAE.all (rs := [10]) (by kernel_rfl) rfl (AllR.cons0 rfl rfl rfl ?_ AllR.nil)
      refine OpH.storeTo (A := [_, _, _, _, _, _]) [_, _, _, _] rfl rfl rfl ts_63 rfl rfl rfl ?_
      refine ⟨[_, _, _, _, _, _, _], rfl, ?_⟩
      refine WAE.rebase (H := []) ?_
      refine WAE.take (i := 11) rfl (by kernel_rfl) (by kernel_rfl) (by kernel_rfl) rfl rfl rfl (OpV.assign rfl) ?_
      refine WAE.done (by kernel_rfl) ?_ _
      exact En.wk _ _ (Sub.cons rfl (Sub.cons rfl (Sub.cons rfl (Sub.cons rfl (Sub.cons rfl (Sub.nil _)))))) (fun _ h => (((((((h).perm (List.perm_middle (l₁ := [_, _, _, _, _, _, _, _, _, _, _]))).perm (List.perm_middle (l₁ := [_, _, _, _, _, _, _, _, _, _, _]))).perm (List.perm_middle (l₁ := [_, _, _, _]))).perm (List.perm_middle (l₁ := [_, _, _, _]))).perm (List.perm_middle (l₁ := [_, _, _, _]))).perm (List.perm_middle (l₁ := [_, _, _, _, _, _, _, _]))).sub (.cons_cons _ (.cons_cons _ (.cons_cons _ (.cons_cons _ (.cons_cons _ (.cons_cons _ (.cons _ (.cons _ (.cons _ (.cons _ (.cons _ (.cons _ (.slnil)))))))))))))) (KR8 (b8_9, a8_500, n8_500, c8_500, a8_501, n8_501, c8_501, a8_502, n8_502, c8_502, f8_500, f8_501, f8_502, f8_300, a8_300, n8_300, c8_300, f8_301, a8_301, n8_301, c8_301, f8_302, a8_302, n8_302, c8_302, f8_100, a8_100, n8_100, c8_100, f8_101, a8_101, n8_101, c8_101, f8_102, a8_102, n8_102, c8_102) trivial)
    ·
     refine OpH.alloc zc_63 ?_
     intro b8_9
     refine ⟨[_], rfl, ?_⟩
     refine WAE.all (rs := [1]) (by kernel_rfl) rfl (AllR.cons rfl rfl rfl rfl ?_ AllR.nil)
     refine OpH.callR (evs.cons rfl (evs.nil)) ca_35 (fun w hs => w_laws_toFlips e8_1 (r0_0.ext hs.below) (r0_1.ext hs.below) (r0_2.ext hs.below)) ?_
     rintro _ _ ⟨a8_100, n8_100, c8_100, f8_100, a8_101, n8_101, c8_101, f8_101, a8_102, n8_102, c8_102, f8_102, rfl, rfl⟩
     refine ⟨[_, _, _, _], rfl, ?_⟩
     refine WAE.all (rs := [3]) (by kernel_rfl) rfl (AllR.cons rfl rfl rfl rfl ?_ AllR.nil)
     refine OpH.callR (evs.cons rfl (evs.nil)) ca_25 (fun w hs => w_laws_toCrtc e8_3 (r1_0.ext hs.below) (r1_1.ext hs.below) (r1_2.ext hs.below)) ?_
     rintro _ _ ⟨a8_300, n8_300, c8_300, f8_300, a8_301, n8_301, c8_301, f8_301, a8_302, n8_302, c8_302, f8_302, rfl, rfl⟩
     refine ⟨[_, _, _, _, _, _, _], rfl, ?_⟩
     refine WAE.all (rs := [5]) (by kernel_rfl) rfl (AllR.cons rfl rfl rfl rfl ?_ AllR.nil)
     refine OpH.callR (evs.cons rfl (evs.cons rfl (evs.cons rfl (evs.nil)))) ca_34 (fun w hs => w_spec_QueueFlip e8_5 (Ow.rd (hs.mem (.tail _ (.tail _ (.tail _ (.head _)))))) (Ow.rd (hs.mem (.tail _ (.tail _ (.tail _ (.tail _ (.head _))))))) (Ow.rd (hs.mem (.tail _ (.tail _ (.tail _ (.tail _ (.tail _ (.head _)))))))) (Ow.rd (hs.mem (.head _))) (Ow.rd (hs.mem (.tail _ (.head _)))) (Ow.rd (hs.mem (.tail _ (.tail _ (.head _)))))) ?_
     rintro _ _ ⟨a8_500, n8_500, c8_500, f8_500, a8_501, n8_501, c8_501, f8_501, a8_502, n8_502, c8_502, f8_502, rfl, rfl⟩
     refine ⟨[_, _, _, _, _, _, _, _, _, _], rfl, ?_⟩
     refine WAE.take (i := 6) rfl (by kernel_rfl) (by kernel_rfl) (by kernel_rfl) rfl rfl rfl (OpV.move rfl) ?_
     refine WAE.take (i := 7) rfl (by kernel_rfl) (by kernel_rfl) (by kernel_rfl) rfl rfl rfl (OpV.extract rfl rfl) ?_
     refine WAE.take (i := 8) rfl (by kernel_rfl) (by kernel_rfl) (by kernel_rfl) rfl rfl rfl (OpV.extract rfl rfl) ?_
     refine WAE.all (rs := [10]) (by kernel_rfl) rfl (AllR.cons0 rfl rfl rfl ?_ AllR.nil)
     refine OpH.storeTo (A := [_, _, _, _, _, _, _, _, _]) [_, _, _, _] rfl rfl rfl ts_63 rfl rfl rfl ?_
     refine ⟨[_, _, _, _, _, _, _, _, _, _], rfl, ?_⟩
     refine WAE.rebase (H := []) ?_
     refine WAE.take (i := 11) rfl (by kernel_rfl) (by kernel_rfl) (by kernel_rfl) rfl rfl rfl (OpV.assign rfl) ?_
     refine WAE.done (by kernel_rfl) ?_ _
     exact En.wk _ _ (Sub.cons rfl (Sub.cons rfl (Sub.cons rfl (Sub.cons rfl (Sub.cons rfl (Sub.nil _)))))) (fun _ h => (((((((h).perm (List.perm_middle (l₁ := [_, _, _, _, _, _, _, _, _, _, _]))).perm (List.perm_middle (l₁ := [_, _, _, _, _, _, _, _, _, _, _]))).perm (List.perm_middle (l₁ := [_, _, _, _]))).perm (List.perm_middle (l₁ := [_, _, _, _]))).perm (List.perm_middle (l₁ := [_, _, _, _]))).perm (List.perm_middle (l₁ := [_, _, _, _, _, _, _, _, _, _, _]))).sub (.cons_cons _ (.cons_cons _ (.cons_cons _ (.cons_cons _ (.cons_cons _ (.cons_cons _ (.cons _ (.cons _ (.cons _ (.cons _ (.cons _ (.cons _ (.slnil)))))))))))))) (KR8 (b8_9, a8_500, n8_500, c8_500, a8_501, n8_501, c8_501, a8_502, n8_502, c8_502, f8_500, f8_501, f8_502, f8_300, a8_300, n8_300, c8_300, f8_301, a8_301, n8_301, c8_301, f8_302, a8_302, n8_302, c8_302, f8_100, a8_100, n8_100, c8_100, f8_101, a8_101, n8_101, c8_101, f8_102, a8_102, n8_102, c8_102) trivial)

end Go.Proofs.YtdbnoiiacpmbpaaGreat
