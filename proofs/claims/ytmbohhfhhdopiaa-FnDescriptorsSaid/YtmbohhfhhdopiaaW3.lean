/- Walks: the program computes the pure functions. -/
import Derived.Test.YtmbohhfhhdopiaaW2
namespace Go.Proofs.Ytmbohhfhhdopiaa
open Go.RowKit K
set_option maxRecDepth 100000
set_option maxHeartbeats 4000000

theorem w_impl_readDescriptor {a_p0 : ByteArray} {r : MonitorT × Bool}  (h : impl_readDescriptor a_p0 = some r) {w : World}    :
    Calls Try.prog 53 #[.string a_p0] w (fun en w' => ∃ rv G, en = .returned rv ∧ (∃ (a0_0 : Option Addr) (n0_0 : Nat) (c0_0 : Nat) (f0_0 : List Nat), rv = .tuple #[.agg #[.string r.1.Name, .slice a0_0 n0_0 c0_0, .int .i64 r.1.Stretch], .bool r.2] ∧ G = [Chunk.own tMode f0_0 a0_0 n0_0 c0_0 r.1.Modes]) ∧ St w G w') := by
 unfold impl_readDescriptor at h
 refine enter (vs := [_]) Try.func53 rfl rfl rfl rfl ?_
 refine WC.seq (WC.region ?_)
 refine WL.heavy rfl rfl rfl (OpH.alloc zc_47 ?_)
 intro b0_0
 refine sp (OpV.assign rfl) ?_
 refine WL.nil (En.next (WC.seq (WC.seq ?_)))
 obtain ⟨q1_11, e1_11, h⟩ := bnd h
 refine WC.region ?_
 refine sp (OpV.move rfl) ?_
 refine sp (OpV.lenS rfl us_9 rfl) ?_
 refine sp (OpV.lss rfl rfl) ?_
 refine sp (OpV.move rfl) ?_
 refine Lt.ofWL.orQ 13 21 20 (p := ?pz1) (rest := ?qz1) (B := q1_11) rfl (fun hz => orO_t e1_11 hz) ?Tz1 ?Fz1 ?az1 ?bz1 ?cz1 ?dz1 ?ez1
 case Tz1 =>
  intro hcz1 hkz1
  refine sk ?_
  refine sk ?_
  refine sk ?_
  refine sk ?_
  refine sk ?_
  refine sk ?_
  refine sk ?_
  refine hkz1 _ ?_
  repeat (first | exact Sub.refl _ | refine Sub.skip rfl ?_)
 case Fz1 =>
  intro hcz1 hkz1
  have hqz1 := orO_f e1_11 hcz1
  obtain ⟨x1_7, e1_7, hqz1⟩ := bnd hqz1
  obtain rfl := Option.some.inj hqz1
  refine sp (OpV.move rfl) ?_
  refine sp (OpV.lenS rfl us_9 rfl) ?_
  refine sp (OpV.move rfl) ?_
  refine sp (OpV.sidxR rfl rfl us_9 e1_7) ?_
  refine sp (OpV.convR rfl uS_5 ui_3_i64) ?_
  refine sp (OpV.addR rfl rfl) ?_
  refine sp (OpV.lss rfl rfl) ?_
  refine hkz1 _ ?_ ?_
  exact rfl
  repeat (first | exact Sub.refl _ | refine Sub.skip rfl ?_)
 case az1 => exact rfl
 case bz1 => exact rfl
 case cz1 => exact rfl
 case dz1 => exact rfl
 refine WL.nil (En.next ?_)
 refine WC.cond rfl ?_ ?_
 ·
  intro hc_1
  replace h := ifO_t hc_1 h
  refine WC.seq (WC.region ?_)
  refine sp (OpV.build (evps.nil) bd_47_) ?_
  refine WL.heavy0 rfl rfl (OpH.storeTo (A := []) [_, _, _] rfl rfl rfl ts_47 rfl rfl rfl ?_)
  refine sp (OpV.assign rfl) ?_
  refine WL.nil (En.next (WC.ret (En.then_ret ?_)))
  refine En.ret2 rfl (Res.cell rfl (.head _) ag_47) (Res.tmp rfl) ?_
  obtain rfl := Option.some.inj h
  intro w' hs
  have hs := ((hs).ownNil (A := tMode)).sub (.cons_cons _ (.cons _ (.slnil)))
  exact ⟨_, _, rfl, ⟨.none, 0, 0, [], rfl, rfl⟩, hs⟩
 ·
  intro hc_1
  replace h := ifO_f hc_1 h
  refine WC.skip (En.next (WC.seq ?_))
  obtain ⟨x3_1, e3_1, h⟩ := bnd h
  refine WC.region ?_
  refine sp (OpV.move rfl) ?_
  refine sp (OpV.sidxR rfl rfl us_9 e3_1) ?_
  refine sp (OpV.convR rfl uS_5 ui_3_i64) ?_
  refine sp (OpV.addR rfl rfl) ?_
  refine sp (OpV.assign rfl) ?_
  refine WL.nil (En.next (WC.seq ?_))
  obtain ⟨x4_2, e4_2, h⟩ := bnd h
  obtain ⟨x4_5, e4_5, h⟩ := bnd h
  refine WC.drawnH [] ([_]) (fun _ h => h) (by kernel_rfl) ?_
  refine WAE.take (i := 0) rfl (by kernel_rfl) (by kernel_rfl) (by kernel_rfl) rfl rfl rfl (OpV.move rfl) ?_
  refine WAE.take (i := 1) rfl (by kernel_rfl) (by kernel_rfl) (by kernel_rfl) rfl rfl rfl (OpV.move rfl) ?_
  refine WAE.take (i := 2) rfl (by kernel_rfl) (by kernel_rfl) (by kernel_rfl) rfl rfl rfl (OpV.ssubLH rfl rfl rfl us_9 e4_2) ?_
  refine WAE.take (i := 3) rfl (by kernel_rfl) (by kernel_rfl) (by kernel_rfl) rfl rfl rfl (OpV.move rfl) ?_
  refine WAE.take (i := 4) rfl (by kernel_rfl) (by kernel_rfl) (by kernel_rfl) rfl rfl rfl (OpV.move rfl) ?_
  refine WAE.take (i := 5) rfl (by kernel_rfl) (by kernel_rfl) (by kernel_rfl) rfl rfl rfl (OpV.sidxR rfl rfl us_9 e4_5) ?_
  refine WAE.take (i := 6) rfl (by kernel_rfl) (by kernel_rfl) (by kernel_rfl) rfl rfl rfl (OpV.convR rfl uS_5 ui_3_i64) ?_
  refine WAE.take (i := 7) rfl (by kernel_rfl) (by kernel_rfl) (by kernel_rfl) rfl rfl rfl (OpV.build (evps.cons rfl (evps.cons rfl (evps.nil))) (bd_47_0_2 _ _)) ?_
  refine WAE.all (rs := [8]) (by kernel_rfl) rfl (AllR.cons rfl rfl rfl rfl ?_ AllR.nil)
  refine OpH.alloc zc_47 ?_
  intro b4_8
  refine ⟨[_], rfl, ?_⟩
  refine WAE.all (rs := [9]) (by kernel_rfl) rfl (AllR.cons0 rfl rfl rfl ?_ AllR.nil)
  refine OpH.storeTo (A := []) [_, _, _] rfl rfl rfl ts_47 rfl rfl rfl ?_
  refine ⟨[_], rfl, ?_⟩
  refine WAE.rebase (H := []) ?_
  refine WAE.done (by kernel_rfl) ?_ _
  refine En.next (WC.seq ?_)
  obtain ⟨x5_3, e5_3, h⟩ := bnd h
  refine WC.region ?_
  refine sp (OpV.move rfl) ?_
  refine sp (OpV.move rfl) ?_
  refine sp (OpV.addR rfl rfl) ?_
  refine sp (OpV.ssubL rfl rfl us_9 e5_3) ?_
  refine sp (OpV.assign rfl) ?_
  refine WL.nil (En.next (WC.seq (WC.seq ?_)))
  obtain ⟨x6_3, e6_3, h⟩ := bnd h
  refine WC.region ?_
  refine sp (OpV.move rfl) ?_
  refine sp (OpV.move rfl) ?_
  refine sp (OpV.addR rfl rfl) ?_
  refine sp (OpV.sidxR rfl rfl us_9 e6_3) ?_
  refine sp (OpV.convR rfl uS_5 ui_3_i64) ?_
  refine sp (OpV.move rfl) ?_
  refine WL.nil (En.next (WC.block ?_))
  obtain ⟨zy0, ezy0, h⟩ := bnd h
  refine WC.cut (X := ((List ModeT)) × ((Option Addr) × Nat × Nat × (List Nat))) (.exit 0) (fun x => zy0 = .inl x.1) (fun x => match x with | (x_0e, (ax_0e, nx_0e, cx_0e, fx_0e)) => [(2, .pointer (some ⟨b0_0, 0, .none⟩)), (5, .pointer (some ⟨b4_8, 0, .none⟩))]) (fun x => match x with | (x_0e, (ax_0e, nx_0e, cx_0e, fx_0e)) => [Chunk.box b0_0 47 [.string (⟨#[]⟩ : ByteArray), .slice .none 0 0, .int .i64 0], Chunk.box b4_8 47 [.string x4_2, .slice ax_0e nx_0e cx_0e, .int .i64 (wr x4_5)], Chunk.own tMode fx_0e ax_0e nx_0e cx_0e x_0e]) ?_ ?_
  ·
   rintro ⟨x_0e, ⟨ax_0e, nx_0e, cx_0e, fx_0e⟩⟩ hx
   replace hx : .inl x_0e = zy0 := hx.symm
   subst hx
   replace h := fork_l h
   show En _ _ _ _ [(2, .pointer (some ⟨b0_0, 0, .none⟩)), (5, .pointer (some ⟨b4_8, 0, .none⟩))] [Chunk.box b0_0 47 [.string (⟨#[]⟩ : ByteArray), .slice .none 0 0, .int .i64 0], Chunk.box b4_8 47 [.string x4_2, .slice ax_0e nx_0e cx_0e, .int .i64 (wr x4_5)], Chunk.own tMode fx_0e ax_0e nx_0e cx_0e x_0e]
   refine En.block_exit (En.next (WC.seq (WC.region ?_)))
   refine sp (OpV.loadAll rfl (.tail _ (.head _)) ag_47) ?_
   refine WL.heavy0 rfl rfl (OpH.storeTo (A := []) [_, _, _] rfl rfl rfl ts_47 rfl rfl rfl ?_)
   refine sp (OpV.assign rfl) ?_
   refine WL.nil (En.next (WC.ret ?_))
   refine En.ret2 rfl (Res.cell rfl (.head _) ag_47) (Res.tmp rfl) ?_
   obtain rfl := Option.some.inj h
   intro w' hs
   have hs := ((hs).perm (List.perm_middle (l₁ := [_, _]))).sub (.cons_cons _ (.cons _ (.cons _ (.slnil))))
   exact ⟨_, _, rfl, ⟨ax_0e, nx_0e, cx_0e, fx_0e, rfl, rfl⟩, hs⟩
  ·
   intro zK0_0
   refine WC.loopP (G := (Option Addr) × Nat × Nat × (List Nat)) (fun s g => match s, g with | (x_0, v_0, v1_0), (ax_0, nx_0, cx_0, fx_0) => [(2, .pointer (some ⟨b0_0, 0, .none⟩)), (5, .pointer (some ⟨b4_8, 0, .none⟩)), (6, .string v_0), (43, .int .i64 (wr x6_3)), (44, .int .i64 v1_0)]) (fun s g => match s, g with | (x_0, v_0, v1_0), (ax_0, nx_0, cx_0, fx_0) => [Chunk.box b0_0 47 [.string (⟨#[]⟩ : ByteArray), .slice .none 0 0, .int .i64 0], Chunk.box b4_8 47 [.string x4_2, .slice ax_0 nx_0 cx_0, .int .i64 (wr x4_5)], Chunk.own tMode fx_0 ax_0 nx_0 cx_0 x_0]) ([], x5_3, 0) (.none, 0, 0, []) ezy0 (by exact Sub.cons rfl (Sub.cons rfl (Sub.cons rfl (Sub.cons rfl (Sub.cons rfl (Sub.nil _)))))) (by exact (fun _ h => (((h).ownNil (A := tMode)).perm (List.perm_middle (l₁ := [_]))).perm (List.perm_middle (l₁ := [_, _])))) ?_
   rintro zm0 ⟨x_0, v_0, v1_0⟩ ⟨ax_0, nx_0, cx_0, fx_0⟩ zo0 zf0 zb0 ze0
   have zh0 : impl_readDescriptor_L0 x6_3 x_0 v_0 v1_0 = some zo0 := zf0
   unfold impl_readDescriptor_L0 at zh0
   show WC _ _ _ _ _ [(2, .pointer (some ⟨b0_0, 0, .none⟩)), (5, .pointer (some ⟨b4_8, 0, .none⟩)), (6, .string v_0), (43, .int .i64 (wr x6_3)), (44, .int .i64 v1_0)] [Chunk.box b0_0 47 [.string (⟨#[]⟩ : ByteArray), .slice .none 0 0, .int .i64 0], Chunk.box b4_8 47 [.string x4_2, .slice ax_0 nx_0 cx_0, .int .i64 (wr x4_5)], Chunk.own tMode fx_0 ax_0 nx_0 cx_0 x_0]
   refine WC.seq (WC.region ?_)
   refine sp (OpV.lss rfl rfl) ?_
   refine WL.nil (En.next (WC.seq ?_))
   refine WC.cond rfl ?_ ?_
   ·
    intro hc_2
    replace zh0 := ifO_t hc_2 zh0
    refine WC.skip (En.next (WC.seq (WC.block (WC.seq (WC.seq (WC.region ?_))))))
    refine sp (OpV.move rfl) ?_
    refine sp (OpV.lenS rfl us_9 rfl) ?_
    refine sp (OpV.lss rfl rfl) ?_
    refine WL.nil (En.next ?_)
    refine WC.cond rfl ?_ ?_
    ·
     intro hc_3
     replace zh0 := ifO_t hc_3 zh0
     refine WC.seq (WC.region ?_)
     refine sp (OpV.build (evps.nil) bd_47_) ?_
     refine WL.heavy0 rfl rfl (OpH.storeTo (A := []) [_, _, _] rfl rfl rfl ts_47 rfl rfl rfl ?_)
     refine sp (OpV.assign rfl) ?_
     refine WL.nil (En.next (WC.ret (En.then_ret (En.block_ret (En.then_ret (En.then_ret (En.block_ret (En.then_ret ?_))))))))
     refine En.ret2 rfl (Res.cell rfl (.head _) ag_47) (Res.tmp rfl) ?_
     have hx := exitP ze0 zh0
     subst hx
     replace h := fork_r h
     obtain rfl := Option.some.inj h
     intro w' hs
     have hs := ((hs).ownNil (A := tMode)).sub (.cons_cons _ (.cons _ (.cons _ (.cons _ (.slnil)))))
     exact ⟨_, _, rfl, ⟨.none, 0, 0, [], rfl, rfl⟩, hs⟩
    ·
     intro hc_3
     replace zh0 := ifO_f hc_3 zh0
     refine WC.skip (En.next (WC.seq ?_))
     obtain ⟨x10_1, e10_1, zh0⟩ := bnd zh0
     obtain ⟨x10_5, e10_5, zh0⟩ := bnd zh0
     obtain ⟨x10_10, e10_10, zh0⟩ := bnd zh0
     refine WC.drawnH [] ([_, _, _]) (fun _ h => h) (by kernel_rfl) ?_
     refine WAE.take (i := 0) rfl (by kernel_rfl) (by kernel_rfl) (by kernel_rfl) rfl rfl rfl (OpV.move rfl) ?_
     refine WAE.take (i := 1) rfl (by kernel_rfl) (by kernel_rfl) (by kernel_rfl) rfl rfl rfl (OpV.sidxR rfl rfl us_9 e10_1) ?_
     refine WAE.take (i := 2) rfl (by kernel_rfl) (by kernel_rfl) (by kernel_rfl) rfl rfl rfl (OpV.convR rfl uS_5 ui_3_i64) ?_
     refine WAE.take (i := 3) rfl (by kernel_rfl) (by kernel_rfl) (by kernel_rfl) rfl rfl rfl (OpV.shlR rfl rfl rfl) ?_
     refine WAE.take (i := 4) rfl (by kernel_rfl) (by kernel_rfl) (by kernel_rfl) rfl rfl rfl (OpV.move rfl) ?_
     refine WAE.take (i := 5) rfl (by kernel_rfl) (by kernel_rfl) (by kernel_rfl) rfl rfl rfl (OpV.sidxR rfl rfl us_9 e10_5) ?_
     refine WAE.take (i := 6) rfl (by kernel_rfl) (by kernel_rfl) (by kernel_rfl) rfl rfl rfl (OpV.convR rfl uS_5 ui_3_i64) ?_
     refine WAE.take (i := 7) rfl (by kernel_rfl) (by kernel_rfl) (by kernel_rfl) rfl rfl rfl (OpV.shlR rfl rfl rfl) ?_
     refine WAE.take (i := 8) rfl (by kernel_rfl) (by kernel_rfl) (by kernel_rfl) rfl rfl rfl (OpV.orR rfl rfl) ?_
     refine WAE.take (i := 9) rfl (by kernel_rfl) (by kernel_rfl) (by kernel_rfl) rfl rfl rfl (OpV.move rfl) ?_
     refine WAE.take (i := 10) rfl (by kernel_rfl) (by kernel_rfl) (by kernel_rfl) rfl rfl rfl (OpV.sidxR rfl rfl us_9 e10_10) ?_
     refine WAE.take (i := 11) rfl (by kernel_rfl) (by kernel_rfl) (by kernel_rfl) rfl rfl rfl (OpV.convR rfl uS_5 ui_3_i64) ?_
     refine WAE.take (i := 12) rfl (by kernel_rfl) (by kernel_rfl) (by kernel_rfl) rfl rfl rfl (OpV.orR rfl rfl) ?_
     refine WAE.take (i := 13) rfl (by kernel_rfl) (by kernel_rfl) (by kernel_rfl) rfl rfl rfl (OpV.build (evps.cons rfl (evps.nil)) (bd_33_0 _)) ?_
     refine WAE.all (rs := [14]) (by kernel_rfl) rfl (AllR.cons rfl rfl rfl rfl ?_ AllR.nil)
     refine OpH.alloc zc_33 ?_
     intro b10_14
     refine ⟨[_], rfl, ?_⟩
     refine WAE.all (rs := [15]) (by kernel_rfl) rfl (AllR.cons0 rfl rfl rfl ?_ AllR.nil)
     refine OpH.storeTo (A := []) [_, _, _, _, _, _, _, _, _] rfl rfl rfl ts_33 rfl rfl rfl ?_
     refine ⟨[_], rfl, ?_⟩
     refine WAE.rebase (H := []) ?_
     refine WAE.done (by kernel_rfl) ?_ _
     refine En.next (WC.seq (WC.seq ?_))
     obtain ⟨⟨x11_0a, x11_0b⟩, e11_0, zh0⟩ := bnd zh0
     refine WC.region ?_
     refine WL.heavy rfl rfl rfl (OpH.callX (evs.cons rfl (evs.nil)) ca_52 (fun w hs => w_impl_modeNumbers e11_0 hs) ?_)
     rintro _ _ ⟨b11_00p, rfl, rfl⟩
     refine sp (OpV.len rfl si_79 rfl) ?_
     refine sp (OpV.move rfl) ?_
     refine WL.nil (En.next (WC.block ?_))
     refine WC.unroll 9 (RC.succ ?_)
     refine WC.seq (WC.region ?_)
     refine sp (OpV.bq (b := true) (OpV.lss rfl rfl) (by rfl)) ?_
     refine WL.nil (En.next (WC.seq ?_))
     refine WC.cond rfl (fun _ => ?_) (fun hc => by cases hc)
     refine WC.skip (En.next (WC.seq (WC.block (WC.seq (WC.region ?_)))))
     refine sp (OpV.move rfl) ?_
     refine sp (OpV.idxA rfl rfl se_79 rfl (by decide)) ?_
     refine sp (OpV.loadBox rfl pt_82 (.head _) rfl) ?_
     refine sp (OpV.assign rfl) ?_
     refine sp (OpV.assign rfl) ?_
     refine WL.nil (En.next ?_)
     obtain ⟨x14r1_4, e14r1_4, zh0⟩ := bnd zh0
     refine WC.region ?_
     refine sp (OpV.move rfl) ?_
     refine sp (OpV.move rfl) ?_
     refine sp (OpV.move rfl) ?_
     refine sp (OpV.iq (n := 3) (OpV.addR rfl rfl) (by rfl)) ?_
     refine sp (OpV.sidxR rfl rfl us_9 e14r1_4) ?_
     refine sp (OpV.convR rfl uS_5 ui_3_i64) ?_
     refine sp (OpV.nilCheck rfl) ?_
     refine WL.heavy0 rfl rfl (OpH.storeTo (A := [_]) [_, _, _, _, _, _, _, _, _] rfl rfl rfl ts_3 rfl rfl rfl ?_)
     refine WL.nil (En.block_norm (En.next (WC.region ?_)))
     refine sp (OpV.iq (n := 1) (OpV.addR rfl rfl) (by rfl)) ?_
     refine sp (OpV.move rfl) ?_
     refine WL.nil ?_
     refine En.again (RC.succ ?_)
     refine WC.seq (WC.region ?_)
     refine sp (OpV.bq (b := true) (OpV.lss rfl rfl) (by rfl)) ?_
     refine WL.nil (En.next (WC.seq ?_))
     refine WC.cond rfl (fun _ => ?_) (fun hc => by cases hc)
     refine WC.skip (En.next (WC.seq (WC.block (WC.seq (WC.region ?_)))))
     refine sp (OpV.move rfl) ?_
     refine sp (OpV.idxA rfl rfl se_79 rfl (by decide)) ?_
     refine sp (OpV.loadBox rfl pt_82 (.head _) rfl) ?_
     refine sp (OpV.assign rfl) ?_
     refine sp (OpV.assign rfl) ?_
     refine WL.nil (En.next ?_)
     obtain ⟨x14r2_4, e14r2_4, zh0⟩ := bnd zh0
     refine WC.region ?_
     refine sp (OpV.move rfl) ?_
     refine sp (OpV.move rfl) ?_
     refine sp (OpV.move rfl) ?_
     refine sp (OpV.iq (n := 4) (OpV.addR rfl rfl) (by rfl)) ?_
     refine sp (OpV.sidxR rfl rfl us_9 e14r2_4) ?_
     refine sp (OpV.convR rfl uS_5 ui_3_i64) ?_
     refine sp (OpV.nilCheck rfl) ?_
     refine WL.heavy0 rfl rfl (OpH.storeTo (A := [_]) [_, _, _, _, _, _, _, _, _] rfl rfl rfl ts_3 rfl rfl rfl ?_)
     refine WL.nil (En.block_norm (En.next (WC.region ?_)))
     refine sp (OpV.iq (n := 2) (OpV.addR rfl rfl) (by rfl)) ?_
     refine sp (OpV.move rfl) ?_
     refine WL.nil ?_
     refine En.again (RC.succ ?_)
     refine WC.seq (WC.region ?_)
     refine sp (OpV.bq (b := true) (OpV.lss rfl rfl) (by rfl)) ?_
     refine WL.nil (En.next (WC.seq ?_))
     refine WC.cond rfl (fun _ => ?_) (fun hc => by cases hc)
     refine WC.skip (En.next (WC.seq (WC.block (WC.seq (WC.region ?_)))))
     refine sp (OpV.move rfl) ?_
     refine sp (OpV.idxA rfl rfl se_79 rfl (by decide)) ?_
     refine sp (OpV.loadBox rfl pt_82 (.head _) rfl) ?_
     refine sp (OpV.assign rfl) ?_
     refine sp (OpV.assign rfl) ?_
     refine WL.nil (En.next ?_)
     obtain ⟨x14r3_4, e14r3_4, zh0⟩ := bnd zh0
     refine WC.region ?_
     refine sp (OpV.move rfl) ?_
     refine sp (OpV.move rfl) ?_
     refine sp (OpV.move rfl) ?_
     refine sp (OpV.iq (n := 5) (OpV.addR rfl rfl) (by rfl)) ?_
     refine sp (OpV.sidxR rfl rfl us_9 e14r3_4) ?_
     refine sp (OpV.convR rfl uS_5 ui_3_i64) ?_
     refine sp (OpV.nilCheck rfl) ?_
     refine WL.heavy0 rfl rfl (OpH.storeTo (A := [_]) [_, _, _, _, _, _, _, _, _] rfl rfl rfl ts_3 rfl rfl rfl ?_)
     refine WL.nil (En.block_norm (En.next (WC.region ?_)))
     refine sp (OpV.iq (n := 3) (OpV.addR rfl rfl) (by rfl)) ?_
     refine sp (OpV.move rfl) ?_
     refine WL.nil ?_
     refine En.again (RC.succ ?_)
     refine WC.seq (WC.region ?_)
     refine sp (OpV.bq (b := true) (OpV.lss rfl rfl) (by rfl)) ?_
     refine WL.nil (En.next (WC.seq ?_))
     refine WC.cond rfl (fun _ => ?_) (fun hc => by cases hc)
     refine WC.skip (En.next (WC.seq (WC.block (WC.seq (WC.region ?_)))))
     refine sp (OpV.move rfl) ?_
     refine sp (OpV.idxA rfl rfl se_79 rfl (by decide)) ?_
     refine sp (OpV.loadBox rfl pt_82 (.head _) rfl) ?_
     refine sp (OpV.assign rfl) ?_
     refine sp (OpV.assign rfl) ?_
     refine WL.nil (En.next ?_)
     obtain ⟨x14r4_4, e14r4_4, zh0⟩ := bnd zh0
     refine WC.region ?_
     refine sp (OpV.move rfl) ?_
     refine sp (OpV.move rfl) ?_
     refine sp (OpV.move rfl) ?_
     refine sp (OpV.iq (n := 6) (OpV.addR rfl rfl) (by rfl)) ?_
     refine sp (OpV.sidxR rfl rfl us_9 e14r4_4) ?_
     refine sp (OpV.convR rfl uS_5 ui_3_i64) ?_
     refine sp (OpV.nilCheck rfl) ?_
     refine WL.heavy0 rfl rfl (OpH.storeTo (A := [_]) [_, _, _, _, _, _, _, _, _] rfl rfl rfl ts_3 rfl rfl rfl ?_)
     refine WL.nil (En.block_norm (En.next (WC.region ?_)))
     refine sp (OpV.iq (n := 4) (OpV.addR rfl rfl) (by rfl)) ?_
     refine sp (OpV.move rfl) ?_
     refine WL.nil ?_
     refine En.again (RC.succ ?_)
     refine WC.seq (WC.region ?_)
     refine sp (OpV.bq (b := true) (OpV.lss rfl rfl) (by rfl)) ?_
     refine WL.nil (En.next (WC.seq ?_))
     refine WC.cond rfl (fun _ => ?_) (fun hc => by cases hc)
     refine WC.skip (En.next (WC.seq (WC.block (WC.seq (WC.region ?_)))))
     refine sp (OpV.move rfl) ?_
     refine sp (OpV.idxA rfl rfl se_79 rfl (by decide)) ?_
     refine sp (OpV.loadBox rfl pt_82 (.head _) rfl) ?_
     refine sp (OpV.assign rfl) ?_
     refine sp (OpV.assign rfl) ?_
     refine WL.nil (En.next ?_)
     obtain ⟨x14r5_4, e14r5_4, zh0⟩ := bnd zh0
     refine WC.region ?_
     refine sp (OpV.move rfl) ?_
     refine sp (OpV.move rfl) ?_
     refine sp (OpV.move rfl) ?_
     refine sp (OpV.iq (n := 7) (OpV.addR rfl rfl) (by rfl)) ?_
     refine sp (OpV.sidxR rfl rfl us_9 e14r5_4) ?_
     refine sp (OpV.convR rfl uS_5 ui_3_i64) ?_
     refine sp (OpV.nilCheck rfl) ?_
     refine WL.heavy0 rfl rfl (OpH.storeTo (A := [_]) [_, _, _, _, _, _, _, _, _] rfl rfl rfl ts_3 rfl rfl rfl ?_)
     refine WL.nil (En.block_norm (En.next (WC.region ?_)))
     refine sp (OpV.iq (n := 5) (OpV.addR rfl rfl) (by rfl)) ?_
     refine sp (OpV.move rfl) ?_
     refine WL.nil ?_
     refine En.again (RC.succ ?_)
     refine WC.seq (WC.region ?_)
     refine sp (OpV.bq (b := true) (OpV.lss rfl rfl) (by rfl)) ?_
     refine WL.nil (En.next (WC.seq ?_))
     refine WC.cond rfl (fun _ => ?_) (fun hc => by cases hc)
     refine WC.skip (En.next (WC.seq (WC.block (WC.seq (WC.region ?_)))))
     refine sp (OpV.move rfl) ?_
     refine sp (OpV.idxA rfl rfl se_79 rfl (by decide)) ?_
     refine sp (OpV.loadBox rfl pt_82 (.head _) rfl) ?_
     refine sp (OpV.assign rfl) ?_
     refine sp (OpV.assign rfl) ?_
     refine WL.nil (En.next ?_)
     obtain ⟨x14r6_4, e14r6_4, zh0⟩ := bnd zh0
     refine WC.region ?_
     refine sp (OpV.move rfl) ?_
     refine sp (OpV.move rfl) ?_
     refine sp (OpV.move rfl) ?_
     refine sp (OpV.iq (n := 8) (OpV.addR rfl rfl) (by rfl)) ?_
     refine sp (OpV.sidxR rfl rfl us_9 e14r6_4) ?_
     refine sp (OpV.convR rfl uS_5 ui_3_i64) ?_
     refine sp (OpV.nilCheck rfl) ?_
     refine WL.heavy0 rfl rfl (OpH.storeTo (A := [_]) [_, _, _, _, _, _, _, _, _] rfl rfl rfl ts_3 rfl rfl rfl ?_)
     refine WL.nil (En.block_norm (En.next (WC.region ?_)))
     refine sp (OpV.iq (n := 6) (OpV.addR rfl rfl) (by rfl)) ?_
     refine sp (OpV.move rfl) ?_
     refine WL.nil ?_
     refine En.again (RC.succ ?_)
     refine WC.seq (WC.region ?_)
     refine sp (OpV.bq (b := true) (OpV.lss rfl rfl) (by rfl)) ?_
     refine WL.nil (En.next (WC.seq ?_))
     refine WC.cond rfl (fun _ => ?_) (fun hc => by cases hc)
     refine WC.skip (En.next (WC.seq (WC.block (WC.seq (WC.region ?_)))))
     refine sp (OpV.move rfl) ?_
     refine sp (OpV.idxA rfl rfl se_79 rfl (by decide)) ?_
     refine sp (OpV.loadBox rfl pt_82 (.head _) rfl) ?_
     refine sp (OpV.assign rfl) ?_
     refine sp (OpV.assign rfl) ?_
     refine WL.nil (En.next ?_)
     obtain ⟨x14r7_4, e14r7_4, zh0⟩ := bnd zh0
     refine WC.region ?_
     refine sp (OpV.move rfl) ?_
     refine sp (OpV.move rfl) ?_
     refine sp (OpV.move rfl) ?_
     refine sp (OpV.iq (n := 9) (OpV.addR rfl rfl) (by rfl)) ?_
     refine sp (OpV.sidxR rfl rfl us_9 e14r7_4) ?_
     refine sp (OpV.convR rfl uS_5 ui_3_i64) ?_
     refine sp (OpV.nilCheck rfl) ?_
     refine WL.heavy0 rfl rfl (OpH.storeTo (A := [_]) [_, _, _, _, _, _, _, _, _] rfl rfl rfl ts_3 rfl rfl rfl ?_)
     refine WL.nil (En.block_norm (En.next (WC.region ?_)))
     refine sp (OpV.iq (n := 7) (OpV.addR rfl rfl) (by rfl)) ?_
     refine sp (OpV.move rfl) ?_
     refine WL.nil ?_
     refine En.again (RC.succ ?_)
     refine WC.seq (WC.region ?_)
     refine sp (OpV.bq (b := true) (OpV.lss rfl rfl) (by rfl)) ?_
     refine WL.nil (En.next (WC.seq ?_))
     refine WC.cond rfl (fun _ => ?_) (fun hc => by cases hc)
     refine WC.skip (En.next (WC.seq (WC.block (WC.seq (WC.region ?_)))))
     refine sp (OpV.move rfl) ?_
     refine sp (OpV.idxA rfl rfl se_79 rfl (by decide)) ?_
     refine sp (OpV.loadBox rfl pt_82 (.head _) rfl) ?_
     refine sp (OpV.assign rfl) ?_
     refine sp (OpV.assign rfl) ?_
     refine WL.nil (En.next ?_)
     obtain ⟨x14r8_4, e14r8_4, zh0⟩ := bnd zh0
     refine WC.region ?_
     refine sp (OpV.move rfl) ?_
     refine sp (OpV.move rfl) ?_
     refine sp (OpV.move rfl) ?_
     refine sp (OpV.iq (n := 10) (OpV.addR rfl rfl) (by rfl)) ?_
     refine sp (OpV.sidxR rfl rfl us_9 e14r8_4) ?_
     refine sp (OpV.convR rfl uS_5 ui_3_i64) ?_
     refine sp (OpV.nilCheck rfl) ?_
     refine WL.heavy0 rfl rfl (OpH.storeTo (A := [_]) [_, _, _, _, _, _, _, _, _] rfl rfl rfl ts_3 rfl rfl rfl ?_)
     refine WL.nil (En.block_norm (En.next (WC.region ?_)))
     refine sp (OpV.iq (n := 8) (OpV.addR rfl rfl) (by rfl)) ?_
     refine sp (OpV.move rfl) ?_
     refine WL.nil ?_
     refine En.again (RC.succ ?_)
     refine WC.seq (WC.region ?_)
     refine sp (OpV.bq (b := false) (OpV.lss rfl rfl) (by rfl)) ?_
     refine WL.nil (En.next (WC.seq ?_))
     refine WC.cond rfl (fun hc => by cases hc) (fun _ => ?_)
     refine WC.exit (En.then_exit (En.then_exit (En.block_exit (En.next (WC.seq ?_)))))
     obtain ⟨x16_4, e16_4, zh0⟩ := bnd zh0
     refine WC.region ?_
     refine sp (OpV.fieldAddr rfl fo_47_1) ?_
     refine sp (OpV.loadBox rfl pt_45 (.tail _ (.tail _ (.tail _ (.head _)))) rfl) ?_
     refine sp (OpV.loadAll rfl (.tail _ (.head _)) ag_33) ?_
     refine WL.heavy rfl rfl rfl (OpH.litF (A := tMode) (xs := [(ModeT.mk x11_0b.Clock (wr x14r1_4) (wr x14r2_4) (wr x14r3_4) (wr x14r4_4) (wr x14r5_4) (wr x14r6_4) (wr x14r7_4) (wr x14r8_4))]) tMode_flat (evps.cons rfl (evps.nil)) (bs_45_1_0 _ _ _ _ _ _ _ _ _) rfl rfl (Nat.le_of_ble_eq_true rfl) ?_)
     intro b16_3
     refine WL.heavy rfl rfl rfl (OpH.appS (F := [_, _, _, _, _]) (A := tMode) tMode_flat rfl rfl rfl mi_45 rfl (by decide) (fun w hs => (Ow.rd (hs.mem (.head _)))) e16_4 ?_)
     intro f16_4 a16_4 c16_4
     refine sp (OpV.fieldAddr rfl fo_47_1) ?_
     refine WL.heavy0 rfl rfl (OpH.storeTo (A := [_, _, _, _]) [_, _, _] rfl rfl rfl ts_45 rfl rfl rfl ?_)
     refine WL.nil (En.next ?_)
     obtain ⟨x17_1, e17_1, zh0⟩ := bnd zh0
     refine WC.region ?_
     refine sp (OpV.move rfl) ?_
     refine sp (OpV.ssubL rfl rfl us_9 e17_1) ?_
     refine sp (OpV.assign rfl) ?_
     refine WL.nil (En.block_norm (En.next (WC.region ?_)))
     refine sp (OpV.addR rfl rfl) ?_
     refine sp (OpV.move rfl) ?_
     refine WL.nil ?_
     exact En.backP zb0 zh0 (a16_4, x16_4.length, c16_4, f16_4) (Sub.cons rfl (Sub.cons rfl (Sub.cons rfl (Sub.cons rfl (Sub.cons rfl (Sub.nil _)))))) (fun _ h => ((((h).perm (List.perm_middle (l₁ := [_, _, _, _, _]))).perm (List.perm_middle (l₁ := [_, _, _, _, _]))).perm (List.perm_middle (l₁ := [_, _, _, _, _]))).sub (.cons_cons _ (.cons_cons _ (.cons_cons _ (.cons _ (.cons _ (.cons _ (.slnil))))))))
   ·
    intro hc_2
    replace zh0 := ifO_f hc_2 zh0
    refine WC.exit (En.then_exit (En.then_exit ?_))
    have hx := exitP ze0 zh0
    exact En.wk _ _ (Sub.cons rfl (Sub.cons rfl (Sub.nil _))) (fun _ h => h) (zK0_0 (x_0, (ax_0, nx_0, cx_0, fx_0)) hx.symm)

theorem w_impl_ParseDescriptor {s_p0 : ByteArray} {r : MonitorT × Bool}  (h : impl_ParseDescriptor s_p0 = some r) {w : World}    :
    Calls Try.prog 28 #[.string s_p0] w (fun en w' => ∃ rv G, en = .returned rv ∧ (∃ (a0_0 : Option Addr) (n0_0 : Nat) (c0_0 : Nat) (f0_0 : List Nat), rv = .tuple #[.agg #[.string r.1.Name, .slice a0_0 n0_0 c0_0, .int .i64 r.1.Stretch], .bool r.2] ∧ G = [Chunk.own tMode f0_0 a0_0 n0_0 c0_0 r.1.Modes]) ∧ St w G w') := by
 unfold impl_ParseDescriptor at h
 refine enter (vs := [_]) Try.func28 rfl rfl rfl rfl ?_
 refine WC.seq (WC.region ?_)
 refine WL.heavy rfl rfl rfl (OpH.alloc zc_47 ?_)
 intro b0_0
 refine sp (OpV.assign rfl) ?_
 refine WL.nil (En.next (WC.seq ?_))
 obtain ⟨⟨x1_1a, x1_1b⟩, e1_1, h⟩ := bnd h
 refine WC.region ?_
 refine sp (OpV.move rfl) ?_
 refine WL.heavy rfl rfl rfl (OpH.callR (evs.cons rfl (evs.nil)) ca_53 (fun w hs => w_impl_readDescriptor e1_1) ?_)
 rintro _ _ ⟨a1_100, n1_100, c1_100, f1_100, rfl, rfl⟩
 refine sp (OpV.move rfl) ?_
 refine sp (OpV.extract rfl rfl) ?_
 refine sp (OpV.extract rfl rfl) ?_
 refine WL.heavy rfl rfl rfl (OpH.alloc zc_47 ?_)
 intro b1_5
 refine WL.heavy0 rfl rfl (OpH.storeTo (A := []) [_, _, _] rfl rfl rfl ts_47 rfl rfl rfl ?_)
 refine sp (OpV.assign rfl) ?_
 refine WL.nil (En.next (WC.seq (WC.seq (WC.region ?_))))
 refine sp (OpV.move rfl) ?_
 refine sp (OpV.not rfl) ?_
 refine WL.nil (En.next ?_)
 refine WC.cond rfl ?_ ?_
 ·
  intro hc_1
  replace h := ifO_t hc_1 h
  refine WC.seq (WC.region ?_)
  refine sp (OpV.build (evps.nil) bd_47_) ?_
  refine WL.heavy0 rfl rfl (OpH.storeTo (A := [_, _]) [_, _, _] rfl rfl rfl ts_47 rfl rfl rfl ?_)
  refine sp (OpV.assign rfl) ?_
  refine WL.nil (En.next (WC.ret (En.then_ret ?_)))
  refine En.ret2 rfl (Res.cell rfl (.tail _ (.tail _ (.head _))) ag_47) (Res.tmp rfl) ?_
  obtain rfl := Option.some.inj h
  intro w' hs
  have hs := ((hs).ownNil (A := tMode)).sub (.cons_cons _ (.cons _ (.cons _ (.cons _ (.slnil)))))
  exact ⟨_, _, rfl, ⟨.none, 0, 0, [], rfl, rfl⟩, hs⟩
 ·
  intro hc_1
  replace h := ifO_f hc_1 h
  refine WC.skip (En.next (WC.seq ?_))
  obtain ⟨⟨x4_1a, x4_1b⟩, e4_1, h⟩ := bnd h
  refine WC.region ?_
  refine sp (OpV.loadAll rfl (.head _) ag_47) ?_
  refine sp (OpV.call (evs.cons rfl (evs.nil)) ca_27 (fun w hs => w_impl_BuildDescriptor e4_1 (Ow.rd (hs.mem (.tail _ (.head _)))))) ?_
  refine sp (OpV.move rfl) ?_
  refine sp (OpV.extract rfl rfl) ?_
  refine sp (OpV.extract rfl rfl) ?_
  refine sp (OpV.assign rfl) ?_
  refine sp (OpV.assign rfl) ?_
  refine WL.nil (En.next (WC.seq (WC.seq (WC.region ?_))))
  refine sp (OpV.move rfl) ?_
  refine sp (OpV.not rfl) ?_
  refine sp (OpV.move rfl) ?_
  refine Lt.ofWL.or 22 26 25 (p := ?pz1) (rest := ?qz1) (B := ?Bz1) rfl ?Tz1 ?Fz1 ?az1 ?bz1 ?cz1 ?dz1 ?ez1
  case Tz1 =>
   intro hcz1 hkz1
   refine sk ?_
   refine sk ?_
   refine sk ?_
   refine hkz1 _ ?_
   repeat (first | exact Sub.refl _ | refine Sub.skip rfl ?_)
  case Fz1 =>
   intro hcz1 hkz1
   refine sp (OpV.move rfl) ?_
   refine sp (OpV.move rfl) ?_
   refine sp (OpV.sneqR rfl rfl) ?_
   refine hkz1 _ ?_ ?_
   exact rfl
   repeat (first | exact Sub.refl _ | refine Sub.skip rfl ?_)
  case az1 => exact rfl
  case bz1 => exact rfl
  case cz1 => exact rfl
  case dz1 => exact rfl
  refine WL.nil (En.next ?_)
  refine WC.cond rfl ?_ ?_
  ·
   intro hc_2
   replace h := ifO_t hc_2 h
   refine WC.seq (WC.region ?_)
   refine sp (OpV.build (evps.nil) bd_47_) ?_
   refine WL.heavy0 rfl rfl (OpH.storeTo (A := [_, _]) [_, _, _] rfl rfl rfl ts_47 rfl rfl rfl ?_)
   refine sp (OpV.assign rfl) ?_
   refine WL.nil (En.next (WC.ret (En.then_ret ?_)))
   refine En.ret2 rfl (Res.cell rfl (.tail _ (.tail _ (.head _))) ag_47) (Res.tmp rfl) ?_
   obtain rfl := Option.some.inj h
   intro w' hs
   have hs := ((hs).ownNil (A := tMode)).sub (.cons_cons _ (.cons _ (.cons _ (.cons _ (.slnil)))))
   exact ⟨_, _, rfl, ⟨.none, 0, 0, [], rfl, rfl⟩, hs⟩
  ·
   intro hc_2
   replace h := ifO_f hc_2 h
   refine WC.skip (En.next (WC.seq (WC.region ?_)))
   refine sp (OpV.loadAll rfl (.head _) ag_47) ?_
   refine WL.heavy0 rfl rfl (OpH.storeTo (A := [_, _]) [_, _, _] rfl rfl rfl ts_47 rfl rfl rfl ?_)
   refine sp (OpV.assign rfl) ?_
   refine WL.nil (En.next (WC.ret ?_))
   refine En.ret2 rfl (Res.cell rfl (.tail _ (.tail _ (.head _))) ag_47) (Res.tmp rfl) ?_
   obtain rfl := Option.some.inj h
   intro w' hs
   have hs := ((hs).perm (List.perm_middle (l₁ := [_]))).sub (.cons_cons _ (.cons _ (.cons _ (.slnil))))
   exact ⟨_, _, rfl, ⟨a1_100, n1_100, c1_100, f1_100, rfl, rfl⟩, hs⟩

theorem w_laws_markModeS {a_p0 : List ModeT} {a_p1 : Int} {r : Int × (List ModeT)} {q0_0 : Option Addr} {l0_0 k0_0 : Nat} {f0_0 : List Nat} (h : laws_markModeS a_p0 a_p1 = some r) {w0 w : World} {C : List Chunk} (hs0 : St w0 (Chunk.own tMode f0_0 q0_0 l0_0 k0_0 a_p0 :: C) w)  :
    Calls Try.prog 59 #[.slice q0_0 l0_0 k0_0, .int .i64 a_p1] w (fun en w' => ∃ rv G, en = .returned rv ∧ (∃ (g0_0 : List Nat), rv = .int .i64 r.1 ∧ G = Chunk.own tMode g0_0 q0_0 l0_0 k0_0 r.2 :: C) ∧ St w0 G w') := by
 unfold laws_markModeS at h
 refine enterF hs0 (vs := [_, _]) Try.func59 rfl rfl rfl rfl ?_
 refine WC.seq (WC.region ?_)
 refine sp (OpV.assign rfl) ?_
 refine WL.nil (En.next (WC.seq (WC.seq (WC.region ?_))))
 refine sp (OpV.assign rfl) ?_
 refine WL.nil (En.next (WC.block ?_))
 obtain ⟨zy0, ezy0, h⟩ := bnd h
 refine WC.cut (X := (Int × (List ModeT)) × (Unit)) (.exit 0) (fun x => zy0 = x.1) (fun x => match x with | ((v_0e, p_0e), ()) => [(1, .int .i64 v_0e)]) (fun x => match x with | ((v_0e, p_0e), ()) => (Chunk.own tMode f0_0 q0_0 l0_0 k0_0 p_0e :: C)) ?_ ?_
 ·
  rintro ⟨⟨v_0e, p_0e⟩, ⟨⟩⟩ hx
  replace hx : (v_0e, p_0e) = zy0 := hx.symm
  subst hx
  show En _ _ _ _ [(1, .int .i64 v_0e)] (Chunk.own tMode f0_0 q0_0 l0_0 k0_0 p_0e :: C)
  refine En.block_exit (En.next (WC.seq (WC.region ?_)))
  refine sp (OpV.move rfl) ?_
  refine sp (OpV.assign rfl) ?_
  refine WL.nil (En.next (WC.ret ?_))
  refine En.ret1 rfl (Res.tmp rfl) ?_
  obtain rfl := Option.some.inj h
  intro w' hs
  have hs := hs
  exact ⟨_, _, rfl, ⟨f0_0, rfl, rfl⟩, hs⟩
 ·
  intro zK0_0
  refine WC.loopP (G := Unit) (fun s g => match s, g with | (v_0, v1_0, v2_0), () => [(0, .slice q0_0 l0_0 k0_0), (1, .int .i64 v1_0), (5, .int .i64 v2_0)]) (fun s g => match s, g with | (v_0, v1_0, v2_0), () => (Chunk.own tMode f0_0 q0_0 l0_0 k0_0 v_0 :: C)) (a_p0, a_p1, 0) () ezy0 (by exact Sub.cons rfl (Sub.cons rfl (Sub.cons rfl (Sub.nil _)))) (by exact (fun _ h => h)) ?_
  rintro zm0 ⟨v_0, v1_0, v2_0⟩ ⟨⟩ zo0 zf0 zb0 ze0
  have zh0 : laws_markModeS_L0 v_0 v1_0 v2_0 = some zo0 := zf0
  unfold laws_markModeS_L0 at zh0
  show WC _ _ _ _ _ [(0, .slice q0_0 l0_0 k0_0), (1, .int .i64 v1_0), (5, .int .i64 v2_0)] (Chunk.own tMode f0_0 q0_0 l0_0 k0_0 v_0 :: C)
  refine WC.seq (WC.seq (WC.region ?_))
  refine sp (OpV.move rfl) ?_
  refine sp (OpV.move rfl) ?_
  refine sp (OpV.inhF fun hin => OpV.lenO (xs := v_0) rfl si_45 rfl (ownLen hin (.head _))) ?_
  refine sp (OpV.lss rfl rfl) ?_
  refine WL.nil (En.next ?_)
  refine WC.cond rfl ?_ ?_
  ·
   intro hc_1
   replace zh0 := ifO_t hc_1 zh0
   refine WC.skip (En.next (WC.seq (WC.block (WC.seq ?_))))
   refine WC.inh fun hin4 => ?_
   obtain ⟨x4_3, e4_3, zh0⟩ := bnd zh0
   obtain ⟨g4_3, o4_3, ha4_3⟩ := ownAddr hin4 (.head _) e4_3
   have hn4_3 := ownLen hin4 (.head _)
   obtain ⟨x4_5, e4_5, zh0⟩ := bnd zh0
   refine WC.region ?_
   refine sp (OpV.move rfl) ?_
   refine sp (OpV.move rfl) ?_
   refine sp (OpV.move rfl) ?_
   refine sp (OpV.idxA rfl rfl se_45 ha4_3 ⟨(idx_some e4_3).1, by rw [hn4_3]; exact (idx_some e4_3).2.1⟩) ?_
   refine sp (OpV.fieldAddr rfl fo_33_0) ?_
   refine WL.heavy0 rfl rfl (OpH.setFld (F := []) (A := tMode) (off := 0) (i := v2_0) (v' := (ModeT.mk v1_0 x4_3.W x4_3.HFront x4_3.HSync x4_3.HBack x4_3.H x4_3.VFront x4_3.VSync x4_3.VBack)) ha4_3 rfl rfl rfl ts_3 rfl rfl e4_3 (fun _ _ _ h => ⟨h.1, by rw [h.2]; rfl⟩) e4_5 ?_)
   refine WL.nil (En.next (WC.seq (WC.region ?_)))
   refine sp (OpV.move rfl) ?_
   refine sp (OpV.addR rfl rfl) ?_
   refine sp (OpV.assign rfl) ?_
   refine WL.nil (En.next (WC.seq ?_))
   refine WC.inh fun hin6 => ?_
   obtain ⟨x6_3, e6_3, zh0⟩ := bnd zh0
   obtain ⟨g6_3, o6_3, ha6_3⟩ := ownAddr hin6 (.head _) e6_3
   have hn6_3 := ownLen hin6 (.head _)
   obtain ⟨x6_5, e6_5, zh0⟩ := bnd zh0
   refine WC.region ?_
   refine sp (OpV.move rfl) ?_
   refine sp (OpV.move rfl) ?_
   refine sp (OpV.move rfl) ?_
   refine sp (OpV.idxA rfl rfl se_45 ha6_3 ⟨(idx_some e6_3).1, by rw [hn6_3]; exact (idx_some e6_3).2.1⟩) ?_
   refine sp (OpV.fieldAddr rfl fo_33_1) ?_
   refine WL.heavy0 rfl rfl (OpH.setFld (F := []) (A := tMode) (off := 1) (i := v2_0) (v' := (ModeT.mk x6_3.Clock (wr (v1_0 + 1)) x6_3.HFront x6_3.HSync x6_3.HBack x6_3.H x6_3.VFront x6_3.VSync x6_3.VBack)) ha6_3 rfl rfl rfl ts_3 rfl rfl e6_3 (fun _ _ _ h => ⟨h.1, by rw [h.2]; rfl⟩) e6_5 ?_)
   refine WL.nil (En.next (WC.seq (WC.region ?_)))
   refine sp (OpV.move rfl) ?_
   refine sp (OpV.addR rfl rfl) ?_
   refine sp (OpV.assign rfl) ?_
   refine WL.nil (En.next (WC.seq ?_))
   refine WC.inh fun hin8 => ?_
   obtain ⟨x8_3, e8_3, zh0⟩ := bnd zh0
   obtain ⟨g8_3, o8_3, ha8_3⟩ := ownAddr hin8 (.head _) e8_3
   have hn8_3 := ownLen hin8 (.head _)
   obtain ⟨x8_5, e8_5, zh0⟩ := bnd zh0
   refine WC.region ?_
   refine sp (OpV.move rfl) ?_
   refine sp (OpV.move rfl) ?_
   refine sp (OpV.move rfl) ?_
   refine sp (OpV.idxA rfl rfl se_45 ha8_3 ⟨(idx_some e8_3).1, by rw [hn8_3]; exact (idx_some e8_3).2.1⟩) ?_
   refine sp (OpV.fieldAddr rfl fo_33_2) ?_
   refine WL.heavy0 rfl rfl (OpH.setFld (F := []) (A := tMode) (off := 2) (i := v2_0) (v' := (ModeT.mk x8_3.Clock x8_3.W (wr ((wr (v1_0 + 1)) + 1)) x8_3.HSync x8_3.HBack x8_3.H x8_3.VFront x8_3.VSync x8_3.VBack)) ha8_3 rfl rfl rfl ts_3 rfl rfl e8_3 (fun _ _ _ h => ⟨h.1, by rw [h.2]; rfl⟩) e8_5 ?_)
   refine WL.nil (En.next (WC.seq (WC.region ?_)))
   refine sp (OpV.move rfl) ?_
   refine sp (OpV.addR rfl rfl) ?_
   refine sp (OpV.assign rfl) ?_
   refine WL.nil (En.next (WC.seq ?_))
   refine WC.inh fun hin10 => ?_
   obtain ⟨x10_3, e10_3, zh0⟩ := bnd zh0
   obtain ⟨g10_3, o10_3, ha10_3⟩ := ownAddr hin10 (.head _) e10_3
   have hn10_3 := ownLen hin10 (.head _)
   obtain ⟨x10_5, e10_5, zh0⟩ := bnd zh0
   refine WC.region ?_
   refine sp (OpV.move rfl) ?_
   refine sp (OpV.move rfl) ?_
   refine sp (OpV.move rfl) ?_
   refine sp (OpV.idxA rfl rfl se_45 ha10_3 ⟨(idx_some e10_3).1, by rw [hn10_3]; exact (idx_some e10_3).2.1⟩) ?_
   refine sp (OpV.fieldAddr rfl fo_33_3) ?_
   refine WL.heavy0 rfl rfl (OpH.setFld (F := []) (A := tMode) (off := 3) (i := v2_0) (v' := (ModeT.mk x10_3.Clock x10_3.W x10_3.HFront (wr ((wr ((wr (v1_0 + 1)) + 1)) + 1)) x10_3.HBack x10_3.H x10_3.VFront x10_3.VSync x10_3.VBack)) ha10_3 rfl rfl rfl ts_3 rfl rfl e10_3 (fun _ _ _ h => ⟨h.1, by rw [h.2]; rfl⟩) e10_5 ?_)
   refine WL.nil (En.next (WC.seq (WC.region ?_)))
   refine sp (OpV.move rfl) ?_
   refine sp (OpV.addR rfl rfl) ?_
   refine sp (OpV.assign rfl) ?_
   refine WL.nil (En.next (WC.seq ?_))
   refine WC.inh fun hin12 => ?_
   obtain ⟨x12_3, e12_3, zh0⟩ := bnd zh0
   obtain ⟨g12_3, o12_3, ha12_3⟩ := ownAddr hin12 (.head _) e12_3
   have hn12_3 := ownLen hin12 (.head _)
   obtain ⟨x12_5, e12_5, zh0⟩ := bnd zh0
   refine WC.region ?_
   refine sp (OpV.move rfl) ?_
   refine sp (OpV.move rfl) ?_
   refine sp (OpV.move rfl) ?_
   refine sp (OpV.idxA rfl rfl se_45 ha12_3 ⟨(idx_some e12_3).1, by rw [hn12_3]; exact (idx_some e12_3).2.1⟩) ?_
   refine sp (OpV.fieldAddr rfl fo_33_4) ?_
   refine WL.heavy0 rfl rfl (OpH.setFld (F := []) (A := tMode) (off := 4) (i := v2_0) (v' := (ModeT.mk x12_3.Clock x12_3.W x12_3.HFront x12_3.HSync (wr ((wr ((wr ((wr (v1_0 + 1)) + 1)) + 1)) + 1)) x12_3.H x12_3.VFront x12_3.VSync x12_3.VBack)) ha12_3 rfl rfl rfl ts_3 rfl rfl e12_3 (fun _ _ _ h => ⟨h.1, by rw [h.2]; rfl⟩) e12_5 ?_)
   refine WL.nil (En.next (WC.seq (WC.region ?_)))
   refine sp (OpV.move rfl) ?_
   refine sp (OpV.addR rfl rfl) ?_
   refine sp (OpV.assign rfl) ?_
   refine WL.nil (En.next (WC.seq ?_))
   refine WC.inh fun hin14 => ?_
   obtain ⟨x14_3, e14_3, zh0⟩ := bnd zh0
   obtain ⟨g14_3, o14_3, ha14_3⟩ := ownAddr hin14 (.head _) e14_3
   have hn14_3 := ownLen hin14 (.head _)
   obtain ⟨x14_5, e14_5, zh0⟩ := bnd zh0
   refine WC.region ?_
   refine sp (OpV.move rfl) ?_
   refine sp (OpV.move rfl) ?_
   refine sp (OpV.move rfl) ?_
   refine sp (OpV.idxA rfl rfl se_45 ha14_3 ⟨(idx_some e14_3).1, by rw [hn14_3]; exact (idx_some e14_3).2.1⟩) ?_
   refine sp (OpV.fieldAddr rfl fo_33_5) ?_
   refine WL.heavy0 rfl rfl (OpH.setFld (F := []) (A := tMode) (off := 5) (i := v2_0) (v' := (ModeT.mk x14_3.Clock x14_3.W x14_3.HFront x14_3.HSync x14_3.HBack (wr ((wr ((wr ((wr ((wr (v1_0 + 1)) + 1)) + 1)) + 1)) + 1)) x14_3.VFront x14_3.VSync x14_3.VBack)) ha14_3 rfl rfl rfl ts_3 rfl rfl e14_3 (fun _ _ _ h => ⟨h.1, by rw [h.2]; rfl⟩) e14_5 ?_)
   refine WL.nil (En.next (WC.seq (WC.region ?_)))
   refine sp (OpV.move rfl) ?_
   refine sp (OpV.addR rfl rfl) ?_
   refine sp (OpV.assign rfl) ?_
   refine WL.nil (En.next (WC.seq ?_))
   refine WC.inh fun hin16 => ?_
   obtain ⟨x16_3, e16_3, zh0⟩ := bnd zh0
   obtain ⟨g16_3, o16_3, ha16_3⟩ := ownAddr hin16 (.head _) e16_3
   have hn16_3 := ownLen hin16 (.head _)
   obtain ⟨x16_5, e16_5, zh0⟩ := bnd zh0
   refine WC.region ?_
   refine sp (OpV.move rfl) ?_
   refine sp (OpV.move rfl) ?_
   refine sp (OpV.move rfl) ?_
   refine sp (OpV.idxA rfl rfl se_45 ha16_3 ⟨(idx_some e16_3).1, by rw [hn16_3]; exact (idx_some e16_3).2.1⟩) ?_
   refine sp (OpV.fieldAddr rfl fo_33_6) ?_
   refine WL.heavy0 rfl rfl (OpH.setFld (F := []) (A := tMode) (off := 6) (i := v2_0) (v' := (ModeT.mk x16_3.Clock x16_3.W x16_3.HFront x16_3.HSync x16_3.HBack x16_3.H (wr ((wr ((wr ((wr ((wr ((wr (v1_0 + 1)) + 1)) + 1)) + 1)) + 1)) + 1)) x16_3.VSync x16_3.VBack)) ha16_3 rfl rfl rfl ts_3 rfl rfl e16_3 (fun _ _ _ h => ⟨h.1, by rw [h.2]; rfl⟩) e16_5 ?_)
   refine WL.nil (En.next (WC.seq (WC.region ?_)))
   refine sp (OpV.move rfl) ?_
   refine sp (OpV.addR rfl rfl) ?_
   refine sp (OpV.assign rfl) ?_
   refine WL.nil (En.next (WC.seq ?_))
   refine WC.inh fun hin18 => ?_
   obtain ⟨x18_3, e18_3, zh0⟩ := bnd zh0
   obtain ⟨g18_3, o18_3, ha18_3⟩ := ownAddr hin18 (.head _) e18_3
   have hn18_3 := ownLen hin18 (.head _)
   obtain ⟨x18_5, e18_5, zh0⟩ := bnd zh0
   refine WC.region ?_
   refine sp (OpV.move rfl) ?_
   refine sp (OpV.move rfl) ?_
   refine sp (OpV.move rfl) ?_
   refine sp (OpV.idxA rfl rfl se_45 ha18_3 ⟨(idx_some e18_3).1, by rw [hn18_3]; exact (idx_some e18_3).2.1⟩) ?_
   refine sp (OpV.fieldAddr rfl fo_33_7) ?_
   refine WL.heavy0 rfl rfl (OpH.setFld (F := []) (A := tMode) (off := 7) (i := v2_0) (v' := (ModeT.mk x18_3.Clock x18_3.W x18_3.HFront x18_3.HSync x18_3.HBack x18_3.H x18_3.VFront (wr ((wr ((wr ((wr ((wr ((wr ((wr (v1_0 + 1)) + 1)) + 1)) + 1)) + 1)) + 1)) + 1)) x18_3.VBack)) ha18_3 rfl rfl rfl ts_3 rfl rfl e18_3 (fun _ _ _ h => ⟨h.1, by rw [h.2]; rfl⟩) e18_5 ?_)
   refine WL.nil (En.next (WC.seq (WC.region ?_)))
   refine sp (OpV.move rfl) ?_
   refine sp (OpV.addR rfl rfl) ?_
   refine sp (OpV.assign rfl) ?_
   refine WL.nil (En.next (WC.seq ?_))
   refine WC.inh fun hin20 => ?_
   obtain ⟨x20_3, e20_3, zh0⟩ := bnd zh0
   obtain ⟨g20_3, o20_3, ha20_3⟩ := ownAddr hin20 (.head _) e20_3
   have hn20_3 := ownLen hin20 (.head _)
   obtain ⟨x20_5, e20_5, zh0⟩ := bnd zh0
   refine WC.region ?_
   refine sp (OpV.move rfl) ?_
   refine sp (OpV.move rfl) ?_
   refine sp (OpV.move rfl) ?_
   refine sp (OpV.idxA rfl rfl se_45 ha20_3 ⟨(idx_some e20_3).1, by rw [hn20_3]; exact (idx_some e20_3).2.1⟩) ?_
   refine sp (OpV.fieldAddr rfl fo_33_8) ?_
   refine WL.heavy0 rfl rfl (OpH.setFld (F := []) (A := tMode) (off := 8) (i := v2_0) (v' := (ModeT.mk x20_3.Clock x20_3.W x20_3.HFront x20_3.HSync x20_3.HBack x20_3.H x20_3.VFront x20_3.VSync (wr ((wr ((wr ((wr ((wr ((wr ((wr ((wr (v1_0 + 1)) + 1)) + 1)) + 1)) + 1)) + 1)) + 1)) + 1)))) ha20_3 rfl rfl rfl ts_3 rfl rfl e20_3 (fun _ _ _ h => ⟨h.1, by rw [h.2]; rfl⟩) e20_5 ?_)
   refine WL.nil (En.next (WC.region ?_))
   refine sp (OpV.move rfl) ?_
   refine sp (OpV.addR rfl rfl) ?_
   refine sp (OpV.assign rfl) ?_
   refine WL.nil (En.block_norm (En.next (WC.region ?_)))
   refine sp (OpV.move rfl) ?_
   refine sp (OpV.addR rfl rfl) ?_
   refine sp (OpV.assign rfl) ?_
   refine WL.nil ?_
   exact En.backP zb0 zh0 () (Sub.cons rfl (Sub.cons rfl (Sub.cons rfl (Sub.nil _)))) (fun _ h => h)
  ·
   intro hc_1
   replace zh0 := ifO_f hc_1 zh0
   refine WC.exit (En.then_exit (En.then_exit ?_))
   have hx := exitP ze0 zh0
   exact En.wk _ _ (Sub.cons rfl (Sub.nil _)) (fun _ h => h) (zK0_0 ((v1_0, v_0), ()) hx.symm)

theorem w_laws_markMonitor {a_p0 : MonitorT} {k_p1 : Int} {r : Int × (List ModeT)} {q0_0 : Option Addr} {l0_0 k0_0 : Nat} {f0_0 : List Nat} (h : laws_markMonitor a_p0 k_p1 = some r) {w0 w : World} {C : List Chunk} (hs0 : St w0 (Chunk.own tMode f0_0 q0_0 l0_0 k0_0 a_p0.Modes :: C) w)  :
    Calls Try.prog 36 #[.agg #[.string a_p0.Name, .slice q0_0 l0_0 k0_0, .int .i64 a_p0.Stretch], .int .i64 k_p1] w (fun en w' => ∃ rv G, en = .returned rv ∧ (∃ (g0_0 : List Nat), rv = .int .i64 r.1 ∧ G = Chunk.own tMode g0_0 q0_0 l0_0 k0_0 r.2 :: C) ∧ St w0 G w') := by
 unfold laws_markMonitor at h
 refine enterF hs0 (vs := [_, _]) Try.func36 rfl rfl rfl rfl ?_
 refine WC.seq (WC.region ?_)
 refine WL.heavy rfl rfl rfl (OpH.box rfl rfl ?_)
 intro b0_0
 refine sp (OpV.assign rfl) ?_
 refine WL.nil (En.next (WC.seq ?_))
 obtain ⟨⟨x1_3a, x1_3b⟩, e1_3, h⟩ := bnd h
 refine WC.region ?_
 refine sp (OpV.fieldAddr rfl fo_47_1) ?_
 refine sp (OpV.loadBox rfl pt_45 (.head _) rfl) ?_
 refine sp (OpV.move rfl) ?_
 refine WL.wkF (fun _ h => h.perm (List.perm_middle (l₁ := [_]))) ?_
 refine WL.heavy rfl rfl rfl (OpH.callX (evs.cons rfl (evs.cons rfl (evs.nil))) ca_59 (fun w hs => w_laws_markModeS e1_3 hs) ?_)
 rintro _ _ ⟨g1_300, rfl, rfl⟩
 refine sp (OpV.assign rfl) ?_
 refine WL.nil (En.next (WC.seq (WC.region ?_)))
 refine sp (OpV.move rfl) ?_
 refine sp (OpV.assign rfl) ?_
 refine WL.nil (En.next (WC.ret ?_))
 refine En.ret1 rfl (Res.tmp rfl) ?_
 obtain rfl := Option.some.inj h
 intro w' hs
 have hs := (hs).sub (.cons_cons _ (.cons _ (List.Sublist.refl _)))
 exact ⟨_, _, rfl, ⟨g1_300, rfl, rfl⟩, hs⟩

theorem w_laws_heldModeS {a_p0 : List ModeT} {a_p1 : Int} {r : Int} {q0_0 : Option Addr} {l0_0 k0_0 : Nat} (h : laws_heldModeS a_p0 a_p1 = some r) {w : World} (r0_0 : Rd tMode w q0_0 l0_0 k0_0 a_p0)   :
    Calls Try.prog 60 #[.slice q0_0 l0_0 k0_0, .int .i64 a_p1] w (fun en w' => en = .returned (.int .i64 r) ∧ Ext w w') := by
 obtain rfl := r0_0.1
 unfold laws_heldModeS at h
 refine enter (vs := [_, _]) Try.func60 rfl rfl rfl rfl ?_
 refine WC.seq (WC.region ?_)
 refine sp (OpV.assign rfl) ?_
 refine WL.nil (En.next (WC.seq (WC.seq (WC.region ?_))))
 refine sp (OpV.assign rfl) ?_
 refine WL.nil (En.next (WC.block ?_))
 obtain ⟨zy0, ezy0, h⟩ := bnd h
 refine WC.cut (X := (Int) × (Unit)) (.exit 0) (fun x => zy0 = .inl x.1) (fun x => match x with | (v_0e, ()) => [(1, .int .i64 v_0e)]) (fun x => match x with | (v_0e, ()) => []) ?_ ?_
 ·
  rintro ⟨v_0e, ⟨⟩⟩ hx
  replace hx : .inl v_0e = zy0 := hx.symm
  subst hx
  replace h := fork_l h
  show En _ _ _ _ [(1, .int .i64 v_0e)] []
  refine En.block_exit (En.next (WC.seq (WC.region ?_)))
  refine sp (OpV.move rfl) ?_
  refine sp (OpV.assign rfl) ?_
  refine WL.nil (En.next (WC.ret ?_))
  refine En.ret1 rfl (Res.tmp rfl) ?_
  obtain rfl := Option.some.inj h
  intro w' hs
  exact ⟨rfl, hs.below⟩
 ·
  intro zK0_0
  refine WC.loopP (G := Unit) (fun s g => match s, g with | (v_0, v1_0), () => [(0, .slice q0_0 a_p0.length k0_0), (1, .int .i64 v_0), (5, .int .i64 v1_0)]) (fun s g => match s, g with | (v_0, v1_0), () => []) (a_p1, 0) () ezy0 (by exact Sub.cons rfl (Sub.cons rfl (Sub.cons rfl (Sub.nil _)))) (by exact (fun _ h => h)) ?_
  rintro zm0 ⟨v_0, v1_0⟩ ⟨⟩ zo0 zf0 zb0 ze0
  have zh0 : laws_heldModeS_L0 a_p0 v_0 v1_0 = some zo0 := zf0
  unfold laws_heldModeS_L0 at zh0
  show WC _ _ _ _ _ [(0, .slice q0_0 a_p0.length k0_0), (1, .int .i64 v_0), (5, .int .i64 v1_0)] []
  refine WC.seq (WC.seq (WC.region ?_))
  refine sp (OpV.move rfl) ?_
  refine sp (OpV.move rfl) ?_
  refine sp (OpV.len rfl si_45 rfl) ?_
  refine sp (OpV.lss rfl rfl) ?_
  refine WL.nil (En.next ?_)
  refine WC.cond rfl ?_ ?_
  ·
   intro hc_1
   replace zh0 := ifO_t hc_1 zh0
   refine WC.skip (En.next (WC.seq (WC.block (WC.seq (WC.seq ?_)))))
   obtain ⟨x4_2, e4_2, zh0⟩ := bnd zh0
   obtain ⟨g4_2, o4_2, _, ha4_2, rfl, hd4_2⟩ := Rd.atIdx r0_0 e4_2
   replace hd4_2 : ∀ (j : Nat) v, ([.int .i64 x4_2.Clock, .int .i64 x4_2.W, .int .i64 x4_2.HFront, .int .i64 x4_2.HSync, .int .i64 x4_2.HBack, .int .i64 x4_2.H, .int .i64 x4_2.VFront, .int .i64 x4_2.VSync, .int .i64 x4_2.VBack] : List Value)[j]? = some v → w.cell? ⟨g4_2, o4_2 + v1_0.toNat * 9 + j, .none⟩ = some v := hd4_2
   refine WC.region ?_
   refine sp (OpV.move rfl) ?_
   refine sp (OpV.move rfl) ?_
   refine sp (OpV.idxA rfl rfl se_45 ha4_2 ⟨(idx_some e4_2).1, (idx_some e4_2).2.1⟩) ?_
   refine sp (OpV.fieldAddr rfl fo_33_0) ?_
   refine sp (OpV.load1 rfl pt_3 (fun w hs => hs.cell (hd4_2 0 _ rfl))) ?_
   refine sp (OpV.move rfl) ?_
   refine sp (OpV.neq rfl rfl) ?_
   refine WL.nil (En.next ?_)
   refine WC.cond rfl ?_ ?_
   ·
    intro hc_2
    replace zh0 := ifO_t hc_2 zh0
    refine WC.seq (WC.region ?_)
    refine sp (OpV.assign rfl) ?_
    refine WL.nil (En.next (WC.ret (En.then_ret (En.block_ret (En.then_ret (En.then_ret (En.block_ret (En.then_ret ?_))))))))
    refine En.ret1 rfl (Res.tmp rfl) ?_
    have hx := exitP ze0 zh0
    subst hx
    replace h := fork_r h
    obtain rfl := Option.some.inj h
    intro w' hs
    exact ⟨rfl, hs.below⟩
   ·
    intro hc_2
    replace zh0 := ifO_f hc_2 zh0
    refine WC.skip (En.next (WC.seq (WC.region ?_)))
    refine sp (OpV.move rfl) ?_
    refine sp (OpV.addR rfl rfl) ?_
    refine sp (OpV.assign rfl) ?_
    refine WL.nil (En.next (WC.seq (WC.seq ?_)))
    obtain ⟨x7_2, e7_2, zh0⟩ := bnd zh0
    obtain ⟨g7_2, o7_2, _, ha7_2, rfl, hd7_2⟩ := Rd.atIdx r0_0 e7_2
    replace hd7_2 : ∀ (j : Nat) v, ([.int .i64 x7_2.Clock, .int .i64 x7_2.W, .int .i64 x7_2.HFront, .int .i64 x7_2.HSync, .int .i64 x7_2.HBack, .int .i64 x7_2.H, .int .i64 x7_2.VFront, .int .i64 x7_2.VSync, .int .i64 x7_2.VBack] : List Value)[j]? = some v → w.cell? ⟨g7_2, o7_2 + v1_0.toNat * 9 + j, .none⟩ = some v := hd7_2
    refine WC.region ?_
    refine sp (OpV.move rfl) ?_
    refine sp (OpV.move rfl) ?_
    refine sp (OpV.idxA rfl rfl se_45 ha7_2 ⟨(idx_some e7_2).1, (idx_some e7_2).2.1⟩) ?_
    refine sp (OpV.fieldAddr rfl fo_33_1) ?_
    refine sp (OpV.load1 rfl pt_3 (fun w hs => hs.cell (hd7_2 1 _ rfl))) ?_
    refine sp (OpV.move rfl) ?_
    refine sp (OpV.neq rfl rfl) ?_
    refine WL.nil (En.next ?_)
    refine WC.cond rfl ?_ ?_
    ·
     intro hc_3
     replace zh0 := ifO_t hc_3 zh0
     refine WC.seq (WC.region ?_)
     refine sp (OpV.assign rfl) ?_
     refine WL.nil (En.next (WC.ret (En.then_ret (En.block_ret (En.then_ret (En.then_ret (En.block_ret (En.then_ret ?_))))))))
     refine En.ret1 rfl (Res.tmp rfl) ?_
     have hx := exitP ze0 zh0
     subst hx
     replace h := fork_r h
     obtain rfl := Option.some.inj h
     intro w' hs
     exact ⟨rfl, hs.below⟩
    ·
     intro hc_3
     replace zh0 := ifO_f hc_3 zh0
     refine WC.skip (En.next (WC.seq (WC.region ?_)))
     refine sp (OpV.move rfl) ?_
     refine sp (OpV.addR rfl rfl) ?_
     refine sp (OpV.assign rfl) ?_
     refine WL.nil (En.next (WC.seq (WC.seq ?_)))
     obtain ⟨x10_2, e10_2, zh0⟩ := bnd zh0
     obtain ⟨g10_2, o10_2, _, ha10_2, rfl, hd10_2⟩ := Rd.atIdx r0_0 e10_2
     replace hd10_2 : ∀ (j : Nat) v, ([.int .i64 x10_2.Clock, .int .i64 x10_2.W, .int .i64 x10_2.HFront, .int .i64 x10_2.HSync, .int .i64 x10_2.HBack, .int .i64 x10_2.H, .int .i64 x10_2.VFront, .int .i64 x10_2.VSync, .int .i64 x10_2.VBack] : List Value)[j]? = some v → w.cell? ⟨g10_2, o10_2 + v1_0.toNat * 9 + j, .none⟩ = some v := hd10_2
     refine WC.region ?_
     refine sp (OpV.move rfl) ?_
     refine sp (OpV.move rfl) ?_
     refine sp (OpV.idxA rfl rfl se_45 ha10_2 ⟨(idx_some e10_2).1, (idx_some e10_2).2.1⟩) ?_
     refine sp (OpV.fieldAddr rfl fo_33_2) ?_
     refine sp (OpV.load1 rfl pt_3 (fun w hs => hs.cell (hd10_2 2 _ rfl))) ?_
     refine sp (OpV.move rfl) ?_
     refine sp (OpV.neq rfl rfl) ?_
     refine WL.nil (En.next ?_)
     refine WC.cond rfl ?_ ?_
     ·
      intro hc_4
      replace zh0 := ifO_t hc_4 zh0
      refine WC.seq (WC.region ?_)
      refine sp (OpV.assign rfl) ?_
      refine WL.nil (En.next (WC.ret (En.then_ret (En.block_ret (En.then_ret (En.then_ret (En.block_ret (En.then_ret ?_))))))))
      refine En.ret1 rfl (Res.tmp rfl) ?_
      have hx := exitP ze0 zh0
      subst hx
      replace h := fork_r h
      obtain rfl := Option.some.inj h
      intro w' hs
      exact ⟨rfl, hs.below⟩
     ·
      intro hc_4
      replace zh0 := ifO_f hc_4 zh0
      refine WC.skip (En.next (WC.seq (WC.region ?_)))
      refine sp (OpV.move rfl) ?_
      refine sp (OpV.addR rfl rfl) ?_
      refine sp (OpV.assign rfl) ?_
      refine WL.nil (En.next (WC.seq (WC.seq ?_)))
      obtain ⟨x13_2, e13_2, zh0⟩ := bnd zh0
      obtain ⟨g13_2, o13_2, _, ha13_2, rfl, hd13_2⟩ := Rd.atIdx r0_0 e13_2
      replace hd13_2 : ∀ (j : Nat) v, ([.int .i64 x13_2.Clock, .int .i64 x13_2.W, .int .i64 x13_2.HFront, .int .i64 x13_2.HSync, .int .i64 x13_2.HBack, .int .i64 x13_2.H, .int .i64 x13_2.VFront, .int .i64 x13_2.VSync, .int .i64 x13_2.VBack] : List Value)[j]? = some v → w.cell? ⟨g13_2, o13_2 + v1_0.toNat * 9 + j, .none⟩ = some v := hd13_2
      refine WC.region ?_
      refine sp (OpV.move rfl) ?_
      refine sp (OpV.move rfl) ?_
      refine sp (OpV.idxA rfl rfl se_45 ha13_2 ⟨(idx_some e13_2).1, (idx_some e13_2).2.1⟩) ?_
      refine sp (OpV.fieldAddr rfl fo_33_3) ?_
      refine sp (OpV.load1 rfl pt_3 (fun w hs => hs.cell (hd13_2 3 _ rfl))) ?_
      refine sp (OpV.move rfl) ?_
      refine sp (OpV.neq rfl rfl) ?_
      refine WL.nil (En.next ?_)
      refine WC.cond rfl ?_ ?_
      ·
       intro hc_5
       replace zh0 := ifO_t hc_5 zh0
       refine WC.seq (WC.region ?_)
       refine sp (OpV.assign rfl) ?_
       refine WL.nil (En.next (WC.ret (En.then_ret (En.block_ret (En.then_ret (En.then_ret (En.block_ret (En.then_ret ?_))))))))
       refine En.ret1 rfl (Res.tmp rfl) ?_
       have hx := exitP ze0 zh0
       subst hx
       replace h := fork_r h
       obtain rfl := Option.some.inj h
       intro w' hs
       exact ⟨rfl, hs.below⟩
      ·
       intro hc_5
       replace zh0 := ifO_f hc_5 zh0
       refine WC.skip (En.next (WC.seq (WC.region ?_)))
       refine sp (OpV.move rfl) ?_
       refine sp (OpV.addR rfl rfl) ?_
       refine sp (OpV.assign rfl) ?_
       refine WL.nil (En.next (WC.seq (WC.seq ?_)))
       obtain ⟨x16_2, e16_2, zh0⟩ := bnd zh0
       obtain ⟨g16_2, o16_2, _, ha16_2, rfl, hd16_2⟩ := Rd.atIdx r0_0 e16_2
       replace hd16_2 : ∀ (j : Nat) v, ([.int .i64 x16_2.Clock, .int .i64 x16_2.W, .int .i64 x16_2.HFront, .int .i64 x16_2.HSync, .int .i64 x16_2.HBack, .int .i64 x16_2.H, .int .i64 x16_2.VFront, .int .i64 x16_2.VSync, .int .i64 x16_2.VBack] : List Value)[j]? = some v → w.cell? ⟨g16_2, o16_2 + v1_0.toNat * 9 + j, .none⟩ = some v := hd16_2
       refine WC.region ?_
       refine sp (OpV.move rfl) ?_
       refine sp (OpV.move rfl) ?_
       refine sp (OpV.idxA rfl rfl se_45 ha16_2 ⟨(idx_some e16_2).1, (idx_some e16_2).2.1⟩) ?_
       refine sp (OpV.fieldAddr rfl fo_33_4) ?_
       refine sp (OpV.load1 rfl pt_3 (fun w hs => hs.cell (hd16_2 4 _ rfl))) ?_
       refine sp (OpV.move rfl) ?_
       refine sp (OpV.neq rfl rfl) ?_
       refine WL.nil (En.next ?_)
       refine WC.cond rfl ?_ ?_
       ·
        intro hc_6
        replace zh0 := ifO_t hc_6 zh0
        refine WC.seq (WC.region ?_)
        refine sp (OpV.assign rfl) ?_
        refine WL.nil (En.next (WC.ret (En.then_ret (En.block_ret (En.then_ret (En.then_ret (En.block_ret (En.then_ret ?_))))))))
        refine En.ret1 rfl (Res.tmp rfl) ?_
        have hx := exitP ze0 zh0
        subst hx
        replace h := fork_r h
        obtain rfl := Option.some.inj h
        intro w' hs
        exact ⟨rfl, hs.below⟩
       ·
        intro hc_6
        replace zh0 := ifO_f hc_6 zh0
        refine WC.skip (En.next (WC.seq (WC.region ?_)))
        refine sp (OpV.move rfl) ?_
        refine sp (OpV.addR rfl rfl) ?_
        refine sp (OpV.assign rfl) ?_
        refine WL.nil (En.next (WC.seq (WC.seq ?_)))
        obtain ⟨x19_2, e19_2, zh0⟩ := bnd zh0
        obtain ⟨g19_2, o19_2, _, ha19_2, rfl, hd19_2⟩ := Rd.atIdx r0_0 e19_2
        replace hd19_2 : ∀ (j : Nat) v, ([.int .i64 x19_2.Clock, .int .i64 x19_2.W, .int .i64 x19_2.HFront, .int .i64 x19_2.HSync, .int .i64 x19_2.HBack, .int .i64 x19_2.H, .int .i64 x19_2.VFront, .int .i64 x19_2.VSync, .int .i64 x19_2.VBack] : List Value)[j]? = some v → w.cell? ⟨g19_2, o19_2 + v1_0.toNat * 9 + j, .none⟩ = some v := hd19_2
        refine WC.region ?_
        refine sp (OpV.move rfl) ?_
        refine sp (OpV.move rfl) ?_
        refine sp (OpV.idxA rfl rfl se_45 ha19_2 ⟨(idx_some e19_2).1, (idx_some e19_2).2.1⟩) ?_
        refine sp (OpV.fieldAddr rfl fo_33_5) ?_
        refine sp (OpV.load1 rfl pt_3 (fun w hs => hs.cell (hd19_2 5 _ rfl))) ?_
        refine sp (OpV.move rfl) ?_
        refine sp (OpV.neq rfl rfl) ?_
        refine WL.nil (En.next ?_)
        refine WC.cond rfl ?_ ?_
        ·
         intro hc_7
         replace zh0 := ifO_t hc_7 zh0
         refine WC.seq (WC.region ?_)
         refine sp (OpV.assign rfl) ?_
         refine WL.nil (En.next (WC.ret (En.then_ret (En.block_ret (En.then_ret (En.then_ret (En.block_ret (En.then_ret ?_))))))))
         refine En.ret1 rfl (Res.tmp rfl) ?_
         have hx := exitP ze0 zh0
         subst hx
         replace h := fork_r h
         obtain rfl := Option.some.inj h
         intro w' hs
         exact ⟨rfl, hs.below⟩
        ·
         intro hc_7
         replace zh0 := ifO_f hc_7 zh0
         refine WC.skip (En.next (WC.seq (WC.region ?_)))
         refine sp (OpV.move rfl) ?_
         refine sp (OpV.addR rfl rfl) ?_
         refine sp (OpV.assign rfl) ?_
         refine WL.nil (En.next (WC.seq (WC.seq ?_)))
         obtain ⟨x22_2, e22_2, zh0⟩ := bnd zh0
         obtain ⟨g22_2, o22_2, _, ha22_2, rfl, hd22_2⟩ := Rd.atIdx r0_0 e22_2
         replace hd22_2 : ∀ (j : Nat) v, ([.int .i64 x22_2.Clock, .int .i64 x22_2.W, .int .i64 x22_2.HFront, .int .i64 x22_2.HSync, .int .i64 x22_2.HBack, .int .i64 x22_2.H, .int .i64 x22_2.VFront, .int .i64 x22_2.VSync, .int .i64 x22_2.VBack] : List Value)[j]? = some v → w.cell? ⟨g22_2, o22_2 + v1_0.toNat * 9 + j, .none⟩ = some v := hd22_2
         refine WC.region ?_
         refine sp (OpV.move rfl) ?_
         refine sp (OpV.move rfl) ?_
         refine sp (OpV.idxA rfl rfl se_45 ha22_2 ⟨(idx_some e22_2).1, (idx_some e22_2).2.1⟩) ?_
         refine sp (OpV.fieldAddr rfl fo_33_6) ?_
         refine sp (OpV.load1 rfl pt_3 (fun w hs => hs.cell (hd22_2 6 _ rfl))) ?_
         refine sp (OpV.move rfl) ?_
         refine sp (OpV.neq rfl rfl) ?_
         refine WL.nil (En.next ?_)
         refine WC.cond rfl ?_ ?_
         ·
          intro hc_8
          replace zh0 := ifO_t hc_8 zh0
          refine WC.seq (WC.region ?_)
          refine sp (OpV.assign rfl) ?_
          refine WL.nil (En.next (WC.ret (En.then_ret (En.block_ret (En.then_ret (En.then_ret (En.block_ret (En.then_ret ?_))))))))
          refine En.ret1 rfl (Res.tmp rfl) ?_
          have hx := exitP ze0 zh0
          subst hx
          replace h := fork_r h
          obtain rfl := Option.some.inj h
          intro w' hs
          exact ⟨rfl, hs.below⟩
         ·
          intro hc_8
          replace zh0 := ifO_f hc_8 zh0
          refine WC.skip (En.next (WC.seq (WC.region ?_)))
          refine sp (OpV.move rfl) ?_
          refine sp (OpV.addR rfl rfl) ?_
          refine sp (OpV.assign rfl) ?_
          refine WL.nil (En.next (WC.seq (WC.seq ?_)))
          obtain ⟨x25_2, e25_2, zh0⟩ := bnd zh0
          obtain ⟨g25_2, o25_2, _, ha25_2, rfl, hd25_2⟩ := Rd.atIdx r0_0 e25_2
          replace hd25_2 : ∀ (j : Nat) v, ([.int .i64 x25_2.Clock, .int .i64 x25_2.W, .int .i64 x25_2.HFront, .int .i64 x25_2.HSync, .int .i64 x25_2.HBack, .int .i64 x25_2.H, .int .i64 x25_2.VFront, .int .i64 x25_2.VSync, .int .i64 x25_2.VBack] : List Value)[j]? = some v → w.cell? ⟨g25_2, o25_2 + v1_0.toNat * 9 + j, .none⟩ = some v := hd25_2
          refine WC.region ?_
          refine sp (OpV.move rfl) ?_
          refine sp (OpV.move rfl) ?_
          refine sp (OpV.idxA rfl rfl se_45 ha25_2 ⟨(idx_some e25_2).1, (idx_some e25_2).2.1⟩) ?_
          refine sp (OpV.fieldAddr rfl fo_33_7) ?_
          refine sp (OpV.load1 rfl pt_3 (fun w hs => hs.cell (hd25_2 7 _ rfl))) ?_
          refine sp (OpV.move rfl) ?_
          refine sp (OpV.neq rfl rfl) ?_
          refine WL.nil (En.next ?_)
          refine WC.cond rfl ?_ ?_
          ·
           intro hc_9
           replace zh0 := ifO_t hc_9 zh0
           refine WC.seq (WC.region ?_)
           refine sp (OpV.assign rfl) ?_
           refine WL.nil (En.next (WC.ret (En.then_ret (En.block_ret (En.then_ret (En.then_ret (En.block_ret (En.then_ret ?_))))))))
           refine En.ret1 rfl (Res.tmp rfl) ?_
           have hx := exitP ze0 zh0
           subst hx
           replace h := fork_r h
           obtain rfl := Option.some.inj h
           intro w' hs
           exact ⟨rfl, hs.below⟩
          ·
           intro hc_9
           replace zh0 := ifO_f hc_9 zh0
           refine WC.skip (En.next (WC.seq (WC.region ?_)))
           refine sp (OpV.move rfl) ?_
           refine sp (OpV.addR rfl rfl) ?_
           refine sp (OpV.assign rfl) ?_
           refine WL.nil (En.next (WC.seq (WC.seq ?_)))
           obtain ⟨x28_2, e28_2, zh0⟩ := bnd zh0
           obtain ⟨g28_2, o28_2, _, ha28_2, rfl, hd28_2⟩ := Rd.atIdx r0_0 e28_2
           replace hd28_2 : ∀ (j : Nat) v, ([.int .i64 x28_2.Clock, .int .i64 x28_2.W, .int .i64 x28_2.HFront, .int .i64 x28_2.HSync, .int .i64 x28_2.HBack, .int .i64 x28_2.H, .int .i64 x28_2.VFront, .int .i64 x28_2.VSync, .int .i64 x28_2.VBack] : List Value)[j]? = some v → w.cell? ⟨g28_2, o28_2 + v1_0.toNat * 9 + j, .none⟩ = some v := hd28_2
           refine WC.region ?_
           refine sp (OpV.move rfl) ?_
           refine sp (OpV.move rfl) ?_
           refine sp (OpV.idxA rfl rfl se_45 ha28_2 ⟨(idx_some e28_2).1, (idx_some e28_2).2.1⟩) ?_
           refine sp (OpV.fieldAddr rfl fo_33_8) ?_
           refine sp (OpV.load1 rfl pt_3 (fun w hs => hs.cell (hd28_2 8 _ rfl))) ?_
           refine sp (OpV.move rfl) ?_
           refine sp (OpV.neq rfl rfl) ?_
           refine WL.nil (En.next ?_)
           refine WC.cond rfl ?_ ?_
           ·
            intro hc_10
            replace zh0 := ifO_t hc_10 zh0
            refine WC.seq (WC.region ?_)
            refine sp (OpV.assign rfl) ?_
            refine WL.nil (En.next (WC.ret (En.then_ret (En.block_ret (En.then_ret (En.then_ret (En.block_ret (En.then_ret ?_))))))))
            refine En.ret1 rfl (Res.tmp rfl) ?_
            have hx := exitP ze0 zh0
            subst hx
            replace h := fork_r h
            obtain rfl := Option.some.inj h
            intro w' hs
            exact ⟨rfl, hs.below⟩
           ·
            intro hc_10
            replace zh0 := ifO_f hc_10 zh0
            refine WC.skip (En.next (WC.region ?_))
            refine sp (OpV.move rfl) ?_
            refine sp (OpV.addR rfl rfl) ?_
            refine sp (OpV.assign rfl) ?_
            refine WL.nil (En.block_norm (En.next (WC.region ?_)))
            refine sp (OpV.move rfl) ?_
            refine sp (OpV.addR rfl rfl) ?_
            refine sp (OpV.assign rfl) ?_
            refine WL.nil ?_
            exact En.backP zb0 zh0 () (Sub.cons rfl (Sub.cons rfl (Sub.cons rfl (Sub.nil _)))) (fun _ h => h)
  ·
   intro hc_1
   replace zh0 := ifO_f hc_1 zh0
   refine WC.exit (En.then_exit (En.then_exit ?_))
   have hx := exitP ze0 zh0
   exact En.wk _ _ (Sub.cons rfl (Sub.nil _)) (fun _ h => h) (zK0_0 (v_0, ()) hx.symm)

theorem w_laws_heldMonitor {a_p0 : MonitorT} {k_p1 : Int} {r : Int} {q0_0 : Option Addr} {l0_0 k0_0 : Nat} (h : laws_heldMonitor a_p0 k_p1 = some r) {w : World} (r0_0 : Rd tMode w q0_0 l0_0 k0_0 a_p0.Modes)   :
    Calls Try.prog 37 #[.agg #[.string a_p0.Name, .slice q0_0 l0_0 k0_0, .int .i64 a_p0.Stretch], .int .i64 k_p1] w (fun en w' => en = .returned (.int .i64 r) ∧ Ext w w') := by
 obtain rfl := r0_0.1
 unfold laws_heldMonitor at h
 refine enter (vs := [_, _]) Try.func37 rfl rfl rfl rfl ?_
 refine WC.seq (WC.region ?_)
 refine WL.heavy rfl rfl rfl (OpH.box rfl rfl ?_)
 intro b0_0
 refine sp (OpV.assign rfl) ?_
 refine WL.nil (En.next (WC.seq ?_))
 obtain ⟨x1_3, e1_3, h⟩ := bnd h
 refine WC.region ?_
 refine sp (OpV.fieldAddr rfl fo_47_1) ?_
 refine sp (OpV.loadBox rfl pt_45 (.head _) rfl) ?_
 refine sp (OpV.move rfl) ?_
 refine sp (OpV.call (evs.cons rfl (evs.cons rfl (evs.nil))) ca_60 (fun w hs => w_laws_heldModeS e1_3 (r0_0.ext hs.below))) ?_
 refine sp (OpV.assign rfl) ?_
 refine WL.nil (En.next (WC.seq (WC.seq (WC.region ?_))))
 refine sp (OpV.move rfl) ?_
 refine sp (OpV.lss rfl rfl) ?_
 refine WL.nil (En.next ?_)
 refine WC.cond rfl ?_ ?_
 ·
  intro hc_1
  replace h := ifO_t hc_1 h
  refine WC.seq (WC.region ?_)
  refine sp (OpV.assign rfl) ?_
  refine WL.nil (En.next (WC.ret (En.then_ret ?_)))
  refine En.ret1 rfl (Res.tmp rfl) ?_
  obtain rfl := Option.some.inj h
  intro w' hs
  exact ⟨rfl, hs.below⟩
 ·
  intro hc_1
  replace h := ifO_f hc_1 h
  refine WC.skip (En.next (WC.seq (WC.region ?_)))
  refine sp (OpV.move rfl) ?_
  refine sp (OpV.assign rfl) ?_
  refine WL.nil (En.next (WC.ret ?_))
  refine En.ret1 rfl (Res.tmp rfl) ?_
  obtain rfl := Option.some.inj h
  intro w' hs
  exact ⟨rfl, hs.below⟩

theorem w_laws_FnExactParseDescriptor {a_p0 : ByteArray} {r : Bool}  (h : laws_FnExactParseDescriptor a_p0 = some r) {w : World}    :
    Calls Try.prog 9 #[.string a_p0] w (fun en w' => en = .returned (.bool r) ∧ Ext w w') := by
 unfold laws_FnExactParseDescriptor at h
 refine enter (vs := [_]) Try.func9 rfl rfl rfl rfl ?_
 refine WC.seq (WC.region ?_)
 refine sp (OpV.assign rfl) ?_
 refine WL.nil (En.next (WC.seq (WC.seq (WC.region ?_))))
 refine sp (OpV.move rfl) ?_
 refine sp (OpV.lenS rfl us_9 rfl) ?_
 refine sp (OpV.gtr rfl rfl) ?_
 refine WL.nil (En.next ?_)
 refine WC.cond rfl ?_ ?_
 ·
  intro hc_1
  replace h := ifO_t hc_1 h
  refine WC.seq (WC.region ?_)
  refine sp (OpV.assign rfl) ?_
  refine WL.nil (En.next (WC.ret (En.then_ret ?_)))
  refine En.ret1 rfl (Res.tmp rfl) ?_
  obtain rfl := Option.some.inj h
  intro w' hs
  exact ⟨rfl, hs.below⟩
 ·
  intro hc_1
  replace h := ifO_f hc_1 h
  refine WC.skip (En.next (WC.seq ?_))
  obtain ⟨⟨x3_1a, x3_1b⟩, e3_1, h⟩ := bnd h
  refine WC.region ?_
  refine sp (OpV.move rfl) ?_
  refine WL.heavy rfl rfl rfl (OpH.callR (evs.cons rfl (evs.nil)) ca_35 (fun w hs => w_spec_ParseDescriptor e3_1) ?_)
  rintro _ _ ⟨a3_100, n3_100, c3_100, f3_100, rfl, rfl⟩
  refine sp (OpV.move rfl) ?_
  refine sp (OpV.extract rfl rfl) ?_
  refine sp (OpV.extract rfl rfl) ?_
  refine WL.heavy rfl rfl rfl (OpH.alloc zc_47 ?_)
  intro b3_5
  refine WL.heavy0 rfl rfl (OpH.storeTo (A := []) [_, _, _] rfl rfl rfl ts_47 rfl rfl rfl ?_)
  refine sp (OpV.assign rfl) ?_
  refine WL.nil (En.next (WC.seq ?_))
  obtain ⟨⟨x4_1a, x4_1b⟩, e4_1, h⟩ := bnd h
  refine WC.region ?_
  refine sp (OpV.move rfl) ?_
  refine WL.heavy rfl rfl rfl (OpH.callR (evs.cons rfl (evs.nil)) ca_28 (fun w hs => w_impl_ParseDescriptor e4_1) ?_)
  rintro _ _ ⟨a4_100, n4_100, c4_100, f4_100, rfl, rfl⟩
  refine sp (OpV.move rfl) ?_
  refine sp (OpV.extract rfl rfl) ?_
  refine sp (OpV.extract rfl rfl) ?_
  refine WL.heavy rfl rfl rfl (OpH.alloc zc_47 ?_)
  intro b4_5
  refine WL.heavy0 rfl rfl (OpH.storeTo (A := []) [_, _, _] rfl rfl rfl ts_47 rfl rfl rfl ?_)
  refine sp (OpV.assign rfl) ?_
  refine WL.nil (En.next (WC.seq (WC.seq ?_)))
  obtain ⟨x5_2, e5_2, h⟩ := bnd h
  refine WC.region ?_
  refine sp (OpV.loadAll rfl (.head _) ag_47) ?_
  refine sp (OpV.loadAll rfl (.tail _ (.tail _ (.head _))) ag_47) ?_
  refine sp (OpV.call (evs.cons rfl (evs.cons rfl (evs.nil))) ca_34 (fun w hs => w_laws_eqMonitor e5_2 (Ow.rd (hs.mem (.tail _ (.head _)))) (Ow.rd (hs.mem (.tail _ (.tail _ (.tail _ (.head _)))))))) ?_
  refine sp (OpV.not rfl) ?_
  refine sp (OpV.move rfl) ?_
  refine Lt.ofWL.or 28 32 31 (p := ?pz1) (rest := ?qz1) (B := ?Bz1) rfl ?Tz1 ?Fz1 ?az1 ?bz1 ?cz1 ?dz1 ?ez1
  case Tz1 =>
   intro hcz1 hkz1
   refine sk ?_
   refine sk ?_
   refine sk ?_
   refine hkz1 _ ?_
   repeat (first | exact Sub.refl _ | refine Sub.skip rfl ?_)
  case Fz1 =>
   intro hcz1 hkz1
   refine sp (OpV.move rfl) ?_
   refine sp (OpV.move rfl) ?_
   refine sp (OpV.bneq rfl rfl ub_4) ?_
   refine hkz1 _ ?_ ?_
   exact rfl
   repeat (first | exact Sub.refl _ | refine Sub.skip rfl ?_)
  case az1 => exact rfl
  case bz1 => exact rfl
  case cz1 => exact rfl
  case dz1 => exact rfl
  refine WL.nil (En.next ?_)
  refine WC.cond rfl ?_ ?_
  ·
   intro hc_2
   replace h := ifO_t hc_2 h
   refine WC.seq (WC.region ?_)
   refine sp (OpV.assign rfl) ?_
   refine WL.nil (En.next (WC.ret (En.then_ret ?_)))
   refine En.ret1 rfl (Res.tmp rfl) ?_
   obtain rfl := Option.some.inj h
   intro w' hs
   exact ⟨rfl, hs.below⟩
  ·
   intro hc_2
   replace h := ifO_f hc_2 h
   refine WC.skip (En.next (WC.seq (WC.region ?_)))
   refine sp (OpV.assign rfl) ?_
   refine WL.nil (En.next (WC.seq ?_))
   obtain ⟨⟨x8_2a, x8_2b⟩, e8_2, h⟩ := bnd h
   refine WC.region ?_
   refine sp (OpV.loadAll rfl (.head _) ag_47) ?_
   refine sp (OpV.move rfl) ?_
   refine WL.wkF (fun _ h => h.perm (List.perm_middle (l₁ := [_]))) ?_
   refine WL.heavy rfl rfl rfl (OpH.callX (evs.cons rfl (evs.cons rfl (evs.nil))) ca_36 (fun w hs => w_laws_markMonitor e8_2 hs) ?_)
   rintro _ _ ⟨g8_200, rfl, rfl⟩
   refine sp (OpV.assign rfl) ?_
   refine WL.nil (En.next (WC.seq (WC.region ?_)))
   refine sp (OpV.assign rfl) ?_
   refine WL.nil (En.next (WC.seq ?_))
   obtain ⟨x10_2, e10_2, h⟩ := bnd h
   refine WC.region ?_
   refine sp (OpV.loadAll rfl (.tail _ (.head _)) ag_47) ?_
   refine sp (OpV.move rfl) ?_
   refine sp (OpV.call (evs.cons rfl (evs.cons rfl (evs.nil))) ca_37 (fun w hs => w_laws_heldMonitor e10_2 (Ow.rd (hs.mem (.head _))))) ?_
   refine sp (OpV.assign rfl) ?_
   refine WL.nil (En.next (WC.seq (WC.seq (WC.region ?_))))
   refine sp (OpV.move rfl) ?_
   refine sp (OpV.lss rfl rfl) ?_
   refine WL.nil (En.next ?_)
   refine WC.cond rfl ?_ ?_
   ·
    intro hc_3
    replace h := ifO_t hc_3 h
    refine WC.seq (WC.region ?_)
    refine sp (OpV.assign rfl) ?_
    refine WL.nil (En.next (WC.ret (En.then_ret ?_)))
    refine En.ret1 rfl (Res.tmp rfl) ?_
    obtain rfl := Option.some.inj h
    intro w' hs
    exact ⟨rfl, hs.below⟩
   ·
    intro hc_3
    replace h := ifO_f hc_3 h
    refine WC.skip (En.next (WC.seq (WC.seq (WC.region ?_))))
    refine sp (OpV.move rfl) ?_
    refine sp (OpV.move rfl) ?_
    refine sp (OpV.neq rfl rfl) ?_
    refine WL.nil (En.next ?_)
    refine WC.cond rfl ?_ ?_
    ·
     intro hc_4
     replace h := ifO_t hc_4 h
     refine WC.seq (WC.region ?_)
     refine sp (OpV.assign rfl) ?_
     refine WL.nil (En.next (WC.ret (En.then_ret ?_)))
     refine En.ret1 rfl (Res.tmp rfl) ?_
     obtain rfl := Option.some.inj h
     intro w' hs
     exact ⟨rfl, hs.below⟩
    ·
     intro hc_4
     replace h := ifO_f hc_4 h
     refine WC.skip (En.next (WC.seq ?_))
     obtain ⟨⟨x15_1a, x15_1b⟩, e15_1, h⟩ := bnd h
     refine WC.region ?_
     refine sp (OpV.move rfl) ?_
     refine WL.heavy rfl rfl rfl (OpH.callR (evs.cons rfl (evs.nil)) ca_28 (fun w hs => w_impl_ParseDescriptor e15_1) ?_)
     rintro _ _ ⟨a15_100, n15_100, c15_100, f15_100, rfl, rfl⟩
     refine sp (OpV.move rfl) ?_
     refine sp (OpV.extract rfl rfl) ?_
     refine sp (OpV.extract rfl rfl) ?_
     refine WL.heavy rfl rfl rfl (OpH.alloc zc_47 ?_)
     intro b15_5
     refine WL.heavy0 rfl rfl (OpH.storeTo (A := []) [_, _, _] rfl rfl rfl ts_47 rfl rfl rfl ?_)
     refine sp (OpV.assign rfl) ?_
     refine WL.nil (En.next (WC.seq (WC.seq ?_)))
     obtain ⟨x16_2, e16_2, h⟩ := bnd h
     refine WC.region ?_
     refine sp (OpV.loadAll rfl (.head _) ag_47) ?_
     refine sp (OpV.loadAll rfl (.tail _ (.tail _ (.tail _ (.tail _ (.head _))))) ag_47) ?_
     refine sp (OpV.call (evs.cons rfl (evs.cons rfl (evs.nil))) ca_34 (fun w hs => w_laws_eqMonitor e16_2 (Ow.rd (hs.mem (.tail _ (.head _)))) (Ow.rd (hs.mem (.tail _ (.tail _ (.tail _ (.tail _ (.tail _ (.head _)))))))))) ?_
     refine sp (OpV.not rfl) ?_
     refine sp (OpV.move rfl) ?_
     refine Lt.ofWL.or 53 57 56 (p := ?pz2) (rest := ?qz2) (B := ?Bz2) rfl ?Tz2 ?Fz2 ?az2 ?bz2 ?cz2 ?dz2 ?ez2
     case Tz2 =>
      intro hcz2 hkz2
      refine sk ?_
      refine sk ?_
      refine sk ?_
      refine hkz2 _ ?_
      repeat (first | exact Sub.refl _ | refine Sub.skip rfl ?_)
     case Fz2 =>
      intro hcz2 hkz2
      refine sp (OpV.move rfl) ?_
      refine sp (OpV.move rfl) ?_
      refine sp (OpV.bneq rfl rfl ub_4) ?_
      refine hkz2 _ ?_ ?_
      exact rfl
      repeat (first | exact Sub.refl _ | refine Sub.skip rfl ?_)
     case az2 => exact rfl
     case bz2 => exact rfl
     case cz2 => exact rfl
     case dz2 => exact rfl
     refine WL.nil (En.next ?_)
     refine WC.cond rfl ?_ ?_
     ·
      intro hc_5
      replace h := ifO_t hc_5 h
      refine WC.seq (WC.region ?_)
      refine sp (OpV.assign rfl) ?_
      refine WL.nil (En.next (WC.ret (En.then_ret ?_)))
      refine En.ret1 rfl (Res.tmp rfl) ?_
      obtain rfl := Option.some.inj h
      intro w' hs
      exact ⟨rfl, hs.below⟩
     ·
      intro hc_5
      replace h := ifO_f hc_5 h
      refine WC.skip (En.next (WC.seq (WC.region ?_)))
      refine sp (OpV.assign rfl) ?_
      refine WL.nil (En.next (WC.seq ?_))
      obtain ⟨x19_2, e19_2, h⟩ := bnd h
      refine WC.region ?_
      refine sp (OpV.loadAll rfl (.tail _ (.tail _ (.tail _ (.head _)))) ag_47) ?_
      refine sp (OpV.move rfl) ?_
      refine sp (OpV.call (evs.cons rfl (evs.cons rfl (evs.nil))) ca_37 (fun w hs => w_laws_heldMonitor e19_2 (Ow.rd (hs.mem (.tail _ (.tail _ (.head _))))))) ?_
      refine sp (OpV.assign rfl) ?_
      refine WL.nil (En.next (WC.seq (WC.seq (WC.region ?_))))
      refine sp (OpV.move rfl) ?_
      refine sp (OpV.lss rfl rfl) ?_
      refine WL.nil (En.next ?_)
      refine WC.cond rfl ?_ ?_
      ·
       intro hc_6
       replace h := ifO_t hc_6 h
       refine WC.seq (WC.region ?_)
       refine sp (OpV.assign rfl) ?_
       refine WL.nil (En.next (WC.ret (En.then_ret ?_)))
       refine En.ret1 rfl (Res.tmp rfl) ?_
       obtain rfl := Option.some.inj h
       intro w' hs
       exact ⟨rfl, hs.below⟩
      ·
       intro hc_6
       replace h := ifO_f hc_6 h
       refine WC.skip (En.next (WC.seq (WC.seq (WC.region ?_))))
       refine sp (OpV.move rfl) ?_
       refine sp (OpV.move rfl) ?_
       refine sp (OpV.neq rfl rfl) ?_
       refine WL.nil (En.next ?_)
       refine WC.cond rfl ?_ ?_
       ·
        intro hc_7
        replace h := ifO_t hc_7 h
        refine WC.seq (WC.region ?_)
        refine sp (OpV.assign rfl) ?_
        refine WL.nil (En.next (WC.ret (En.then_ret ?_)))
        refine En.ret1 rfl (Res.tmp rfl) ?_
        obtain rfl := Option.some.inj h
        intro w' hs
        exact ⟨rfl, hs.below⟩
       ·
        intro hc_7
        replace h := ifO_f hc_7 h
        refine WC.skip (En.next (WC.seq (WC.region ?_)))
        refine sp (OpV.assign rfl) ?_
        refine WL.nil (En.next (WC.ret ?_))
        refine En.ret1 rfl (Res.tmp rfl) ?_
        obtain rfl := Option.some.inj h
        intro w' hs
        exact ⟨rfl, hs.below⟩

theorem w_laws_FnDescriptors {a_p0 : List Int} {r : Bool} {q0_0 : Option Addr} {l0_0 k0_0 : Nat} (h : laws_FnDescriptors a_p0 = some r) {w : World} (r0_0 : Rd tU8 w q0_0 l0_0 k0_0 a_p0)   :
    Calls Try.prog 7 #[.slice q0_0 l0_0 k0_0] w (fun en w' => en = .returned (.bool r) ∧ Ext w w') := by
 obtain rfl := r0_0.1
 unfold laws_FnDescriptors at h
 refine enter (vs := [_]) Try.func7 rfl rfl rfl rfl ?_
 refine WC.seq (WC.region ?_)
 refine sp (OpV.assign rfl) ?_
 refine WL.nil (En.next (WC.seq (WC.seq ?_)))
 obtain ⟨x1_1, e1_1, h⟩ := bnd h
 refine WC.region ?_
 refine sp (OpV.move rfl) ?_
 refine sp (OpV.call (evs.cons rfl (evs.nil)) ca_10 (fun w hs => w_laws_big e1_1 (r0_0.ext hs.below))) ?_
 refine WL.nil (En.next ?_)
 refine WC.cond rfl ?_ ?_
 ·
  intro hc_1
  replace h := ifO_t hc_1 h
  refine WC.seq (WC.region ?_)
  refine sp (OpV.assign rfl) ?_
  refine WL.nil (En.next (WC.ret (En.then_ret ?_)))
  refine En.ret1 rfl (Res.tmp rfl) ?_
  obtain rfl := Option.some.inj h
  intro w' hs
  exact ⟨rfl, hs.below⟩
 ·
  intro hc_1
  replace h := ifO_f hc_1 h
  refine WC.skip (En.next (WC.seq ?_))
  obtain ⟨x3_1, e3_1, h⟩ := bnd h
  refine WC.region ?_
  refine sp (OpV.move rfl) ?_
  refine WL.heavy rfl rfl rfl (OpH.callR (evs.cons rfl (evs.nil)) ca_25 (fun w hs => w_spec_DrawMonitor e3_1 (r0_0.ext hs.below)) ?_)
  rintro _ _ ⟨a3_100, n3_100, c3_100, f3_100, rfl, rfl⟩
  refine WL.heavy rfl rfl rfl (OpH.alloc zc_47 ?_)
  intro b3_2
  refine WL.heavy0 rfl rfl (OpH.storeTo (A := []) [_, _, _] rfl rfl rfl ts_47 rfl rfl rfl ?_)
  refine WL.nil (En.next (WC.seq ?_))
  obtain ⟨⟨x4_1a, x4_1b⟩, e4_1, h⟩ := bnd h
  refine WC.region ?_
  refine sp (OpV.loadAll rfl (.head _) ag_47) ?_
  refine sp (OpV.call (evs.cons rfl (evs.nil)) ca_27 (fun w hs => w_impl_BuildDescriptor e4_1 (Ow.rd (hs.mem (.tail _ (.head _)))))) ?_
  refine sp (OpV.move rfl) ?_
  refine sp (OpV.extract rfl rfl) ?_
  refine sp (OpV.extract rfl rfl) ?_
  refine sp (OpV.assign rfl) ?_
  refine sp (OpV.assign rfl) ?_
  refine WL.nil (En.next (WC.seq ?_))
  obtain ⟨⟨x5_1a, x5_1b⟩, e5_1, h⟩ := bnd h
  refine WC.region ?_
  refine sp (OpV.move rfl) ?_
  refine WL.heavy rfl rfl rfl (OpH.callR (evs.cons rfl (evs.nil)) ca_28 (fun w hs => w_impl_ParseDescriptor e5_1) ?_)
  rintro _ _ ⟨a5_100, n5_100, c5_100, f5_100, rfl, rfl⟩
  refine sp (OpV.move rfl) ?_
  refine sp (OpV.extract rfl rfl) ?_
  refine sp (OpV.extract rfl rfl) ?_
  refine WL.heavy rfl rfl rfl (OpH.alloc zc_47 ?_)
  intro b5_5
  refine WL.heavy0 rfl rfl (OpH.storeTo (A := []) [_, _, _] rfl rfl rfl ts_47 rfl rfl rfl ?_)
  refine sp (OpV.assign rfl) ?_
  refine WL.nil (En.next (WC.seq (WC.seq ?_)))
  obtain ⟨q6_33, e6_33, h⟩ := bnd h
  refine WC.region ?_
  refine sp (OpV.move rfl) ?_
  refine sp (OpV.not rfl) ?_
  refine sp (OpV.move rfl) ?_
  refine Lt.ofWL.or 29 32 31 (p := ?pz1) (rest := ?qz1) (B := ?Bz1) rfl ?Tz1 ?Fz1 ?az1 ?bz1 ?cz1 ?dz1 ?ez1
  case Tz1 =>
   intro hcz1 hkz1
   refine sk ?_
   refine sk ?_
   refine hkz1 _ ?_
   repeat (first | exact Sub.refl _ | refine Sub.skip rfl ?_)
  case Fz1 =>
   intro hcz1 hkz1
   refine sp (OpV.move rfl) ?_
   refine sp (OpV.not rfl) ?_
   refine hkz1 _ ?_ ?_
   exact rfl
   repeat (first | exact Sub.refl _ | refine Sub.skip rfl ?_)
  case az1 => exact rfl
  case bz1 => exact rfl
  case cz1 => exact rfl
  case dz1 => exact rfl
  refine sp (OpV.move rfl) ?_
  refine Lt.ofWL.or 33 39 38 (p := ?pz2) (rest := ?qz2) (B := ?Bz2) rfl ?Tz2 ?Fz2 ?az2 ?bz2 ?cz2 ?dz2 ?ez2
  case Tz2 =>
   intro hcz2 hkz2
   refine sk ?_
   refine sk ?_
   refine sk ?_
   refine sk ?_
   refine sk ?_
   refine hkz2 _ ?_
   repeat (first | exact Sub.refl _ | refine Sub.skip rfl ?_)
  case Fz2 =>
   intro hcz2 hkz2
   refine sp (OpV.fieldAddr rfl fo_47_0) ?_
   refine sp (OpV.loadBox rfl pt_9 (.head _) rfl) ?_
   refine sp (OpV.fieldAddr rfl fo_47_0) ?_
   refine sp (OpV.loadBox rfl pt_9 (.tail _ (.tail _ (.head _))) rfl) ?_
   refine sp (OpV.sneqR rfl rfl) ?_
   refine hkz2 _ ?_ ?_
   exact rfl
   repeat (first | exact Sub.refl _ | refine Sub.skip rfl ?_)
  case az2 => exact rfl
  case bz2 => exact rfl
  case cz2 => exact rfl
  case dz2 => exact rfl
  refine sp (OpV.move rfl) ?_
  refine Lt.ofWL.or 40 46 45 (p := ?pz3) (rest := ?qz3) (B := ?Bz3) rfl ?Tz3 ?Fz3 ?az3 ?bz3 ?cz3 ?dz3 ?ez3
  case Tz3 =>
   intro hcz3 hkz3
   refine sk ?_
   refine sk ?_
   refine sk ?_
   refine sk ?_
   refine sk ?_
   refine hkz3 _ ?_
   repeat (first | exact Sub.refl _ | refine Sub.skip rfl ?_)
  case Fz3 =>
   intro hcz3 hkz3
   refine sp (OpV.fieldAddr rfl fo_47_2) ?_
   refine sp (OpV.loadBox rfl pt_3 (.head _) rfl) ?_
   refine sp (OpV.fieldAddr rfl fo_47_2) ?_
   refine sp (OpV.loadBox rfl pt_3 (.tail _ (.tail _ (.head _))) rfl) ?_
   refine sp (OpV.neq rfl rfl) ?_
   refine hkz3 _ ?_ ?_
   exact rfl
   repeat (first | exact Sub.refl _ | refine Sub.skip rfl ?_)
  case az3 => exact rfl
  case bz3 => exact rfl
  case cz3 => exact rfl
  case dz3 => exact rfl
  refine sp (OpV.move rfl) ?_
  refine Lt.ofWL.or 47 55 54 (p := ?pz4) (rest := ?qz4) (B := ?Bz4) rfl ?Tz4 ?Fz4 ?az4 ?bz4 ?cz4 ?dz4 ?ez4
  case Tz4 =>
   intro hcz4 hkz4
   refine sk ?_
   refine sk ?_
   refine sk ?_
   refine sk ?_
   refine sk ?_
   refine sk ?_
   refine sk ?_
   refine hkz4 _ ?_
   repeat (first | exact Sub.refl _ | refine Sub.skip rfl ?_)
  case Fz4 =>
   intro hcz4 hkz4
   refine sp (OpV.fieldAddr rfl fo_47_1) ?_
   refine sp (OpV.loadBox rfl pt_45 (.head _) rfl) ?_
   refine sp (OpV.inhF fun hin => OpV.lenO (xs := x5_1a.Modes) rfl si_45 rfl (ownLen hin (.tail _ (.head _)))) ?_
   refine sp (OpV.fieldAddr rfl fo_47_1) ?_
   refine sp (OpV.loadBox rfl pt_45 (.tail _ (.tail _ (.head _))) rfl) ?_
   refine sp (OpV.inhF fun hin => OpV.lenO (xs := x3_1.Modes) rfl si_45 rfl (ownLen hin (.tail _ (.tail _ (.tail _ (.head _)))))) ?_
   refine sp (OpV.neq rfl rfl) ?_
   refine hkz4 _ ?_ ?_
   exact rfl
   repeat (first | exact Sub.refl _ | refine Sub.skip rfl ?_)
  case az4 => exact rfl
  case bz4 => exact rfl
  case cz4 => exact rfl
  case dz4 => exact rfl
  refine sp (OpV.move rfl) ?_
  refine Lt.ofWL.orQ 56 60 59 (p := ?pz5) (rest := ?qz5) (B := q6_33) rfl (fun hz => orO_t e6_33 hz) ?Tz5 ?Fz5 ?az5 ?bz5 ?cz5 ?dz5 ?ez5
  case Tz5 =>
   intro hcz5 hkz5
   refine sk ?_
   refine sk ?_
   refine sk ?_
   refine hkz5 _ ?_
   repeat (first | exact Sub.refl _ | refine Sub.skip rfl ?_)
  case Fz5 =>
   intro hcz5 hkz5
   have hqz5 := orO_f e6_33 hcz5
   obtain ⟨x6_31, e6_31, hqz5⟩ := bnd hqz5
   obtain rfl := Option.some.inj hqz5
   refine sp (OpV.move rfl) ?_
   refine sp (OpV.call (evs.cons rfl (evs.nil)) ca_29 (fun w hs => w_impl_ByteSum e6_31)) ?_
   refine sp (OpV.neq rfl rfl) ?_
   refine hkz5 _ ?_ ?_
   exact rfl
   repeat (first | exact Sub.refl _ | refine Sub.skip rfl ?_)
  case az5 => exact rfl
  case bz5 => exact rfl
  case cz5 => exact rfl
  case dz5 => exact rfl
  refine WL.nil (En.next ?_)
  refine WC.cond rfl ?_ ?_
  ·
   intro hc_2
   replace h := ifO_t hc_2 h
   refine WC.seq (WC.region ?_)
   refine sp (OpV.assign rfl) ?_
   refine WL.nil (En.next (WC.ret (En.then_ret ?_)))
   refine En.ret1 rfl (Res.tmp rfl) ?_
   obtain rfl := Option.some.inj h
   intro w' hs
   exact ⟨rfl, hs.below⟩
  ·
   intro hc_2
   replace h := ifO_f hc_2 h
   refine WC.skip (En.next (WC.seq (WC.seq (WC.region ?_))))
   refine sp (OpV.assign rfl) ?_
   refine WL.nil (En.next (WC.block ?_))
   obtain ⟨zy0, ezy0, h⟩ := bnd h
   refine WC.cut (X := (Unit) × (Unit)) (.exit 0) (fun x => zy0 = .inl x.1) (fun x => match x with | ((), ()) => [(0, .slice q0_0 a_p0.length k0_0), (4, .string x4_1a), (6, .pointer (some ⟨b5_5, 0, .none⟩))]) (fun x => match x with | ((), ()) => [Chunk.box b5_5 47 [.string x5_1a.Name, .slice a5_100 n5_100 c5_100, .int .i64 x5_1a.Stretch], Chunk.own tMode f5_100 a5_100 n5_100 c5_100 x5_1a.Modes]) ?_ ?_
   ·
    rintro ⟨⟨⟩, ⟨⟩⟩ hx
    replace hx : .inl () = zy0 := hx.symm
    subst hx
    replace h := fork_l h
    show En _ _ _ _ [(0, .slice q0_0 a_p0.length k0_0), (4, .string x4_1a), (6, .pointer (some ⟨b5_5, 0, .none⟩))] [Chunk.box b5_5 47 [.string x5_1a.Name, .slice a5_100 n5_100 c5_100, .int .i64 x5_1a.Stretch], Chunk.own tMode f5_100 a5_100 n5_100 c5_100 x5_1a.Modes]
    refine En.block_exit (En.next (WC.seq ?_))
    obtain ⟨x13_1, e13_1, h⟩ := bnd h
    obtain ⟨x13_4, e13_4, h⟩ := bnd h
    refine WC.region ?_
    refine sp (OpV.move rfl) ?_
    refine sp (OpV.call (evs.cons rfl (evs.cons rfl (evs.nil))) ca_11 (fun w hs => w_laws_at e13_1 (r0_0.ext hs.below))) ?_
    refine sp (OpV.move rfl) ?_
    refine sp (OpV.lenS rfl us_9 rfl) ?_
    refine sp (OpV.remR rfl rfl e13_4) ?_
    refine sp (OpV.assign rfl) ?_
    refine WL.nil (En.next (WC.seq ?_))
    obtain ⟨x14_2, e14_2, h⟩ := bnd h
    obtain ⟨x14_4, e14_4, h⟩ := bnd h
    refine WC.drawnH [] ([_, _]) (fun _ h => h) (by kernel_rfl) ?_
    refine WAE.take (i := 0) rfl (by kernel_rfl) (by kernel_rfl) (by kernel_rfl) rfl rfl rfl (OpV.move rfl) ?_
    refine WAE.take (i := 1) rfl (by kernel_rfl) (by kernel_rfl) (by kernel_rfl) rfl rfl rfl (OpV.move rfl) ?_
    refine WAE.take (i := 2) rfl (by kernel_rfl) (by kernel_rfl) (by kernel_rfl) rfl rfl rfl (OpV.sidxR rfl rfl us_9 e14_2) ?_
    refine WAE.take (i := 3) rfl (by kernel_rfl) (by kernel_rfl) (by kernel_rfl) rfl rfl rfl (OpV.move rfl) ?_
    refine WAE.take (i := 4) rfl (by kernel_rfl) (by kernel_rfl) (by kernel_rfl) rfl rfl rfl (OpV.call (evs.cons rfl (evs.cons rfl (evs.nil))) ca_11 (fun w hs => w_laws_at e14_4 (r0_0.ext hs.below))) ?_
    refine WAE.take (i := 5) rfl (by kernel_rfl) (by kernel_rfl) (by kernel_rfl) rfl rfl rfl (OpV.remR rfl rfl rfl) ?_
    refine WAE.take (i := 6) rfl (by kernel_rfl) (by kernel_rfl) (by kernel_rfl) rfl rfl rfl (OpV.addR rfl rfl) ?_
    refine WAE.take (i := 7) rfl (by kernel_rfl) (by kernel_rfl) (by kernel_rfl) rfl rfl rfl (OpV.conv8R rfl uS_3 ui_5_u8) ?_
    refine WAE.take (i := 8) rfl (by kernel_rfl) (by kernel_rfl) (by kernel_rfl) rfl rfl rfl (OpV.xor8R rfl rfl) ?_
    refine WAE.all (rs := [9]) (by kernel_rfl) rfl (AllR.cons rfl rfl rfl rfl ?_ AllR.nil)
    refine OpH.litF (A := tU8) (xs := [(xor8 x14_2 (b8 (wr (1 + (Int.tmod x14_4 255)))))]) tU8_flat (evps.cons rfl (evps.nil)) (bs_22_1_0 _) rfl rfl (Nat.le_of_ble_eq_true rfl) ?_
    intro b14_9
    refine ⟨[_], rfl, ?_⟩
    refine WAE.rebase (H := []) ?_
    refine WAE.take (i := 10) rfl (by kernel_rfl) (by kernel_rfl) (by kernel_rfl) rfl rfl rfl (OpV.strBR (A := tU8) tU8_flat (fun _ => rfl) rfl sl_22 ui_5_u8 us_9 (fun w hs => (Ow.rd (hs.mem (.head _))))) ?_
    refine WAE.take (i := 11) rfl (by kernel_rfl) (by kernel_rfl) (by kernel_rfl) rfl rfl rfl (OpV.assign rfl) ?_
    refine WAE.done (by kernel_rfl) ?_ _
    refine En.next (WC.seq ?_)
    obtain ⟨x15_2, e15_2, h⟩ := bnd h
    obtain ⟨x15_4, e15_4, h⟩ := bnd h
    obtain ⟨x15_8, e15_8, h⟩ := bnd h
    obtain ⟨x15_9, e15_9, h⟩ := bnd h
    obtain ⟨⟨x15_10a, x15_10b⟩, e15_10, h⟩ := bnd h
    refine WC.cut (X := Nat × (Option Addr) × Nat × Nat × (List Nat)) .normal (fun _ => True) (fun x => match x with | (b15_14, a15_1000, n15_1000, c15_1000, f15_1000) => [(6, .pointer (some ⟨b5_5, 0, .none⟩)), (12, .bool x15_10b)]) (fun x => match x with | (b15_14, a15_1000, n15_1000, c15_1000, f15_1000) => [Chunk.box b5_5 47 [.string x5_1a.Name, .slice a5_100 n5_100 c5_100, .int .i64 x5_1a.Stretch], Chunk.own tMode f5_100 a5_100 n5_100 c5_100 x5_1a.Modes]) ?_ ?_
    ·
     rintro ⟨b15_14, a15_1000, n15_1000, c15_1000, f15_1000⟩ _
     show En _ _ _ _ [(6, .pointer (some ⟨b5_5, 0, .none⟩)), (12, .bool x15_10b)] [Chunk.box b5_5 47 [.string x5_1a.Name, .slice a5_100 n5_100 c5_100, .int .i64 x5_1a.Stretch], Chunk.own tMode f5_100 a5_100 n5_100 c5_100 x5_1a.Modes]
     refine En.next (WC.seq ?_)
     obtain ⟨q16_5, e16_5, h⟩ := bnd h
     refine WC.region ?_
     refine sp (OpV.move rfl) ?_
     refine sp (OpV.not rfl) ?_
     refine sp (OpV.move rfl) ?_
     refine Lt.ofWL.andQ 111 114 113 (p := ?pz6) (rest := ?qz6) (B := q16_5) rfl (fun hz => andO_f e16_5 hz) ?Tz6 ?Fz6 ?az6 ?bz6 ?cz6 ?dz6 ?ez6
     case Tz6 =>
      intro hcz6 hkz6
      have hqz6 := andO_t e16_5 hcz6
      obtain ⟨x16_4, e16_4, hqz6⟩ := bnd hqz6
      obtain rfl := Option.some.inj hqz6
      refine sp (OpV.loadAll rfl (.head _) ag_47) ?_
      refine sp (OpV.call (evs.cons rfl (evs.nil)) ca_30 (fun w hs => w_impl_MonitorOk e16_4 (Ow.rd (hs.mem (.tail _ (.head _)))))) ?_
      refine hkz6 _ ?_ ?_
      exact rfl
      repeat (first | exact Sub.refl _ | refine Sub.skip rfl ?_)
     case Fz6 =>
      intro hcz6 hkz6
      refine sk ?_
      refine sk ?_
      refine hkz6 _ ?_
      repeat (first | exact Sub.refl _ | refine Sub.skip rfl ?_)
     case az6 => exact rfl
     case bz6 => exact rfl
     case cz6 => exact rfl
     case dz6 => exact rfl
     refine sp (OpV.assign rfl) ?_
     refine WL.nil (En.next (WC.ret ?_))
     refine En.ret1 rfl (Res.tmp rfl) ?_
     obtain rfl := Option.some.inj h
     intro w' hs
     exact ⟨rfl, hs.below⟩
    ·
     intro KR15
     refine WC.drawnH [] ([_, _, _]) (fun _ h => h) (by kernel_rfl) ?_
     refine WAE.take (i := 0) rfl (by kernel_rfl) (by kernel_rfl) (by kernel_rfl) rfl rfl rfl (OpV.move rfl) ?_
     refine WAE.take (i := 1) rfl (by kernel_rfl) (by kernel_rfl) (by kernel_rfl) rfl rfl rfl (OpV.move rfl) ?_
     refine WAE.take (i := 2) rfl (by kernel_rfl) (by kernel_rfl) (by kernel_rfl) rfl rfl rfl (OpV.ssubH rfl rfl us_9 e15_2) ?_
     refine WAE.take (i := 3) rfl (by kernel_rfl) (by kernel_rfl) (by kernel_rfl) rfl rfl rfl (OpV.move rfl) ?_
     refine WAE.take (i := 4) rfl (by kernel_rfl) (by kernel_rfl) (by kernel_rfl) rfl rfl rfl (OpV.sappR rfl rfl e15_4) ?_
     refine WAE.take (i := 5) rfl (by kernel_rfl) (by kernel_rfl) (by kernel_rfl) rfl rfl rfl (OpV.move rfl) ?_
     refine WAE.take (i := 6) rfl (by kernel_rfl) (by kernel_rfl) (by kernel_rfl) rfl rfl rfl (OpV.move rfl) ?_
     refine WAE.take (i := 7) rfl (by kernel_rfl) (by kernel_rfl) (by kernel_rfl) rfl rfl rfl (OpV.addR rfl rfl) ?_
     refine WAE.take (i := 8) rfl (by kernel_rfl) (by kernel_rfl) (by kernel_rfl) rfl rfl rfl (OpV.ssubL rfl rfl us_9 e15_8) ?_
     refine WAE.take (i := 9) rfl (by kernel_rfl) (by kernel_rfl) (by kernel_rfl) rfl rfl rfl (OpV.sappR rfl rfl e15_9) ?_
     refine WAE.all (rs := [10, 14]) (by kernel_rfl) rfl (AllR.cons rfl rfl rfl rfl ?_ (AllR.cons rfl rfl rfl rfl ?_ AllR.nil))
     ·
      refine OpH.callR (evs.cons rfl (evs.nil)) ca_28 (fun w hs => w_impl_ParseDescriptor e15_10) ?_
      rintro _ _ ⟨a15_1000, n15_1000, c15_1000, f15_1000, rfl, rfl⟩
      refine ⟨[_], rfl, ?_⟩
      refine WAE.rebase (H := []) ?_
      refine WAE.take (i := 11) rfl (by kernel_rfl) (by kernel_rfl) (by kernel_rfl) rfl rfl rfl (OpV.move rfl) ?_
      refine WAE.take (i := 12) rfl (by kernel_rfl) (by kernel_rfl) (by kernel_rfl) rfl rfl rfl (OpV.extract rfl rfl) ?_
      refine WAE.take (i := 13) rfl (by kernel_rfl) (by kernel_rfl) (by kernel_rfl) rfl rfl rfl (OpV.extract rfl rfl) ?_
      refine WAE.all (rs := [14]) (by kernel_rfl) rfl (AllR.cons rfl rfl rfl rfl ?_ AllR.nil)
      refine OpH.alloc zc_47 ?_
      intro b15_14
      refine ⟨[_], rfl, ?_⟩
      refine WAE.all (rs := [15]) (by kernel_rfl) rfl (AllR.cons0 rfl rfl rfl ?_ AllR.nil)
      refine OpH.storeTo (A := []) [_, _, _] rfl rfl rfl ts_47 rfl rfl rfl ?_
      refine ⟨[_], rfl, ?_⟩
      refine WAE.rebase (H := []) ?_
      refine WAE.take (i := 16) rfl (by kernel_rfl) (by kernel_rfl) (by kernel_rfl) rfl rfl rfl (OpV.assign rfl) ?_
      refine WAE.done (by kernel_rfl) ?_ _
      exact En.wk _ _ (Sub.cons rfl (Sub.cons rfl (Sub.nil _))) (fun _ h => (((h).perm (List.perm_middle (l₁ := [_, _, _, _]))).perm (List.perm_middle (l₁ := [_, _, _, _]))).sub (.cons_cons _ (.cons_cons _ (.cons _ (.cons _ (.cons _ (.slnil))))))) (KR15 (b15_14, a15_1000, n15_1000, c15_1000, f15_1000) trivial)
     ·
      refine OpH.alloc zc_47 ?_
      intro b15_14
      refine ⟨[_], rfl, ?_⟩
      refine WAE.all (rs := [10]) (by kernel_rfl) rfl (AllR.cons rfl rfl rfl rfl ?_ AllR.nil)
      refine OpH.callR (evs.cons rfl (evs.nil)) ca_28 (fun w hs => w_impl_ParseDescriptor e15_10) ?_
      rintro _ _ ⟨a15_1000, n15_1000, c15_1000, f15_1000, rfl, rfl⟩
      refine ⟨[_, _], rfl, ?_⟩
      refine WAE.take (i := 11) rfl (by kernel_rfl) (by kernel_rfl) (by kernel_rfl) rfl rfl rfl (OpV.move rfl) ?_
      refine WAE.take (i := 12) rfl (by kernel_rfl) (by kernel_rfl) (by kernel_rfl) rfl rfl rfl (OpV.extract rfl rfl) ?_
      refine WAE.take (i := 13) rfl (by kernel_rfl) (by kernel_rfl) (by kernel_rfl) rfl rfl rfl (OpV.extract rfl rfl) ?_
      refine WAE.all (rs := [15]) (by kernel_rfl) rfl (AllR.cons0 rfl rfl rfl ?_ AllR.nil)
      refine OpH.storeTo (A := [_]) [_, _, _] rfl rfl rfl ts_47 rfl rfl rfl ?_
      refine ⟨[_, _], rfl, ?_⟩
      refine WAE.rebase (H := []) ?_
      refine WAE.take (i := 16) rfl (by kernel_rfl) (by kernel_rfl) (by kernel_rfl) rfl rfl rfl (OpV.assign rfl) ?_
      refine WAE.done (by kernel_rfl) ?_ _
      exact En.wk _ _ (Sub.cons rfl (Sub.cons rfl (Sub.nil _))) (fun _ h => (((h).perm (List.perm_middle (l₁ := [_, _, _, _]))).perm (List.perm_middle (l₁ := [_, _, _, _]))).sub (.cons_cons _ (.cons_cons _ (.cons _ (.cons _ (.cons _ (.slnil))))))) (KR15 (b15_14, a15_1000, n15_1000, c15_1000, f15_1000) trivial)
   ·
    intro zK0_0
    refine WC.loopP (G := Unit) (fun s g => match s, g with | v_0, () => [(0, .slice q0_0 a_p0.length k0_0), (3, .pointer (some ⟨b3_2, 0, .none⟩)), (4, .string x4_1a), (6, .pointer (some ⟨b5_5, 0, .none⟩)), (8, .int .i64 v_0)]) (fun s g => match s, g with | v_0, () => [Chunk.box b3_2 47 [.string x3_1.Name, .slice a3_100 n3_100 c3_100, .int .i64 x3_1.Stretch], Chunk.own tMode f3_100 a3_100 n3_100 c3_100 x3_1.Modes, Chunk.box b5_5 47 [.string x5_1a.Name, .slice a5_100 n5_100 c5_100, .int .i64 x5_1a.Stretch], Chunk.own tMode f5_100 a5_100 n5_100 c5_100 x5_1a.Modes]) 0 () ezy0 (by exact Sub.cons rfl (Sub.cons rfl (Sub.cons rfl (Sub.cons rfl (Sub.cons rfl (Sub.nil _)))))) (by exact (fun _ h => ((((h).perm (List.perm_middle (l₁ := [_]))).perm (List.perm_middle (l₁ := [_]))).perm (List.perm_middle (l₁ := [_, _, _]))).perm (List.perm_middle (l₁ := [_, _, _])))) ?_
    rintro zm0 v_0 ⟨⟩ zo0 zf0 zb0 ze0
    have zh0 : laws_FnDescriptors_L0 x3_1 x5_1a v_0 = some zo0 := zf0
    unfold laws_FnDescriptors_L0 at zh0
    show WC _ _ _ _ _ [(0, .slice q0_0 a_p0.length k0_0), (3, .pointer (some ⟨b3_2, 0, .none⟩)), (4, .string x4_1a), (6, .pointer (some ⟨b5_5, 0, .none⟩)), (8, .int .i64 v_0)] [Chunk.box b3_2 47 [.string x3_1.Name, .slice a3_100 n3_100 c3_100, .int .i64 x3_1.Stretch], Chunk.own tMode f3_100 a3_100 n3_100 c3_100 x3_1.Modes, Chunk.box b5_5 47 [.string x5_1a.Name, .slice a5_100 n5_100 c5_100, .int .i64 x5_1a.Stretch], Chunk.own tMode f5_100 a5_100 n5_100 c5_100 x5_1a.Modes]
    refine WC.seq (WC.seq (WC.region ?_))
    refine sp (OpV.move rfl) ?_
    refine sp (OpV.fieldAddr rfl fo_47_1) ?_
    refine sp (OpV.loadBox rfl pt_45 (.head _) rfl) ?_
    refine sp (OpV.inhF fun hin => OpV.lenO (xs := x3_1.Modes) rfl si_45 rfl (ownLen hin (.tail _ (.head _)))) ?_
    refine sp (OpV.lss rfl rfl) ?_
    refine WL.nil (En.next ?_)
    refine WC.cond rfl ?_ ?_
    ·
     intro hc_3
     replace zh0 := ifO_t hc_3 zh0
     refine WC.skip (En.next (WC.seq (WC.block (WC.seq ?_))))
     refine WC.inh fun hin11 => ?_
     obtain ⟨x11_3, e11_3, zh0⟩ := bnd zh0
     obtain ⟨g11_3, o11_3, ha11_3⟩ := ownAddr hin11 (.tail _ (.tail _ (.tail _ (.head _)))) e11_3
     have hn11_3 := ownLen hin11 (.tail _ (.tail _ (.tail _ (.head _))))
     obtain ⟨x11_8, e11_8, zh0⟩ := bnd zh0
     obtain ⟨g11_8, o11_8, ha11_8⟩ := ownAddr hin11 (.tail _ (.head _)) e11_8
     have hn11_8 := ownLen hin11 (.tail _ (.head _))
     refine WC.drawn [(0, ?r11v0), (3, ?r11v3), (4, ?r11v4), (6, ?r11v6), (8, ?r11v8), (78, ?r11v78)] (by kernel_rfl) (by kernel_rfl) ?dH11 ?dK11
     case dH11 =>
      intro W hW hk
      refine hW.step rfl rfl rfl (OpV.fieldAddr rfl fo_47_1) ?_
      refine hW.step rfl rfl rfl (OpV.loadBox rfl pt_45 (.tail _ (.tail _ (.head _))) rfl) ?_
      refine hW.step rfl rfl rfl (OpV.move rfl) ?_
      refine hW.step rfl rfl rfl (OpV.idxA rfl rfl se_45 ha11_3 ⟨(idx_some e11_3).1, by rw [hn11_3]; exact (idx_some e11_3).2.1⟩) ?_
      refine hW.step rfl rfl rfl (OpV.loadN rfl ag_33 rfl (fun w hs => Rd.all tMode_flat (Ow.rd (hs.mem (.tail _ (.tail _ (.tail _ (.head _)))))) e11_3 ha11_3)) ?_
      refine hW.step rfl rfl rfl (OpV.fieldAddr rfl fo_47_1) ?_
      refine hW.step rfl rfl rfl (OpV.loadBox rfl pt_45 (.head _) rfl) ?_
      refine hW.step rfl rfl rfl (OpV.move rfl) ?_
      refine hW.step rfl rfl rfl (OpV.idxA rfl rfl se_45 ha11_8 ⟨(idx_some e11_8).1, by rw [hn11_8]; exact (idx_some e11_8).2.1⟩) ?_
      refine hW.step rfl rfl rfl (OpV.loadN rfl ag_33 rfl (fun w hs => Rd.all tMode_flat (Ow.rd (hs.mem (.tail _ (.head _)))) e11_8 ha11_8)) ?_
      refine hW.step rfl rfl rfl (OpV.aneq rfl rfl eg_33 (fun w => aeq_33 w)) ?_
      refine hk _ ?_
      refine Sub.cons ?_ (Sub.cons ?_ (Sub.cons ?_ (Sub.cons ?_ (Sub.cons ?_ (Sub.cons ?_ (Sub.nil _))))))
      all_goals exact rfl
     refine En.next ?_
     refine WC.cond rfl ?_ ?_
     ·
      intro hc_4
      replace zh0 := ifO_t hc_4 zh0
      refine WC.seq (WC.region ?_)
      refine sp (OpV.assign rfl) ?_
      refine WL.nil (En.next (WC.ret (En.block_ret (En.then_ret (En.then_ret (En.block_ret (En.then_ret ?_)))))))
      refine En.ret1 rfl (Res.tmp rfl) ?_
      have hx := exitP ze0 zh0
      subst hx
      replace h := fork_r h
      obtain rfl := Option.some.inj h
      intro w' hs
      exact ⟨rfl, hs.below⟩
     ·
      intro hc_4
      replace zh0 := ifO_f hc_4 zh0
      refine WC.skip (En.block_norm (En.next (WC.region ?_)))
      refine sp (OpV.move rfl) ?_
      refine sp (OpV.addR rfl rfl) ?_
      refine sp (OpV.assign rfl) ?_
      refine WL.nil ?_
      exact En.backP zb0 zh0 () (Sub.cons rfl (Sub.cons rfl (Sub.cons rfl (Sub.cons rfl (Sub.cons rfl (Sub.nil _)))))) (fun _ h => h)
    ·
     intro hc_3
     replace zh0 := ifO_f hc_3 zh0
     refine WC.exit (En.then_exit (En.then_exit ?_))
     have hx := exitP ze0 zh0
     exact En.wk _ _ (Sub.cons rfl (Sub.cons rfl (Sub.cons rfl (Sub.nil _)))) (fun _ h => (((h).perm (List.perm_middle (l₁ := [_, _, _]))).perm (List.perm_middle (l₁ := [_, _, _]))).sub (.cons_cons _ (.cons_cons _ (.cons _ (.cons _ (.slnil)))))) (zK0_0 ((), ()) hx.symm)

end Go.Proofs.Ytmbohhfhhdopiaa
