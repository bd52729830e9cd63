/- Walks: the program computes the pure functions. -/
import Derived.Test.YtbdpbboonilhhaaW3
namespace Go.Proofs.Ytbdpbboonilhhaa
open Go.RowKit K
set_option maxRecDepth 100000
set_option maxHeartbeats 4000000

theorem w_laws_FnAssigned {a_p0 : List Int} {r : Bool} {q0_0 : Option Addr} {l0_0 k0_0 : Nat} (h : laws_FnAssigned a_p0 = some r) {w : World} (r0_0 : Rd tU8 w q0_0 l0_0 k0_0 a_p0)   :
    Calls Try.prog 5 #[.slice q0_0 l0_0 k0_0] w (fun en w' => en = .returned (.bool r) ∧ Ext w w') := by
 obtain rfl := r0_0.1
 unfold laws_FnAssigned at h
 refine enter (vs := [_]) Try.func5 rfl rfl rfl rfl ?_
 refine WC.sr ?_
 refine ag ?_
 refine WL.nil (En.next (WC.seq (WC.seq ?_)))
 obtain ⟨x1_1, e1_1, h⟩ := bnd h
 refine WC.region ?_
 refine mv ?_
 refine sp (OpV.call (ec rfl e0) ca_10 (fun w hs => w_laws_big e1_1 (r0_0.ext hs.below))) ?_
 refine WL.nil (En.next ?_)
 refine WC.cond rfl ?_ ?_
 ·
  intro hc_1
  replace h := ifO_t hc_1 h
  refine WC.sr ?_
  refine ag ?_
  refine WL.nil (En.next (WC.ret (En.then_ret ?_)))
  refine En.ret1 rfl (Res.tmp rfl) ?_
  obtain rfl := Option.some.inj h
  intro w' hs
  exact ⟨rfl, hs.below⟩
 ·
  intro hc_1
  replace h := ifO_f hc_1 h
  refine WC.skip (En.next (WC.seq ?_))
  obtain ⟨⟨x3_1a, x3_1b⟩, e3_1, h⟩ := bnd h
  refine WC.region ?_
  refine mv ?_
  refine WL.heavy rfl rfl rfl (OpH.callR (ec rfl e0) ca_22 (fun w hs => w_spec_DrawAssignment e3_1 (r0_0.ext hs.below)) ?_)
  rintro _ _ ⟨a3_100, n3_100, c3_100, f3_100, rfl, rfl⟩
  refine mv ?_
  refine sp (OpV.extract rfl rfl) ?_
  refine sp (OpV.extract rfl rfl) ?_
  refine WL.heavy rfl rfl rfl (OpH.alloc zc_53 ?_)
  intro b3_5
  refine WL.heavy rfl rfl rfl (OpH.alloc zc_55 ?_)
  intro b3_6
  refine WL.heavy0 rfl rfl (OpH.storeTo (A := [_]) [_, _, _, _] rfl rfl rfl ts_53 rfl rfl rfl ?_)
  refine WL.heavy0 rfl rfl (OpH.storeTo (A := []) [_, _, _, _, _, _] rfl rfl rfl ts_55 rfl rfl rfl ?_)
  refine WL.nil (En.next (WC.seq ?_))
  obtain ⟨x4_2, e4_2, h⟩ := bnd h
  refine WC.region ?_
  refine sp (OpV.loadAll rfl mq1 ag_53) ?_
  refine sp (OpV.loadAll rfl mq0 ag_55) ?_
  refine WL.heavy rfl rfl rfl (OpH.callR (ec rfl (ec rfl e0)) ca_23 (fun w hs => w_impl_RestOf e4_2 ((hs.mem mq2).2 _ (fun _ _ => rfl))) ?_)
  rintro _ _ ⟨a4_200, n4_200, c4_200, f4_200, rfl, rfl⟩
  refine WL.heavy rfl rfl rfl (OpH.alloc zc_53 ?_)
  intro b4_3
  refine WL.heavy0 rfl rfl (OpH.storeTo (A := []) [_, _, _, _] rfl rfl rfl ts_53 rfl rfl rfl ?_)
  refine WL.nil (En.next (WC.seq ?_))
  obtain ⟨x5_3, e5_3, h⟩ := bnd h
  obtain ⟨x5_4, e5_4, h⟩ := bnd h
  refine WC.drawnH [] ([_, _, _, _, _]) (fun _ h => h) (by kernel_rfl) ?_
  refine tk 0 rfl (OpV.loadAll rfl mq3 ag_53) ?_
  refine tk 1 rfl (OpV.loadAll rfl mq2 ag_55) ?_
  refine tk 2 rfl (OpV.loadAll rfl mq0 ag_53) ?_
  refine al1 3 rfl ?_
  refine OpH.callR (ec rfl e0) ca_25 (fun w hs => w_spec_Paint e5_3 (Ow.rd (hs.mem mq1))) ?_
  rintro _ _ ⟨a5_300, n5_300, c5_300, f5_300, rfl, rfl⟩
  refine ⟨[_], rfl, ?_⟩
  refine WAE.rebase (H := []) ?_
  refine al1 4 rfl ?_
  refine OpH.callR (ec rfl (ec rfl (ec rfl e0))) ca_24 (fun w hs => w_impl_PlanesOf e5_4 ((hs.mem mq5).2 _ (fun _ _ => rfl)) (Ow.rd (hs.mem mq0))) ?_
  rintro _ _ ⟨a5_400, n5_400, c5_400, f5_400, rfl, rfl⟩
  refine ⟨[_], rfl, ?_⟩
  refine WAE.rebase (H := []) ?_
  refine tk 5 rfl (OpV.assign rfl) ?_
  refine WAE.done (by kernel_rfl) ?_ _
  refine En.next (WC.seq ?_)
  obtain ⟨⟨x6_2a, x6_2b⟩, e6_2, h⟩ := bnd h
  refine WC.region ?_
  refine sp (OpV.loadAll rfl mq5 ag_53) ?_
  refine sp (OpV.loadAll rfl mq4 ag_55) ?_
  refine WL.heavy rfl rfl rfl (OpH.callR (ec rfl (ec rfl e0)) ca_26 (fun w hs => w_impl_AssignedOf e6_2 ((hs.mem mq6).2 _ (fun _ _ => rfl))) ?_)
  rintro _ _ ⟨a6_200, n6_200, c6_200, f6_200, rfl, rfl⟩
  refine mv ?_
  refine sp (OpV.extract rfl rfl) ?_
  refine sp (OpV.extract rfl rfl) ?_
  refine ag ?_
  refine ag ?_
  refine WL.nil (En.next (WC.sr ?_))
  refine ag ?_
  refine WL.nil (En.next (WC.seq (WC.sr ?_)))
  refine ag ?_
  refine WL.nil (En.next (WC.block ?_))
  obtain ⟨zy0, ezy0, h⟩ := bnd h
  refine WC.cut (X := (Int) × (Unit)) (.exit 0) (fun x => zy0 = x.1) (fun x => match x with | (v_0e, ()) => [(3, .pointer (some ⟨b3_5, 0, .none⟩)), (5, .pointer (some ⟨b4_3, 0, .none⟩)), (6, .slice a5_400 n5_400 c5_400), (8, .int .i64 x6_2b), (9, .int .i64 v_0e)]) (fun x => match x with | (v_0e, ()) => [Chunk.box b3_5 53 [.int .i64 x3_1a.W, .int .i64 x3_1a.H, .int .i64 x3_1a.Back, .slice a3_100 n3_100 c3_100], Chunk.lie tSurface f3_100 a3_100 n3_100 c3_100 x3_1a.Surfaces, Chunk.box b4_3 53 [.int .i64 x4_2.W, .int .i64 x4_2.H, .int .i64 x4_2.Back, .slice a4_200 n4_200 c4_200], Chunk.own tSurface f4_200 a4_200 n4_200 c4_200 x4_2.Surfaces, Chunk.own tPlane f5_400 a5_400 n5_400 c5_400 x5_4]) ?_ ?_
  ·
   rintro ⟨v_0e, ⟨⟩⟩ hx
   replace hx : v_0e = zy0 := hx.symm
   subst hx
   show En _ _ _ _ [(3, .pointer (some ⟨b3_5, 0, .none⟩)), (5, .pointer (some ⟨b4_3, 0, .none⟩)), (6, .slice a5_400 n5_400 c5_400), (8, .int .i64 x6_2b), (9, .int .i64 v_0e)] [Chunk.box b3_5 53 [.int .i64 x3_1a.W, .int .i64 x3_1a.H, .int .i64 x3_1a.Back, .slice a3_100 n3_100 c3_100], Chunk.lie tSurface f3_100 a3_100 n3_100 c3_100 x3_1a.Surfaces, Chunk.box b4_3 53 [.int .i64 x4_2.W, .int .i64 x4_2.H, .int .i64 x4_2.Back, .slice a4_200 n4_200 c4_200], Chunk.own tSurface f4_200 a4_200 n4_200 c4_200 x4_2.Surfaces, Chunk.own tPlane f5_400 a5_400 n5_400 c5_400 x5_4]
   refine En.block_exit (En.next (WC.seq ?_))
   obtain ⟨x12_5, e12_5, h⟩ := bnd h
   obtain ⟨q12_16, e12_16, h⟩ := bnd h
   obtain ⟨q12_21, e12_21, h⟩ := bnd h
   obtain ⟨q12_32, e12_32, h⟩ := bnd h
   refine WC.cut (X := Unit) .normal (fun _ => True) (fun x => match x with | () => [(2, .bool q12_32)]) (fun x => match x with | () => []) ?_ ?_
   ·
    rintro ⟨⟩ _
    show En _ _ _ _ [(2, .bool q12_32)] []
    refine En.next (WC.ret ?_)
    refine En.ret1 rfl (Res.tmp rfl) ?_
    obtain rfl := Option.some.inj h
    intro w' hs
    exact ⟨rfl, hs.below⟩
   ·
    intro KR12
    refine WC.drawnH [] ([_, _, _, _, _]) (fun _ h => h) (by kernel_rfl) ?_
    refine tk 0 rfl (OpV.move rfl) ?_
    refine tk 1 rfl (OpV.fieldAddr rfl fo_53_0) ?_
    refine tk 2 rfl (OpV.loadBox rfl pt_3 mq0 rfl) ?_
    refine tk 3 rfl (OpV.fieldAddr rfl fo_53_1) ?_
    refine tk 4 rfl (OpV.loadBox rfl pt_3 mq0 rfl) ?_
    refine tk 5 rfl (OpV.call (ec rfl (ec rfl (ec rfl e0))) ca_16 (fun w hs => w_impl_PlanesOk e12_5 (Ow.rd (hs.mem mq4)))) ?_
    refine tk 6 rfl (OpV.move rfl) ?_
    refine WAE.split (t := 52) rfl ?_ ?_
    ·
     intro hs1
     have hqhs1 := andO_t e12_16 hs1
     obtain ⟨x12_12, e12_12, hqhs1⟩ := bnd hqhs1
     obtain ⟨x12_14, e12_14, hqhs1⟩ := bnd hqhs1
     obtain ⟨x12_15, e12_15, hqhs1⟩ := bnd hqhs1
     obtain rfl := Option.some.inj hqhs1
     refine tk 7 rfl (OpV.move rfl) ?_
     refine tk 8 rfl (OpV.fieldAddr rfl fo_53_0) ?_
     refine tk 9 rfl (OpV.loadBox rfl pt_3 mq0 rfl) ?_
     refine tk 10 rfl (OpV.fieldAddr rfl fo_53_1) ?_
     refine tk 11 rfl (OpV.loadBox rfl pt_3 mq0 rfl) ?_
     refine tk 13 rfl (OpV.loadAll rfl mq0 ag_53) ?_
     refine al1 12 rfl ?_
     refine OpH.callR (ec rfl (ec rfl (ec rfl e0))) ca_15 (fun w hs => w_impl_ScanOut e12_12 (Ow.rd (hs.mem mq4))) ?_
     rintro _ _ ⟨a12_1200, n12_1200, c12_1200, f12_1200, rfl, rfl⟩
     refine ⟨[_], rfl, ?_⟩
     refine WAE.rebase (H := []) ?_
     refine al1 14 rfl ?_
     refine OpH.callR (ec rfl e0) ca_25 (fun w hs => w_spec_Paint e12_14 ((hs.mem mq2).2 _ (fun _ _ => rfl))) ?_
     rintro _ _ ⟨a12_1400, n12_1400, c12_1400, f12_1400, rfl, rfl⟩
     refine ⟨[_], rfl, ?_⟩
     refine WAE.rebase (H := []) ?_
     refine tk 15 rfl (OpV.call (ec rfl (ec rfl e0)) ca_28 (fun w hs => w_laws_sameImage e12_15 (Ow.rd (hs.mem mq1)) (Ow.rd (hs.mem mq0)))) ?_
     refine tk 16 rfl (OpV.pickT rfl rfl) ?_
     refine tk 17 rfl (OpV.move rfl) ?_
     refine WAE.split (t := 63) rfl ?_ ?_
     ·
      intro hs2
      have hqhs2 := andO_t e12_21 hs2
      obtain rfl := Option.some.inj hqhs2
      refine tk 18 rfl (OpV.move rfl) ?_
      refine tk 19 rfl (OpV.move rfl) ?_
      refine tk 20 rfl (OpV.eql rfl rfl) ?_
      refine tk 21 rfl (OpV.pickT rfl rfl) ?_
      refine tk 22 rfl (OpV.move rfl) ?_
      refine WAE.split (t := 68) rfl ?_ ?_
      ·
       intro hs3
       have hqhs3 := andO_t e12_32 hs3
       obtain rfl := Option.some.inj hqhs3
       refine tk 23 rfl (OpV.fieldAddr rfl fo_53_3) ?_
       refine tk 24 rfl (OpV.loadBox rfl pt_51 mq4 rfl) ?_
       refine tk 25 rfl (OpV.inhF fun hin => OpV.lenO (xs := x4_2.Surfaces) rfl si_51 rfl (ownLen hin mq5)) ?_
       refine tk 26 rfl (OpV.fieldAddr rfl fo_53_3) ?_
       refine tk 27 rfl (OpV.loadBox rfl pt_51 mq2 rfl) ?_
       refine tk 28 rfl (OpV.inhF fun hin => OpV.lenO (xs := x3_1a.Surfaces) rfl si_51 rfl (lieLen hin mq3)) ?_
       refine tk 29 rfl (OpV.move rfl) ?_
       refine tk 30 rfl (OpV.subR rfl rfl) ?_
       refine tk 31 rfl (OpV.eql rfl rfl) ?_
       refine tk 32 rfl (OpV.pickT rfl rfl) ?_
       refine tk 33 rfl (OpV.assign rfl) ?_
       refine WAE.done (by kernel_rfl) ?_ _
       exact En.wk _ _ (sc sn) (fun _ h => (h).sub (.cons _ (.cons _ (.cons _ (.cons _ (.cons _ (.cons _ (.cons _ (.slnil))))))))) (KR12 () trivial)
      ·
       intro hs3
       obtain rfl := andO_f e12_32 hs3
       refine WAE.skip (i := 23) rfl (by kernel_rfl) (by kernel_rfl) (by kernel_rfl) rfl rfl rfl ?_
       refine WAE.skip (i := 24) rfl (by kernel_rfl) (by kernel_rfl) (by kernel_rfl) rfl rfl rfl ?_
       refine WAE.skip (i := 25) rfl (by kernel_rfl) (by kernel_rfl) (by kernel_rfl) rfl rfl rfl ?_
       refine WAE.skip (i := 26) rfl (by kernel_rfl) (by kernel_rfl) (by kernel_rfl) rfl rfl rfl ?_
       refine WAE.skip (i := 27) rfl (by kernel_rfl) (by kernel_rfl) (by kernel_rfl) rfl rfl rfl ?_
       refine WAE.skip (i := 28) rfl (by kernel_rfl) (by kernel_rfl) (by kernel_rfl) rfl rfl rfl ?_
       refine WAE.skip (i := 29) rfl (by kernel_rfl) (by kernel_rfl) (by kernel_rfl) rfl rfl rfl ?_
       refine WAE.skip (i := 30) rfl (by kernel_rfl) (by kernel_rfl) (by kernel_rfl) rfl rfl rfl ?_
       refine WAE.skip (i := 31) rfl (by kernel_rfl) (by kernel_rfl) (by kernel_rfl) rfl rfl rfl ?_
       refine tk 32 rfl (OpV.pickF rfl rfl) ?_
       refine tk 33 rfl (OpV.assign rfl) ?_
       refine WAE.done (by kernel_rfl) ?_ _
       exact En.wk _ _ (sc sn) (fun _ h => (h).sub (.cons _ (.cons _ (.cons _ (.cons _ (.cons _ (.cons _ (.cons _ (.slnil))))))))) (KR12 () trivial)
     ·
      intro hs2
      obtain rfl := andO_f e12_21 hs2
      refine WAE.skip (i := 18) rfl (by kernel_rfl) (by kernel_rfl) (by kernel_rfl) rfl rfl rfl ?_
      refine WAE.skip (i := 19) rfl (by kernel_rfl) (by kernel_rfl) (by kernel_rfl) rfl rfl rfl ?_
      refine WAE.skip (i := 20) rfl (by kernel_rfl) (by kernel_rfl) (by kernel_rfl) rfl rfl rfl ?_
      refine tk 21 rfl (OpV.pickF rfl rfl) ?_
      refine tk 22 rfl (OpV.move rfl) ?_
      refine WAE.split (t := 68) rfl ?_ ?_
      ·
       intro hs4
       have hqhs4 := andO_t e12_32 hs4
       obtain rfl := Option.some.inj hqhs4
       refine tk 23 rfl (OpV.fieldAddr rfl fo_53_3) ?_
       refine tk 24 rfl (OpV.loadBox rfl pt_51 mq4 rfl) ?_
       refine tk 25 rfl (OpV.inhF fun hin => OpV.lenO (xs := x4_2.Surfaces) rfl si_51 rfl (ownLen hin mq5)) ?_
       refine tk 26 rfl (OpV.fieldAddr rfl fo_53_3) ?_
       refine tk 27 rfl (OpV.loadBox rfl pt_51 mq2 rfl) ?_
       refine tk 28 rfl (OpV.inhF fun hin => OpV.lenO (xs := x3_1a.Surfaces) rfl si_51 rfl (lieLen hin mq3)) ?_
       refine tk 29 rfl (OpV.move rfl) ?_
       refine tk 30 rfl (OpV.subR rfl rfl) ?_
       refine tk 31 rfl (OpV.eql rfl rfl) ?_
       refine tk 32 rfl (OpV.pickT rfl rfl) ?_
       refine tk 33 rfl (OpV.assign rfl) ?_
       refine WAE.done (by kernel_rfl) ?_ _
       exact En.wk _ _ (sc sn) (fun _ h => (h).sub (.cons _ (.cons _ (.cons _ (.cons _ (.cons _ (.cons _ (.cons _ (.slnil))))))))) (KR12 () trivial)
      ·
       intro hs4
       obtain rfl := andO_f e12_32 hs4
       refine WAE.skip (i := 23) rfl (by kernel_rfl) (by kernel_rfl) (by kernel_rfl) rfl rfl rfl ?_
       refine WAE.skip (i := 24) rfl (by kernel_rfl) (by kernel_rfl) (by kernel_rfl) rfl rfl rfl ?_
       refine WAE.skip (i := 25) rfl (by kernel_rfl) (by kernel_rfl) (by kernel_rfl) rfl rfl rfl ?_
       refine WAE.skip (i := 26) rfl (by kernel_rfl) (by kernel_rfl) (by kernel_rfl) rfl rfl rfl ?_
       refine WAE.skip (i := 27) rfl (by kernel_rfl) (by kernel_rfl) (by kernel_rfl) rfl rfl rfl ?_
       refine WAE.skip (i := 28) rfl (by kernel_rfl) (by kernel_rfl) (by kernel_rfl) rfl rfl rfl ?_
       refine WAE.skip (i := 29) rfl (by kernel_rfl) (by kernel_rfl) (by kernel_rfl) rfl rfl rfl ?_
       refine WAE.skip (i := 30) rfl (by kernel_rfl) (by kernel_rfl) (by kernel_rfl) rfl rfl rfl ?_
       refine WAE.skip (i := 31) rfl (by kernel_rfl) (by kernel_rfl) (by kernel_rfl) rfl rfl rfl ?_
       refine tk 32 rfl (OpV.pickF rfl rfl) ?_
       refine tk 33 rfl (OpV.assign rfl) ?_
       refine WAE.done (by kernel_rfl) ?_ _
       exact En.wk _ _ (sc sn) (fun _ h => (h).sub (.cons _ (.cons _ (.cons _ (.cons _ (.cons _ (.cons _ (.cons _ (.slnil))))))))) (KR12 () trivial)
    ·
     intro hs1
     obtain rfl := andO_f e12_16 hs1
     refine WAE.skip (i := 7) rfl (by kernel_rfl) (by kernel_rfl) (by kernel_rfl) rfl rfl rfl ?_
     refine WAE.skip (i := 8) rfl (by kernel_rfl) (by kernel_rfl) (by kernel_rfl) rfl rfl rfl ?_
     refine WAE.skip (i := 9) rfl (by kernel_rfl) (by kernel_rfl) (by kernel_rfl) rfl rfl rfl ?_
     refine WAE.skip (i := 10) rfl (by kernel_rfl) (by kernel_rfl) (by kernel_rfl) rfl rfl rfl ?_
     refine WAE.skip (i := 11) rfl (by kernel_rfl) (by kernel_rfl) (by kernel_rfl) rfl rfl rfl ?_
     refine WAE.skip (i := 12) rfl (by kernel_rfl) (by kernel_rfl) (by kernel_rfl) rfl rfl rfl ?_
     refine WAE.skip (i := 13) rfl (by kernel_rfl) (by kernel_rfl) (by kernel_rfl) rfl rfl rfl ?_
     refine WAE.skip (i := 14) rfl (by kernel_rfl) (by kernel_rfl) (by kernel_rfl) rfl rfl rfl ?_
     refine WAE.skip (i := 15) rfl (by kernel_rfl) (by kernel_rfl) (by kernel_rfl) rfl rfl rfl ?_
     refine tk 16 rfl (OpV.pickF rfl rfl) ?_
     refine tk 17 rfl (OpV.move rfl) ?_
     refine WAE.split (t := 63) rfl ?_ ?_
     ·
      intro hs5
      have hqhs5 := andO_t e12_21 hs5
      obtain rfl := Option.some.inj hqhs5
      refine tk 18 rfl (OpV.move rfl) ?_
      refine tk 19 rfl (OpV.move rfl) ?_
      refine tk 20 rfl (OpV.eql rfl rfl) ?_
      refine tk 21 rfl (OpV.pickT rfl rfl) ?_
      refine tk 22 rfl (OpV.move rfl) ?_
      refine WAE.split (t := 68) rfl ?_ ?_
      ·
       intro hs6
       have hqhs6 := andO_t e12_32 hs6
       obtain rfl := Option.some.inj hqhs6
       refine tk 23 rfl (OpV.fieldAddr rfl fo_53_3) ?_
       refine tk 24 rfl (OpV.loadBox rfl pt_51 mq2 rfl) ?_
       refine tk 25 rfl (OpV.inhF fun hin => OpV.lenO (xs := x4_2.Surfaces) rfl si_51 rfl (ownLen hin mq3)) ?_
       refine tk 26 rfl (OpV.fieldAddr rfl fo_53_3) ?_
       refine tk 27 rfl (OpV.loadBox rfl pt_51 mq0 rfl) ?_
       refine tk 28 rfl (OpV.inhF fun hin => OpV.lenO (xs := x3_1a.Surfaces) rfl si_51 rfl (lieLen hin mq1)) ?_
       refine tk 29 rfl (OpV.move rfl) ?_
       refine tk 30 rfl (OpV.subR rfl rfl) ?_
       refine tk 31 rfl (OpV.eql rfl rfl) ?_
       refine tk 32 rfl (OpV.pickT rfl rfl) ?_
       refine tk 33 rfl (OpV.assign rfl) ?_
       refine WAE.done (by kernel_rfl) ?_ _
       exact En.wk _ _ (sc sn) (fun _ h => (h).sub (.cons _ (.cons _ (.cons _ (.cons _ (.cons _ (.slnil))))))) (KR12 () trivial)
      ·
       intro hs6
       obtain rfl := andO_f e12_32 hs6
       refine WAE.skip (i := 23) rfl (by kernel_rfl) (by kernel_rfl) (by kernel_rfl) rfl rfl rfl ?_
       refine WAE.skip (i := 24) rfl (by kernel_rfl) (by kernel_rfl) (by kernel_rfl) rfl rfl rfl ?_
       refine WAE.skip (i := 25) rfl (by kernel_rfl) (by kernel_rfl) (by kernel_rfl) rfl rfl rfl ?_
       refine WAE.skip (i := 26) rfl (by kernel_rfl) (by kernel_rfl) (by kernel_rfl) rfl rfl rfl ?_
       refine WAE.skip (i := 27) rfl (by kernel_rfl) (by kernel_rfl) (by kernel_rfl) rfl rfl rfl ?_
       refine WAE.skip (i := 28) rfl (by kernel_rfl) (by kernel_rfl) (by kernel_rfl) rfl rfl rfl ?_
       refine WAE.skip (i := 29) rfl (by kernel_rfl) (by kernel_rfl) (by kernel_rfl) rfl rfl rfl ?_
       refine WAE.skip (i := 30) rfl (by kernel_rfl) (by kernel_rfl) (by kernel_rfl) rfl rfl rfl ?_
       refine WAE.skip (i := 31) rfl (by kernel_rfl) (by kernel_rfl) (by kernel_rfl) rfl rfl rfl ?_
       refine tk 32 rfl (OpV.pickF rfl rfl) ?_
       refine tk 33 rfl (OpV.assign rfl) ?_
       refine WAE.done (by kernel_rfl) ?_ _
       exact En.wk _ _ (sc sn) (fun _ h => (h).sub (.cons _ (.cons _ (.cons _ (.cons _ (.cons _ (.slnil))))))) (KR12 () trivial)
     ·
      intro hs5
      obtain rfl := andO_f e12_21 hs5
      refine WAE.skip (i := 18) rfl (by kernel_rfl) (by kernel_rfl) (by kernel_rfl) rfl rfl rfl ?_
      refine WAE.skip (i := 19) rfl (by kernel_rfl) (by kernel_rfl) (by kernel_rfl) rfl rfl rfl ?_
      refine WAE.skip (i := 20) rfl (by kernel_rfl) (by kernel_rfl) (by kernel_rfl) rfl rfl rfl ?_
      refine tk 21 rfl (OpV.pickF rfl rfl) ?_
      refine tk 22 rfl (OpV.move rfl) ?_
      refine WAE.split (t := 68) rfl ?_ ?_
      ·
       intro hs7
       have hqhs7 := andO_t e12_32 hs7
       obtain rfl := Option.some.inj hqhs7
       refine tk 23 rfl (OpV.fieldAddr rfl fo_53_3) ?_
       refine tk 24 rfl (OpV.loadBox rfl pt_51 mq2 rfl) ?_
       refine tk 25 rfl (OpV.inhF fun hin => OpV.lenO (xs := x4_2.Surfaces) rfl si_51 rfl (ownLen hin mq3)) ?_
       refine tk 26 rfl (OpV.fieldAddr rfl fo_53_3) ?_
       refine tk 27 rfl (OpV.loadBox rfl pt_51 mq0 rfl) ?_
       refine tk 28 rfl (OpV.inhF fun hin => OpV.lenO (xs := x3_1a.Surfaces) rfl si_51 rfl (lieLen hin mq1)) ?_
       refine tk 29 rfl (OpV.move rfl) ?_
       refine tk 30 rfl (OpV.subR rfl rfl) ?_
       refine tk 31 rfl (OpV.eql rfl rfl) ?_
       refine tk 32 rfl (OpV.pickT rfl rfl) ?_
       refine tk 33 rfl (OpV.assign rfl) ?_
       refine WAE.done (by kernel_rfl) ?_ _
       exact En.wk _ _ (sc sn) (fun _ h => (h).sub (.cons _ (.cons _ (.cons _ (.cons _ (.cons _ (.slnil))))))) (KR12 () trivial)
      ·
       intro hs7
       obtain rfl := andO_f e12_32 hs7
       refine WAE.skip (i := 23) rfl (by kernel_rfl) (by kernel_rfl) (by kernel_rfl) rfl rfl rfl ?_
       refine WAE.skip (i := 24) rfl (by kernel_rfl) (by kernel_rfl) (by kernel_rfl) rfl rfl rfl ?_
       refine WAE.skip (i := 25) rfl (by kernel_rfl) (by kernel_rfl) (by kernel_rfl) rfl rfl rfl ?_
       refine WAE.skip (i := 26) rfl (by kernel_rfl) (by kernel_rfl) (by kernel_rfl) rfl rfl rfl ?_
       refine WAE.skip (i := 27) rfl (by kernel_rfl) (by kernel_rfl) (by kernel_rfl) rfl rfl rfl ?_
       refine WAE.skip (i := 28) rfl (by kernel_rfl) (by kernel_rfl) (by kernel_rfl) rfl rfl rfl ?_
       refine WAE.skip (i := 29) rfl (by kernel_rfl) (by kernel_rfl) (by kernel_rfl) rfl rfl rfl ?_
       refine WAE.skip (i := 30) rfl (by kernel_rfl) (by kernel_rfl) (by kernel_rfl) rfl rfl rfl ?_
       refine WAE.skip (i := 31) rfl (by kernel_rfl) (by kernel_rfl) (by kernel_rfl) rfl rfl rfl ?_
       refine tk 32 rfl (OpV.pickF rfl rfl) ?_
       refine tk 33 rfl (OpV.assign rfl) ?_
       refine WAE.done (by kernel_rfl) ?_ _
       exact En.wk _ _ (sc sn) (fun _ h => (h).sub (.cons _ (.cons _ (.cons _ (.cons _ (.cons _ (.slnil))))))) (KR12 () trivial)
  ·
   intro zK0_0
   refine WC.loopP (G := Unit) (fun s g => match s, g with | (v_0, v1_0), () => [(3, .pointer (some ⟨b3_5, 0, .none⟩)), (5, .pointer (some ⟨b4_3, 0, .none⟩)), (6, .slice a5_400 n5_400 c5_400), (7, .slice a6_200 n6_200 c6_200), (8, .int .i64 x6_2b), (9, .int .i64 v_0), (10, .int .i64 v1_0)]) (fun s g => match s, g with | (v_0, v1_0), () => [Chunk.box b3_5 53 [.int .i64 x3_1a.W, .int .i64 x3_1a.H, .int .i64 x3_1a.Back, .slice a3_100 n3_100 c3_100], Chunk.lie tSurface f3_100 a3_100 n3_100 c3_100 x3_1a.Surfaces, Chunk.box b4_3 53 [.int .i64 x4_2.W, .int .i64 x4_2.H, .int .i64 x4_2.Back, .slice a4_200 n4_200 c4_200], Chunk.own tSurface f4_200 a4_200 n4_200 c4_200 x4_2.Surfaces, Chunk.own tPlane f5_400 a5_400 n5_400 c5_400 x5_4, Chunk.own tInt f6_200 a6_200 n6_200 c6_200 x6_2a]) (0, 0) () ezy0 (by exact sc (sc (sc (sc (sc (sc (sc sn))))))) (by exact (fun _ h => ((((((h).pm 1).pm 4).pm 4).pm 7).pm 7).sub (.cons_cons _ (.cons_cons _ (.cons_cons _ (.cons_cons _ (.cons_cons _ (.cons_cons _ (.cons _ (.cons _ (.slnil))))))))))) ?_
   rintro zm0 ⟨v_0, v1_0⟩ ⟨⟩ zo0 zf0 zb0 ze0
   have zh0 : laws_FnAssigned_L0 x6_2a v_0 v1_0 = some zo0 := zf0
   unfold laws_FnAssigned_L0 at zh0
   show WC _ _ _ _ _ [(3, .pointer (some ⟨b3_5, 0, .none⟩)), (5, .pointer (some ⟨b4_3, 0, .none⟩)), (6, .slice a5_400 n5_400 c5_400), (7, .slice a6_200 n6_200 c6_200), (8, .int .i64 x6_2b), (9, .int .i64 v_0), (10, .int .i64 v1_0)] [Chunk.box b3_5 53 [.int .i64 x3_1a.W, .int .i64 x3_1a.H, .int .i64 x3_1a.Back, .slice a3_100 n3_100 c3_100], Chunk.lie tSurface f3_100 a3_100 n3_100 c3_100 x3_1a.Surfaces, Chunk.box b4_3 53 [.int .i64 x4_2.W, .int .i64 x4_2.H, .int .i64 x4_2.Back, .slice a4_200 n4_200 c4_200], Chunk.own tSurface f4_200 a4_200 n4_200 c4_200 x4_2.Surfaces, Chunk.own tPlane f5_400 a5_400 n5_400 c5_400 x5_4, Chunk.own tInt f6_200 a6_200 n6_200 c6_200 x6_2a]
   refine WC.seq (WC.sr ?_)
   refine mv ?_
   refine mv ?_
   refine sp (OpV.inhF fun hin => OpV.lenO (xs := x6_2a) rfl si_28 rfl (ownLen hin mq5)) ?_
   refine sp (OpV.lss rfl rfl) ?_
   refine WL.nil (En.next ?_)
   refine WC.cond rfl ?_ ?_
   ·
    intro hc_2
    replace zh0 := ifO_t hc_2 zh0
    refine WC.skip (En.next (WC.seq (WC.block ?_)))
    refine WC.inh fun hin11 => ?_
    obtain ⟨x11_3, e11_3, zh0⟩ := bnd zh0
    obtain ⟨g11_3, o11_3, ha11_3⟩ := ownAddr hin11 mq5 e11_3
    have hn11_3 := ownLen hin11 mq5
    obtain ⟨x11_6, e11_6, zh0⟩ := bnd zh0
    refine WC.region ?_
    refine mv ?_
    refine mv ?_
    refine mv ?_
    refine sp (OpV.idxA rfl rfl se_28 ha11_3 ⟨(idx_some e11_3).1, by rw [hn11_3]; exact (idx_some e11_3).2.1⟩) ?_
    refine sp (OpV.load1 rfl pt_3 (fun w hs => Rd.cell1 tInt_flat (Ow.rd (hs.mem mq5)) e11_3 ha11_3 rfl)) ?_
    refine sp (OpV.geq rfl rfl) ?_
    refine sp (OpV.call (ec rfl e0) ca_27 (fun w hs => w_laws_btoi e11_6)) ?_
    refine sp (OpV.addR rfl rfl) ?_
    refine ag ?_
    refine WL.nil (En.block_norm (En.next (WC.region ?_)))
    refine mv ?_
    refine sp (OpV.addR rfl rfl) ?_
    refine ag ?_
    refine WL.nil ?_
    exact En.backP zb0 zh0 () (sc (sc (sc (sc (sc (sc (sc sn))))))) (fun _ h => h)
   ·
    intro hc_2
    replace zh0 := ifO_f hc_2 zh0
    refine WC.exit (En.then_exit (En.then_exit ?_))
    have hx := exitP ze0 zh0
    exact En.wk _ _ (sc (sc (sc (sc (sc sn))))) (fun _ h => (h).sub (.cons_cons _ (.cons_cons _ (.cons_cons _ (.cons_cons _ (.cons_cons _ (.cons _ (.slnil)))))))) (zK0_0 (v_0, ()) hx.symm)

end Go.Proofs.Ytbdpbboonilhhaa
