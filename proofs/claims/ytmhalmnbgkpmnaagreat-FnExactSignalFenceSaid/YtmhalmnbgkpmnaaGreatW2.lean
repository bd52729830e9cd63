/- Walks: the program computes the pure functions. -/
import Derived.Test.YtmhalmnbgkpmnaaGreatW1
namespace Go.Proofs.YtmhalmnbgkpmnaaGreat
open Go.RowKit K
set_option maxRecDepth 100000
set_option maxHeartbeats 4000000

theorem w_spec_Scaled {i_p0 : ImageT} {w_p1 : Int} {h_p2 : Int} {r : ImageT} {q0_0 : Option Addr} {l0_0 k0_0 : Nat} (h : spec_Scaled i_p0 w_p1 h_p2 = some r) {w : World} (r0_0 : Rd tInt w q0_0 l0_0 k0_0 i_p0.Data)   :
    Calls Tryz.prog 139 #[.agg #[.int .i64 i_p0.W, .int .i64 i_p0.H, .slice q0_0 l0_0 k0_0], .int .i64 w_p1, .int .i64 h_p2] w (fun en w' => ∃ rv G, en = .returned rv ∧ (∃ (a0_0 : Option Addr) (n0_0 : Nat) (c0_0 : Nat) (f0_0 : List Nat), rv = .agg #[.int .i64 r.W, .int .i64 r.H, .slice a0_0 n0_0 c0_0] ∧ G = [Chunk.own tInt f0_0 a0_0 n0_0 c0_0 r.Data]) ∧ St w G w') := by
 obtain rfl := r0_0.1
 unfold spec_Scaled at h
 refine enter (vs := [_, _, _]) Tryz.func139 rfl rfl rfl rfl ?_
 refine WC.sr ?_
 refine WL.heavy rfl rfl rfl (OpH.box rfl rfl ?_)
 intro b0_0
 refine WL.heavy rfl rfl rfl (OpH.alloc zc_107 ?_)
 intro b0_1
 refine WL.nil (En.next (WC.seq (WC.seq ?_)))
 obtain ⟨x1_1, e1_1, h⟩ := bnd h
 obtain ⟨q1_7, e1_7, h⟩ := bnd h
 obtain ⟨q1_12, e1_12, h⟩ := bnd h
 refine WC.region ?_
 refine sp (OpV.loadAll rfl mq1 ag_107) ?_
 refine sp (OpV.call (ec rfl e0) ca_133 (fun w hs => w_spec_ImageOk e1_1 (r0_0.ext hs.below))) ?_
 refine sp (OpV.not rfl) ?_
 refine mv ?_
 refine Lt.ofWL.orQ 13 17 16 (p := ?pz1) (rest := ?qz1) (B := q1_7) rfl (fun hz => orO_t e1_7 hz) ?Tz1 ?Fz1 ?az1 ?bz1 ?cz1 ?dz1 ?ez1
 case Tz1 =>
  intro hcz1 hkz1
  refine sk ?_
  refine sk ?_
  refine sk ?_
  refine hkz1 _ ?_
  repeat (first | exact Sub.refl _ | refine Sub.skip rfl ?_)
 case Fz1 =>
  intro hcz1 hkz1
  have hqz1 := orO_f e1_7 hcz1
  obtain ⟨x1_5, e1_5, hqz1⟩ := bnd hqz1
  obtain rfl := Option.some.inj hqz1
  refine mv ?_
  refine sp (OpV.call (ec rfl (ec rfl (ec rfl e0))) ca_64 (fun w hs => w_spec_l01In e1_5)) ?_
  refine sp (OpV.not rfl) ?_
  refine hkz1 _ ?_ ?_
  exact rfl
  repeat (first | exact Sub.refl _ | refine Sub.skip rfl ?_)
 case az1 => exact rfl
 case bz1 => exact rfl
 case cz1 => exact rfl
 case dz1 => exact rfl
 refine mv ?_
 refine Lt.ofWL.orQ 18 22 21 (p := ?pz2) (rest := ?qz2) (B := q1_12) rfl (fun hz => orO_t e1_12 hz) ?Tz2 ?Fz2 ?az2 ?bz2 ?cz2 ?dz2 ?ez2
 case Tz2 =>
  intro hcz2 hkz2
  refine sk ?_
  refine sk ?_
  refine sk ?_
  refine hkz2 _ ?_
  repeat (first | exact Sub.refl _ | refine Sub.skip rfl ?_)
 case Fz2 =>
  intro hcz2 hkz2
  have hqz2 := orO_f e1_12 hcz2
  obtain ⟨x1_10, e1_10, hqz2⟩ := bnd hqz2
  obtain rfl := Option.some.inj hqz2
  refine mv ?_
  refine sp (OpV.call (ec rfl (ec rfl (ec rfl e0))) ca_64 (fun w hs => w_spec_l01In e1_10)) ?_
  refine sp (OpV.not rfl) ?_
  refine hkz2 _ ?_ ?_
  exact rfl
  repeat (first | exact Sub.refl _ | refine Sub.skip rfl ?_)
 case az2 => exact rfl
 case bz2 => exact rfl
 case cz2 => exact rfl
 case dz2 => exact rfl
 refine WL.nil (En.next ?_)
 refine WC.cond rfl ?_ ?_
 ·
  intro hc_1
  replace h := ifO_t hc_1 h
  refine WC.sr ?_
  refine sp (OpV.build (evps.nil) bd_107_) ?_
  refine WL.heavy0 rfl rfl (OpH.storeTo (A := []) [_, _, _] rfl rfl rfl ts_107 rfl rfl rfl ?_)
  refine WL.nil (En.next (WC.ret (En.then_ret ?_)))
  refine En.ret1 rfl (Res.cell rfl mq0 ag_107) ?_
  obtain rfl := Option.some.inj h
  intro w' hs
  have hs := ((hs).ownNil (A := tInt)).sub (.cons_cons _ (.cons _ (.cons _ (.slnil))))
  exact ⟨_, _, rfl, ⟨.none, 0, 0, [], rfl, rfl⟩, hs⟩
 ·
  intro hc_1
  replace h := ifO_f hc_1 h
  refine WC.skip (En.next (WC.sr ?_))
  refine mv ?_
  refine mv ?_
  refine sp (OpV.build (evps.cons rfl (evps.cons rfl (evps.nil))) (bd_107_0_1 _ _)) ?_
  refine WL.heavy rfl rfl rfl (OpH.alloc zc_107 ?_)
  intro b3_3
  refine WL.heavy0 rfl rfl (OpH.storeTo (A := []) [_, _, _] rfl rfl rfl ts_107 rfl rfl rfl ?_)
  refine WL.nil (En.next (WC.seq (WC.sr ?_)))
  refine ag ?_
  refine WL.nil (En.next (WC.block ?_))
  obtain ⟨zy0, ezy0, h⟩ := bnd h
  refine WC.cut (X := ((List Int)) × ((Option Addr) × Nat × Nat × (List Nat))) (.exit 0) (fun x => zy0 = x.1) (fun x => match x with | (out_0e, (aout_0e, nout_0e, cout_0e, fout_0e)) => [(6, .pointer (some ⟨b0_1, 0, .none⟩)), (7, .pointer (some ⟨b3_3, 0, .none⟩))]) (fun x => match x with | (out_0e, (aout_0e, nout_0e, cout_0e, fout_0e)) => [Chunk.box b0_1 107 [.int .i64 0, .int .i64 0, .slice .none 0 0], Chunk.box b3_3 107 [.int .i64 w_p1, .int .i64 h_p2, .slice aout_0e nout_0e cout_0e], Chunk.own tInt fout_0e aout_0e nout_0e cout_0e out_0e]) ?_ ?_
  ·
   rintro ⟨out_0e, ⟨aout_0e, nout_0e, cout_0e, fout_0e⟩⟩ hx
   replace hx : out_0e = zy0 := hx.symm
   subst hx
   show En _ _ _ _ [(6, .pointer (some ⟨b0_1, 0, .none⟩)), (7, .pointer (some ⟨b3_3, 0, .none⟩))] [Chunk.box b0_1 107 [.int .i64 0, .int .i64 0, .slice .none 0 0], Chunk.box b3_3 107 [.int .i64 w_p1, .int .i64 h_p2, .slice aout_0e nout_0e cout_0e], Chunk.own tInt fout_0e aout_0e nout_0e cout_0e out_0e]
   refine En.block_exit (En.next (WC.sr ?_))
   refine sp (OpV.loadAll rfl mq1 ag_107) ?_
   refine WL.heavy0 rfl rfl (OpH.storeTo (A := []) [_, _, _] rfl rfl rfl ts_107 rfl rfl rfl ?_)
   refine WL.nil (En.next (WC.ret ?_))
   refine En.ret1 rfl (Res.cell rfl mq0 ag_107) ?_
   obtain rfl := Option.some.inj h
   intro w' hs
   have hs := ((hs).pm 2).sub (.cons_cons _ (.cons _ (.cons _ (.slnil))))
   exact ⟨_, _, rfl, ⟨aout_0e, nout_0e, cout_0e, fout_0e, rfl, rfl⟩, hs⟩
  ·
   intro zK0_0
   refine WC.loopP (G := (Option Addr) × Nat × Nat × (List Nat)) (fun s g => match s, g with | (out_0, y_0), (aout_0, nout_0, cout_0, fout_0) => [(1, .int .i64 w_p1), (2, .int .i64 h_p2), (3, .pointer (some ⟨b0_0, 0, .none⟩)), (6, .pointer (some ⟨b0_1, 0, .none⟩)), (7, .pointer (some ⟨b3_3, 0, .none⟩)), (8, .int .i64 y_0)]) (fun s g => match s, g with | (out_0, y_0), (aout_0, nout_0, cout_0, fout_0) => [Chunk.box b0_0 107 [.int .i64 i_p0.W, .int .i64 i_p0.H, .slice q0_0 i_p0.Data.length k0_0], Chunk.box b0_1 107 [.int .i64 0, .int .i64 0, .slice .none 0 0], Chunk.box b3_3 107 [.int .i64 w_p1, .int .i64 h_p2, .slice aout_0 nout_0 cout_0], Chunk.own tInt fout_0 aout_0 nout_0 cout_0 out_0]) ([], 0) (.none, 0, 0, []) ezy0 (by exact sc (sc (sc (sc (sc (sc sn)))))) (by exact (fun _ h => ((((h).ownNil (A := tInt)).pm 1).pm 2).pm 3)) ?_
   rintro zm0 ⟨out_0, y_0⟩ ⟨aout_0, nout_0, cout_0, fout_0⟩ zo0 zf0 zb0 ze0
   have zh0 : spec_Scaled_L0 i_p0 w_p1 h_p2 out_0 y_0 = some zo0 := zf0
   unfold spec_Scaled_L0 at zh0
   show WC _ _ _ _ _ [(1, .int .i64 w_p1), (2, .int .i64 h_p2), (3, .pointer (some ⟨b0_0, 0, .none⟩)), (6, .pointer (some ⟨b0_1, 0, .none⟩)), (7, .pointer (some ⟨b3_3, 0, .none⟩)), (8, .int .i64 y_0)] [Chunk.box b0_0 107 [.int .i64 i_p0.W, .int .i64 i_p0.H, .slice q0_0 i_p0.Data.length k0_0], Chunk.box b0_1 107 [.int .i64 0, .int .i64 0, .slice .none 0 0], Chunk.box b3_3 107 [.int .i64 w_p1, .int .i64 h_p2, .slice aout_0 nout_0 cout_0], Chunk.own tInt fout_0 aout_0 nout_0 cout_0 out_0]
   refine WC.seq (WC.sr ?_)
   refine mv ?_
   refine mv ?_
   refine sp (OpV.lss rfl rfl) ?_
   refine WL.nil (En.next ?_)
   refine WC.cond rfl ?_ ?_
   ·
    intro hc_2
    replace zh0 := ifO_t hc_2 zh0
    refine WC.skip (En.next (WC.seq (WC.block (WC.sr ?_))))
    refine ag ?_
    refine WL.nil (En.next (WC.block ?_))
    obtain ⟨zy1, ezy1, zh0⟩ := bnd zh0
    refine WC.cut (X := ((List Int)) × ((Option Addr) × Nat × Nat × (List Nat))) (.exit 2) (fun x => zy1 = x.1) (fun x => match x with | (out_1e, (aout_1e, nout_1e, cout_1e, fout_1e)) => [(1, .int .i64 w_p1), (2, .int .i64 h_p2), (3, .pointer (some ⟨b0_0, 0, .none⟩)), (6, .pointer (some ⟨b0_1, 0, .none⟩)), (7, .pointer (some ⟨b3_3, 0, .none⟩)), (8, .int .i64 y_0)]) (fun x => match x with | (out_1e, (aout_1e, nout_1e, cout_1e, fout_1e)) => [Chunk.box b0_0 107 [.int .i64 i_p0.W, .int .i64 i_p0.H, .slice q0_0 i_p0.Data.length k0_0], Chunk.box b0_1 107 [.int .i64 0, .int .i64 0, .slice .none 0 0], Chunk.box b3_3 107 [.int .i64 w_p1, .int .i64 h_p2, .slice aout_1e nout_1e cout_1e], Chunk.own tInt fout_1e aout_1e nout_1e cout_1e out_1e]) ?_ ?_
    ·
     rintro ⟨out_1e, ⟨aout_1e, nout_1e, cout_1e, fout_1e⟩⟩ hx
     replace hx : out_1e = zy1 := hx.symm
     subst hx
     show En _ _ _ _ [(1, .int .i64 w_p1), (2, .int .i64 h_p2), (3, .pointer (some ⟨b0_0, 0, .none⟩)), (6, .pointer (some ⟨b0_1, 0, .none⟩)), (7, .pointer (some ⟨b3_3, 0, .none⟩)), (8, .int .i64 y_0)] [Chunk.box b0_0 107 [.int .i64 i_p0.W, .int .i64 i_p0.H, .slice q0_0 i_p0.Data.length k0_0], Chunk.box b0_1 107 [.int .i64 0, .int .i64 0, .slice .none 0 0], Chunk.box b3_3 107 [.int .i64 w_p1, .int .i64 h_p2, .slice aout_1e nout_1e cout_1e], Chunk.own tInt fout_1e aout_1e nout_1e cout_1e out_1e]
     refine En.block_exit (En.block_norm (En.next (WC.region ?_)))
     refine mv ?_
     refine sp (OpV.addR rfl rfl) ?_
     refine ag ?_
     refine WL.nil ?_
     exact En.backP zb0 zh0 (aout_1e, nout_1e, cout_1e, fout_1e) (sc (sc (sc (sc (sc (sc sn)))))) (fun _ h => h)
    ·
     intro zK1_0
     refine WC.loopP (G := (Option Addr) × Nat × Nat × (List Nat)) (fun s g => match s, g with | (out_1, x_1), (aout_1, nout_1, cout_1, fout_1) => [(1, .int .i64 w_p1), (2, .int .i64 h_p2), (3, .pointer (some ⟨b0_0, 0, .none⟩)), (6, .pointer (some ⟨b0_1, 0, .none⟩)), (7, .pointer (some ⟨b3_3, 0, .none⟩)), (8, .int .i64 y_0), (9, .int .i64 x_1)]) (fun s g => match s, g with | (out_1, x_1), (aout_1, nout_1, cout_1, fout_1) => [Chunk.box b0_0 107 [.int .i64 i_p0.W, .int .i64 i_p0.H, .slice q0_0 i_p0.Data.length k0_0], Chunk.box b0_1 107 [.int .i64 0, .int .i64 0, .slice .none 0 0], Chunk.box b3_3 107 [.int .i64 w_p1, .int .i64 h_p2, .slice aout_1 nout_1 cout_1], Chunk.own tInt fout_1 aout_1 nout_1 cout_1 out_1]) (out_0, 0) (aout_0, nout_0, cout_0, fout_0) ezy1 (by exact sc (sc (sc (sc (sc (sc (sc sn))))))) (by exact (fun _ h => h)) ?_
     rintro zm1 ⟨out_1, x_1⟩ ⟨aout_1, nout_1, cout_1, fout_1⟩ zo1 zf1 zb1 ze1
     have zh1 : spec_Scaled_L1 i_p0 w_p1 h_p2 y_0 out_1 x_1 = some zo1 := zf1
     unfold spec_Scaled_L1 at zh1
     show WC _ _ _ _ _ [(1, .int .i64 w_p1), (2, .int .i64 h_p2), (3, .pointer (some ⟨b0_0, 0, .none⟩)), (6, .pointer (some ⟨b0_1, 0, .none⟩)), (7, .pointer (some ⟨b3_3, 0, .none⟩)), (8, .int .i64 y_0), (9, .int .i64 x_1)] [Chunk.box b0_0 107 [.int .i64 i_p0.W, .int .i64 i_p0.H, .slice q0_0 i_p0.Data.length k0_0], Chunk.box b0_1 107 [.int .i64 0, .int .i64 0, .slice .none 0 0], Chunk.box b3_3 107 [.int .i64 w_p1, .int .i64 h_p2, .slice aout_1 nout_1 cout_1], Chunk.own tInt fout_1 aout_1 nout_1 cout_1 out_1]
     refine WC.seq (WC.sr ?_)
     refine mv ?_
     refine mv ?_
     refine sp (OpV.lss rfl rfl) ?_
     refine WL.nil (En.next ?_)
     refine WC.cond rfl ?_ ?_
     ·
      intro hc_3
      replace zh1 := ifO_t hc_3 zh1
      refine WC.skip (En.next (WC.seq (WC.block ?_)))
      obtain ⟨x10_8, e10_8, zh1⟩ := bnd zh1
      obtain ⟨x10_16, e10_16, zh1⟩ := bnd zh1
      obtain ⟨x10_18, e10_18, zh1⟩ := bnd zh1
      obtain ⟨g10_18, o10_18, _, ha10_18, rfl, hd10_18⟩ := Rd.atIdx r0_0 e10_18
      replace hd10_18 : ∀ (j : Nat) v, ([.int .i64 x10_18] : List Value)[j]? = some v → w.cell? ⟨g10_18, o10_18 + (wr ((wr (x10_8 * i_p0.W)) + x10_16)).toNat * 1 + j, .none⟩ = some v := hd10_18
      obtain ⟨x10_21, e10_21, zh1⟩ := bnd zh1
      refine WC.wkF (fun _ h => h.pm 3) ?_
      refine WC.wkF (fun _ h => h.pm 3) ?_
      refine WC.drawnH [_, _] ([_, _]) (fun _ h => h) (by kernel_rfl) ?_
      refine tk 0 rfl (OpV.fieldAddr rfl fo_107_2) ?_
      refine tk 2 rfl (OpV.fieldAddr rfl fo_107_2) ?_
      refine tk 3 rfl (OpV.loadBox rfl pt_23 mq0 rfl) ?_
      refine tk 4 rfl (OpV.fieldAddr rfl fo_107_1) ?_
      refine tk 5 rfl (OpV.loadBox rfl pt_3 mq0 rfl) ?_
      refine tk 6 rfl (OpV.move rfl) ?_
      refine tk 7 rfl (OpV.move rfl) ?_
      refine tk 8 rfl (OpV.call (ec rfl (ec rfl (ec rfl e0))) ca_157 (fun w hs => w_spec_ScalePoint e10_8)) ?_
      refine tk 9 rfl (OpV.fieldAddr rfl fo_107_0) ?_
      refine tk 10 rfl (OpV.loadBox rfl pt_3 mq0 rfl) ?_
      refine tk 11 rfl (OpV.mulR rfl rfl) ?_
      refine tk 12 rfl (OpV.fieldAddr rfl fo_107_0) ?_
      refine tk 13 rfl (OpV.loadBox rfl pt_3 mq0 rfl) ?_
      refine tk 14 rfl (OpV.move rfl) ?_
      refine tk 15 rfl (OpV.move rfl) ?_
      refine tk 16 rfl (OpV.call (ec rfl (ec rfl (ec rfl e0))) ca_157 (fun w hs => w_spec_ScalePoint e10_16)) ?_
      refine tk 17 rfl (OpV.addR rfl rfl) ?_
      refine tk 18 rfl (OpV.idxA rfl rfl se_23 ha10_18 ⟨(idx_some e10_18).1, (idx_some e10_18).2.1⟩) ?_
      refine tk 19 rfl (OpV.load1 rfl pt_3 (fun w hs => hs.cell (hd10_18 0 _ rfl))) ?_
      refine WAE.all (rs := [1, 20]) (by kernel_rfl) rfl (AllR.cons rfl rfl rfl rfl ?_ (AllR.cons rfl rfl rfl rfl ?_ AllR.nil))
      ·
       refine OpH.light (OpV.loadBox rfl pt_23 mq0 rfl) ?_
       refine ⟨[_, _], rfl, ?_⟩
       refine al1 20 rfl ?_
       refine OpH.litF (A := tInt) (xs := [x10_18]) tInt_flat (evps.cons rfl (evps.nil)) (bs_23_1_0 _) rfl rfl (Nat.le_of_ble_eq_true rfl) ?_
       intro b10_20
       refine ⟨[_, _, _], rfl, ?_⟩
       refine al1 21 rfl ?_
       refine OpH.appS (F := [_, _]) (A := tInt) tInt_flat rfl rfl rfl mi_23 rfl (by decide) (fun w hs => (Ow.rd (hs.mem mq0))) e10_21 ?_
       intro f10_21 a10_21 c10_21
       refine ⟨[_, _, _], rfl, ?_⟩
       refine tk 22 rfl (OpV.fieldAddr rfl fo_107_2) ?_
       refine al0 23 rfl ?_
       refine OpH.storeTo (A := [_]) [_, _, _] rfl rfl rfl ts_23 rfl rfl rfl ?_
       refine ⟨[_, _, _], rfl, ?_⟩
       refine WAE.rebase (H := []) ?_
       refine WAE.done (by kernel_rfl) ?_ _
       refine En.block_norm (En.next (WC.region ?_))
       refine mv ?_
       refine sp (OpV.addR rfl rfl) ?_
       refine ag ?_
       refine WL.nil ?_
       exact En.backP zb1 zh1 (a10_21, x10_21.length, c10_21, f10_21) (sc (sc (sc (sc (sc (sc (sc sn))))))) (fun _ h => (((((h).pm 2).pm 2).pm 4).pm 4).sub (.cons_cons _ (.cons_cons _ (.cons_cons _ (.cons_cons _ (.cons _ (.slnil)))))))
      ·
       refine OpH.litF (A := tInt) (xs := [x10_18]) tInt_flat (evps.cons rfl (evps.nil)) (bs_23_1_0 _) rfl rfl (Nat.le_of_ble_eq_true rfl) ?_
       intro b10_20
       refine ⟨[_, _, _], rfl, ?_⟩
       refine al1 1 rfl ?_
       refine OpH.light (OpV.loadBox rfl pt_23 mq1 rfl) ?_
       refine ⟨[_, _, _], rfl, ?_⟩
       refine al1 21 rfl ?_
       refine OpH.appS (F := [_, _]) (A := tInt) tInt_flat rfl rfl rfl mi_23 rfl (by decide) (fun w hs => (Ow.rd (hs.mem mq0))) e10_21 ?_
       intro f10_21 a10_21 c10_21
       refine ⟨[_, _, _], rfl, ?_⟩
       refine tk 22 rfl (OpV.fieldAddr rfl fo_107_2) ?_
       refine al0 23 rfl ?_
       refine OpH.storeTo (A := [_]) [_, _, _] rfl rfl rfl ts_23 rfl rfl rfl ?_
       refine ⟨[_, _, _], rfl, ?_⟩
       refine WAE.rebase (H := []) ?_
       refine WAE.done (by kernel_rfl) ?_ _
       refine En.block_norm (En.next (WC.region ?_))
       refine mv ?_
       refine sp (OpV.addR rfl rfl) ?_
       refine ag ?_
       refine WL.nil ?_
       exact En.backP zb1 zh1 (a10_21, x10_21.length, c10_21, f10_21) (sc (sc (sc (sc (sc (sc (sc sn))))))) (fun _ h => (((((h).pm 2).pm 2).pm 4).pm 4).sub (.cons_cons _ (.cons_cons _ (.cons_cons _ (.cons_cons _ (.cons _ (.slnil)))))))
     ·
      intro hc_3
      replace zh1 := ifO_f hc_3 zh1
      refine WC.exit (En.then_exit (En.then_exit ?_))
      have hx := exitP ze1 zh1
      exact En.wk _ _ (sc (sc (sc (sc (sc (sc sn)))))) (fun _ h => h) (zK1_0 (out_1, (aout_1, nout_1, cout_1, fout_1)) hx.symm)
   ·
    intro hc_2
    replace zh0 := ifO_f hc_2 zh0
    refine WC.exit (En.then_exit (En.then_exit ?_))
    have hx := exitP ze0 zh0
    exact En.wk _ _ (sc (sc sn)) (fun _ h => ((((h).pm 3).pm 3).pm 3).sub (.cons_cons _ (.cons_cons _ (.cons_cons _ (.cons _ (.slnil)))))) (zK0_0 (out_0, (aout_0, nout_0, cout_0, fout_0)) hx.symm)

theorem w_spec_ChannelOf {p_p0 : Int} {k_p1 : Int} {r : Int}  (h : spec_ChannelOf p_p0 k_p1 = some r) {w : World}    :
    Calls Tryz.prog 141 #[.int .i64 p_p0, .int .i64 k_p1] w (fun en w' => en = .returned (.int .i64 r) ∧ Ext w w') := by
 unfold spec_ChannelOf at h
 refine enter (vs := [_, _]) Tryz.func141 rfl rfl rfl rfl ?_
 refine WC.sr ?_
 refine ag ?_
 refine WL.nil (En.next (WC.seq (WC.seq ?_)))
 obtain ⟨x1_1, e1_1, h⟩ := bnd h
 obtain ⟨q1_7, e1_7, h⟩ := bnd h
 refine WC.region ?_
 refine mv ?_
 refine sp (OpV.call (ec rfl e0) ca_118 (fun w hs => w_spec_l04Pixel e1_1)) ?_
 refine sp (OpV.not rfl) ?_
 refine mv ?_
 refine Lt.ofWL.orQ 8 12 11 (p := ?pz1) (rest := ?qz1) (B := q1_7) rfl (fun hz => orO_t e1_7 hz) ?Tz1 ?Fz1 ?az1 ?bz1 ?cz1 ?dz1 ?ez1
 case Tz1 =>
  intro hcz1 hkz1
  refine sk ?_
  refine sk ?_
  refine sk ?_
  refine hkz1 _ ?_
  repeat (first | exact Sub.refl _ | refine Sub.skip rfl ?_)
 case Fz1 =>
  intro hcz1 hkz1
  have hqz1 := orO_f e1_7 hcz1
  obtain ⟨x1_5, e1_5, hqz1⟩ := bnd hqz1
  obtain rfl := Option.some.inj hqz1
  refine mv ?_
  refine sp (OpV.call (ec rfl (ec rfl (ec rfl e0))) ca_64 (fun w hs => w_spec_l01In e1_5)) ?_
  refine sp (OpV.not rfl) ?_
  refine hkz1 _ ?_ ?_
  exact rfl
  repeat (first | exact Sub.refl _ | refine Sub.skip rfl ?_)
 case az1 => exact rfl
 case bz1 => exact rfl
 case cz1 => exact rfl
 case dz1 => exact rfl
 refine WL.nil (En.next ?_)
 refine WC.cond rfl ?_ ?_
 ·
  intro hc_1
  replace h := ifO_t hc_1 h
  refine WC.sr ?_
  refine ag ?_
  refine WL.nil (En.next (WC.ret (En.then_ret ?_)))
  refine En.ret1 rfl (Res.tmp rfl) ?_
  obtain rfl := Option.some.inj h
  intro w' hs
  exact ⟨rfl, hs.below⟩
 ·
  intro hc_1
  replace h := ifO_f hc_1 h
  refine WC.skip (En.next (WC.seq ?_))
  obtain ⟨x3_4, e3_4, h⟩ := bnd h
  refine WC.region ?_
  refine mv ?_
  refine mv ?_
  refine sp (OpV.mulR rfl rfl) ?_
  refine sp (OpV.subR rfl rfl) ?_
  refine sp (OpV.shrR rfl rfl e3_4) ?_
  refine sp (OpV.andR rfl rfl) ?_
  refine ag ?_
  refine WL.nil (En.next (WC.ret ?_))
  refine En.ret1 rfl (Res.tmp rfl) ?_
  obtain rfl := Option.some.inj h
  intro w' hs
  exact ⟨rfl, hs.below⟩

theorem w_spec_Part {a_p0 : Int} {b_p1 : Int} {r : Int}  (h : spec_Part a_p0 b_p1 = some r) {w : World}    :
    Calls Tryz.prog 142 #[.int .i64 a_p0, .int .i64 b_p1] w (fun en w' => en = .returned (.int .i64 r) ∧ Ext w w') := by
 unfold spec_Part at h
 refine enter (vs := [_, _]) Tryz.func142 rfl rfl rfl rfl ?_
 refine WC.sr ?_
 refine ag ?_
 refine WL.nil (En.next (WC.seq (WC.seq ?_)))
 obtain ⟨x1_1, e1_1, h⟩ := bnd h
 obtain ⟨q1_7, e1_7, h⟩ := bnd h
 refine WC.region ?_
 refine mv ?_
 refine sp (OpV.call (ec rfl (ec rfl (ec rfl e0))) ca_64 (fun w hs => w_spec_l01In e1_1)) ?_
 refine sp (OpV.not rfl) ?_
 refine mv ?_
 refine Lt.ofWL.orQ 8 12 11 (p := ?pz1) (rest := ?qz1) (B := q1_7) rfl (fun hz => orO_t e1_7 hz) ?Tz1 ?Fz1 ?az1 ?bz1 ?cz1 ?dz1 ?ez1
 case Tz1 =>
  intro hcz1 hkz1
  refine sk ?_
  refine sk ?_
  refine sk ?_
  refine hkz1 _ ?_
  repeat (first | exact Sub.refl _ | refine Sub.skip rfl ?_)
 case Fz1 =>
  intro hcz1 hkz1
  have hqz1 := orO_f e1_7 hcz1
  obtain ⟨x1_5, e1_5, hqz1⟩ := bnd hqz1
  obtain rfl := Option.some.inj hqz1
  refine mv ?_
  refine sp (OpV.call (ec rfl (ec rfl (ec rfl e0))) ca_64 (fun w hs => w_spec_l01In e1_5)) ?_
  refine sp (OpV.not rfl) ?_
  refine hkz1 _ ?_ ?_
  exact rfl
  repeat (first | exact Sub.refl _ | refine Sub.skip rfl ?_)
 case az1 => exact rfl
 case bz1 => exact rfl
 case cz1 => exact rfl
 case dz1 => exact rfl
 refine WL.nil (En.next ?_)
 refine WC.cond rfl ?_ ?_
 ·
  intro hc_1
  replace h := ifO_t hc_1 h
  refine WC.sr ?_
  refine ag ?_
  refine WL.nil (En.next (WC.ret (En.then_ret ?_)))
  refine En.ret1 rfl (Res.tmp rfl) ?_
  obtain rfl := Option.some.inj h
  intro w' hs
  exact ⟨rfl, hs.below⟩
 ·
  intro hc_1
  replace h := ifO_f hc_1 h
  refine WC.skip (En.next (WC.sr ?_))
  refine mv ?_
  refine mv ?_
  refine sp (OpV.mulR rfl rfl) ?_
  refine sp (OpV.addR rfl rfl) ?_
  refine sp (OpV.quoR rfl rfl rfl) ?_
  refine ag ?_
  refine WL.nil (En.next (WC.ret ?_))
  refine En.ret1 rfl (Res.tmp rfl) ?_
  obtain rfl := Option.some.inj h
  intro w' hs
  exact ⟨rfl, hs.below⟩

theorem w_spec_Fade {p_p0 : Int} {alpha_p1 : Int} {r : Int}  (h : spec_Fade p_p0 alpha_p1 = some r) {w : World}    :
    Calls Tryz.prog 140 #[.int .i64 p_p0, .int .i64 alpha_p1] w (fun en w' => en = .returned (.int .i64 r) ∧ Ext w w') := by
 unfold spec_Fade at h
 refine enter (vs := [_, _]) Tryz.func140 rfl rfl rfl rfl ?_
 refine WC.sr ?_
 refine ag ?_
 refine WL.nil (En.next (WC.seq (WC.seq ?_)))
 obtain ⟨x1_1, e1_1, h⟩ := bnd h
 obtain ⟨q1_7, e1_7, h⟩ := bnd h
 refine WC.region ?_
 refine mv ?_
 refine sp (OpV.call (ec rfl e0) ca_118 (fun w hs => w_spec_l04Pixel e1_1)) ?_
 refine sp (OpV.not rfl) ?_
 refine mv ?_
 refine Lt.ofWL.orQ 8 12 11 (p := ?pz1) (rest := ?qz1) (B := q1_7) rfl (fun hz => orO_t e1_7 hz) ?Tz1 ?Fz1 ?az1 ?bz1 ?cz1 ?dz1 ?ez1
 case Tz1 =>
  intro hcz1 hkz1
  refine sk ?_
  refine sk ?_
  refine sk ?_
  refine hkz1 _ ?_
  repeat (first | exact Sub.refl _ | refine Sub.skip rfl ?_)
 case Fz1 =>
  intro hcz1 hkz1
  have hqz1 := orO_f e1_7 hcz1
  obtain ⟨x1_5, e1_5, hqz1⟩ := bnd hqz1
  obtain rfl := Option.some.inj hqz1
  refine mv ?_
  refine sp (OpV.call (ec rfl (ec rfl (ec rfl e0))) ca_64 (fun w hs => w_spec_l01In e1_5)) ?_
  refine sp (OpV.not rfl) ?_
  refine hkz1 _ ?_ ?_
  exact rfl
  repeat (first | exact Sub.refl _ | refine Sub.skip rfl ?_)
 case az1 => exact rfl
 case bz1 => exact rfl
 case cz1 => exact rfl
 case dz1 => exact rfl
 refine WL.nil (En.next ?_)
 refine WC.cond rfl ?_ ?_
 ·
  intro hc_1
  replace h := ifO_t hc_1 h
  refine WC.sr ?_
  refine ag ?_
  refine WL.nil (En.next (WC.ret (En.then_ret ?_)))
  refine En.ret1 rfl (Res.tmp rfl) ?_
  obtain rfl := Option.some.inj h
  intro w' hs
  exact ⟨rfl, hs.below⟩
 ·
  intro hc_1
  replace h := ifO_f hc_1 h
  refine WC.skip (En.next (WC.seq ?_))
  obtain ⟨x3_1, e3_1, h⟩ := bnd h
  obtain ⟨x3_3, e3_3, h⟩ := bnd h
  refine WC.region ?_
  refine mv ?_
  refine sp (OpV.call (ec rfl (ec rfl e0)) ca_141 (fun w hs => w_spec_ChannelOf e3_1)) ?_
  refine mv ?_
  refine sp (OpV.call (ec rfl (ec rfl e0)) ca_142 (fun w hs => w_spec_Part e3_3)) ?_
  refine sp (OpV.shlR rfl rfl rfl) ?_
  refine mv ?_
  refine sp (OpV.andR rfl rfl) ?_
  refine sp (OpV.addR rfl rfl) ?_
  refine ag ?_
  refine WL.nil (En.next (WC.ret ?_))
  refine En.ret1 rfl (Res.tmp rfl) ?_
  obtain rfl := Option.some.inj h
  intro w' hs
  exact ⟨rfl, hs.below⟩

theorem w_spec_PlaneImage {p_p0 : PlaneT} {r : ImageT × Bool} {q0_0 : Option Addr} {l0_0 k0_0 : Nat} (h : spec_PlaneImage p_p0 = some r) {w : World} (r0_0 : Rd tInt w q0_0 l0_0 k0_0 p_p0.Words)   :
    Calls Tryz.prog 121 #[.agg #[.bool p_p0.On, .int .i64 p_p0.X, .int .i64 p_p0.Y, .int .i64 p_p0.W, .int .i64 p_p0.H, .int .i64 p_p0.Layout, .slice q0_0 l0_0 k0_0, .int .i64 p_p0.Alpha, .int .i64 p_p0.Orient, .int .i64 p_p0.ToW, .int .i64 p_p0.ToH]] w (fun en w' => ∃ rv G, en = .returned rv ∧ (∃ (a0_0 : Option Addr) (n0_0 : Nat) (c0_0 : Nat) (f0_0 : List Nat), rv = .tuple #[.agg #[.int .i64 r.1.W, .int .i64 r.1.H, .slice a0_0 n0_0 c0_0], .bool r.2] ∧ G = [Chunk.own tInt f0_0 a0_0 n0_0 c0_0 r.1.Data]) ∧ St w G w') := by
 obtain rfl := r0_0.1
 unfold spec_PlaneImage at h
 refine enter (vs := [_]) Tryz.func121 rfl rfl rfl rfl ?_
 refine WC.sr ?_
 refine WL.heavy rfl rfl rfl (OpH.box rfl rfl ?_)
 intro b0_0
 refine WL.heavy rfl rfl rfl (OpH.alloc zc_107 ?_)
 intro b0_1
 refine ag ?_
 refine WL.nil (En.next (WC.seq ?_))
 obtain ⟨⟨x1_1a, x1_1b⟩, e1_1, h⟩ := bnd h
 refine WC.region ?_
 refine sp (OpV.loadAll rfl mq1 ag_61) ?_
 refine WL.heavy rfl rfl rfl (OpH.callR (ec rfl e0) ca_137 (fun w hs => w_spec_l19Loaded e1_1 (r0_0.ext hs.below)) ?_)
 rintro _ _ ⟨a1_100, n1_100, c1_100, f1_100, rfl, rfl⟩
 refine mv ?_
 refine sp (OpV.extract rfl rfl) ?_
 refine sp (OpV.extract rfl rfl) ?_
 refine WL.heavy rfl rfl rfl (OpH.alloc zc_107 ?_)
 intro b1_5
 refine WL.heavy0 rfl rfl (OpH.storeTo (A := []) [_, _, _] rfl rfl rfl ts_107 rfl rfl rfl ?_)
 refine ag ?_
 refine WL.nil (En.next (WC.seq (WC.seq ?_)))
 obtain ⟨q2_7, e2_7, h⟩ := bnd h
 refine WC.region ?_
 refine mv ?_
 refine sp (OpV.not rfl) ?_
 refine mv ?_
 refine Lt.ofWL.orQ 14 19 18 (p := ?pz1) (rest := ?qz1) (B := q2_7) rfl (fun hz => orO_t e2_7 hz) ?Tz1 ?Fz1 ?az1 ?bz1 ?cz1 ?dz1 ?ez1
 case Tz1 =>
  intro hcz1 hkz1
  refine sk ?_
  refine sk ?_
  refine sk ?_
  refine sk ?_
  refine hkz1 _ ?_
  repeat (first | exact Sub.refl _ | refine Sub.skip rfl ?_)
 case Fz1 =>
  intro hcz1 hkz1
  have hqz1 := orO_f e2_7 hcz1
  obtain ⟨x2_5, e2_5, hqz1⟩ := bnd hqz1
  obtain rfl := Option.some.inj hqz1
  refine sp (OpV.fieldAddr rfl fo_61_7) ?_
  refine sp (OpV.loadBox rfl pt_3 mq3 rfl) ?_
  refine sp (OpV.call (ec rfl (ec rfl (ec rfl e0))) ca_64 (fun w hs => w_spec_l01In e2_5)) ?_
  refine sp (OpV.not rfl) ?_
  refine hkz1 _ ?_ ?_
  exact rfl
  repeat (first | exact Sub.refl _ | refine Sub.skip rfl ?_)
 case az1 => exact rfl
 case bz1 => exact rfl
 case cz1 => exact rfl
 case dz1 => exact rfl
 refine WL.nil (En.next ?_)
 refine WC.cond rfl ?_ ?_
 ·
  intro hc_1
  replace h := ifO_t hc_1 h
  refine WC.sr ?_
  refine sp (OpV.build (evps.nil) bd_107_) ?_
  refine WL.heavy0 rfl rfl (OpH.storeTo (A := [_, _]) [_, _, _] rfl rfl rfl ts_107 rfl rfl rfl ?_)
  refine ag ?_
  refine WL.nil (En.next (WC.ret (En.then_ret ?_)))
  refine En.ret2 rfl (Res.cell rfl mq2 ag_107) (Res.tmp rfl) ?_
  obtain rfl := Option.some.inj h
  intro w' hs
  have hs := ((hs).ownNil (A := tInt)).sub (.cons_cons _ (.cons _ (.cons _ (.cons _ (.cons _ (.slnil))))))
  exact ⟨_, _, rfl, ⟨.none, 0, 0, [], rfl, rfl⟩, hs⟩
 ·
  intro hc_1
  replace h := ifO_f hc_1 h
  refine WC.skip (En.next (WC.seq ?_))
  obtain ⟨x4_3, e4_3, h⟩ := bnd h
  refine WC.region ?_
  refine sp (OpV.loadAll rfl mq0 ag_107) ?_
  refine sp (OpV.fieldAddr rfl fo_61_8) ?_
  refine sp (OpV.loadBox rfl pt_3 mq3 rfl) ?_
  refine WL.heavy rfl rfl rfl (OpH.callR (ec rfl (ec rfl e0)) ca_138 (fun w hs => w_spec_Oriented e4_3 (Ow.rd (hs.mem mq1))) ?_)
  rintro _ _ ⟨a4_300, n4_300, c4_300, f4_300, rfl, rfl⟩
  refine WL.heavy0 rfl rfl (OpH.storeTo (A := [_]) [_, _, _] rfl rfl rfl ts_107 rfl rfl rfl ?_)
  refine WL.nil (En.next (WC.seq (WC.sr ?_)))
  refine sp (OpV.fieldAddr rfl fo_61_9) ?_
  refine sp (OpV.loadBox rfl pt_3 mq4 rfl) ?_
  refine sp (OpV.neq rfl rfl) ?_
  refine mv ?_
  refine Lt.ofWL.or 28 32 31 (p := ?pz2) (rest := ?qz2) (B := ?Bz2) rfl ?Tz2 ?Fz2 ?az2 ?bz2 ?cz2 ?dz2 ?ez2
  case Tz2 =>
   intro hcz2 hkz2
   refine sk ?_
   refine sk ?_
   refine sk ?_
   refine hkz2 _ ?_
   repeat (first | exact Sub.refl _ | refine Sub.skip rfl ?_)
  case Fz2 =>
   intro hcz2 hkz2
   refine sp (OpV.fieldAddr rfl fo_61_10) ?_
   refine sp (OpV.loadBox rfl pt_3 mq4 rfl) ?_
   refine sp (OpV.neq rfl rfl) ?_
   refine hkz2 _ ?_ ?_
   exact rfl
   repeat (first | exact Sub.refl _ | refine Sub.skip rfl ?_)
  case az2 => exact rfl
  case bz2 => exact rfl
  case cz2 => exact rfl
  case dz2 => exact rfl
  refine WL.nil (En.next ?_)
  refine WC.cond rfl ?_ ?_
  ·
   intro hc_2
   replace h := ifO_t hc_2 h
   obtain ⟨x6_5, e6_5, h⟩ := bnd h
   refine WC.region ?_
   refine sp (OpV.loadAll rfl mq1 ag_107) ?_
   refine sp (OpV.fieldAddr rfl fo_61_9) ?_
   refine sp (OpV.loadBox rfl pt_3 mq4 rfl) ?_
   refine sp (OpV.fieldAddr rfl fo_61_10) ?_
   refine sp (OpV.loadBox rfl pt_3 mq4 rfl) ?_
   refine WL.heavy rfl rfl rfl (OpH.callR (ec rfl (ec rfl (ec rfl e0))) ca_139 (fun w hs => w_spec_Scaled e6_5 (Ow.rd (hs.mem mq0))) ?_)
   rintro _ _ ⟨a6_500, n6_500, c6_500, f6_500, rfl, rfl⟩
   refine WL.heavy0 rfl rfl (OpH.storeTo (A := [_, _]) [_, _, _] rfl rfl rfl ts_107 rfl rfl rfl ?_)
   refine WL.nil (En.next (WC.seq (WC.seq ?_)))
   obtain ⟨x7_1, e7_1, h⟩ := bnd h
   refine WC.region ?_
   refine sp (OpV.loadAll rfl mq2 ag_107) ?_
   refine sp (OpV.call (ec rfl e0) ca_133 (fun w hs => w_spec_ImageOk e7_1 (Ow.rd (hs.mem mq0)))) ?_
   refine sp (OpV.not rfl) ?_
   refine WL.nil (En.next ?_)
   refine WC.cond rfl ?_ ?_
   ·
    intro hc_3
    replace h := ifO_t hc_3 h
    refine WC.sr ?_
    refine sp (OpV.build (evps.nil) bd_107_) ?_
    refine WL.heavy0 rfl rfl (OpH.storeTo (A := [_, _, _, _]) [_, _, _] rfl rfl rfl ts_107 rfl rfl rfl ?_)
    refine ag ?_
    refine WL.nil (En.next (WC.ret (En.then_ret ?_)))
    refine En.ret2 rfl (Res.cell rfl mq4 ag_107) (Res.tmp rfl) ?_
    obtain rfl := Option.some.inj h
    intro w' hs
    have hs := ((hs).ownNil (A := tInt)).sub (.cons_cons _ (.cons _ (.cons _ (.cons _ (.cons _ (.cons _ (.cons _ (.slnil))))))))
    exact ⟨_, _, rfl, ⟨.none, 0, 0, [], rfl, rfl⟩, hs⟩
   ·
    intro hc_3
    replace h := ifO_f hc_3 h
    refine WC.skip (En.next (WC.seq (WC.sr ?_)))
    refine ag ?_
    refine WL.nil (En.next (WC.block ?_))
    obtain ⟨zy0, ezy0, h⟩ := bnd h
    refine WC.cut (X := ((List Int)) × ((List Nat))) (.exit 0) (fun x => zy0 = x.1) (fun x => match x with | (i_0e, fi_0e) => [(2, .pointer (some ⟨b0_1, 0, .none⟩)), (4, .pointer (some ⟨b1_5, 0, .none⟩))]) (fun x => match x with | (i_0e, fi_0e) => [Chunk.box b0_1 107 [.int .i64 0, .int .i64 0, .slice .none 0 0], Chunk.box b1_5 107 [.int .i64 x6_5.W, .int .i64 x6_5.H, .slice a6_500 n6_500 c6_500], Chunk.own tInt fi_0e a6_500 n6_500 c6_500 i_0e]) ?_ ?_
    ·
     rintro ⟨i_0e, fi_0e⟩ hx
     replace hx : i_0e = zy0 := hx.symm
     subst hx
     show En _ _ _ _ [(2, .pointer (some ⟨b0_1, 0, .none⟩)), (4, .pointer (some ⟨b1_5, 0, .none⟩))] [Chunk.box b0_1 107 [.int .i64 0, .int .i64 0, .slice .none 0 0], Chunk.box b1_5 107 [.int .i64 x6_5.W, .int .i64 x6_5.H, .slice a6_500 n6_500 c6_500], Chunk.own tInt fi_0e a6_500 n6_500 c6_500 i_0e]
     refine En.block_exit (En.next (WC.sr ?_))
     refine sp (OpV.loadAll rfl mq1 ag_107) ?_
     refine WL.heavy0 rfl rfl (OpH.storeTo (A := []) [_, _, _] rfl rfl rfl ts_107 rfl rfl rfl ?_)
     refine ag ?_
     refine WL.nil (En.next (WC.ret ?_))
     refine En.ret2 rfl (Res.cell rfl mq0 ag_107) (Res.tmp rfl) ?_
     obtain rfl := Option.some.inj h
     intro w' hs
     have hs := ((hs).pm 2).sub (.cons_cons _ (.cons _ (.cons _ (.slnil))))
     exact ⟨_, _, rfl, ⟨a6_500, n6_500, c6_500, fi_0e, rfl, rfl⟩, hs⟩
    ·
     intro zK0_0
     refine WC.loopP (G := (List Nat)) (fun s g => match s, g with | (i_0, k_0), fi_0 => [(1, .pointer (some ⟨b0_0, 0, .none⟩)), (2, .pointer (some ⟨b0_1, 0, .none⟩)), (4, .pointer (some ⟨b1_5, 0, .none⟩)), (6, .int .i64 k_0)]) (fun s g => match s, g with | (i_0, k_0), fi_0 => [Chunk.box b0_0 61 [.bool p_p0.On, .int .i64 p_p0.X, .int .i64 p_p0.Y, .int .i64 p_p0.W, .int .i64 p_p0.H, .int .i64 p_p0.Layout, .slice q0_0 p_p0.Words.length k0_0, .int .i64 p_p0.Alpha, .int .i64 p_p0.Orient, .int .i64 p_p0.ToW, .int .i64 p_p0.ToH], Chunk.box b0_1 107 [.int .i64 0, .int .i64 0, .slice .none 0 0], Chunk.box b1_5 107 [.int .i64 x6_5.W, .int .i64 x6_5.H, .slice a6_500 n6_500 c6_500], Chunk.own tInt fi_0 a6_500 n6_500 c6_500 i_0]) (x6_5.Data, 0) f6_500 ezy0 (by exact sc (sc (sc (sc sn)))) (by exact (fun _ h => ((((h).pm 2).pm 4).pm 5).sub (.cons_cons _ (.cons_cons _ (.cons_cons _ (.cons_cons _ (.cons _ (.cons _ (.slnil))))))))) ?_
     rintro zm0 ⟨i_0, k_0⟩ fi_0 zo0 zf0 zb0 ze0
     have zh0 : spec_PlaneImage_L0 p_p0 i_0 k_0 = some zo0 := zf0
     unfold spec_PlaneImage_L0 at zh0
     show WC _ _ _ _ _ [(1, .pointer (some ⟨b0_0, 0, .none⟩)), (2, .pointer (some ⟨b0_1, 0, .none⟩)), (4, .pointer (some ⟨b1_5, 0, .none⟩)), (6, .int .i64 k_0)] [Chunk.box b0_0 61 [.bool p_p0.On, .int .i64 p_p0.X, .int .i64 p_p0.Y, .int .i64 p_p0.W, .int .i64 p_p0.H, .int .i64 p_p0.Layout, .slice q0_0 p_p0.Words.length k0_0, .int .i64 p_p0.Alpha, .int .i64 p_p0.Orient, .int .i64 p_p0.ToW, .int .i64 p_p0.ToH], Chunk.box b0_1 107 [.int .i64 0, .int .i64 0, .slice .none 0 0], Chunk.box b1_5 107 [.int .i64 x6_5.W, .int .i64 x6_5.H, .slice a6_500 n6_500 c6_500], Chunk.own tInt fi_0 a6_500 n6_500 c6_500 i_0]
     refine WC.seq (WC.sr ?_)
     refine mv ?_
     refine sp (OpV.fieldAddr rfl fo_107_2) ?_
     refine sp (OpV.loadBox rfl pt_23 mq2 rfl) ?_
     refine sp (OpV.inhF fun hin => OpV.lenO (xs := i_0) rfl si_23 rfl (ownLen hin mq3)) ?_
     refine sp (OpV.lss rfl rfl) ?_
     refine WL.nil (En.next ?_)
     refine WC.cond rfl ?_ ?_
     ·
      intro hc_4
      replace zh0 := ifO_t hc_4 zh0
      refine WC.skip (En.next (WC.seq (WC.block ?_)))
      refine WC.inh fun hin12 => ?_
      obtain ⟨x12_6, e12_6, zh0⟩ := bnd zh0
      obtain ⟨g12_6, o12_6, ha12_6⟩ := ownAddr hin12 mq3 e12_6
      have hn12_6 := ownLen hin12 mq3
      obtain ⟨x12_10, e12_10, zh0⟩ := bnd zh0
      have hn12_11 := ownLen hin12 mq3
      obtain ⟨x12_12, e12_12, zh0⟩ := bnd zh0
      obtain ⟨g12_11, o12_11, ha12_11⟩ := ownAddrU hin12 mq3 e12_12
      refine WC.wkF (fun _ h => h.pm 3) ?_
      refine WC.drawnH [_] ([_, _, _]) (fun _ h => h) (by kernel_rfl) ?_
      refine tk 0 rfl (OpV.fieldAddr rfl fo_107_2) ?_
      refine tk 1 rfl (OpV.loadBox rfl pt_23 mq2 rfl) ?_
      refine tk 2 rfl (OpV.move rfl) ?_
      refine tk 3 rfl (OpV.fieldAddr rfl fo_107_2) ?_
      refine tk 4 rfl (OpV.loadBox rfl pt_23 mq2 rfl) ?_
      refine tk 5 rfl (OpV.move rfl) ?_
      refine tk 6 rfl (OpV.idxA rfl rfl se_23 ha12_6 ⟨(idx_some e12_6).1, by rw [hn12_6]; exact (idx_some e12_6).2.1⟩) ?_
      refine tk 8 rfl (OpV.fieldAddr rfl fo_61_7) ?_
      refine tk 9 rfl (OpV.loadBox rfl pt_3 mq0 rfl) ?_
      refine al1 7 rfl ?_
      refine OpH.light (OpV.load1 rfl pt_3 (fun w hs => Rd.cell1 tInt_flat (Ow.rd (hs.mem mq0)) e12_6 ha12_6 rfl)) ?_
      refine ⟨[_], rfl, ?_⟩
      refine tk 10 rfl (OpV.call (ec rfl (ec rfl e0)) ca_140 (fun w hs => w_spec_Fade e12_10)) ?_
      refine tk 11 rfl (OpV.idxA rfl rfl se_23 ha12_11 ⟨(upd_some e12_12).1.1, by rw [hn12_11]; exact (upd_some e12_12).1.2⟩) ?_
      refine al0 12 rfl ?_
      refine OpH.wkF (fun _ h => St.elFlat tInt_flat x12_10 h) ?_
      refine OpH.setEl (A := tInt) ha12_11 rfl rfl rfl ts_3 e12_12 ?_
      intro f12_12
      refine ⟨[_], rfl, ?_⟩
      refine WAE.rebase (H := []) ?_
      refine WAE.done (by kernel_rfl) ?_ _
      refine En.block_norm (En.next (WC.region ?_))
      refine mv ?_
      refine sp (OpV.addR rfl rfl) ?_
      refine ag ?_
      refine WL.nil ?_
      exact En.backP zb0 zh0 f12_12 (sc (sc (sc (sc sn)))) (fun _ h => (((h).pm 3).pm 3).pm 3)
     ·
      intro hc_4
      replace zh0 := ifO_f hc_4 zh0
      refine WC.exit (En.then_exit (En.then_exit ?_))
      have hx := exitP ze0 zh0
      exact En.wk _ _ (sc (sc sn)) (fun _ h => ((((h).pm 3).pm 3).pm 3).sub (.cons_cons _ (.cons_cons _ (.cons_cons _ (.cons _ (.slnil)))))) (zK0_0 (i_0, fi_0) hx.symm)
  ·
   intro hc_2
   replace h := ifO_f hc_2 h
   refine WC.skip (En.next (WC.seq (WC.seq ?_)))
   obtain ⟨x7_1, e7_1, h⟩ := bnd h
   refine WC.region ?_
   refine sp (OpV.loadAll rfl mq1 ag_107) ?_
   refine sp (OpV.call (ec rfl e0) ca_133 (fun w hs => w_spec_ImageOk e7_1 (Ow.rd (hs.mem mq0)))) ?_
   refine sp (OpV.not rfl) ?_
   refine WL.nil (En.next ?_)
   refine WC.cond rfl ?_ ?_
   ·
    intro hc_5
    replace h := ifO_t hc_5 h
    refine WC.sr ?_
    refine sp (OpV.build (evps.nil) bd_107_) ?_
    refine WL.heavy0 rfl rfl (OpH.storeTo (A := [_, _, _]) [_, _, _] rfl rfl rfl ts_107 rfl rfl rfl ?_)
    refine ag ?_
    refine WL.nil (En.next (WC.ret (En.then_ret ?_)))
    refine En.ret2 rfl (Res.cell rfl mq3 ag_107) (Res.tmp rfl) ?_
    obtain rfl := Option.some.inj h
    intro w' hs
    have hs := ((hs).ownNil (A := tInt)).sub (.cons_cons _ (.cons _ (.cons _ (.cons _ (.cons _ (.cons _ (.slnil)))))))
    exact ⟨_, _, rfl, ⟨.none, 0, 0, [], rfl, rfl⟩, hs⟩
   ·
    intro hc_5
    replace h := ifO_f hc_5 h
    refine WC.skip (En.next (WC.seq (WC.sr ?_)))
    refine ag ?_
    refine WL.nil (En.next (WC.block ?_))
    obtain ⟨zy1, ezy1, h⟩ := bnd h
    refine WC.cut (X := ((List Int)) × ((List Nat))) (.exit 0) (fun x => zy1 = x.1) (fun x => match x with | (i_1e, fi_1e) => [(2, .pointer (some ⟨b0_1, 0, .none⟩)), (4, .pointer (some ⟨b1_5, 0, .none⟩))]) (fun x => match x with | (i_1e, fi_1e) => [Chunk.box b0_1 107 [.int .i64 0, .int .i64 0, .slice .none 0 0], Chunk.box b1_5 107 [.int .i64 x4_3.W, .int .i64 x4_3.H, .slice a4_300 n4_300 c4_300], Chunk.own tInt fi_1e a4_300 n4_300 c4_300 i_1e]) ?_ ?_
    ·
     rintro ⟨i_1e, fi_1e⟩ hx
     replace hx : i_1e = zy1 := hx.symm
     subst hx
     show En _ _ _ _ [(2, .pointer (some ⟨b0_1, 0, .none⟩)), (4, .pointer (some ⟨b1_5, 0, .none⟩))] [Chunk.box b0_1 107 [.int .i64 0, .int .i64 0, .slice .none 0 0], Chunk.box b1_5 107 [.int .i64 x4_3.W, .int .i64 x4_3.H, .slice a4_300 n4_300 c4_300], Chunk.own tInt fi_1e a4_300 n4_300 c4_300 i_1e]
     refine En.block_exit (En.next (WC.sr ?_))
     refine sp (OpV.loadAll rfl mq1 ag_107) ?_
     refine WL.heavy0 rfl rfl (OpH.storeTo (A := []) [_, _, _] rfl rfl rfl ts_107 rfl rfl rfl ?_)
     refine ag ?_
     refine WL.nil (En.next (WC.ret ?_))
     refine En.ret2 rfl (Res.cell rfl mq0 ag_107) (Res.tmp rfl) ?_
     obtain rfl := Option.some.inj h
     intro w' hs
     have hs := ((hs).pm 2).sub (.cons_cons _ (.cons _ (.cons _ (.slnil))))
     exact ⟨_, _, rfl, ⟨a4_300, n4_300, c4_300, fi_1e, rfl, rfl⟩, hs⟩
    ·
     intro zK1_0
     refine WC.loopP (G := (List Nat)) (fun s g => match s, g with | (i_1, k_1), fi_1 => [(1, .pointer (some ⟨b0_0, 0, .none⟩)), (2, .pointer (some ⟨b0_1, 0, .none⟩)), (4, .pointer (some ⟨b1_5, 0, .none⟩)), (6, .int .i64 k_1)]) (fun s g => match s, g with | (i_1, k_1), fi_1 => [Chunk.box b0_0 61 [.bool p_p0.On, .int .i64 p_p0.X, .int .i64 p_p0.Y, .int .i64 p_p0.W, .int .i64 p_p0.H, .int .i64 p_p0.Layout, .slice q0_0 p_p0.Words.length k0_0, .int .i64 p_p0.Alpha, .int .i64 p_p0.Orient, .int .i64 p_p0.ToW, .int .i64 p_p0.ToH], Chunk.box b0_1 107 [.int .i64 0, .int .i64 0, .slice .none 0 0], Chunk.box b1_5 107 [.int .i64 x4_3.W, .int .i64 x4_3.H, .slice a4_300 n4_300 c4_300], Chunk.own tInt fi_1 a4_300 n4_300 c4_300 i_1]) (x4_3.Data, 0) f4_300 ezy1 (by exact sc (sc (sc (sc sn)))) (by exact (fun _ h => ((((h).pm 1).pm 3).pm 4).sub (.cons_cons _ (.cons_cons _ (.cons_cons _ (.cons_cons _ (.cons _ (.slnil)))))))) ?_
     rintro zm1 ⟨i_1, k_1⟩ fi_1 zo1 zf1 zb1 ze1
     have zh1 : spec_PlaneImage_L1 p_p0 i_1 k_1 = some zo1 := zf1
     unfold spec_PlaneImage_L1 at zh1
     show WC _ _ _ _ _ [(1, .pointer (some ⟨b0_0, 0, .none⟩)), (2, .pointer (some ⟨b0_1, 0, .none⟩)), (4, .pointer (some ⟨b1_5, 0, .none⟩)), (6, .int .i64 k_1)] [Chunk.box b0_0 61 [.bool p_p0.On, .int .i64 p_p0.X, .int .i64 p_p0.Y, .int .i64 p_p0.W, .int .i64 p_p0.H, .int .i64 p_p0.Layout, .slice q0_0 p_p0.Words.length k0_0, .int .i64 p_p0.Alpha, .int .i64 p_p0.Orient, .int .i64 p_p0.ToW, .int .i64 p_p0.ToH], Chunk.box b0_1 107 [.int .i64 0, .int .i64 0, .slice .none 0 0], Chunk.box b1_5 107 [.int .i64 x4_3.W, .int .i64 x4_3.H, .slice a4_300 n4_300 c4_300], Chunk.own tInt fi_1 a4_300 n4_300 c4_300 i_1]
     refine WC.seq (WC.sr ?_)
     refine mv ?_
     refine sp (OpV.fieldAddr rfl fo_107_2) ?_
     refine sp (OpV.loadBox rfl pt_23 mq2 rfl) ?_
     refine sp (OpV.inhF fun hin => OpV.lenO (xs := i_1) rfl si_23 rfl (ownLen hin mq3)) ?_
     refine sp (OpV.lss rfl rfl) ?_
     refine WL.nil (En.next ?_)
     refine WC.cond rfl ?_ ?_
     ·
      intro hc_6
      replace zh1 := ifO_t hc_6 zh1
      refine WC.skip (En.next (WC.seq (WC.block ?_)))
      refine WC.inh fun hin12 => ?_
      obtain ⟨x12_6, e12_6, zh1⟩ := bnd zh1
      obtain ⟨g12_6, o12_6, ha12_6⟩ := ownAddr hin12 mq3 e12_6
      have hn12_6 := ownLen hin12 mq3
      obtain ⟨x12_10, e12_10, zh1⟩ := bnd zh1
      have hn12_11 := ownLen hin12 mq3
      obtain ⟨x12_12, e12_12, zh1⟩ := bnd zh1
      obtain ⟨g12_11, o12_11, ha12_11⟩ := ownAddrU hin12 mq3 e12_12
      refine WC.wkF (fun _ h => h.pm 3) ?_
      refine WC.drawnH [_] ([_, _, _]) (fun _ h => h) (by kernel_rfl) ?_
      refine tk 0 rfl (OpV.fieldAddr rfl fo_107_2) ?_
      refine tk 1 rfl (OpV.loadBox rfl pt_23 mq2 rfl) ?_
      refine tk 2 rfl (OpV.move rfl) ?_
      refine tk 3 rfl (OpV.fieldAddr rfl fo_107_2) ?_
      refine tk 4 rfl (OpV.loadBox rfl pt_23 mq2 rfl) ?_
      refine tk 5 rfl (OpV.move rfl) ?_
      refine tk 6 rfl (OpV.idxA rfl rfl se_23 ha12_6 ⟨(idx_some e12_6).1, by rw [hn12_6]; exact (idx_some e12_6).2.1⟩) ?_
      refine tk 8 rfl (OpV.fieldAddr rfl fo_61_7) ?_
      refine tk 9 rfl (OpV.loadBox rfl pt_3 mq0 rfl) ?_
      refine al1 7 rfl ?_
      refine OpH.light (OpV.load1 rfl pt_3 (fun w hs => Rd.cell1 tInt_flat (Ow.rd (hs.mem mq0)) e12_6 ha12_6 rfl)) ?_
      refine ⟨[_], rfl, ?_⟩
      refine tk 10 rfl (OpV.call (ec rfl (ec rfl e0)) ca_140 (fun w hs => w_spec_Fade e12_10)) ?_
      refine tk 11 rfl (OpV.idxA rfl rfl se_23 ha12_11 ⟨(upd_some e12_12).1.1, by rw [hn12_11]; exact (upd_some e12_12).1.2⟩) ?_
      refine al0 12 rfl ?_
      refine OpH.wkF (fun _ h => St.elFlat tInt_flat x12_10 h) ?_
      refine OpH.setEl (A := tInt) ha12_11 rfl rfl rfl ts_3 e12_12 ?_
      intro f12_12
      refine ⟨[_], rfl, ?_⟩
      refine WAE.rebase (H := []) ?_
      refine WAE.done (by kernel_rfl) ?_ _
      refine En.block_norm (En.next (WC.region ?_))
      refine mv ?_
      refine sp (OpV.addR rfl rfl) ?_
      refine ag ?_
      refine WL.nil ?_
      exact En.backP zb1 zh1 f12_12 (sc (sc (sc (sc sn)))) (fun _ h => (((h).pm 3).pm 3).pm 3)
     ·
      intro hc_6
      replace zh1 := ifO_f hc_6 zh1
      refine WC.exit (En.then_exit (En.then_exit ?_))
      have hx := exitP ze1 zh1
      exact En.wk _ _ (sc (sc sn)) (fun _ h => ((((h).pm 3).pm 3).pm 3).sub (.cons_cons _ (.cons_cons _ (.cons_cons _ (.cons _ (.slnil)))))) (zK1_0 (i_1, fi_1) hx.symm)

theorem w_spec_l10Opaque {p_p0 : Int} {r : Bool}  (h : spec_l10Opaque p_p0 = some r) {w : World}    :
    Calls Tryz.prog 136 #[.int .i64 p_p0] w (fun en w' => en = .returned (.bool r) ∧ Ext w w') := by
 unfold spec_l10Opaque at h
 refine enter (vs := [_]) Tryz.func136 rfl rfl rfl rfl ?_
 refine WC.sr ?_
 refine ag ?_
 refine WL.nil (En.next (WC.seq ?_))
 obtain ⟨x1_1, e1_1, h⟩ := bnd h
 obtain ⟨q1_6, e1_6, h⟩ := bnd h
 refine WC.region ?_
 refine mv ?_
 refine sp (OpV.call (ec rfl e0) ca_118 (fun w hs => w_spec_l04Pixel e1_1)) ?_
 refine mv ?_
 refine Lt.ofWL.andQ 5 9 8 (p := ?pz1) (rest := ?qz1) (B := q1_6) rfl (fun hz => andO_f e1_6 hz) ?Tz1 ?Fz1 ?az1 ?bz1 ?cz1 ?dz1 ?ez1
 case Tz1 =>
  intro hcz1 hkz1
  have hqz1 := andO_t e1_6 hcz1
  obtain ⟨x1_4, e1_4, hqz1⟩ := bnd hqz1
  obtain rfl := Option.some.inj hqz1
  refine mv ?_
  refine sp (OpV.call (ec rfl (ec rfl e0)) ca_141 (fun w hs => w_spec_ChannelOf e1_4)) ?_
  refine sp (OpV.eql rfl rfl) ?_
  refine hkz1 _ ?_ ?_
  exact rfl
  repeat (first | exact Sub.refl _ | refine Sub.skip rfl ?_)
 case Fz1 =>
  intro hcz1 hkz1
  refine sk ?_
  refine sk ?_
  refine sk ?_
  refine hkz1 _ ?_
  repeat (first | exact Sub.refl _ | refine Sub.skip rfl ?_)
 case az1 => exact rfl
 case bz1 => exact rfl
 case cz1 => exact rfl
 case dz1 => exact rfl
 refine ag ?_
 refine WL.nil (En.next (WC.ret ?_))
 refine En.ret1 rfl (Res.tmp rfl) ?_
 obtain rfl := Option.some.inj h
 intro w' hs
 exact ⟨rfl, hs.below⟩

theorem w_spec_PlaneOk {a_p0 : Int} {a_p1 : PlaneT} {a_p2 : Int} {a_p3 : Int} {r : Bool} {q1_0 : Option Addr} {l1_0 k1_0 : Nat} (h : spec_PlaneOk a_p0 a_p1 a_p2 a_p3 = some r) {w : World} (r1_0 : Rd tInt w q1_0 l1_0 k1_0 a_p1.Words)   :
    Calls Tryz.prog 120 #[.int .i64 a_p0, .agg #[.bool a_p1.On, .int .i64 a_p1.X, .int .i64 a_p1.Y, .int .i64 a_p1.W, .int .i64 a_p1.H, .int .i64 a_p1.Layout, .slice q1_0 l1_0 k1_0, .int .i64 a_p1.Alpha, .int .i64 a_p1.Orient, .int .i64 a_p1.ToW, .int .i64 a_p1.ToH], .int .i64 a_p2, .int .i64 a_p3] w (fun en w' => en = .returned (.bool r) ∧ Ext w w') := by
 obtain rfl := r1_0.1
 unfold spec_PlaneOk at h
 refine enter (vs := [_, _, _, _]) Tryz.func120 rfl rfl rfl rfl ?_
 refine WC.sr ?_
 refine WL.heavy rfl rfl rfl (OpH.box rfl rfl ?_)
 intro b0_0
 refine ag ?_
 refine WL.nil (En.next (WC.seq (WC.seq ?_)))
 obtain ⟨x1_1, e1_1, h⟩ := bnd h
 obtain ⟨q1_7, e1_7, h⟩ := bnd h
 obtain ⟨q1_12, e1_12, h⟩ := bnd h
 refine WC.region ?_
 refine mv ?_
 refine sp (OpV.call (ec rfl (ec rfl (ec rfl e0))) ca_64 (fun w hs => w_spec_l01In e1_1)) ?_
 refine sp (OpV.not rfl) ?_
 refine mv ?_
 refine Lt.ofWL.orQ 16 20 19 (p := ?pz1) (rest := ?qz1) (B := q1_7) rfl (fun hz => orO_t e1_7 hz) ?Tz1 ?Fz1 ?az1 ?bz1 ?cz1 ?dz1 ?ez1
 case Tz1 =>
  intro hcz1 hkz1
  refine sk ?_
  refine sk ?_
  refine sk ?_
  refine hkz1 _ ?_
  repeat (first | exact Sub.refl _ | refine Sub.skip rfl ?_)
 case Fz1 =>
  intro hcz1 hkz1
  have hqz1 := orO_f e1_7 hcz1
  obtain ⟨x1_5, e1_5, hqz1⟩ := bnd hqz1
  obtain rfl := Option.some.inj hqz1
  refine mv ?_
  refine sp (OpV.call (ec rfl (ec rfl (ec rfl e0))) ca_64 (fun w hs => w_spec_l01In e1_5)) ?_
  refine sp (OpV.not rfl) ?_
  refine hkz1 _ ?_ ?_
  exact rfl
  repeat (first | exact Sub.refl _ | refine Sub.skip rfl ?_)
 case az1 => exact rfl
 case bz1 => exact rfl
 case cz1 => exact rfl
 case dz1 => exact rfl
 refine mv ?_
 refine Lt.ofWL.orQ 21 25 24 (p := ?pz2) (rest := ?qz2) (B := q1_12) rfl (fun hz => orO_t e1_12 hz) ?Tz2 ?Fz2 ?az2 ?bz2 ?cz2 ?dz2 ?ez2
 case Tz2 =>
  intro hcz2 hkz2
  refine sk ?_
  refine sk ?_
  refine sk ?_
  refine hkz2 _ ?_
  repeat (first | exact Sub.refl _ | refine Sub.skip rfl ?_)
 case Fz2 =>
  intro hcz2 hkz2
  have hqz2 := orO_f e1_12 hcz2
  obtain ⟨x1_10, e1_10, hqz2⟩ := bnd hqz2
  obtain rfl := Option.some.inj hqz2
  refine mv ?_
  refine sp (OpV.call (ec rfl (ec rfl (ec rfl e0))) ca_64 (fun w hs => w_spec_l01In e1_10)) ?_
  refine sp (OpV.not rfl) ?_
  refine hkz2 _ ?_ ?_
  exact rfl
  repeat (first | exact Sub.refl _ | refine Sub.skip rfl ?_)
 case az2 => exact rfl
 case bz2 => exact rfl
 case cz2 => exact rfl
 case dz2 => exact rfl
 refine WL.nil (En.next ?_)
 refine WC.cond rfl ?_ ?_
 ·
  intro hc_1
  replace h := ifO_t hc_1 h
  refine WC.sr ?_
  refine ag ?_
  refine WL.nil (En.next (WC.ret (En.then_ret ?_)))
  refine En.ret1 rfl (Res.tmp rfl) ?_
  obtain rfl := Option.some.inj h
  intro w' hs
  exact ⟨rfl, hs.below⟩
 ·
  intro hc_1
  replace h := ifO_f hc_1 h
  refine WC.skip (En.next (WC.seq (WC.sr ?_)))
  refine sp (OpV.fieldAddr rfl fo_61_0) ?_
  refine sp (OpV.loadBox rfl pt_4 mq0 rfl) ?_
  refine sp (OpV.not rfl) ?_
  refine WL.nil (En.next ?_)
  refine WC.cond rfl ?_ ?_
  ·
   intro hc_2
   replace h := ifO_t hc_2 h
   refine WC.seq ?_
   obtain ⟨q4_5, e4_5, h⟩ := bnd h
   refine WC.region ?_
   refine mv ?_
   refine sp (OpV.neq rfl rfl) ?_
   refine mv ?_
   refine Lt.ofWL.andQ 31 34 33 (p := ?pz3) (rest := ?qz3) (B := q4_5) rfl (fun hz => andO_f e4_5 hz) ?Tz3 ?Fz3 ?az3 ?bz3 ?cz3 ?dz3 ?ez3
   case Tz3 =>
    intro hcz3 hkz3
    have hqz3 := andO_t e4_5 hcz3
    obtain ⟨x4_4, e4_4, hqz3⟩ := bnd hqz3
    obtain rfl := Option.some.inj hqz3
    refine sp (OpV.loadAll rfl mq0 ag_61) ?_
    refine sp (OpV.call (ec rfl e0) ca_112 (fun w hs => w_spec_l19Zero e4_4 (r1_0.ext hs.below))) ?_
    refine hkz3 _ ?_ ?_
    exact rfl
    repeat (first | exact Sub.refl _ | refine Sub.skip rfl ?_)
   case Fz3 =>
    intro hcz3 hkz3
    refine sk ?_
    refine sk ?_
    refine hkz3 _ ?_
    repeat (first | exact Sub.refl _ | refine Sub.skip rfl ?_)
   case az3 => exact rfl
   case bz3 => exact rfl
   case cz3 => exact rfl
   case dz3 => exact rfl
   refine ag ?_
   refine WL.nil (En.next (WC.ret (En.then_ret ?_)))
   refine En.ret1 rfl (Res.tmp rfl) ?_
   obtain rfl := Option.some.inj h
   intro w' hs
   exact ⟨rfl, hs.below⟩
  ·
   intro hc_2
   replace h := ifO_f hc_2 h
   refine WC.skip (En.next (WC.seq ?_))
   obtain ⟨⟨x5_1a, x5_1b⟩, e5_1, h⟩ := bnd h
   refine WC.region ?_
   refine sp (OpV.loadAll rfl mq0 ag_61) ?_
   refine WL.heavy rfl rfl rfl (OpH.callR (ec rfl e0) ca_121 (fun w hs => w_spec_PlaneImage e5_1 (r1_0.ext hs.below)) ?_)
   rintro _ _ ⟨a5_100, n5_100, c5_100, f5_100, rfl, rfl⟩
   refine mv ?_
   refine sp (OpV.extract rfl rfl) ?_
   refine sp (OpV.extract rfl rfl) ?_
   refine WL.heavy rfl rfl rfl (OpH.alloc zc_107 ?_)
   intro b5_5
   refine WL.heavy0 rfl rfl (OpH.storeTo (A := []) [_, _, _] rfl rfl rfl ts_107 rfl rfl rfl ?_)
   refine ag ?_
   refine WL.nil (En.next (WC.seq (WC.seq ?_)))
   obtain ⟨q6_7, e6_7, h⟩ := bnd h
   obtain ⟨q6_13, e6_13, h⟩ := bnd h
   refine WC.region ?_
   refine mv ?_
   refine sp (OpV.not rfl) ?_
   refine mv ?_
   refine Lt.ofWL.orQ 42 47 46 (p := ?pz4) (rest := ?qz4) (B := q6_7) rfl (fun hz => orO_t e6_7 hz) ?Tz4 ?Fz4 ?az4 ?bz4 ?cz4 ?dz4 ?ez4
   case Tz4 =>
    intro hcz4 hkz4
    refine sk ?_
    refine sk ?_
    refine sk ?_
    refine sk ?_
    refine hkz4 _ ?_
    repeat (first | exact Sub.refl _ | refine Sub.skip rfl ?_)
   case Fz4 =>
    intro hcz4 hkz4
    have hqz4 := orO_f e6_7 hcz4
    obtain ⟨x6_5, e6_5, hqz4⟩ := bnd hqz4
    obtain rfl := Option.some.inj hqz4
    refine sp (OpV.fieldAddr rfl fo_61_1) ?_
    refine sp (OpV.loadBox rfl pt_3 mq2 rfl) ?_
    refine sp (OpV.call (ec rfl (ec rfl (ec rfl e0))) ca_64 (fun w hs => w_spec_l01In e6_5)) ?_
    refine sp (OpV.not rfl) ?_
    refine hkz4 _ ?_ ?_
    exact rfl
    repeat (first | exact Sub.refl _ | refine Sub.skip rfl ?_)
   case az4 => exact rfl
   case bz4 => exact rfl
   case cz4 => exact rfl
   case dz4 => exact rfl
   refine mv ?_
   refine Lt.ofWL.orQ 48 53 52 (p := ?pz5) (rest := ?qz5) (B := q6_13) rfl (fun hz => orO_t e6_13 hz) ?Tz5 ?Fz5 ?az5 ?bz5 ?cz5 ?dz5 ?ez5
   case Tz5 =>
    intro hcz5 hkz5
    refine sk ?_
    refine sk ?_
    refine sk ?_
    refine sk ?_
    refine hkz5 _ ?_
    repeat (first | exact Sub.refl _ | refine Sub.skip rfl ?_)
   case Fz5 =>
    intro hcz5 hkz5
    have hqz5 := orO_f e6_13 hcz5
    obtain ⟨x6_11, e6_11, hqz5⟩ := bnd hqz5
    obtain rfl := Option.some.inj hqz5
    refine sp (OpV.fieldAddr rfl fo_61_2) ?_
    refine sp (OpV.loadBox rfl pt_3 mq2 rfl) ?_
    refine sp (OpV.call (ec rfl (ec rfl (ec rfl e0))) ca_64 (fun w hs => w_spec_l01In e6_11)) ?_
    refine sp (OpV.not rfl) ?_
    refine hkz5 _ ?_ ?_
    exact rfl
    repeat (first | exact Sub.refl _ | refine Sub.skip rfl ?_)
   case az5 => exact rfl
   case bz5 => exact rfl
   case cz5 => exact rfl
   case dz5 => exact rfl
   refine WL.nil (En.next ?_)
   refine WC.cond rfl ?_ ?_
   ·
    intro hc_3
    replace h := ifO_t hc_3 h
    refine WC.sr ?_
    refine ag ?_
    refine WL.nil (En.next (WC.ret (En.then_ret ?_)))
    refine En.ret1 rfl (Res.tmp rfl) ?_
    obtain rfl := Option.some.inj h
    intro w' hs
    exact ⟨rfl, hs.below⟩
   ·
    intro hc_3
    replace h := ifO_f hc_3 h
    refine WC.skip (En.next (WC.sr ?_))
    refine sp (OpV.fieldAddr rfl fo_61_8) ?_
    refine sp (OpV.loadBox rfl pt_3 mq2 rfl) ?_
    refine sp (OpV.eql rfl rfl) ?_
    refine mv ?_
    refine Lt.ofWL.and 57 61 60 (p := ?pz6) (rest := ?qz6) (B := ?Bz6) rfl ?Tz6 ?Fz6 ?az6 ?bz6 ?cz6 ?dz6 ?ez6
    case Tz6 =>
     intro hcz6 hkz6
     refine sp (OpV.fieldAddr rfl fo_61_9) ?_
     refine sp (OpV.loadBox rfl pt_3 mq2 rfl) ?_
     refine sp (OpV.eql rfl rfl) ?_
     refine hkz6 _ ?_ ?_
     exact rfl
     repeat (first | exact Sub.refl _ | refine Sub.skip rfl ?_)
    case Fz6 =>
     intro hcz6 hkz6
     refine sk ?_
     refine sk ?_
     refine sk ?_
     refine hkz6 _ ?_
     repeat (first | exact Sub.refl _ | refine Sub.skip rfl ?_)
    case az6 => exact rfl
    case bz6 => exact rfl
    case cz6 => exact rfl
    case dz6 => exact rfl
    refine mv ?_
    refine Lt.ofWL.and 62 66 65 (p := ?pz7) (rest := ?qz7) (B := ?Bz7) rfl ?Tz7 ?Fz7 ?az7 ?bz7 ?cz7 ?dz7 ?ez7
    case Tz7 =>
     intro hcz7 hkz7
     refine sp (OpV.fieldAddr rfl fo_61_10) ?_
     refine sp (OpV.loadBox rfl pt_3 mq2 rfl) ?_
     refine sp (OpV.eql rfl rfl) ?_
     refine hkz7 _ ?_ ?_
     exact rfl
     repeat (first | exact Sub.refl _ | refine Sub.skip rfl ?_)
    case Fz7 =>
     intro hcz7 hkz7
     refine sk ?_
     refine sk ?_
     refine sk ?_
     refine hkz7 _ ?_
     repeat (first | exact Sub.refl _ | refine Sub.skip rfl ?_)
    case az7 => exact rfl
    case bz7 => exact rfl
    case cz7 => exact rfl
    case dz7 => exact rfl
    refine mv ?_
    refine Lt.ofWL.and 67 71 70 (p := ?pz8) (rest := ?qz8) (B := ?Bz8) rfl ?Tz8 ?Fz8 ?az8 ?bz8 ?cz8 ?dz8 ?ez8
    case Tz8 =>
     intro hcz8 hkz8
     refine sp (OpV.fieldAddr rfl fo_61_7) ?_
     refine sp (OpV.loadBox rfl pt_3 mq2 rfl) ?_
     refine sp (OpV.eql rfl rfl) ?_
     refine hkz8 _ ?_ ?_
     exact rfl
     repeat (first | exact Sub.refl _ | refine Sub.skip rfl ?_)
    case Fz8 =>
     intro hcz8 hkz8
     refine sk ?_
     refine sk ?_
     refine sk ?_
     refine hkz8 _ ?_
     repeat (first | exact Sub.refl _ | refine Sub.skip rfl ?_)
    case az8 => exact rfl
    case bz8 => exact rfl
    case cz8 => exact rfl
    case dz8 => exact rfl
    refine ag ?_
    refine WL.nil (En.next (WC.seq (WC.sr ?_)))
    refine mv ?_
    refine sp (OpV.eql rfl rfl) ?_
    refine WL.nil (En.next ?_)
    refine WC.cond rfl ?_ ?_
    ·
     intro hc_4
     replace h := ifO_t hc_4 h
     refine WC.sr ?_
     refine mv ?_
     refine mv ?_
     refine Lt.ofWL.and 75 79 78 (p := ?pz9) (rest := ?qz9) (B := ?Bz9) rfl ?Tz9 ?Fz9 ?az9 ?bz9 ?cz9 ?dz9 ?ez9
     case Tz9 =>
      intro hcz9 hkz9
      refine sp (OpV.fieldAddr rfl fo_61_3) ?_
      refine sp (OpV.loadBox rfl pt_3 mq2 rfl) ?_
      refine sp (OpV.leq rfl rfl) ?_
      refine hkz9 _ ?_ ?_
      exact rfl
      repeat (first | exact Sub.refl _ | refine Sub.skip rfl ?_)
     case Fz9 =>
      intro hcz9 hkz9
      refine sk ?_
      refine sk ?_
      refine sk ?_
      refine hkz9 _ ?_
      repeat (first | exact Sub.refl _ | refine Sub.skip rfl ?_)
     case az9 => exact rfl
     case bz9 => exact rfl
     case cz9 => exact rfl
     case dz9 => exact rfl
     refine mv ?_
     refine Lt.ofWL.and 80 84 83 (p := ?pz10) (rest := ?qz10) (B := ?Bz10) rfl ?Tz10 ?Fz10 ?az10 ?bz10 ?cz10 ?dz10 ?ez10
     case Tz10 =>
      intro hcz10 hkz10
      refine sp (OpV.fieldAddr rfl fo_61_4) ?_
      refine sp (OpV.loadBox rfl pt_3 mq2 rfl) ?_
      refine sp (OpV.leq rfl rfl) ?_
      refine hkz10 _ ?_ ?_
      exact rfl
      repeat (first | exact Sub.refl _ | refine Sub.skip rfl ?_)
     case Fz10 =>
      intro hcz10 hkz10
      refine sk ?_
      refine sk ?_
      refine sk ?_
      refine hkz10 _ ?_
      repeat (first | exact Sub.refl _ | refine Sub.skip rfl ?_)
     case az10 => exact rfl
     case bz10 => exact rfl
     case cz10 => exact rfl
     case dz10 => exact rfl
     refine ag ?_
     refine WL.nil (En.next (WC.ret (En.then_ret ?_)))
     refine En.ret1 rfl (Res.tmp rfl) ?_
     obtain rfl := Option.some.inj h
     intro w' hs
     exact ⟨rfl, hs.below⟩
    ·
     intro hc_4
     replace h := ifO_f hc_4 h
     refine WC.skip (En.next (WC.seq (WC.sr ?_)))
     refine mv ?_
     refine sp (OpV.neq rfl rfl) ?_
     refine WL.nil (En.next ?_)
     refine WC.cond rfl ?_ ?_
     ·
      intro hc_5
      replace h := ifO_t hc_5 h
      refine WC.sr ?_
      refine ag ?_
      refine WL.nil (En.next (WC.ret (En.then_ret ?_)))
      refine En.ret1 rfl (Res.tmp rfl) ?_
      obtain rfl := Option.some.inj h
      intro w' hs
      exact ⟨rfl, hs.below⟩
     ·
      intro hc_5
      replace h := ifO_f hc_5 h
      refine WC.skip (En.next (WC.seq (WC.sr ?_)))
      refine ag ?_
      refine WL.nil (En.next (WC.block ?_))
      obtain ⟨zy0, ezy0, h⟩ := bnd h
      refine WC.cut (X := (Unit) × (Unit)) (.exit 0) (fun x => zy0 = .inl x.1) (fun x => match x with | ((), ()) => [(2, .int .i64 a_p2), (3, .int .i64 a_p3), (5, .pointer (some ⟨b0_0, 0, .none⟩)), (11, .bool ((((decide (a_p1.Orient = 0)) && (decide (a_p1.ToW = 0))) && (decide (a_p1.ToH = 0))) && (decide (a_p1.Alpha = 255))))]) (fun x => match x with | ((), ()) => [Chunk.box b0_0 61 [.bool a_p1.On, .int .i64 a_p1.X, .int .i64 a_p1.Y, .int .i64 a_p1.W, .int .i64 a_p1.H, .int .i64 a_p1.Layout, .slice q1_0 a_p1.Words.length k1_0, .int .i64 a_p1.Alpha, .int .i64 a_p1.Orient, .int .i64 a_p1.ToW, .int .i64 a_p1.ToH]]) ?_ ?_
      ·
       rintro ⟨⟨⟩, ⟨⟩⟩ hx
       replace hx : .inl () = zy0 := hx.symm
       subst hx
       replace h := fork_l h
       show En _ _ _ _ [(2, .int .i64 a_p2), (3, .int .i64 a_p3), (5, .pointer (some ⟨b0_0, 0, .none⟩)), (11, .bool ((((decide (a_p1.Orient = 0)) && (decide (a_p1.ToW = 0))) && (decide (a_p1.ToH = 0))) && (decide (a_p1.Alpha = 255))))] [Chunk.box b0_0 61 [.bool a_p1.On, .int .i64 a_p1.X, .int .i64 a_p1.Y, .int .i64 a_p1.W, .int .i64 a_p1.H, .int .i64 a_p1.Layout, .slice q1_0 a_p1.Words.length k1_0, .int .i64 a_p1.Alpha, .int .i64 a_p1.Orient, .int .i64 a_p1.ToW, .int .i64 a_p1.ToH]]
       refine En.block_exit (En.next (WC.sr ?_))
       refine mv ?_
       refine mv ?_
       refine Lt.ofWL.and 102 106 105 (p := ?pz11) (rest := ?qz11) (B := ?Bz11) rfl ?Tz11 ?Fz11 ?az11 ?bz11 ?cz11 ?dz11 ?ez11
       case Tz11 =>
        intro hcz11 hkz11
        refine sp (OpV.fieldAddr rfl fo_61_1) ?_
        refine sp (OpV.loadBox rfl pt_3 mq0 rfl) ?_
        refine sp (OpV.eql rfl rfl) ?_
        refine hkz11 _ ?_ ?_
        exact rfl
        repeat (first | exact Sub.refl _ | refine Sub.skip rfl ?_)
       case Fz11 =>
        intro hcz11 hkz11
        refine sk ?_
        refine sk ?_
        refine sk ?_
        refine hkz11 _ ?_
        repeat (first | exact Sub.refl _ | refine Sub.skip rfl ?_)
       case az11 => exact rfl
       case bz11 => exact rfl
       case cz11 => exact rfl
       case dz11 => exact rfl
       refine mv ?_
       refine Lt.ofWL.and 107 111 110 (p := ?pz12) (rest := ?qz12) (B := ?Bz12) rfl ?Tz12 ?Fz12 ?az12 ?bz12 ?cz12 ?dz12 ?ez12
       case Tz12 =>
        intro hcz12 hkz12
        refine sp (OpV.fieldAddr rfl fo_61_2) ?_
        refine sp (OpV.loadBox rfl pt_3 mq0 rfl) ?_
        refine sp (OpV.eql rfl rfl) ?_
        refine hkz12 _ ?_ ?_
        exact rfl
        repeat (first | exact Sub.refl _ | refine Sub.skip rfl ?_)
       case Fz12 =>
        intro hcz12 hkz12
        refine sk ?_
        refine sk ?_
        refine sk ?_
        refine hkz12 _ ?_
        repeat (first | exact Sub.refl _ | refine Sub.skip rfl ?_)
       case az12 => exact rfl
       case bz12 => exact rfl
       case cz12 => exact rfl
       case dz12 => exact rfl
       refine mv ?_
       refine Lt.ofWL.and 112 117 116 (p := ?pz13) (rest := ?qz13) (B := ?Bz13) rfl ?Tz13 ?Fz13 ?az13 ?bz13 ?cz13 ?dz13 ?ez13
       case Tz13 =>
        intro hcz13 hkz13
        refine sp (OpV.fieldAddr rfl fo_61_3) ?_
        refine sp (OpV.loadBox rfl pt_3 mq0 rfl) ?_
        refine mv ?_
        refine sp (OpV.eql rfl rfl) ?_
        refine hkz13 _ ?_ ?_
        exact rfl
        repeat (first | exact Sub.refl _ | refine Sub.skip rfl ?_)
       case Fz13 =>
        intro hcz13 hkz13
        refine sk ?_
        refine sk ?_
        refine sk ?_
        refine sk ?_
        refine hkz13 _ ?_
        repeat (first | exact Sub.refl _ | refine Sub.skip rfl ?_)
       case az13 => exact rfl
       case bz13 => exact rfl
       case cz13 => exact rfl
       case dz13 => exact rfl
       refine mv ?_
       refine Lt.ofWL.and 118 123 122 (p := ?pz14) (rest := ?qz14) (B := ?Bz14) rfl ?Tz14 ?Fz14 ?az14 ?bz14 ?cz14 ?dz14 ?ez14
       case Tz14 =>
        intro hcz14 hkz14
        refine sp (OpV.fieldAddr rfl fo_61_4) ?_
        refine sp (OpV.loadBox rfl pt_3 mq0 rfl) ?_
        refine mv ?_
        refine sp (OpV.eql rfl rfl) ?_
        refine hkz14 _ ?_ ?_
        exact rfl
        repeat (first | exact Sub.refl _ | refine Sub.skip rfl ?_)
       case Fz14 =>
        intro hcz14 hkz14
        refine sk ?_
        refine sk ?_
        refine sk ?_
        refine sk ?_
        refine hkz14 _ ?_
        repeat (first | exact Sub.refl _ | refine Sub.skip rfl ?_)
       case az14 => exact rfl
       case bz14 => exact rfl
       case cz14 => exact rfl
       case dz14 => exact rfl
       refine ag ?_
       refine WL.nil (En.next (WC.ret ?_))
       refine En.ret1 rfl (Res.tmp rfl) ?_
       obtain rfl := Option.some.inj h
       intro w' hs
       exact ⟨rfl, hs.below⟩
      ·
       intro zK0_0
       refine WC.loopP (G := Unit) (fun s g => match s, g with | v_0, () => [(2, .int .i64 a_p2), (3, .int .i64 a_p3), (5, .pointer (some ⟨b0_0, 0, .none⟩)), (9, .pointer (some ⟨b5_5, 0, .none⟩)), (11, .bool ((((decide (a_p1.Orient = 0)) && (decide (a_p1.ToW = 0))) && (decide (a_p1.ToH = 0))) && (decide (a_p1.Alpha = 255)))), (12, .int .i64 v_0)]) (fun s g => match s, g with | v_0, () => [Chunk.box b0_0 61 [.bool a_p1.On, .int .i64 a_p1.X, .int .i64 a_p1.Y, .int .i64 a_p1.W, .int .i64 a_p1.H, .int .i64 a_p1.Layout, .slice q1_0 a_p1.Words.length k1_0, .int .i64 a_p1.Alpha, .int .i64 a_p1.Orient, .int .i64 a_p1.ToW, .int .i64 a_p1.ToH], Chunk.box b5_5 107 [.int .i64 x5_1a.W, .int .i64 x5_1a.H, .slice a5_100 n5_100 c5_100], Chunk.own tInt f5_100 a5_100 n5_100 c5_100 x5_1a.Data]) 0 () ezy0 (by exact sc (sc (sc (sc (sc (sc sn)))))) (by exact (fun _ h => (((h).pm 1).pm 1).pm 2)) ?_
       rintro zm0 v_0 ⟨⟩ zo0 zf0 zb0 ze0
       have zh0 : spec_PlaneOk_L0 x5_1a v_0 = some zo0 := zf0
       unfold spec_PlaneOk_L0 at zh0
       show WC _ _ _ _ _ [(2, .int .i64 a_p2), (3, .int .i64 a_p3), (5, .pointer (some ⟨b0_0, 0, .none⟩)), (9, .pointer (some ⟨b5_5, 0, .none⟩)), (11, .bool ((((decide (a_p1.Orient = 0)) && (decide (a_p1.ToW = 0))) && (decide (a_p1.ToH = 0))) && (decide (a_p1.Alpha = 255)))), (12, .int .i64 v_0)] [Chunk.box b0_0 61 [.bool a_p1.On, .int .i64 a_p1.X, .int .i64 a_p1.Y, .int .i64 a_p1.W, .int .i64 a_p1.H, .int .i64 a_p1.Layout, .slice q1_0 a_p1.Words.length k1_0, .int .i64 a_p1.Alpha, .int .i64 a_p1.Orient, .int .i64 a_p1.ToW, .int .i64 a_p1.ToH], Chunk.box b5_5 107 [.int .i64 x5_1a.W, .int .i64 x5_1a.H, .slice a5_100 n5_100 c5_100], Chunk.own tInt f5_100 a5_100 n5_100 c5_100 x5_1a.Data]
       refine WC.seq (WC.sr ?_)
       refine mv ?_
       refine sp (OpV.fieldAddr rfl fo_107_2) ?_
       refine sp (OpV.loadBox rfl pt_23 mq1 rfl) ?_
       refine sp (OpV.inhF fun hin => OpV.lenO (xs := x5_1a.Data) rfl si_23 rfl (ownLen hin mq2)) ?_
       refine sp (OpV.lss rfl rfl) ?_
       refine WL.nil (En.next ?_)
       refine WC.cond rfl ?_ ?_
       ·
        intro hc_6
        replace zh0 := ifO_t hc_6 zh0
        refine WC.skip (En.next (WC.seq (WC.block (WC.seq ?_))))
        refine WC.inh fun hin16 => ?_
        obtain ⟨x16_3, e16_3, zh0⟩ := bnd zh0
        obtain ⟨g16_3, o16_3, ha16_3⟩ := ownAddr hin16 mq2 e16_3
        have hn16_3 := ownLen hin16 mq2
        obtain ⟨x16_5, e16_5, zh0⟩ := bnd zh0
        refine WC.region ?_
        refine sp (OpV.fieldAddr rfl fo_107_2) ?_
        refine sp (OpV.loadBox rfl pt_23 mq1 rfl) ?_
        refine mv ?_
        refine sp (OpV.idxA rfl rfl se_23 ha16_3 ⟨(idx_some e16_3).1, by rw [hn16_3]; exact (idx_some e16_3).2.1⟩) ?_
        refine sp (OpV.load1 rfl pt_3 (fun w hs => Rd.cell1 tInt_flat (Ow.rd (hs.mem mq2)) e16_3 ha16_3 rfl)) ?_
        refine sp (OpV.call (ec rfl e0) ca_136 (fun w hs => w_spec_l10Opaque e16_5)) ?_
        refine sp (OpV.not rfl) ?_
        refine WL.nil (En.next ?_)
        refine WC.cond rfl ?_ ?_
        ·
         intro hc_7
         replace zh0 := ifO_t hc_7 zh0
         refine WC.sr ?_
         refine ag ?_
         refine WL.nil (En.next (WC.ret (En.block_ret (En.then_ret (En.then_ret (En.block_ret (En.then_ret ?_)))))))
         refine En.ret1 rfl (Res.tmp rfl) ?_
         have hx := exitP ze0 zh0
         subst hx
         replace h := fork_r h
         obtain rfl := Option.some.inj h
         intro w' hs
         exact ⟨rfl, hs.below⟩
        ·
         intro hc_7
         replace zh0 := ifO_f hc_7 zh0
         refine WC.skip (En.block_norm (En.next (WC.region ?_)))
         refine mv ?_
         refine sp (OpV.addR rfl rfl) ?_
         refine ag ?_
         refine WL.nil ?_
         exact En.backP zb0 zh0 () (sc (sc (sc (sc (sc (sc sn)))))) (fun _ h => h)
       ·
        intro hc_6
        replace zh0 := ifO_f hc_6 zh0
        refine WC.exit (En.then_exit (En.then_exit ?_))
        have hx := exitP ze0 zh0
        exact En.wk _ _ (sc (sc (sc (sc sn)))) (fun _ h => (h).sub (.cons_cons _ (.cons _ (.cons _ (.slnil))))) (zK0_0 ((), ()) hx.symm)

theorem w_spec_PlanesOk {list_p0 : List PlaneT} {w_p1 : Int} {h_p2 : Int} {r : Bool} {q0_0 : Option Addr} {l0_0 k0_0 : Nat} (h : spec_PlanesOk list_p0 w_p1 h_p2 = some r) {w : World} (r0_0 : Rd tPlane w q0_0 l0_0 k0_0 list_p0)   :
    Calls Tryz.prog 86 #[.slice q0_0 l0_0 k0_0, .int .i64 w_p1, .int .i64 h_p2] w (fun en w' => en = .returned (.bool r) ∧ Ext w w') := by
 obtain rfl := r0_0.1
 unfold spec_PlanesOk at h
 refine enter (vs := [_, _, _]) Tryz.func86 rfl rfl rfl rfl ?_
 refine WC.sr ?_
 refine ag ?_
 refine WL.nil (En.next (WC.seq (WC.sr ?_)))
 refine mv ?_
 refine sp (OpV.len rfl si_36 rfl) ?_
 refine sp (OpV.neq rfl rfl) ?_
 refine WL.nil (En.next ?_)
 refine WC.cond rfl ?_ ?_
 ·
  intro hc_1
  replace h := ifO_t hc_1 h
  refine WC.sr ?_
  refine ag ?_
  refine WL.nil (En.next (WC.ret (En.then_ret ?_)))
  refine En.ret1 rfl (Res.tmp rfl) ?_
  obtain rfl := Option.some.inj h
  intro w' hs
  exact ⟨rfl, hs.below⟩
 ·
  intro hc_1
  replace h := ifO_f hc_1 h
  refine WC.skip (En.next (WC.seq (WC.sr ?_)))
  refine ag ?_
  refine WL.nil (En.next (WC.block ?_))
  obtain ⟨zy0, ezy0, h⟩ := bnd h
  refine WC.cut (X := (Unit) × (Unit)) (.exit 0) (fun x => zy0 = .inl x.1) (fun x => match x with | ((), ()) => [(0, .slice q0_0 list_p0.length k0_0)]) (fun x => match x with | ((), ()) => []) ?_ ?_
  ·
   rintro ⟨⟨⟩, ⟨⟩⟩ hx
   replace hx : .inl () = zy0 := hx.symm
   subst hx
   replace h := fork_l h
   show En _ _ _ _ [(0, .slice q0_0 list_p0.length k0_0)] []
   refine En.block_exit (En.next (WC.seq ?_))
   obtain ⟨x8_1, e8_1, h⟩ := bnd h
   obtain ⟨g8_1, o8_1, _, ha8_1, ⟨a8_1_1, c8_1_1, rfl, r8_1_1⟩, hd8_1⟩ := Rd.atIdx r0_0 e8_1
   replace hd8_1 : ∀ (j : Nat) v, ([.bool x8_1.On, .int .i64 x8_1.X, .int .i64 x8_1.Y, .int .i64 x8_1.W, .int .i64 x8_1.H, .int .i64 x8_1.Layout, .slice a8_1_1 x8_1.Words.length c8_1_1, .int .i64 x8_1.Alpha, .int .i64 x8_1.Orient, .int .i64 x8_1.ToW, .int .i64 x8_1.ToH] : List Value)[j]? = some v → w.cell? ⟨g8_1, o8_1 + (Int.toNat 1) * 11 + j, .none⟩ = some v := hd8_1
   obtain ⟨q8_11, e8_11, h⟩ := bnd h
   refine WC.region ?_
   refine mv ?_
   refine sp (OpV.idxA rfl rfl se_36 ha8_1 ⟨(idx_some e8_1).1, (idx_some e8_1).2.1⟩) ?_
   refine sp (OpV.fieldAddr rfl fo_61_9) ?_
   refine sp (OpV.load1 rfl pt_3 (fun w hs => hs.cell (hd8_1 9 _ rfl))) ?_
   refine sp (OpV.eql rfl rfl) ?_
   refine mv ?_
   refine Lt.ofWL.orQ 31 37 36 (p := ?pz1) (rest := ?qz1) (B := q8_11) rfl (fun hz => orO_t e8_11 hz) ?Tz1 ?Fz1 ?az1 ?bz1 ?cz1 ?dz1 ?ez1
   case Tz1 =>
    intro hcz1 hkz1
    refine sk ?_
    refine sk ?_
    refine sk ?_
    refine sk ?_
    refine sk ?_
    refine hkz1 _ ?_
    repeat (first | exact Sub.refl _ | refine Sub.skip rfl ?_)
   case Fz1 =>
    intro hcz1 hkz1
    have hqz1 := orO_f e8_11 hcz1
    obtain ⟨x8_7, e8_7, hqz1⟩ := bnd hqz1
    obtain ⟨g8_7, o8_7, _, ha8_7, ⟨a8_7_1, c8_7_1, rfl, r8_7_1⟩, hd8_7⟩ := Rd.atIdx r0_0 e8_7
    replace hd8_7 : ∀ (j : Nat) v, ([.bool x8_7.On, .int .i64 x8_7.X, .int .i64 x8_7.Y, .int .i64 x8_7.W, .int .i64 x8_7.H, .int .i64 x8_7.Layout, .slice a8_7_1 x8_7.Words.length c8_7_1, .int .i64 x8_7.Alpha, .int .i64 x8_7.Orient, .int .i64 x8_7.ToW, .int .i64 x8_7.ToH] : List Value)[j]? = some v → w.cell? ⟨g8_7, o8_7 + (Int.toNat 2) * 11 + j, .none⟩ = some v := hd8_7
    obtain rfl := Option.some.inj hqz1
    refine mv ?_
    refine sp (OpV.idxA rfl rfl se_36 ha8_7 ⟨(idx_some e8_7).1, (idx_some e8_7).2.1⟩) ?_
    refine sp (OpV.fieldAddr rfl fo_61_9) ?_
    refine sp (OpV.load1 rfl pt_3 (fun w hs => hs.cell (hd8_7 9 _ rfl))) ?_
    refine sp (OpV.eql rfl rfl) ?_
    refine hkz1 _ ?_ ?_
    exact rfl
    repeat (first | exact Sub.refl _ | refine Sub.skip rfl ?_)
   case az1 => exact rfl
   case bz1 => exact rfl
   case cz1 => exact rfl
   case dz1 => exact rfl
   refine ag ?_
   refine WL.nil (En.next (WC.ret ?_))
   refine En.ret1 rfl (Res.tmp rfl) ?_
   obtain rfl := Option.some.inj h
   intro w' hs
   exact ⟨rfl, hs.below⟩
  ·
   intro zK0_0
   refine WC.loopP (G := Unit) (fun s g => match s, g with | k_0, () => [(0, .slice q0_0 list_p0.length k0_0), (1, .int .i64 w_p1), (2, .int .i64 h_p2), (7, .int .i64 k_0)]) (fun s g => match s, g with | k_0, () => []) 0 () ezy0 (by exact sc (sc (sc (sc sn)))) (by exact (fun _ h => h)) ?_
   rintro zm0 k_0 ⟨⟩ zo0 zf0 zb0 ze0
   have zh0 : spec_PlanesOk_L0 list_p0 w_p1 h_p2 k_0 = some zo0 := zf0
   unfold spec_PlanesOk_L0 at zh0
   show WC _ _ _ _ _ [(0, .slice q0_0 list_p0.length k0_0), (1, .int .i64 w_p1), (2, .int .i64 h_p2), (7, .int .i64 k_0)] []
   refine WC.seq (WC.sr ?_)
   refine mv ?_
   refine mv ?_
   refine sp (OpV.len rfl si_36 rfl) ?_
   refine sp (OpV.lss rfl rfl) ?_
   refine WL.nil (En.next ?_)
   refine WC.cond rfl ?_ ?_
   ·
    intro hc_2
    replace zh0 := ifO_t hc_2 zh0
    refine WC.skip (En.next (WC.seq (WC.block (WC.seq ?_))))
    obtain ⟨x6_3, e6_3, zh0⟩ := bnd zh0
    obtain ⟨g6_3, o6_3, _, ha6_3, ⟨a6_3_1, c6_3_1, rfl, r6_3_1⟩, hd6_3⟩ := Rd.atIdx r0_0 e6_3
    replace hd6_3 : ∀ (j : Nat) v, ([.bool x6_3.On, .int .i64 x6_3.X, .int .i64 x6_3.Y, .int .i64 x6_3.W, .int .i64 x6_3.H, .int .i64 x6_3.Layout, .slice a6_3_1 x6_3.Words.length c6_3_1, .int .i64 x6_3.Alpha, .int .i64 x6_3.Orient, .int .i64 x6_3.ToW, .int .i64 x6_3.ToH] : List Value)[j]? = some v → w.cell? ⟨g6_3, o6_3 + k_0.toNat * 11 + j, .none⟩ = some v := hd6_3
    obtain ⟨x6_7, e6_7, zh0⟩ := bnd zh0
    refine WC.region ?_
    refine mv ?_
    refine mv ?_
    refine mv ?_
    refine sp (OpV.idxA rfl rfl se_36 ha6_3 ⟨(idx_some e6_3).1, (idx_some e6_3).2.1⟩) ?_
    refine sp (OpV.loadN rfl ag_61 rfl (fun w hs => hs.cellsAt hd6_3)) ?_
    refine mv ?_
    refine mv ?_
    refine sp (OpV.call (ec rfl (ec rfl (ec rfl (ec rfl e0)))) ca_120 (fun w hs => w_spec_PlaneOk e6_7 (r6_3_1.ext hs.below))) ?_
    refine sp (OpV.not rfl) ?_
    refine WL.nil (En.next ?_)
    refine WC.cond rfl ?_ ?_
    ·
     intro hc_3
     replace zh0 := ifO_t hc_3 zh0
     refine WC.sr ?_
     refine ag ?_
     refine WL.nil (En.next (WC.ret (En.block_ret (En.then_ret (En.then_ret (En.block_ret (En.then_ret ?_)))))))
     refine En.ret1 rfl (Res.tmp rfl) ?_
     have hx := exitP ze0 zh0
     subst hx
     replace h := fork_r h
     obtain rfl := Option.some.inj h
     intro w' hs
     exact ⟨rfl, hs.below⟩
    ·
     intro hc_3
     replace zh0 := ifO_f hc_3 zh0
     refine WC.skip (En.block_norm (En.next (WC.region ?_)))
     refine mv ?_
     refine sp (OpV.addR rfl rfl) ?_
     refine ag ?_
     refine WL.nil ?_
     exact En.backP zb0 zh0 () (sc (sc (sc (sc sn)))) (fun _ h => h)
   ·
    intro hc_2
    replace zh0 := ifO_f hc_2 zh0
    refine WC.exit (En.then_exit (En.then_exit ?_))
    have hx := exitP ze0 zh0
    exact En.wk _ _ (sc sn) (fun _ h => h) (zK0_0 ((), ()) hx.symm)

theorem w_spec_ColorOk {m_p0 : ColorMapT} {r : Bool} {q0_0 : Option Addr} {l0_0 k0_0 : Nat} {q0_1 : Option Addr} {l0_1 k0_1 : Nat} (h : spec_ColorOk m_p0 = some r) {w : World} (r0_0 : Rd tInt w q0_0 l0_0 k0_0 m_p0.Matrix) (r0_1 : Rd tInt w q0_1 l0_1 k0_1 m_p0.Curve)   :
    Calls Tryz.prog 111 #[.agg #[.slice q0_0 l0_0 k0_0, .slice q0_1 l0_1 k0_1]] w (fun en w' => en = .returned (.bool r) ∧ Ext w w') := by
 obtain rfl := r0_0.1
 obtain rfl := r0_1.1
 unfold spec_ColorOk at h
 refine enter (vs := [_]) Tryz.func111 rfl rfl rfl rfl ?_
 refine WC.sr ?_
 refine WL.heavy rfl rfl rfl (OpH.box rfl rfl ?_)
 intro b0_0
 refine ag ?_
 refine WL.nil (En.next (WC.seq (WC.sr ?_)))
 refine sp (OpV.fieldAddr rfl fo_37_0) ?_
 refine sp (OpV.loadBox rfl pt_23 mq0 rfl) ?_
 refine sp (OpV.len rfl si_23 rfl) ?_
 refine sp (OpV.neq rfl rfl) ?_
 refine mv ?_
 refine Lt.ofWL.or 9 14 13 (p := ?pz1) (rest := ?qz1) (B := ?Bz1) rfl ?Tz1 ?Fz1 ?az1 ?bz1 ?cz1 ?dz1 ?ez1
 case Tz1 =>
  intro hcz1 hkz1
  refine sk ?_
  refine sk ?_
  refine sk ?_
  refine sk ?_
  refine hkz1 _ ?_
  repeat (first | exact Sub.refl _ | refine Sub.skip rfl ?_)
 case Fz1 =>
  intro hcz1 hkz1
  refine sp (OpV.fieldAddr rfl fo_37_1) ?_
  refine sp (OpV.loadBox rfl pt_23 mq0 rfl) ?_
  refine sp (OpV.len rfl si_23 rfl) ?_
  refine sp (OpV.neq rfl rfl) ?_
  refine hkz1 _ ?_ ?_
  exact rfl
  repeat (first | exact Sub.refl _ | refine Sub.skip rfl ?_)
 case az1 => exact rfl
 case bz1 => exact rfl
 case cz1 => exact rfl
 case dz1 => exact rfl
 refine WL.nil (En.next ?_)
 refine WC.cond rfl ?_ ?_
 ·
  intro hc_1
  replace h := ifO_t hc_1 h
  refine WC.sr ?_
  refine ag ?_
  refine WL.nil (En.next (WC.ret (En.then_ret ?_)))
  refine En.ret1 rfl (Res.tmp rfl) ?_
  obtain rfl := Option.some.inj h
  intro w' hs
  exact ⟨rfl, hs.below⟩
 ·
  intro hc_1
  replace h := ifO_f hc_1 h
  refine WC.skip (En.next (WC.seq (WC.sr ?_)))
  refine ag ?_
  refine WL.nil (En.next (WC.block ?_))
  obtain ⟨zy0, ezy0, h⟩ := bnd h
  refine WC.cut (X := (Unit) × (Unit)) (.exit 0) (fun x => zy0 = .inl x.1) (fun x => match x with | ((), ()) => [(1, .pointer (some ⟨b0_0, 0, .none⟩))]) (fun x => match x with | ((), ()) => [Chunk.box b0_0 37 [.slice q0_0 m_p0.Matrix.length k0_0, .slice q0_1 m_p0.Curve.length k0_1]]) ?_ ?_
  ·
   rintro ⟨⟨⟩, ⟨⟩⟩ hx
   replace hx : .inl () = zy0 := hx.symm
   subst hx
   replace h := fork_l h
   show En _ _ _ _ [(1, .pointer (some ⟨b0_0, 0, .none⟩))] [Chunk.box b0_0 37 [.slice q0_0 m_p0.Matrix.length k0_0, .slice q0_1 m_p0.Curve.length k0_1]]
   refine En.block_exit (En.next (WC.seq (WC.sr ?_)))
   refine ag ?_
   refine WL.nil (En.next (WC.block ?_))
   obtain ⟨zy1, ezy1, h⟩ := bnd h
   refine WC.cut (X := (Unit) × (Unit)) (.exit 2) (fun x => zy1 = .inl x.1) (fun x => match x with | ((), ()) => []) (fun x => match x with | ((), ()) => []) ?_ ?_
   ·
    rintro ⟨⟨⟩, ⟨⟩⟩ hx
    replace hx : .inl () = zy1 := hx.symm
    subst hx
    replace h := fork_l h
    show En _ _ _ _ [] []
    refine En.block_exit (En.next (WC.sr ?_))
    refine ag ?_
    refine WL.nil (En.next (WC.ret ?_))
    refine En.ret1 rfl (Res.tmp rfl) ?_
    obtain rfl := Option.some.inj h
    intro w' hs
    exact ⟨rfl, hs.below⟩
   ·
    intro zK1_0
    refine WC.loopP (G := Unit) (fun s g => match s, g with | k_1, () => [(1, .pointer (some ⟨b0_0, 0, .none⟩)), (4, .int .i64 k_1)]) (fun s g => match s, g with | k_1, () => [Chunk.box b0_0 37 [.slice q0_0 m_p0.Matrix.length k0_0, .slice q0_1 m_p0.Curve.length k0_1]]) 0 () ezy1 (by exact sc (sc sn)) (by exact (fun _ h => h)) ?_
    rintro zm1 k_1 ⟨⟩ zo1 zf1 zb1 ze1
    have zh1 : spec_ColorOk_L1 m_p0 k_1 = some zo1 := zf1
    unfold spec_ColorOk_L1 at zh1
    show WC _ _ _ _ _ [(1, .pointer (some ⟨b0_0, 0, .none⟩)), (4, .int .i64 k_1)] [Chunk.box b0_0 37 [.slice q0_0 m_p0.Matrix.length k0_0, .slice q0_1 m_p0.Curve.length k0_1]]
    refine WC.seq (WC.sr ?_)
    refine mv ?_
    refine sp (OpV.lss rfl rfl) ?_
    refine WL.nil (En.next ?_)
    refine WC.cond rfl ?_ ?_
    ·
     intro hc_2
     replace zh1 := ifO_t hc_2 zh1
     refine WC.skip (En.next (WC.seq (WC.block (WC.seq ?_))))
     obtain ⟨x11_3, e11_3, zh1⟩ := bnd zh1
     obtain ⟨g11_3, o11_3, _, ha11_3, rfl, hd11_3⟩ := Rd.atIdx r0_1 e11_3
     replace hd11_3 : ∀ (j : Nat) v, ([.int .i64 x11_3] : List Value)[j]? = some v → w.cell? ⟨g11_3, o11_3 + k_1.toNat * 1 + j, .none⟩ = some v := hd11_3
     obtain ⟨x11_5, e11_5, zh1⟩ := bnd zh1
     refine WC.region ?_
     refine sp (OpV.fieldAddr rfl fo_37_1) ?_
     refine sp (OpV.loadBox rfl pt_23 mq0 rfl) ?_
     refine mv ?_
     refine sp (OpV.idxA rfl rfl se_23 ha11_3 ⟨(idx_some e11_3).1, (idx_some e11_3).2.1⟩) ?_
     refine sp (OpV.load1 rfl pt_3 (fun w hs => hs.cell (hd11_3 0 _ rfl))) ?_
     refine sp (OpV.call (ec rfl (ec rfl (ec rfl e0))) ca_64 (fun w hs => w_spec_l01In e11_5)) ?_
     refine sp (OpV.not rfl) ?_
     refine WL.nil (En.next ?_)
     refine WC.cond rfl ?_ ?_
     ·
      intro hc_3
      replace zh1 := ifO_t hc_3 zh1
      refine WC.sr ?_
      refine ag ?_
      refine WL.nil (En.next (WC.ret (En.block_ret (En.then_ret (En.then_ret (En.block_ret (En.then_ret ?_)))))))
      refine En.ret1 rfl (Res.tmp rfl) ?_
      have hx := exitP ze1 zh1
      subst hx
      replace h := fork_r h
      obtain rfl := Option.some.inj h
      intro w' hs
      exact ⟨rfl, hs.below⟩
     ·
      intro hc_3
      replace zh1 := ifO_f hc_3 zh1
      refine WC.skip (En.block_norm (En.next (WC.region ?_)))
      refine mv ?_
      refine sp (OpV.addR rfl rfl) ?_
      refine ag ?_
      refine WL.nil ?_
      exact En.backP zb1 zh1 () (sc (sc sn)) (fun _ h => h)
    ·
     intro hc_2
     replace zh1 := ifO_f hc_2 zh1
     refine WC.exit (En.then_exit (En.then_exit ?_))
     have hx := exitP ze1 zh1
     exact En.wk _ _ sn (fun _ h => (h).sub (.cons _ (.slnil))) (zK1_0 ((), ()) hx.symm)
  ·
   intro zK0_0
   refine WC.loopP (G := Unit) (fun s g => match s, g with | k_0, () => [(1, .pointer (some ⟨b0_0, 0, .none⟩)), (3, .int .i64 k_0)]) (fun s g => match s, g with | k_0, () => [Chunk.box b0_0 37 [.slice q0_0 m_p0.Matrix.length k0_0, .slice q0_1 m_p0.Curve.length k0_1]]) 0 () ezy0 (by exact sc (sc sn)) (by exact (fun _ h => h)) ?_
   rintro zm0 k_0 ⟨⟩ zo0 zf0 zb0 ze0
   have zh0 : spec_ColorOk_L0 m_p0 k_0 = some zo0 := zf0
   unfold spec_ColorOk_L0 at zh0
   show WC _ _ _ _ _ [(1, .pointer (some ⟨b0_0, 0, .none⟩)), (3, .int .i64 k_0)] [Chunk.box b0_0 37 [.slice q0_0 m_p0.Matrix.length k0_0, .slice q0_1 m_p0.Curve.length k0_1]]
   refine WC.seq (WC.sr ?_)
   refine mv ?_
   refine sp (OpV.lss rfl rfl) ?_
   refine WL.nil (En.next ?_)
   refine WC.cond rfl ?_ ?_
   ·
    intro hc_4
    replace zh0 := ifO_t hc_4 zh0
    refine WC.skip (En.next (WC.seq (WC.block (WC.seq ?_))))
    obtain ⟨x6_3, e6_3, zh0⟩ := bnd zh0
    obtain ⟨g6_3, o6_3, _, ha6_3, rfl, hd6_3⟩ := Rd.atIdx r0_0 e6_3
    replace hd6_3 : ∀ (j : Nat) v, ([.int .i64 x6_3] : List Value)[j]? = some v → w.cell? ⟨g6_3, o6_3 + k_0.toNat * 1 + j, .none⟩ = some v := hd6_3
    obtain ⟨x6_5, e6_5, zh0⟩ := bnd zh0
    refine WC.region ?_
    refine sp (OpV.fieldAddr rfl fo_37_0) ?_
    refine sp (OpV.loadBox rfl pt_23 mq0 rfl) ?_
    refine mv ?_
    refine sp (OpV.idxA rfl rfl se_23 ha6_3 ⟨(idx_some e6_3).1, (idx_some e6_3).2.1⟩) ?_
    refine sp (OpV.load1 rfl pt_3 (fun w hs => hs.cell (hd6_3 0 _ rfl))) ?_
    refine sp (OpV.call (ec rfl (ec rfl (ec rfl e0))) ca_64 (fun w hs => w_spec_l01In e6_5)) ?_
    refine sp (OpV.not rfl) ?_
    refine WL.nil (En.next ?_)
    refine WC.cond rfl ?_ ?_
    ·
     intro hc_5
     replace zh0 := ifO_t hc_5 zh0
     refine WC.sr ?_
     refine ag ?_
     refine WL.nil (En.next (WC.ret (En.block_ret (En.then_ret (En.then_ret (En.block_ret (En.then_ret ?_)))))))
     refine En.ret1 rfl (Res.tmp rfl) ?_
     have hx := exitP ze0 zh0
     subst hx
     replace h := fork_r h
     obtain rfl := Option.some.inj h
     intro w' hs
     exact ⟨rfl, hs.below⟩
    ·
     intro hc_5
     replace zh0 := ifO_f hc_5 zh0
     refine WC.skip (En.block_norm (En.next (WC.region ?_)))
     refine mv ?_
     refine sp (OpV.addR rfl rfl) ?_
     refine ag ?_
     refine WL.nil ?_
     exact En.backP zb0 zh0 () (sc (sc sn)) (fun _ h => h)
   ·
    intro hc_4
    replace zh0 := ifO_f hc_4 zh0
    refine WC.exit (En.then_exit (En.then_exit ?_))
    have hx := exitP ze0 zh0
    exact En.wk _ _ (sc sn) (fun _ h => h) (zK0_0 ((), ()) hx.symm)

theorem w_spec_CrtcOk {c_p0 : CrtcT} {r : Bool} {q0_0 : Option Addr} {l0_0 k0_0 : Nat} {q0_1 : Option Addr} {l0_1 k0_1 : Nat} {q0_2 : Option Addr} {l0_2 k0_2 : Nat} (h : spec_CrtcOk c_p0 = some r) {w : World} (r0_0 : Rd tPlane w q0_0 l0_0 k0_0 c_p0.Planes) (r0_1 : Rd tInt w q0_1 l0_1 k0_1 c_p0.Color.Matrix) (r0_2 : Rd tInt w q0_2 l0_2 k0_2 c_p0.Color.Curve)   :
    Calls Tryz.prog 72 #[.agg #[.int .i64 c_p0.W, .int .i64 c_p0.H, .slice q0_0 l0_0 k0_0, .slice q0_1 l0_1 k0_1, .slice q0_2 l0_2 k0_2]] w (fun en w' => en = .returned (.bool r) ∧ Ext w w') := by
 obtain rfl := r0_0.1
 obtain rfl := r0_1.1
 obtain rfl := r0_2.1
 unfold spec_CrtcOk at h
 refine enter (vs := [_]) Tryz.func72 rfl rfl rfl rfl ?_
 refine WC.sr ?_
 refine WL.heavy rfl rfl rfl (OpH.box rfl rfl ?_)
 intro b0_0
 refine ag ?_
 refine WL.nil (En.next (WC.seq ?_))
 obtain ⟨x1_6, e1_6, h⟩ := bnd h
 obtain ⟨q1_11, e1_11, h⟩ := bnd h
 refine WC.region ?_
 refine sp (OpV.fieldAddr rfl fo_39_2) ?_
 refine sp (OpV.loadBox rfl pt_36 mq0 rfl) ?_
 refine sp (OpV.fieldAddr rfl fo_39_0) ?_
 refine sp (OpV.loadBox rfl pt_3 mq0 rfl) ?_
 refine sp (OpV.fieldAddr rfl fo_39_1) ?_
 refine sp (OpV.loadBox rfl pt_3 mq0 rfl) ?_
 refine sp (OpV.call (ec rfl (ec rfl (ec rfl e0))) ca_86 (fun w hs => w_spec_PlanesOk e1_6 (r0_0.ext hs.below))) ?_
 refine mv ?_
 refine Lt.ofWL.andQ 10 14 13 (p := ?pz1) (rest := ?qz1) (B := q1_11) rfl (fun hz => andO_f e1_11 hz) ?Tz1 ?Fz1 ?az1 ?bz1 ?cz1 ?dz1 ?ez1
 case Tz1 =>
  intro hcz1 hkz1
  have hqz1 := andO_t e1_11 hcz1
  obtain ⟨x1_10, e1_10, hqz1⟩ := bnd hqz1
  obtain rfl := Option.some.inj hqz1
  refine sp (OpV.fieldAddr rfl fo_39_3) ?_
  refine sp (OpV.loadPart rfl mq0 ag_37 rfl rfl) ?_
  refine sp (OpV.call (ec rfl e0) ca_111 (fun w hs => w_spec_ColorOk e1_10 (r0_1.ext hs.below) (r0_2.ext hs.below))) ?_
  refine hkz1 _ ?_ ?_
  exact rfl
  repeat (first | exact Sub.refl _ | refine Sub.skip rfl ?_)
 case Fz1 =>
  intro hcz1 hkz1
  refine sk ?_
  refine sk ?_
  refine sk ?_
  refine hkz1 _ ?_
  repeat (first | exact Sub.refl _ | refine Sub.skip rfl ?_)
 case az1 => exact rfl
 case bz1 => exact rfl
 case cz1 => exact rfl
 case dz1 => exact rfl
 refine ag ?_
 refine WL.nil (En.next (WC.ret ?_))
 refine En.ret1 rfl (Res.tmp rfl) ?_
 obtain rfl := Option.some.inj h
 intro w' hs
 exact ⟨rfl, hs.below⟩

theorem w_spec_FlipsOk {a_p0 : FlipsT} {r : Bool} {q0_0 : Option Addr} {l0_0 k0_0 : Nat} {q0_1 : Option Addr} {l0_1 k0_1 : Nat} {q0_2 : Option Addr} {l0_2 k0_2 : Nat} (h : spec_FlipsOk a_p0 = some r) {w : World} (r0_0 : Rd tFlip w q0_0 l0_0 k0_0 a_p0.Pending) (r0_1 : Rd tInt w q0_1 l0_1 k0_1 a_p0.Signalled) (r0_2 : Rd tInt w q0_2 l0_2 k0_2 a_p0.Events)   :
    Calls Tryz.prog 63 #[.agg #[.slice q0_0 l0_0 k0_0, .slice q0_1 l0_1 k0_1, .int .i64 a_p0.Next, .slice q0_2 l0_2 k0_2]] w (fun en w' => en = .returned (.bool r) ∧ Ext w w') := by
 obtain rfl := r0_0.1
 obtain rfl := r0_1.1
 obtain rfl := r0_2.1
 unfold spec_FlipsOk at h
 refine enter (vs := [_]) Tryz.func63 rfl rfl rfl rfl ?_
 refine WC.sr ?_
 refine WL.heavy rfl rfl rfl (OpH.box rfl rfl ?_)
 intro b0_0
 refine ag ?_
 refine WL.nil (En.next (WC.sr ?_))
 refine sp (OpV.fieldAddr rfl fo_35_0) ?_
 refine sp (OpV.loadBox rfl pt_33 mq0 rfl) ?_
 refine sp (OpV.len rfl si_33 rfl) ?_
 refine ag ?_
 refine WL.nil (En.next (WC.seq (WC.seq ?_)))
 obtain ⟨q2_7, e2_7, h⟩ := bnd h
 refine WC.region ?_
 refine mv ?_
 refine sp (OpV.gtr rfl rfl) ?_
 refine mv ?_
 refine Lt.ofWL.orQ 13 18 17 (p := ?pz1) (rest := ?qz1) (B := q2_7) rfl (fun hz => orO_t e2_7 hz) ?Tz1 ?Fz1 ?az1 ?bz1 ?cz1 ?dz1 ?ez1
 case Tz1 =>
  intro hcz1 hkz1
  refine sk ?_
  refine sk ?_
  refine sk ?_
  refine sk ?_
  refine hkz1 _ ?_
  repeat (first | exact Sub.refl _ | refine Sub.skip rfl ?_)
 case Fz1 =>
  intro hcz1 hkz1
  have hqz1 := orO_f e2_7 hcz1
  obtain ⟨x2_5, e2_5, hqz1⟩ := bnd hqz1
  obtain rfl := Option.some.inj hqz1
  refine sp (OpV.fieldAddr rfl fo_35_2) ?_
  refine sp (OpV.loadBox rfl pt_3 mq0 rfl) ?_
  refine sp (OpV.call (ec rfl (ec rfl (ec rfl e0))) ca_64 (fun w hs => w_spec_l01In e2_5)) ?_
  refine sp (OpV.not rfl) ?_
  refine hkz1 _ ?_ ?_
  exact rfl
  repeat (first | exact Sub.refl _ | refine Sub.skip rfl ?_)
 case az1 => exact rfl
 case bz1 => exact rfl
 case cz1 => exact rfl
 case dz1 => exact rfl
 refine WL.nil (En.next ?_)
 refine WC.cond rfl ?_ ?_
 ·
  intro hc_1
  replace h := ifO_t hc_1 h
  refine WC.sr ?_
  refine ag ?_
  refine WL.nil (En.next (WC.ret (En.then_ret ?_)))
  refine En.ret1 rfl (Res.tmp rfl) ?_
  obtain rfl := Option.some.inj h
  intro w' hs
  exact ⟨rfl, hs.below⟩
 ·
  intro hc_1
  replace h := ifO_f hc_1 h
  refine WC.skip (En.next (WC.seq (WC.sr ?_)))
  refine ag ?_
  refine WL.nil (En.next (WC.block ?_))
  obtain ⟨zy0, ezy0, h⟩ := bnd h
  refine WC.cut (X := (Unit) × (Unit)) (.exit 0) (fun x => zy0 = .inl x.1) (fun x => match x with | ((), ()) => [(1, .pointer (some ⟨b0_0, 0, .none⟩)), (3, .int .i64 (a_p0.Pending.length : Int))]) (fun x => match x with | ((), ()) => [Chunk.box b0_0 35 [.slice q0_0 a_p0.Pending.length k0_0, .slice q0_1 a_p0.Signalled.length k0_1, .int .i64 a_p0.Next, .slice q0_2 a_p0.Events.length k0_2]]) ?_ ?_
  ·
   rintro ⟨⟨⟩, ⟨⟩⟩ hx
   replace hx : .inl () = zy0 := hx.symm
   subst hx
   replace h := fork_l h
   show En _ _ _ _ [(1, .pointer (some ⟨b0_0, 0, .none⟩)), (3, .int .i64 (a_p0.Pending.length : Int))] [Chunk.box b0_0 35 [.slice q0_0 a_p0.Pending.length k0_0, .slice q0_1 a_p0.Signalled.length k0_1, .int .i64 a_p0.Next, .slice q0_2 a_p0.Events.length k0_2]]
   refine En.block_exit (En.next (WC.seq (WC.sr ?_)))
   refine ag ?_
   refine WL.nil (En.next (WC.block ?_))
   obtain ⟨zy1, ezy1, h⟩ := bnd h
   refine WC.cut (X := (Unit) × (Unit)) (.exit 2) (fun x => zy1 = .inl x.1) (fun x => match x with | ((), ()) => [(1, .pointer (some ⟨b0_0, 0, .none⟩)), (3, .int .i64 (a_p0.Pending.length : Int))]) (fun x => match x with | ((), ()) => [Chunk.box b0_0 35 [.slice q0_0 a_p0.Pending.length k0_0, .slice q0_1 a_p0.Signalled.length k0_1, .int .i64 a_p0.Next, .slice q0_2 a_p0.Events.length k0_2]]) ?_ ?_
   ·
    rintro ⟨⟨⟩, ⟨⟩⟩ hx
    replace hx : .inl () = zy1 := hx.symm
    subst hx
    replace h := fork_l h
    show En _ _ _ _ [(1, .pointer (some ⟨b0_0, 0, .none⟩)), (3, .int .i64 (a_p0.Pending.length : Int))] [Chunk.box b0_0 35 [.slice q0_0 a_p0.Pending.length k0_0, .slice q0_1 a_p0.Signalled.length k0_1, .int .i64 a_p0.Next, .slice q0_2 a_p0.Events.length k0_2]]
    refine En.block_exit (En.next (WC.seq (WC.sr ?_)))
    refine ag ?_
    refine WL.nil (En.next (WC.block ?_))
    obtain ⟨zy2, ezy2, h⟩ := bnd h
    refine WC.cut (X := (Unit) × (Unit)) (.exit 4) (fun x => zy2 = .inl x.1) (fun x => match x with | ((), ()) => []) (fun x => match x with | ((), ()) => []) ?_ ?_
    ·
     rintro ⟨⟨⟩, ⟨⟩⟩ hx
     replace hx : .inl () = zy2 := hx.symm
     subst hx
     replace h := fork_l h
     show En _ _ _ _ [] []
     refine En.block_exit (En.next (WC.sr ?_))
     refine ag ?_
     refine WL.nil (En.next (WC.ret ?_))
     refine En.ret1 rfl (Res.tmp rfl) ?_
     obtain rfl := Option.some.inj h
     intro w' hs
     exact ⟨rfl, hs.below⟩
    ·
     intro zK2_0
     refine WC.loopP (G := Unit) (fun s g => match s, g with | v_2, () => [(1, .pointer (some ⟨b0_0, 0, .none⟩)), (3, .int .i64 (a_p0.Pending.length : Int)), (7, .int .i64 v_2)]) (fun s g => match s, g with | v_2, () => [Chunk.box b0_0 35 [.slice q0_0 a_p0.Pending.length k0_0, .slice q0_1 a_p0.Signalled.length k0_1, .int .i64 a_p0.Next, .slice q0_2 a_p0.Events.length k0_2]]) 0 () ezy2 (by exact sc (sc (sc sn))) (by exact (fun _ h => h)) ?_
     rintro zm2 v_2 ⟨⟩ zo2 zf2 zb2 ze2
     have zh2 : spec_FlipsOk_L2 a_p0 v_2 = some zo2 := zf2
     unfold spec_FlipsOk_L2 at zh2
     show WC _ _ _ _ _ [(1, .pointer (some ⟨b0_0, 0, .none⟩)), (3, .int .i64 (a_p0.Pending.length : Int)), (7, .int .i64 v_2)] [Chunk.box b0_0 35 [.slice q0_0 a_p0.Pending.length k0_0, .slice q0_1 a_p0.Signalled.length k0_1, .int .i64 a_p0.Next, .slice q0_2 a_p0.Events.length k0_2]]
     refine WC.seq (WC.sr ?_)
     refine mv ?_
     refine sp (OpV.fieldAddr rfl fo_35_3) ?_
     refine sp (OpV.loadBox rfl pt_23 mq0 rfl) ?_
     refine sp (OpV.len rfl si_23 rfl) ?_
     refine sp (OpV.lss rfl rfl) ?_
     refine WL.nil (En.next ?_)
     refine WC.cond rfl ?_ ?_
     ·
      intro hc_2
      replace zh2 := ifO_t hc_2 zh2
      refine WC.skip (En.next (WC.seq (WC.block (WC.seq ?_))))
      obtain ⟨x18_3, e18_3, zh2⟩ := bnd zh2
      obtain ⟨g18_3, o18_3, _, ha18_3, rfl, hd18_3⟩ := Rd.atIdx r0_2 e18_3
      replace hd18_3 : ∀ (j : Nat) v, ([.int .i64 x18_3] : List Value)[j]? = some v → w.cell? ⟨g18_3, o18_3 + v_2.toNat * 1 + j, .none⟩ = some v := hd18_3
      obtain ⟨x18_10, e18_10, zh2⟩ := bnd zh2
      obtain ⟨q18_29, e18_29, zh2⟩ := bnd zh2
      refine WC.drawn [(1, ?r18q3v1), (3, ?r18q3v3), (7, ?r18q3v7), (123, ?r18q3v123)] (by kernel_rfl) (by kernel_rfl) ?dH18q3 ?dK18q3
      case dH18q3 =>
       intro W hW hk
       refine hW.sp (OpV.fieldAddr rfl fo_35_3) ?_
       refine hW.sp (OpV.loadBox rfl pt_23 mq0 rfl) ?_
       refine hW.mv ?_
       refine hW.sp (OpV.idxA rfl rfl se_23 ha18_3 ⟨(idx_some e18_3).1, (idx_some e18_3).2.1⟩) ?_
       refine hW.sp (OpV.load1 rfl pt_3 (fun w hs => hs.cell (hd18_3 0 _ rfl))) ?_
       refine hW.sp (OpV.fieldAddr rfl fo_35_2) ?_
       refine hW.sp (OpV.loadBox rfl pt_3 mq0 rfl) ?_
       refine hW.mv ?_
       refine hW.sp (OpV.subR rfl rfl) ?_
       refine hW.sp (OpV.subR rfl rfl) ?_
       refine hW.sp (OpV.call (ec rfl (ec rfl (ec rfl e0))) ca_64 (fun w hs => w_spec_l01In e18_10)) ?_
       refine hW.sp (OpV.not rfl) ?_
       refine hW.mv ?_
       refine hW.orQ 106 123 122 (p := ?pz2) (rest := ?qz2) (B := q18_29) rfl (fun hz => orO_t e18_29 hz) ?Tz2 ?Fz2 ?az2 ?bz2 ?cz2 ?dz2 ?ez2
       case Tz2 =>
        intro hcz2 hkz2
        refine hW.sk ?_
        refine hW.sk ?_
        refine hW.sk ?_
        refine hW.sk ?_
        refine hW.sk ?_
        refine hW.sk ?_
        refine hW.sk ?_
        refine hW.sk ?_
        refine hW.sk ?_
        refine hW.sk ?_
        refine hW.sk ?_
        refine hW.sk ?_
        refine hW.sk ?_
        refine hW.sk ?_
        refine hW.sk ?_
        refine hW.sk ?_
        refine hkz2 _ ?_
        repeat (first | exact Sub.refl _ | refine Sub.skip rfl ?_)
       case Fz2 =>
        intro hcz2 hkz2
        have hqz2 := orO_f e18_29 hcz2
        obtain ⟨q18_28, e18_28, hqz2⟩ := bnd hqz2
        obtain rfl := Option.some.inj hqz2
        refine hW.mv ?_
        refine hW.sp (OpV.gtr rfl rfl) ?_
        refine hW.mv ?_
        refine hW.andQ 109 122 121 (p := ?pz3) (rest := ?qz3) (B := q18_28) rfl (fun hz => andO_f e18_28 hz) ?Tz3 ?Fz3 ?az3 ?bz3 ?cz3 ?dz3 ?ez3
        case Tz3 =>
         intro hcz3 hkz3
         have hqz3 := andO_t e18_28 hcz3
         obtain ⟨x18_19, e18_19, hqz3⟩ := bnd hqz3
         obtain ⟨g18_19, o18_19, _, ha18_19, rfl, hd18_19⟩ := Rd.atIdx r0_2 e18_19
         replace hd18_19 : ∀ (j : Nat) v, ([.int .i64 x18_19] : List Value)[j]? = some v → w.cell? ⟨g18_19, o18_19 + v_2.toNat * 1 + j, .none⟩ = some v := hd18_19
         obtain ⟨x18_25, e18_25, hqz3⟩ := bnd hqz3
         obtain ⟨g18_25, o18_25, _, ha18_25, rfl, hd18_25⟩ := Rd.atIdx r0_2 e18_25
         replace hd18_25 : ∀ (j : Nat) v, ([.int .i64 x18_25] : List Value)[j]? = some v → w.cell? ⟨g18_25, o18_25 + (wr (v_2 - 1)).toNat * 1 + j, .none⟩ = some v := hd18_25
         obtain rfl := Option.some.inj hqz3
         refine hW.sp (OpV.fieldAddr rfl fo_35_3) ?_
         refine hW.sp (OpV.loadBox rfl pt_23 mq0 rfl) ?_
         refine hW.mv ?_
         refine hW.sp (OpV.idxA rfl rfl se_23 ha18_19 ⟨(idx_some e18_19).1, (idx_some e18_19).2.1⟩) ?_
         refine hW.sp (OpV.load1 rfl pt_3 (fun w hs => hs.cell (hd18_19 0 _ rfl))) ?_
         refine hW.sp (OpV.fieldAddr rfl fo_35_3) ?_
         refine hW.sp (OpV.loadBox rfl pt_23 mq0 rfl) ?_
         refine hW.mv ?_
         refine hW.sp (OpV.subR rfl rfl) ?_
         refine hW.sp (OpV.idxA rfl rfl se_23 ha18_25 ⟨(idx_some e18_25).1, (idx_some e18_25).2.1⟩) ?_
         refine hW.sp (OpV.load1 rfl pt_3 (fun w hs => hs.cell (hd18_25 0 _ rfl))) ?_
         refine hW.sp (OpV.leq rfl rfl) ?_
         refine hkz3 _ ?_ ?_
         exact rfl
         repeat (first | exact Sub.refl _ | refine Sub.skip rfl ?_)
        case Fz3 =>
         intro hcz3 hkz3
         refine hW.sk ?_
         refine hW.sk ?_
         refine hW.sk ?_
         refine hW.sk ?_
         refine hW.sk ?_
         refine hW.sk ?_
         refine hW.sk ?_
         refine hW.sk ?_
         refine hW.sk ?_
         refine hW.sk ?_
         refine hW.sk ?_
         refine hW.sk ?_
         refine hkz3 _ ?_
         repeat (first | exact Sub.refl _ | refine Sub.skip rfl ?_)
        case az3 => exact rfl
        case bz3 => exact rfl
        case cz3 => exact rfl
        case dz3 => exact rfl
        refine hkz2 _ ?_ ?_
        exact rfl
        repeat (first | exact Sub.refl _ | refine Sub.skip rfl ?_)
       case az2 => exact rfl
       case bz2 => exact rfl
       case cz2 => exact rfl
       case dz2 => exact rfl
       refine hk _ ?_
       refine Sub.cons ?_ (Sub.cons ?_ (Sub.cons ?_ (Sub.cons ?_ sn)))
       all_goals exact rfl
      refine En.next ?_
      refine WC.cond rfl ?_ ?_
      ·
       intro hc_3
       replace zh2 := ifO_t hc_3 zh2
       refine WC.sr ?_
       refine ag ?_
       refine WL.nil (En.next (WC.ret (En.block_ret (En.then_ret (En.then_ret (En.block_ret (En.then_ret ?_)))))))
       refine En.ret1 rfl (Res.tmp rfl) ?_
       have hx := exitP ze2 zh2
       subst hx
       replace h := fork_r h
       obtain rfl := Option.some.inj h
       intro w' hs
       exact ⟨rfl, hs.below⟩
      ·
       intro hc_3
       replace zh2 := ifO_f hc_3 zh2
       refine WC.skip (En.block_norm (En.next (WC.region ?_)))
       refine mv ?_
       refine sp (OpV.addR rfl rfl) ?_
       refine ag ?_
       refine WL.nil ?_
       exact En.backP zb2 zh2 () (sc (sc (sc sn))) (fun _ h => h)
     ·
      intro hc_2
      replace zh2 := ifO_f hc_2 zh2
      refine WC.exit (En.then_exit (En.then_exit ?_))
      have hx := exitP ze2 zh2
      exact En.wk _ _ sn (fun _ h => (h).sub (.cons _ (.slnil))) (zK2_0 ((), ()) hx.symm)
   ·
    intro zK1_0
    refine WC.loopP (G := Unit) (fun s g => match s, g with | v_1, () => [(1, .pointer (some ⟨b0_0, 0, .none⟩)), (3, .int .i64 (a_p0.Pending.length : Int)), (6, .int .i64 v_1)]) (fun s g => match s, g with | v_1, () => [Chunk.box b0_0 35 [.slice q0_0 a_p0.Pending.length k0_0, .slice q0_1 a_p0.Signalled.length k0_1, .int .i64 a_p0.Next, .slice q0_2 a_p0.Events.length k0_2]]) 0 () ezy1 (by exact sc (sc (sc sn))) (by exact (fun _ h => h)) ?_
    rintro zm1 v_1 ⟨⟩ zo1 zf1 zb1 ze1
    have zh1 : spec_FlipsOk_L1 a_p0 v_1 = some zo1 := zf1
    unfold spec_FlipsOk_L1 at zh1
    show WC _ _ _ _ _ [(1, .pointer (some ⟨b0_0, 0, .none⟩)), (3, .int .i64 (a_p0.Pending.length : Int)), (6, .int .i64 v_1)] [Chunk.box b0_0 35 [.slice q0_0 a_p0.Pending.length k0_0, .slice q0_1 a_p0.Signalled.length k0_1, .int .i64 a_p0.Next, .slice q0_2 a_p0.Events.length k0_2]]
    refine WC.seq (WC.sr ?_)
    refine mv ?_
    refine sp (OpV.fieldAddr rfl fo_35_1) ?_
    refine sp (OpV.loadBox rfl pt_23 mq0 rfl) ?_
    refine sp (OpV.len rfl si_23 rfl) ?_
    refine sp (OpV.lss rfl rfl) ?_
    refine WL.nil (En.next ?_)
    refine WC.cond rfl ?_ ?_
    ·
     intro hc_4
     replace zh1 := ifO_t hc_4 zh1
     refine WC.skip (En.next (WC.seq (WC.block (WC.seq ?_))))
     obtain ⟨x13_3, e13_3, zh1⟩ := bnd zh1
     obtain ⟨g13_3, o13_3, _, ha13_3, rfl, hd13_3⟩ := Rd.atIdx r0_1 e13_3
     replace hd13_3 : ∀ (j : Nat) v, ([.int .i64 x13_3] : List Value)[j]? = some v → w.cell? ⟨g13_3, o13_3 + v_1.toNat * 1 + j, .none⟩ = some v := hd13_3
     obtain ⟨x13_5, e13_5, zh1⟩ := bnd zh1
     obtain ⟨q13_24, e13_24, zh1⟩ := bnd zh1
     refine WC.drawn [(1, ?r13q3v1), (3, ?r13q3v3), (6, ?r13q3v6), (86, ?r13q3v86)] (by kernel_rfl) (by kernel_rfl) ?dH13q3 ?dK13q3
     case dH13q3 =>
      intro W hW hk
      refine hW.sp (OpV.fieldAddr rfl fo_35_1) ?_
      refine hW.sp (OpV.loadBox rfl pt_23 mq0 rfl) ?_
      refine hW.mv ?_
      refine hW.sp (OpV.idxA rfl rfl se_23 ha13_3 ⟨(idx_some e13_3).1, (idx_some e13_3).2.1⟩) ?_
      refine hW.sp (OpV.load1 rfl pt_3 (fun w hs => hs.cell (hd13_3 0 _ rfl))) ?_
      refine hW.sp (OpV.call (ec rfl (ec rfl (ec rfl e0))) ca_64 (fun w hs => w_spec_l01In e13_5)) ?_
      refine hW.sp (OpV.not rfl) ?_
      refine hW.mv ?_
      refine hW.orQ 69 86 85 (p := ?pz4) (rest := ?qz4) (B := q13_24) rfl (fun hz => orO_t e13_24 hz) ?Tz4 ?Fz4 ?az4 ?bz4 ?cz4 ?dz4 ?ez4
      case Tz4 =>
       intro hcz4 hkz4
       refine hW.sk ?_
       refine hW.sk ?_
       refine hW.sk ?_
       refine hW.sk ?_
       refine hW.sk ?_
       refine hW.sk ?_
       refine hW.sk ?_
       refine hW.sk ?_
       refine hW.sk ?_
       refine hW.sk ?_
       refine hW.sk ?_
       refine hW.sk ?_
       refine hW.sk ?_
       refine hW.sk ?_
       refine hW.sk ?_
       refine hW.sk ?_
       refine hkz4 _ ?_
       repeat (first | exact Sub.refl _ | refine Sub.skip rfl ?_)
      case Fz4 =>
       intro hcz4 hkz4
       have hqz4 := orO_f e13_24 hcz4
       obtain ⟨q13_23, e13_23, hqz4⟩ := bnd hqz4
       obtain rfl := Option.some.inj hqz4
       refine hW.mv ?_
       refine hW.sp (OpV.gtr rfl rfl) ?_
       refine hW.mv ?_
       refine hW.andQ 72 85 84 (p := ?pz5) (rest := ?qz5) (B := q13_23) rfl (fun hz => andO_f e13_23 hz) ?Tz5 ?Fz5 ?az5 ?bz5 ?cz5 ?dz5 ?ez5
       case Tz5 =>
        intro hcz5 hkz5
        have hqz5 := andO_t e13_23 hcz5
        obtain ⟨x13_14, e13_14, hqz5⟩ := bnd hqz5
        obtain ⟨g13_14, o13_14, _, ha13_14, rfl, hd13_14⟩ := Rd.atIdx r0_1 e13_14
        replace hd13_14 : ∀ (j : Nat) v, ([.int .i64 x13_14] : List Value)[j]? = some v → w.cell? ⟨g13_14, o13_14 + v_1.toNat * 1 + j, .none⟩ = some v := hd13_14
        obtain ⟨x13_20, e13_20, hqz5⟩ := bnd hqz5
        obtain ⟨g13_20, o13_20, _, ha13_20, rfl, hd13_20⟩ := Rd.atIdx r0_1 e13_20
        replace hd13_20 : ∀ (j : Nat) v, ([.int .i64 x13_20] : List Value)[j]? = some v → w.cell? ⟨g13_20, o13_20 + (wr (v_1 - 1)).toNat * 1 + j, .none⟩ = some v := hd13_20
        obtain rfl := Option.some.inj hqz5
        refine hW.sp (OpV.fieldAddr rfl fo_35_1) ?_
        refine hW.sp (OpV.loadBox rfl pt_23 mq0 rfl) ?_
        refine hW.mv ?_
        refine hW.sp (OpV.idxA rfl rfl se_23 ha13_14 ⟨(idx_some e13_14).1, (idx_some e13_14).2.1⟩) ?_
        refine hW.sp (OpV.load1 rfl pt_3 (fun w hs => hs.cell (hd13_14 0 _ rfl))) ?_
        refine hW.sp (OpV.fieldAddr rfl fo_35_1) ?_
        refine hW.sp (OpV.loadBox rfl pt_23 mq0 rfl) ?_
        refine hW.mv ?_
        refine hW.sp (OpV.subR rfl rfl) ?_
        refine hW.sp (OpV.idxA rfl rfl se_23 ha13_20 ⟨(idx_some e13_20).1, (idx_some e13_20).2.1⟩) ?_
        refine hW.sp (OpV.load1 rfl pt_3 (fun w hs => hs.cell (hd13_20 0 _ rfl))) ?_
        refine hW.sp (OpV.leq rfl rfl) ?_
        refine hkz5 _ ?_ ?_
        exact rfl
        repeat (first | exact Sub.refl _ | refine Sub.skip rfl ?_)
       case Fz5 =>
        intro hcz5 hkz5
        refine hW.sk ?_
        refine hW.sk ?_
        refine hW.sk ?_
        refine hW.sk ?_
        refine hW.sk ?_
        refine hW.sk ?_
        refine hW.sk ?_
        refine hW.sk ?_
        refine hW.sk ?_
        refine hW.sk ?_
        refine hW.sk ?_
        refine hW.sk ?_
        refine hkz5 _ ?_
        repeat (first | exact Sub.refl _ | refine Sub.skip rfl ?_)
       case az5 => exact rfl
       case bz5 => exact rfl
       case cz5 => exact rfl
       case dz5 => exact rfl
       refine hkz4 _ ?_ ?_
       exact rfl
       repeat (first | exact Sub.refl _ | refine Sub.skip rfl ?_)
      case az4 => exact rfl
      case bz4 => exact rfl
      case cz4 => exact rfl
      case dz4 => exact rfl
      refine hk _ ?_
      refine Sub.cons ?_ (Sub.cons ?_ (Sub.cons ?_ (Sub.cons ?_ sn)))
      all_goals exact rfl
     refine En.next ?_
     refine WC.cond rfl ?_ ?_
     ·
      intro hc_5
      replace zh1 := ifO_t hc_5 zh1
      refine WC.sr ?_
      refine ag ?_
      refine WL.nil (En.next (WC.ret (En.block_ret (En.then_ret (En.then_ret (En.block_ret (En.then_ret ?_)))))))
      refine En.ret1 rfl (Res.tmp rfl) ?_
      have hx := exitP ze1 zh1
      subst hx
      replace h := fork_r h
      obtain rfl := Option.some.inj h
      intro w' hs
      exact ⟨rfl, hs.below⟩
     ·
      intro hc_5
      replace zh1 := ifO_f hc_5 zh1
      refine WC.skip (En.block_norm (En.next (WC.region ?_)))
      refine mv ?_
      refine sp (OpV.addR rfl rfl) ?_
      refine ag ?_
      refine WL.nil ?_
      exact En.backP zb1 zh1 () (sc (sc (sc sn))) (fun _ h => h)
    ·
     intro hc_4
     replace zh1 := ifO_f hc_4 zh1
     refine WC.exit (En.then_exit (En.then_exit ?_))
     have hx := exitP ze1 zh1
     exact En.wk _ _ (sc (sc sn)) (fun _ h => h) (zK1_0 ((), ()) hx.symm)
  ·
   intro zK0_0
   refine WC.loopP (G := Unit) (fun s g => match s, g with | v_0, () => [(1, .pointer (some ⟨b0_0, 0, .none⟩)), (3, .int .i64 (a_p0.Pending.length : Int)), (4, .int .i64 v_0)]) (fun s g => match s, g with | v_0, () => [Chunk.box b0_0 35 [.slice q0_0 a_p0.Pending.length k0_0, .slice q0_1 a_p0.Signalled.length k0_1, .int .i64 a_p0.Next, .slice q0_2 a_p0.Events.length k0_2]]) 0 () ezy0 (by exact sc (sc (sc sn))) (by exact (fun _ h => h)) ?_
   rintro zm0 v_0 ⟨⟩ zo0 zf0 zb0 ze0
   have zh0 : spec_FlipsOk_L0 a_p0 v_0 = some zo0 := zf0
   unfold spec_FlipsOk_L0 at zh0
   show WC _ _ _ _ _ [(1, .pointer (some ⟨b0_0, 0, .none⟩)), (3, .int .i64 (a_p0.Pending.length : Int)), (4, .int .i64 v_0)] [Chunk.box b0_0 35 [.slice q0_0 a_p0.Pending.length k0_0, .slice q0_1 a_p0.Signalled.length k0_1, .int .i64 a_p0.Next, .slice q0_2 a_p0.Events.length k0_2]]
   refine WC.seq (WC.sr ?_)
   refine mv ?_
   refine mv ?_
   refine sp (OpV.lss rfl rfl) ?_
   refine WL.nil (En.next ?_)
   refine WC.cond rfl ?_ ?_
   ·
    intro hc_6
    replace zh0 := ifO_t hc_6 zh0
    refine WC.skip (En.next (WC.seq (WC.block (WC.seq ?_))))
    obtain ⟨x7_3, e7_3, zh0⟩ := bnd zh0
    obtain ⟨g7_3, o7_3, _, ha7_3, ⟨a7_3_1, c7_3_1, a7_3_2, c7_3_2, a7_3_3, c7_3_3, rfl, r7_3_1, r7_3_2, r7_3_3⟩, hd7_3⟩ := Rd.atIdx r0_0 e7_3
    replace hd7_3 : ∀ (j : Nat) v, ([.int .i64 x7_3.Seq, .int .i64 x7_3.Fence, .int .i64 x7_3.State.W, .int .i64 x7_3.State.H, .slice a7_3_1 x7_3.State.Planes.length c7_3_1, .slice a7_3_2 x7_3.State.Color.Matrix.length c7_3_2, .slice a7_3_3 x7_3.State.Color.Curve.length c7_3_3] : List Value)[j]? = some v → w.cell? ⟨g7_3, o7_3 + v_0.toNat * 7 + j, .none⟩ = some v := hd7_3
    refine WC.region ?_
    refine sp (OpV.fieldAddr rfl fo_35_0) ?_
    refine sp (OpV.loadBox rfl pt_33 mq0 rfl) ?_
    refine mv ?_
    refine sp (OpV.idxA rfl rfl se_33 ha7_3 ⟨(idx_some e7_3).1, (idx_some e7_3).2.1⟩) ?_
    refine sp (OpV.loadN rfl ag_79 rfl (fun w hs => hs.cellsAt hd7_3)) ?_
    refine WL.heavy rfl rfl rfl (OpH.alloc zc_79 ?_)
    intro b7_5
    refine WL.heavy0 rfl rfl (OpH.storeTo (A := []) [_, _, _, _, _, _, _] rfl rfl rfl ts_79 rfl rfl rfl ?_)
    refine WL.nil (En.next (WC.seq ?_))
    obtain ⟨x8_2, e8_2, zh0⟩ := bnd zh0
    obtain ⟨q8_25, e8_25, zh0⟩ := bnd zh0
    refine WC.region ?_
    refine sp (OpV.fieldAddr rfl fo_79_2) ?_
    refine sp (OpV.loadPart rfl mq0 ag_39 rfl rfl) ?_
    refine sp (OpV.call (ec rfl e0) ca_72 (fun w hs => w_spec_CrtcOk e8_2 (r7_3_1.ext hs.below) (r7_3_2.ext hs.below) (r7_3_3.ext hs.below))) ?_
    refine sp (OpV.not rfl) ?_
    refine mv ?_
    refine Lt.ofWL.or 33 43 42 (p := ?pz6) (rest := ?qz6) (B := ?Bz6) rfl ?Tz6 ?Fz6 ?az6 ?bz6 ?cz6 ?dz6 ?ez6
    case Tz6 =>
     intro hcz6 hkz6
     refine sk ?_
     refine sk ?_
     refine sk ?_
     refine sk ?_
     refine sk ?_
     refine sk ?_
     refine sk ?_
     refine sk ?_
     refine sk ?_
     refine hkz6 _ ?_
     repeat (first | exact Sub.refl _ | refine Sub.skip rfl ?_)
    case Fz6 =>
     intro hcz6 hkz6
     refine sp (OpV.fieldAddr rfl fo_79_0) ?_
     refine sp (OpV.loadBox rfl pt_3 mq0 rfl) ?_
     refine sp (OpV.fieldAddr rfl fo_35_2) ?_
     refine sp (OpV.loadBox rfl pt_3 mq1 rfl) ?_
     refine mv ?_
     refine sp (OpV.subR rfl rfl) ?_
     refine mv ?_
     refine sp (OpV.addR rfl rfl) ?_
     refine sp (OpV.neq rfl rfl) ?_
     refine hkz6 _ ?_ ?_
     exact rfl
     repeat (first | exact Sub.refl _ | refine Sub.skip rfl ?_)
    case az6 => exact rfl
    case bz6 => exact rfl
    case cz6 => exact rfl
    case dz6 => exact rfl
    refine mv ?_
    refine Lt.ofWL.or 44 48 47 (p := ?pz7) (rest := ?qz7) (B := ?Bz7) rfl ?Tz7 ?Fz7 ?az7 ?bz7 ?cz7 ?dz7 ?ez7
    case Tz7 =>
     intro hcz7 hkz7
     refine sk ?_
     refine sk ?_
     refine sk ?_
     refine hkz7 _ ?_
     repeat (first | exact Sub.refl _ | refine Sub.skip rfl ?_)
    case Fz7 =>
     intro hcz7 hkz7
     refine sp (OpV.fieldAddr rfl fo_79_0) ?_
     refine sp (OpV.loadBox rfl pt_3 mq0 rfl) ?_
     refine sp (OpV.lss rfl rfl) ?_
     refine hkz7 _ ?_ ?_
     exact rfl
     repeat (first | exact Sub.refl _ | refine Sub.skip rfl ?_)
    case az7 => exact rfl
    case bz7 => exact rfl
    case cz7 => exact rfl
    case dz7 => exact rfl
    refine mv ?_
    refine Lt.ofWL.orQ 49 54 53 (p := ?pz8) (rest := ?qz8) (B := q8_25) rfl (fun hz => orO_t e8_25 hz) ?Tz8 ?Fz8 ?az8 ?bz8 ?cz8 ?dz8 ?ez8
    case Tz8 =>
     intro hcz8 hkz8
     refine sk ?_
     refine sk ?_
     refine sk ?_
     refine sk ?_
     refine hkz8 _ ?_
     repeat (first | exact Sub.refl _ | refine Sub.skip rfl ?_)
    case Fz8 =>
     intro hcz8 hkz8
     have hqz8 := orO_f e8_25 hcz8
     obtain ⟨x8_23, e8_23, hqz8⟩ := bnd hqz8
     obtain rfl := Option.some.inj hqz8
     refine sp (OpV.fieldAddr rfl fo_79_1) ?_
     refine sp (OpV.loadBox rfl pt_3 mq0 rfl) ?_
     refine sp (OpV.call (ec rfl (ec rfl (ec rfl e0))) ca_64 (fun w hs => w_spec_l01In e8_23)) ?_
     refine sp (OpV.not rfl) ?_
     refine hkz8 _ ?_ ?_
     exact rfl
     repeat (first | exact Sub.refl _ | refine Sub.skip rfl ?_)
    case az8 => exact rfl
    case bz8 => exact rfl
    case cz8 => exact rfl
    case dz8 => exact rfl
    refine WL.nil (En.next ?_)
    refine WC.cond rfl ?_ ?_
    ·
     intro hc_7
     replace zh0 := ifO_t hc_7 zh0
     refine WC.sr ?_
     refine ag ?_
     refine WL.nil (En.next (WC.ret (En.block_ret (En.then_ret (En.then_ret (En.block_ret (En.then_ret ?_)))))))
     refine En.ret1 rfl (Res.tmp rfl) ?_
     have hx := exitP ze0 zh0
     subst hx
     replace h := fork_r h
     obtain rfl := Option.some.inj h
     intro w' hs
     exact ⟨rfl, hs.below⟩
    ·
     intro hc_7
     replace zh0 := ifO_f hc_7 zh0
     refine WC.skip (En.block_norm (En.next (WC.region ?_)))
     refine mv ?_
     refine sp (OpV.addR rfl rfl) ?_
     refine ag ?_
     refine WL.nil ?_
     exact En.backP zb0 zh0 () (sc (sc (sc sn))) (fun _ h => ((h).pm 1).sub (.cons_cons _ (.cons _ (.slnil))))
   ·
    intro hc_6
    replace zh0 := ifO_f hc_6 zh0
    refine WC.exit (En.then_exit (En.then_exit ?_))
    have hx := exitP ze0 zh0
    exact En.wk _ _ (sc (sc sn)) (fun _ h => h) (zK0_0 ((), ()) hx.symm)

theorem w_spec_l23Has {list_p0 : List Int} {k_p1 : Int} {r : Bool} {q0_0 : Option Addr} {l0_0 k0_0 : Nat} (h : spec_l23Has list_p0 k_p1 = some r) {w : World} (r0_0 : Rd tInt w q0_0 l0_0 k0_0 list_p0)   :
    Calls Tryz.prog 65 #[.slice q0_0 l0_0 k0_0, .int .i64 k_p1] w (fun en w' => en = .returned (.bool r) ∧ Ext w w') := by
 obtain rfl := r0_0.1
 unfold spec_l23Has at h
 refine enter (vs := [_, _]) Tryz.func65 rfl rfl rfl rfl ?_
 refine WC.sr ?_
 refine ag ?_
 refine WL.nil (En.next (WC.seq (WC.sr ?_)))
 refine ag ?_
 refine WL.nil (En.next (WC.block ?_))
 obtain ⟨zy0, ezy0, h⟩ := bnd h
 refine WC.cut (X := (Unit) × (Unit)) (.exit 0) (fun x => zy0 = .inl x.1) (fun x => match x with | ((), ()) => []) (fun x => match x with | ((), ()) => []) ?_ ?_
 ·
  rintro ⟨⟨⟩, ⟨⟩⟩ hx
  replace hx : .inl () = zy0 := hx.symm
  subst hx
  replace h := fork_l h
  show En _ _ _ _ [] []
  refine En.block_exit (En.next (WC.sr ?_))
  refine ag ?_
  refine WL.nil (En.next (WC.ret ?_))
  refine En.ret1 rfl (Res.tmp rfl) ?_
  obtain rfl := Option.some.inj h
  intro w' hs
  exact ⟨rfl, hs.below⟩
 ·
  intro zK0_0
  refine WC.loopP (G := Unit) (fun s g => match s, g with | i_0, () => [(0, .slice q0_0 list_p0.length k0_0), (1, .int .i64 k_p1), (5, .int .i64 i_0)]) (fun s g => match s, g with | i_0, () => []) 0 () ezy0 (by exact sc (sc (sc sn))) (by exact (fun _ h => h)) ?_
  rintro zm0 i_0 ⟨⟩ zo0 zf0 zb0 ze0
  have zh0 : spec_l23Has_L0 list_p0 k_p1 i_0 = some zo0 := zf0
  unfold spec_l23Has_L0 at zh0
  show WC _ _ _ _ _ [(0, .slice q0_0 list_p0.length k0_0), (1, .int .i64 k_p1), (5, .int .i64 i_0)] []
  refine WC.seq (WC.sr ?_)
  refine mv ?_
  refine mv ?_
  refine sp (OpV.len rfl si_23 rfl) ?_
  refine sp (OpV.lss rfl rfl) ?_
  refine WL.nil (En.next ?_)
  refine WC.cond rfl ?_ ?_
  ·
   intro hc_1
   replace zh0 := ifO_t hc_1 zh0
   refine WC.skip (En.next (WC.seq (WC.block (WC.seq ?_))))
   obtain ⟨x4_2, e4_2, zh0⟩ := bnd zh0
   obtain ⟨g4_2, o4_2, _, ha4_2, rfl, hd4_2⟩ := Rd.atIdx r0_0 e4_2
   replace hd4_2 : ∀ (j : Nat) v, ([.int .i64 x4_2] : List Value)[j]? = some v → w.cell? ⟨g4_2, o4_2 + i_0.toNat * 1 + j, .none⟩ = some v := hd4_2
   refine WC.region ?_
   refine mv ?_
   refine mv ?_
   refine sp (OpV.idxA rfl rfl se_23 ha4_2 ⟨(idx_some e4_2).1, (idx_some e4_2).2.1⟩) ?_
   refine sp (OpV.load1 rfl pt_3 (fun w hs => hs.cell (hd4_2 0 _ rfl))) ?_
   refine mv ?_
   refine sp (OpV.eql rfl rfl) ?_
   refine WL.nil (En.next ?_)
   refine WC.cond rfl ?_ ?_
   ·
    intro hc_2
    replace zh0 := ifO_t hc_2 zh0
    refine WC.sr ?_
    refine ag ?_
    refine WL.nil (En.next (WC.ret (En.block_ret (En.then_ret (En.then_ret (En.block_ret (En.then_ret ?_)))))))
    refine En.ret1 rfl (Res.tmp rfl) ?_
    have hx := exitP ze0 zh0
    subst hx
    replace h := fork_r h
    obtain rfl := Option.some.inj h
    intro w' hs
    exact ⟨rfl, hs.below⟩
   ·
    intro hc_2
    replace zh0 := ifO_f hc_2 zh0
    refine WC.skip (En.block_norm (En.next (WC.region ?_)))
    refine mv ?_
    refine sp (OpV.addR rfl rfl) ?_
    refine ag ?_
    refine WL.nil ?_
    exact En.backP zb0 zh0 () (sc (sc (sc sn))) (fun _ h => h)
  ·
   intro hc_1
   replace zh0 := ifO_f hc_1 zh0
   refine WC.exit (En.then_exit (En.then_exit ?_))
   have hx := exitP ze0 zh0
   exact En.wk _ _ sn (fun _ h => h) (zK0_0 ((), ()) hx.symm)

theorem w_spec_SignalFence {f_p0 : FlipsT} {fence_p1 : Int} {r : FlipsT} {q0_0 : Option Addr} {l0_0 k0_0 : Nat} {q0_1 : Option Addr} {l0_1 k0_1 : Nat} {q0_2 : Option Addr} {l0_2 k0_2 : Nat} (h : spec_SignalFence f_p0 fence_p1 = some r) {w : World} (r0_0 : Rd tFlip w q0_0 l0_0 k0_0 f_p0.Pending) (r0_1 : Rd tInt w q0_1 l0_1 k0_1 f_p0.Signalled) (r0_2 : Rd tInt w q0_2 l0_2 k0_2 f_p0.Events)   :
    Calls Tryz.prog 19 #[.agg #[.slice q0_0 l0_0 k0_0, .slice q0_1 l0_1 k0_1, .int .i64 f_p0.Next, .slice q0_2 l0_2 k0_2], .int .i64 fence_p1] w (fun en w' => ∃ rv G, en = .returned rv ∧ (∃ (a0_0 : Option Addr) (n0_0 : Nat) (c0_0 : Nat) (f0_0 : List Nat) (a0_1 : Option Addr) (n0_1 : Nat) (c0_1 : Nat) (f0_1 : List Nat) (a0_2 : Option Addr) (n0_2 : Nat) (c0_2 : Nat) (f0_2 : List Nat), rv = .agg #[.slice a0_0 n0_0 c0_0, .slice a0_1 n0_1 c0_1, .int .i64 r.Next, .slice a0_2 n0_2 c0_2] ∧ G = [Chunk.own tFlip f0_0 a0_0 n0_0 c0_0 r.Pending, Chunk.own tInt f0_1 a0_1 n0_1 c0_1 r.Signalled, Chunk.own tInt f0_2 a0_2 n0_2 c0_2 r.Events]) ∧ St w G w') := by
 obtain rfl := r0_0.1
 obtain rfl := r0_1.1
 obtain rfl := r0_2.1
 unfold spec_SignalFence at h
 refine enter (vs := [_, _]) Tryz.func19 rfl rfl rfl rfl ?_
 refine WC.sr ?_
 refine WL.heavy rfl rfl rfl (OpH.box rfl rfl ?_)
 intro b0_0
 refine WL.heavy rfl rfl rfl (OpH.alloc zc_35 ?_)
 intro b0_1
 refine WL.nil (En.next (WC.seq ?_))
 obtain ⟨x1_1, e1_1, h⟩ := bnd h
 refine WC.region ?_
 refine sp (OpV.loadAll rfl mq1 ag_35) ?_
 refine WL.heavy rfl rfl rfl (OpH.callR (ec rfl e0) ca_42 (fun w hs => w_spec_l23Copy e1_1 (r0_0.ext hs.below) (r0_1.ext hs.below) (r0_2.ext hs.below)) ?_)
 rintro _ _ ⟨a1_100, n1_100, c1_100, f1_100, a1_101, n1_101, c1_101, f1_101, a1_102, n1_102, c1_102, f1_102, rfl, rfl⟩
 refine WL.heavy rfl rfl rfl (OpH.alloc zc_35 ?_)
 intro b1_2
 refine WL.heavy0 rfl rfl (OpH.storeTo (A := []) [_, _, _, _] rfl rfl rfl ts_35 rfl rfl rfl ?_)
 refine WL.nil (En.next (WC.seq (WC.seq ?_)))
 obtain ⟨x2_1, e2_1, h⟩ := bnd h
 obtain ⟨q2_7, e2_7, h⟩ := bnd h
 obtain ⟨q2_13, e2_13, h⟩ := bnd h
 refine WC.region ?_
 refine sp (OpV.loadAll rfl mq5 ag_35) ?_
 refine sp (OpV.call (ec rfl e0) ca_63 (fun w hs => w_spec_FlipsOk e2_1 (r0_0.ext hs.below) (r0_1.ext hs.below) (r0_2.ext hs.below))) ?_
 refine sp (OpV.not rfl) ?_
 refine mv ?_
 refine Lt.ofWL.orQ 12 16 15 (p := ?pz1) (rest := ?qz1) (B := q2_7) rfl (fun hz => orO_t e2_7 hz) ?Tz1 ?Fz1 ?az1 ?bz1 ?cz1 ?dz1 ?ez1
 case Tz1 =>
  intro hcz1 hkz1
  refine sk ?_
  refine sk ?_
  refine sk ?_
  refine hkz1 _ ?_
  repeat (first | exact Sub.refl _ | refine Sub.skip rfl ?_)
 case Fz1 =>
  intro hcz1 hkz1
  have hqz1 := orO_f e2_7 hcz1
  obtain ⟨x2_5, e2_5, hqz1⟩ := bnd hqz1
  obtain rfl := Option.some.inj hqz1
  refine mv ?_
  refine sp (OpV.call (ec rfl (ec rfl (ec rfl e0))) ca_64 (fun w hs => w_spec_l01In e2_5)) ?_
  refine sp (OpV.not rfl) ?_
  refine hkz1 _ ?_ ?_
  exact rfl
  repeat (first | exact Sub.refl _ | refine Sub.skip rfl ?_)
 case az1 => exact rfl
 case bz1 => exact rfl
 case cz1 => exact rfl
 case dz1 => exact rfl
 refine mv ?_
 refine Lt.ofWL.orQ 17 22 21 (p := ?pz2) (rest := ?qz2) (B := q2_13) rfl (fun hz => orO_t e2_13 hz) ?Tz2 ?Fz2 ?az2 ?bz2 ?cz2 ?dz2 ?ez2
 case Tz2 =>
  intro hcz2 hkz2
  refine sk ?_
  refine sk ?_
  refine sk ?_
  refine sk ?_
  refine hkz2 _ ?_
  repeat (first | exact Sub.refl _ | refine Sub.skip rfl ?_)
 case Fz2 =>
  intro hcz2 hkz2
  have hqz2 := orO_f e2_13 hcz2
  obtain ⟨x2_12, e2_12, hqz2⟩ := bnd hqz2
  obtain rfl := Option.some.inj hqz2
  refine sp (OpV.fieldAddr rfl fo_35_1) ?_
  refine sp (OpV.loadBox rfl pt_23 mq5 rfl) ?_
  refine mv ?_
  refine sp (OpV.call (ec rfl (ec rfl e0)) ca_65 (fun w hs => w_spec_l23Has e2_12 (r0_1.ext hs.below))) ?_
  refine hkz2 _ ?_ ?_
  exact rfl
  repeat (first | exact Sub.refl _ | refine Sub.skip rfl ?_)
 case az2 => exact rfl
 case bz2 => exact rfl
 case cz2 => exact rfl
 case dz2 => exact rfl
 refine WL.nil (En.next ?_)
 refine WC.cond rfl ?_ ?_
 ·
  intro hc_1
  replace h := ifO_t hc_1 h
  refine WC.sr ?_
  refine sp (OpV.loadAll rfl mq0 ag_35) ?_
  refine WL.heavy0 rfl rfl (OpH.storeTo (A := [_, _, _, _]) [_, _, _, _] rfl rfl rfl ts_35 rfl rfl rfl ?_)
  refine WL.nil (En.next (WC.ret (En.then_ret ?_)))
  refine En.ret1 rfl (Res.cell rfl mq4 ag_35) ?_
  obtain rfl := Option.some.inj h
  intro w' hs
  have hs := ((((hs).pm 3).pm 3).pm 3).sub (.cons_cons _ (.cons_cons _ (.cons_cons _ (.cons _ (.cons _ (.cons _ (.slnil)))))))
  exact ⟨_, _, rfl, ⟨a1_100, n1_100, c1_100, f1_100, a1_101, n1_101, c1_101, f1_101, a1_102, n1_102, c1_102, f1_102, rfl, rfl⟩, hs⟩
 ·
  intro hc_1
  replace h := ifO_f hc_1 h
  refine WC.skip (En.next (WC.sr ?_))
  refine ag ?_
  refine WL.nil (En.next (WC.seq (WC.block ?_)))
  obtain ⟨zy0, ezy0, h⟩ := bnd h
  refine WC.cut (X := (Int) × (Unit)) (.exit 0) (fun x => zy0 = x.1) (fun x => match x with | (k_0e, ()) => [(1, .int .i64 fence_p1), (2, .pointer (some ⟨b0_0, 0, .none⟩)), (4, .pointer (some ⟨b0_1, 0, .none⟩)), (5, .pointer (some ⟨b1_2, 0, .none⟩)), (6, .int .i64 k_0e)]) (fun x => match x with | (k_0e, ()) => [Chunk.box b0_0 35 [.slice q0_0 f_p0.Pending.length k0_0, .slice q0_1 f_p0.Signalled.length k0_1, .int .i64 f_p0.Next, .slice q0_2 f_p0.Events.length k0_2], Chunk.box b0_1 35 [.slice .none 0 0, .slice .none 0 0, .int .i64 0, .slice .none 0 0], Chunk.box b1_2 35 [.slice a1_100 n1_100 c1_100, .slice a1_101 n1_101 c1_101, .int .i64 x1_1.Next, .slice a1_102 n1_102 c1_102], Chunk.own tFlip f1_100 a1_100 n1_100 c1_100 x1_1.Pending, Chunk.own tInt f1_101 a1_101 n1_101 c1_101 x1_1.Signalled, Chunk.own tInt f1_102 a1_102 n1_102 c1_102 x1_1.Events]) ?_ ?_
  ·
   rintro ⟨k_0e, ⟨⟩⟩ hx
   replace hx : k_0e = zy0 := hx.symm
   subst hx
   show En _ _ _ _ [(1, .int .i64 fence_p1), (2, .pointer (some ⟨b0_0, 0, .none⟩)), (4, .pointer (some ⟨b0_1, 0, .none⟩)), (5, .pointer (some ⟨b1_2, 0, .none⟩)), (6, .int .i64 k_0e)] [Chunk.box b0_0 35 [.slice q0_0 f_p0.Pending.length k0_0, .slice q0_1 f_p0.Signalled.length k0_1, .int .i64 f_p0.Next, .slice q0_2 f_p0.Events.length k0_2], Chunk.box b0_1 35 [.slice .none 0 0, .slice .none 0 0, .int .i64 0, .slice .none 0 0], Chunk.box b1_2 35 [.slice a1_100 n1_100 c1_100, .slice a1_101 n1_101 c1_101, .int .i64 x1_1.Next, .slice a1_102 n1_102 c1_102], Chunk.own tFlip f1_100 a1_100 n1_100 c1_100 x1_1.Pending, Chunk.own tInt f1_101 a1_101 n1_101 c1_101 x1_1.Signalled, Chunk.own tInt f1_102 a1_102 n1_102 c1_102 x1_1.Events]
   refine En.block_exit (En.next (WC.seq ?_))
   obtain ⟨x7_4, e7_4, h⟩ := bnd h
   obtain ⟨x7_5, e7_5, h⟩ := bnd h
   obtain ⟨x7_8, e7_8, h⟩ := bnd h
   obtain ⟨x7_12, e7_12, h⟩ := bnd h
   obtain ⟨x7_13, e7_13, h⟩ := bnd h
   refine WC.wkF (fun _ h => h.pm 2) ?_
   refine WC.cut (X := (List Nat) × (Option Addr) × Nat) .normal (fun _ => True) (fun x => match x with | (f7_13, a7_13, c7_13) => [(4, .pointer (some ⟨b0_1, 0, .none⟩)), (5, .pointer (some ⟨b1_2, 0, .none⟩))]) (fun x => match x with | (f7_13, a7_13, c7_13) => [Chunk.own tInt f7_13 a7_13 x7_13.length c7_13 x7_13, Chunk.box b0_1 35 [.slice .none 0 0, .slice .none 0 0, .int .i64 0, .slice .none 0 0], Chunk.box b1_2 35 [.slice a1_100 n1_100 c1_100, .slice a7_13 x7_13.length c7_13, .int .i64 x1_1.Next, .slice a1_102 n1_102 c1_102], Chunk.own tFlip f1_100 a1_100 n1_100 c1_100 x1_1.Pending, Chunk.own tInt f1_102 a1_102 n1_102 c1_102 x1_1.Events]) ?_ ?_
   ·
    rintro ⟨f7_13, a7_13, c7_13⟩ _
    show En _ _ _ _ [(4, .pointer (some ⟨b0_1, 0, .none⟩)), (5, .pointer (some ⟨b1_2, 0, .none⟩))] [Chunk.own tInt f7_13 a7_13 x7_13.length c7_13 x7_13, Chunk.box b0_1 35 [.slice .none 0 0, .slice .none 0 0, .int .i64 0, .slice .none 0 0], Chunk.box b1_2 35 [.slice a1_100 n1_100 c1_100, .slice a7_13 x7_13.length c7_13, .int .i64 x1_1.Next, .slice a1_102 n1_102 c1_102], Chunk.own tFlip f1_100 a1_100 n1_100 c1_100 x1_1.Pending, Chunk.own tInt f1_102 a1_102 n1_102 c1_102 x1_1.Events]
    refine En.next (WC.sr ?_)
    refine sp (OpV.loadAll rfl mq2 ag_35) ?_
    refine WL.heavy0 rfl rfl (OpH.storeTo (A := [_]) [_, _, _, _] rfl rfl rfl ts_35 rfl rfl rfl ?_)
    refine WL.nil (En.next (WC.ret ?_))
    refine En.ret1 rfl (Res.cell rfl mq1 ag_35) ?_
    obtain rfl := Option.some.inj h
    intro w' hs
    have hs := ((((hs).pm 4).pm 1).pm 4).sub (.cons_cons _ (.cons_cons _ (.cons_cons _ (.cons _ (.cons _ (.slnil))))))
    exact ⟨_, _, rfl, ⟨a1_100, n1_100, c1_100, f1_100, a7_13, x7_13.length, c7_13, f7_13, a1_102, n1_102, c1_102, f1_102, rfl, rfl⟩, hs⟩
   ·
    intro KR7
    refine WC.drawnH [_] ([_, _, _, _, _]) (fun _ h => h) (by kernel_rfl) ?_
    refine tk 1 rfl (OpV.fieldAddr rfl fo_35_1) ?_
    refine tk 2 rfl (OpV.loadBox rfl pt_23 mq0 rfl) ?_
    refine tk 3 rfl (OpV.move rfl) ?_
    refine tk 4 rfl (OpV.subH rfl rfl rfl se_23 r0_1.2.1.1 e7_4) ?_
    refine tk 6 rfl (OpV.move rfl) ?_
    refine tk 9 rfl (OpV.fieldAddr rfl fo_35_1) ?_
    refine tk 10 rfl (OpV.loadBox rfl pt_23 mq0 rfl) ?_
    refine tk 11 rfl (OpV.move rfl) ?_
    refine tk 12 rfl (OpV.subL rfl rfl rfl se_23 e7_12) ?_
    refine WAE.all (rs := [0, 7]) (by kernel_rfl) rfl (AllR.cons rfl rfl rfl rfl ?_ (AllR.cons rfl rfl rfl rfl ?_ AllR.nil))
    ·
     refine OpH.lit0 (A := tInt) (evps.nil) bs_23_0_ ?_
     intro b7_0
     refine ⟨[_, _], rfl, ?_⟩
     refine WAE.all (rs := [5, 7]) (by kernel_rfl) rfl (AllR.cons rfl rfl rfl rfl ?_ (AllR.cons rfl rfl rfl rfl ?_ AllR.nil))
     ·
      refine OpH.appS (F := []) (A := tInt) tInt_flat rfl rfl rfl mi_23 rfl (by decide) (fun w hs => ((Rd.sub r0_1 e7_4).ext hs.below)) e7_5 ?_
      intro f7_5 a7_5 c7_5
      refine ⟨[_, _], rfl, ?_⟩
      refine al1 7 rfl ?_
      refine OpH.litF (A := tInt) (xs := [fence_p1]) tInt_flat (evps.cons rfl (evps.nil)) (bs_23_1_0 _) rfl rfl (Nat.le_of_ble_eq_true rfl) ?_
      intro b7_7
      refine ⟨[_, _, _], rfl, ?_⟩
      refine al1 8 rfl ?_
      refine OpH.appS (F := [_]) (A := tInt) tInt_flat rfl rfl rfl mi_23 rfl (by decide) (fun w hs => (Ow.rd (hs.mem mq0))) e7_8 ?_
      intro f7_8 a7_8 c7_8
      refine ⟨[_, _, _], rfl, ?_⟩
      refine al1 13 rfl ?_
      refine OpH.appS (F := [_]) (A := tInt) tInt_flat rfl rfl rfl mi_23 rfl (by decide) (fun w hs => ((Rd.sub r0_1 e7_12).ext hs.below)) e7_13 ?_
      intro f7_13 a7_13 c7_13
      refine ⟨[_, _, _], rfl, ?_⟩
      refine tk 14 rfl (OpV.fieldAddr rfl fo_35_1) ?_
      refine al0 15 rfl ?_
      refine OpH.storeTo (A := [_, _]) [_, _, _, _] rfl rfl rfl ts_23 rfl rfl rfl ?_
      refine ⟨[_, _, _], rfl, ?_⟩
      refine WAE.rebase (H := []) ?_
      refine WAE.done (by kernel_rfl) ?_ _
      exact En.wk _ _ (sc (sc sn)) (fun _ h => ((((((h).pm 7).pm 6).pm 4).pm 6).pm 5).sub (.cons_cons _ (.cons_cons _ (.cons_cons _ (.cons_cons _ (.cons_cons _ (.cons _ (.cons _ (.cons _ (.slnil)))))))))) (KR7 (f7_13, a7_13, c7_13) trivial)
     ·
      refine OpH.litF (A := tInt) (xs := [fence_p1]) tInt_flat (evps.cons rfl (evps.nil)) (bs_23_1_0 _) rfl rfl (Nat.le_of_ble_eq_true rfl) ?_
      intro b7_7
      refine ⟨[_, _, _], rfl, ?_⟩
      refine al1 5 rfl ?_
      refine OpH.appS (F := [_]) (A := tInt) tInt_flat rfl rfl rfl mi_23 rfl (by decide) (fun w hs => ((Rd.sub r0_1 e7_4).ext hs.below)) e7_5 ?_
      intro f7_5 a7_5 c7_5
      refine ⟨[_, _, _], rfl, ?_⟩
      refine al1 8 rfl ?_
      refine OpH.appS (F := [_]) (A := tInt) tInt_flat rfl rfl rfl mi_23 rfl (by decide) (fun w hs => (Ow.rd (hs.mem mq0))) e7_8 ?_
      intro f7_8 a7_8 c7_8
      refine ⟨[_, _, _], rfl, ?_⟩
      refine al1 13 rfl ?_
      refine OpH.appS (F := [_]) (A := tInt) tInt_flat rfl rfl rfl mi_23 rfl (by decide) (fun w hs => ((Rd.sub r0_1 e7_12).ext hs.below)) e7_13 ?_
      intro f7_13 a7_13 c7_13
      refine ⟨[_, _, _], rfl, ?_⟩
      refine tk 14 rfl (OpV.fieldAddr rfl fo_35_1) ?_
      refine al0 15 rfl ?_
      refine OpH.storeTo (A := [_, _]) [_, _, _, _] rfl rfl rfl ts_23 rfl rfl rfl ?_
      refine ⟨[_, _, _], rfl, ?_⟩
      refine WAE.rebase (H := []) ?_
      refine WAE.done (by kernel_rfl) ?_ _
      exact En.wk _ _ (sc (sc sn)) (fun _ h => ((((((h).pm 7).pm 6).pm 4).pm 6).pm 5).sub (.cons_cons _ (.cons_cons _ (.cons_cons _ (.cons_cons _ (.cons_cons _ (.cons _ (.cons _ (.cons _ (.slnil)))))))))) (KR7 (f7_13, a7_13, c7_13) trivial)
    ·
     refine OpH.litF (A := tInt) (xs := [fence_p1]) tInt_flat (evps.cons rfl (evps.nil)) (bs_23_1_0 _) rfl rfl (Nat.le_of_ble_eq_true rfl) ?_
     intro b7_7
     refine ⟨[_, _], rfl, ?_⟩
     refine al1 0 rfl ?_
     refine OpH.lit0 (A := tInt) (evps.nil) bs_23_0_ ?_
     intro b7_0
     refine ⟨[_, _, _], rfl, ?_⟩
     refine al1 5 rfl ?_
     refine OpH.appS (F := []) (A := tInt) tInt_flat rfl rfl rfl mi_23 rfl (by decide) (fun w hs => ((Rd.sub r0_1 e7_4).ext hs.below)) e7_5 ?_
     intro f7_5 a7_5 c7_5
     refine ⟨[_, _, _], rfl, ?_⟩
     refine al1 8 rfl ?_
     refine OpH.appS (F := []) (A := tInt) tInt_flat rfl rfl rfl mi_23 rfl (by decide) (fun w hs => (Ow.rd (hs.mem mq1))) e7_8 ?_
     intro f7_8 a7_8 c7_8
     refine ⟨[_, _, _], rfl, ?_⟩
     refine al1 13 rfl ?_
     refine OpH.appS (F := []) (A := tInt) tInt_flat rfl rfl rfl mi_23 rfl (by decide) (fun w hs => ((Rd.sub r0_1 e7_12).ext hs.below)) e7_13 ?_
     intro f7_13 a7_13 c7_13
     refine ⟨[_, _, _], rfl, ?_⟩
     refine tk 14 rfl (OpV.fieldAddr rfl fo_35_1) ?_
     refine al0 15 rfl ?_
     refine OpH.storeTo (A := [_, _]) [_, _, _, _] rfl rfl rfl ts_23 rfl rfl rfl ?_
     refine ⟨[_, _, _], rfl, ?_⟩
     refine WAE.rebase (H := []) ?_
     refine WAE.done (by kernel_rfl) ?_ _
     exact En.wk _ _ (sc (sc sn)) (fun _ h => ((((((h).pm 7).pm 6).pm 4).pm 6).pm 4).sub (.cons_cons _ (.cons_cons _ (.cons_cons _ (.cons_cons _ (.cons_cons _ (.cons _ (.cons _ (.cons _ (.slnil)))))))))) (KR7 (f7_13, a7_13, c7_13) trivial)
  ·
   intro zK0_0
   refine WC.loopP (G := Unit) (fun s g => match s, g with | k_0, () => [(1, .int .i64 fence_p1), (2, .pointer (some ⟨b0_0, 0, .none⟩)), (4, .pointer (some ⟨b0_1, 0, .none⟩)), (5, .pointer (some ⟨b1_2, 0, .none⟩)), (6, .int .i64 k_0)]) (fun s g => match s, g with | k_0, () => [Chunk.box b0_0 35 [.slice q0_0 f_p0.Pending.length k0_0, .slice q0_1 f_p0.Signalled.length k0_1, .int .i64 f_p0.Next, .slice q0_2 f_p0.Events.length k0_2], Chunk.box b0_1 35 [.slice .none 0 0, .slice .none 0 0, .int .i64 0, .slice .none 0 0], Chunk.box b1_2 35 [.slice a1_100 n1_100 c1_100, .slice a1_101 n1_101 c1_101, .int .i64 x1_1.Next, .slice a1_102 n1_102 c1_102], Chunk.own tFlip f1_100 a1_100 n1_100 c1_100 x1_1.Pending, Chunk.own tInt f1_101 a1_101 n1_101 c1_101 x1_1.Signalled, Chunk.own tInt f1_102 a1_102 n1_102 c1_102 x1_1.Events]) 0 () ezy0 (by exact sc (sc (sc (sc (sc sn))))) (by exact (fun _ h => ((((((h).pm 3).pm 3).pm 3).pm 3).pm 4).pm 5)) ?_
   rintro zm0 k_0 ⟨⟩ zo0 zf0 zb0 ze0
   have zh0 : spec_SignalFence_L0 f_p0 fence_p1 k_0 = some zo0 := zf0
   unfold spec_SignalFence_L0 at zh0
   show WC _ _ _ _ _ [(1, .int .i64 fence_p1), (2, .pointer (some ⟨b0_0, 0, .none⟩)), (4, .pointer (some ⟨b0_1, 0, .none⟩)), (5, .pointer (some ⟨b1_2, 0, .none⟩)), (6, .int .i64 k_0)] [Chunk.box b0_0 35 [.slice q0_0 f_p0.Pending.length k0_0, .slice q0_1 f_p0.Signalled.length k0_1, .int .i64 f_p0.Next, .slice q0_2 f_p0.Events.length k0_2], Chunk.box b0_1 35 [.slice .none 0 0, .slice .none 0 0, .int .i64 0, .slice .none 0 0], Chunk.box b1_2 35 [.slice a1_100 n1_100 c1_100, .slice a1_101 n1_101 c1_101, .int .i64 x1_1.Next, .slice a1_102 n1_102 c1_102], Chunk.own tFlip f1_100 a1_100 n1_100 c1_100 x1_1.Pending, Chunk.own tInt f1_101 a1_101 n1_101 c1_101 x1_1.Signalled, Chunk.own tInt f1_102 a1_102 n1_102 c1_102 x1_1.Events]
   refine WC.seq (WC.seq ?_)
   obtain ⟨q5_13, e5_13, zh0⟩ := bnd zh0
   refine WC.region ?_
   refine mv ?_
   refine sp (OpV.fieldAddr rfl fo_35_1) ?_
   refine sp (OpV.loadBox rfl pt_23 mq0 rfl) ?_
   refine sp (OpV.len rfl si_23 rfl) ?_
   refine sp (OpV.lss rfl rfl) ?_
   refine mv ?_
   refine Lt.ofWL.andQ 29 37 36 (p := ?pz3) (rest := ?qz3) (B := q5_13) rfl (fun hz => andO_f e5_13 hz) ?Tz3 ?Fz3 ?az3 ?bz3 ?cz3 ?dz3 ?ez3
   case Tz3 =>
    intro hcz3 hkz3
    have hqz3 := andO_t e5_13 hcz3
    obtain ⟨x5_9, e5_9, hqz3⟩ := bnd hqz3
    obtain ⟨g5_9, o5_9, _, ha5_9, rfl, hd5_9⟩ := Rd.atIdx r0_1 e5_9
    replace hd5_9 : ∀ (j : Nat) v, ([.int .i64 x5_9] : List Value)[j]? = some v → w.cell? ⟨g5_9, o5_9 + k_0.toNat * 1 + j, .none⟩ = some v := hd5_9
    obtain rfl := Option.some.inj hqz3
    refine sp (OpV.fieldAddr rfl fo_35_1) ?_
    refine sp (OpV.loadBox rfl pt_23 mq0 rfl) ?_
    refine mv ?_
    refine sp (OpV.idxA rfl rfl se_23 ha5_9 ⟨(idx_some e5_9).1, (idx_some e5_9).2.1⟩) ?_
    refine sp (OpV.load1 rfl pt_3 (fun w hs => hs.cell (hd5_9 0 _ rfl))) ?_
    refine mv ?_
    refine sp (OpV.lss rfl rfl) ?_
    refine hkz3 _ ?_ ?_
    exact rfl
    repeat (first | exact Sub.refl _ | refine Sub.skip rfl ?_)
   case Fz3 =>
    intro hcz3 hkz3
    refine sk ?_
    refine sk ?_
    refine sk ?_
    refine sk ?_
    refine sk ?_
    refine sk ?_
    refine sk ?_
    refine hkz3 _ ?_
    repeat (first | exact Sub.refl _ | refine Sub.skip rfl ?_)
   case az3 => exact rfl
   case bz3 => exact rfl
   case cz3 => exact rfl
   case dz3 => exact rfl
   refine WL.nil (En.next ?_)
   refine WC.cond rfl ?_ ?_
   ·
    intro hc_2
    replace zh0 := ifO_t hc_2 zh0
    refine WC.skip (En.next (WC.block (WC.region ?_)))
    refine mv ?_
    refine sp (OpV.addR rfl rfl) ?_
    refine ag ?_
    refine WL.nil (En.block_norm ?_)
    exact En.backP zb0 zh0 () (sc (sc (sc (sc (sc sn))))) (fun _ h => h)
   ·
    intro hc_2
    replace zh0 := ifO_f hc_2 zh0
    refine WC.exit (En.then_exit (En.then_exit ?_))
    have hx := exitP ze0 zh0
    exact En.wk _ _ (sc (sc (sc (sc (sc sn))))) (fun _ h => h) (zK0_0 (k_0, ()) hx.symm)

theorem w_slices_Clone_S_int_int {s_p0 : List Int} {r : List Int} {q0_0 : Option Addr} {n0_0 k0_0 : Nat} (h : slices_Clone_S_int_int s_p0 = some r) {w : World} (r0_0 : Rd tInt w q0_0 n0_0 k0_0 s_p0) :
    Calls Tryz.prog 98 #[.slice q0_0 n0_0 k0_0] w (fun en w' => ∃ rv G, en = .returned rv ∧ (∃ (a0_0 : Option Addr) (n0_0 : Nat) (c0_0 : Nat) (f0_0 : List Nat), rv = .slice a0_0 n0_0 c0_0 ∧ G = [Chunk.own tInt f0_0 a0_0 n0_0 c0_0 r]) ∧ St w G w') := by
  obtain rfl := r0_0.1
  obtain ⟨hn, h⟩ := need_some h
  obtain rfl := Option.some.inj h
  refine enter (vs := [_]) Tryz.func98 rfl rfl rfl rfl ?_
  refine WC.sr ?_
  refine ag ?_
  refine WL.nil (En.next (WC.seq (WC.sr ?_)))
  refine mv ?_
  refine sp (OpV.eqNil rfl si_23) ?_
  refine WL.nil (En.next ?_)
  refine WC.cond rfl ?_ ?_
  · intro hc
    have hnil := Rd.isNil r0_0 hc
    refine WC.sr ?_
    refine ag ?_
    refine WL.nil (En.next (WC.ret (En.then_ret ?_)))
    refine En.ret1 rfl (Res.tmp rfl) ?_
    intro w' hs
    refine ⟨_, _, rfl, ⟨.none, 0, 0, [], rfl, rfl⟩, ?_⟩
    rw [hnil]; exact hs.ownNil
  · intro hc
    refine WC.skip (En.next (WC.sr ?_))
    refine WL.heavy rfl rfl rfl (OpH.lit0 (A := tInt) evps.nil bs_23_0_ ?_)
    intro b
    refine mv ?_
    refine WL.heavy rfl rfl rfl (OpH.appS (F := []) (A := tInt) tInt_flat rfl rfl rfl mi_23 rfl (by decide) (fun w hs => r0_0.ext hs.below) (app_nil hn) ?_)
    intro fp a c
    refine ag ?_
    refine WL.nil (En.next (WC.ret ?_))
    refine En.ret1 rfl (Res.tmp rfl) ?_
    intro w' hs
    exact ⟨_, _, rfl, ⟨_, _, _, _, rfl, rfl⟩, hs⟩

theorem w_impl_copyPlanes {list_p0 : List PlaneT} {r : List PlaneT} {q0_0 : Option Addr} {n0_0 k0_0 : Nat} (h : impl_copyPlanes list_p0 = some r) {w : World} (r0_0 : Rd tPlane w q0_0 n0_0 k0_0 list_p0) :
    Calls Tryz.prog 76 #[.slice q0_0 n0_0 k0_0] w (fun en w' => ∃ rv G, en = .returned rv ∧ (∃ (a0_0 : Option Addr) (n0_0 : Nat) (c0_0 : Nat) (f0_0 : List Nat), rv = .slice a0_0 n0_0 c0_0 ∧ G = [Chunk.own tPlane f0_0 a0_0 n0_0 c0_0 r]) ∧ St w G w') := by
 unfold impl_copyPlanes at h
 obtain ⟨⟨h1, h2⟩, h⟩ := need_some h
 obtain rfl := Option.some.inj h
 exact w_copyPlanesO h1 h2 r0_0 (fun s q n k w hs hr => w_slices_Clone_S_int_int (show slices_Clone_S_int_int s = some s from need_t hs _) hr)

theorem w_impl_copyColor {m_p0 : ColorMapT} {r : ColorMapT} {q0_0 : Option Addr} {l0_0 k0_0 : Nat} {q0_1 : Option Addr} {l0_1 k0_1 : Nat} (h : impl_copyColor m_p0 = some r) {w : World} (r0_0 : Rd tInt w q0_0 l0_0 k0_0 m_p0.Matrix) (r0_1 : Rd tInt w q0_1 l0_1 k0_1 m_p0.Curve)   :
    Calls Tryz.prog 79 #[.agg #[.slice q0_0 l0_0 k0_0, .slice q0_1 l0_1 k0_1]] w (fun en w' => ∃ rv G, en = .returned rv ∧ (∃ (a0_0 : Option Addr) (n0_0 : Nat) (c0_0 : Nat) (f0_0 : List Nat) (a0_1 : Option Addr) (n0_1 : Nat) (c0_1 : Nat) (f0_1 : List Nat), rv = .agg #[.slice a0_0 n0_0 c0_0, .slice a0_1 n0_1 c0_1] ∧ G = [Chunk.own tInt f0_0 a0_0 n0_0 c0_0 r.Matrix, Chunk.own tInt f0_1 a0_1 n0_1 c0_1 r.Curve]) ∧ St w G w') := by
 obtain rfl := r0_0.1
 obtain rfl := r0_1.1
 unfold impl_copyColor at h
 refine enter (vs := [_]) Tryz.func79 rfl rfl rfl rfl ?_
 refine WC.sr ?_
 refine WL.heavy rfl rfl rfl (OpH.box rfl rfl ?_)
 intro b0_0
 refine WL.heavy rfl rfl rfl (OpH.alloc zc_37 ?_)
 intro b0_1
 refine WL.nil (En.next (WC.seq ?_))
 obtain ⟨x1_2, e1_2, h⟩ := bnd h
 obtain ⟨x1_5, e1_5, h⟩ := bnd h
 refine WC.drawnH [_] ([_]) (fun _ h => h) (by kernel_rfl) ?_
 refine tk 0 rfl (OpV.fieldAddr rfl fo_37_0) ?_
 refine tk 1 rfl (OpV.loadBox rfl pt_23 mq0 rfl) ?_
 refine tk 3 rfl (OpV.fieldAddr rfl fo_37_1) ?_
 refine tk 4 rfl (OpV.loadBox rfl pt_23 mq0 rfl) ?_
 refine al1 2 rfl ?_
 refine OpH.callR (ec rfl e0) ca_98 (fun w hs => w_slices_Clone_S_int_int e1_2 (r0_0.ext hs.below)) ?_
 rintro _ _ ⟨a1_200, n1_200, c1_200, f1_200, rfl, rfl⟩
 refine ⟨[_, _], rfl, ?_⟩
 refine al1 5 rfl ?_
 refine OpH.callR (ec rfl e0) ca_98 (fun w hs => w_slices_Clone_S_int_int e1_5 (r0_1.ext hs.below)) ?_
 rintro _ _ ⟨a1_500, n1_500, c1_500, f1_500, rfl, rfl⟩
 refine ⟨[_, _, _], rfl, ?_⟩
 refine tk 6 rfl (OpV.build (evps.cons rfl (evps.cons rfl (evps.nil))) (bd_37_0_1 _ _ _ _ _ _)) ?_
 refine al0 7 rfl ?_
 refine OpH.storeTo (A := [_, _]) [_, _] rfl rfl rfl ts_37 rfl rfl rfl ?_
 refine ⟨[_, _, _], rfl, ?_⟩
 refine WAE.rebase (H := []) ?_
 refine WAE.done (by kernel_rfl) ?_ _
 refine En.next (WC.ret ?_)
 refine En.ret1 rfl (Res.cell rfl mq2 ag_37) ?_
 obtain rfl := Option.some.inj h
 intro w' hs
 have hs := ((hs).pm 1).sub (.cons_cons _ (.cons_cons _ (.cons _ (.cons _ (.slnil)))))
 exact ⟨_, _, rfl, ⟨a1_200, n1_200, c1_200, f1_200, a1_500, n1_500, c1_500, f1_500, rfl, rfl⟩, hs⟩

theorem w_impl_copyCrtc {c_p0 : CrtcT} {r : CrtcT} {q0_0 : Option Addr} {l0_0 k0_0 : Nat} {q0_1 : Option Addr} {l0_1 k0_1 : Nat} {q0_2 : Option Addr} {l0_2 k0_2 : Nat} (h : impl_copyCrtc c_p0 = some r) {w : World} (r0_0 : Rd tPlane w q0_0 l0_0 k0_0 c_p0.Planes) (r0_1 : Rd tInt w q0_1 l0_1 k0_1 c_p0.Color.Matrix) (r0_2 : Rd tInt w q0_2 l0_2 k0_2 c_p0.Color.Curve)   :
    Calls Tryz.prog 50 #[.agg #[.int .i64 c_p0.W, .int .i64 c_p0.H, .slice q0_0 l0_0 k0_0, .slice q0_1 l0_1 k0_1, .slice q0_2 l0_2 k0_2]] w (fun en w' => ∃ rv G, en = .returned rv ∧ (∃ (a0_0 : Option Addr) (n0_0 : Nat) (c0_0 : Nat) (f0_0 : List Nat) (a0_1 : Option Addr) (n0_1 : Nat) (c0_1 : Nat) (f0_1 : List Nat) (a0_2 : Option Addr) (n0_2 : Nat) (c0_2 : Nat) (f0_2 : List Nat), rv = .agg #[.int .i64 r.W, .int .i64 r.H, .slice a0_0 n0_0 c0_0, .slice a0_1 n0_1 c0_1, .slice a0_2 n0_2 c0_2] ∧ G = [Chunk.own tPlane f0_0 a0_0 n0_0 c0_0 r.Planes, Chunk.own tInt f0_1 a0_1 n0_1 c0_1 r.Color.Matrix, Chunk.own tInt f0_2 a0_2 n0_2 c0_2 r.Color.Curve]) ∧ St w G w') := by
 obtain rfl := r0_0.1
 obtain rfl := r0_1.1
 obtain rfl := r0_2.1
 unfold impl_copyCrtc at h
 refine enter (vs := [_]) Tryz.func50 rfl rfl rfl rfl ?_
 refine WC.sr ?_
 refine WL.heavy rfl rfl rfl (OpH.box rfl rfl ?_)
 intro b0_0
 refine WL.heavy rfl rfl rfl (OpH.alloc zc_39 ?_)
 intro b0_1
 refine WL.nil (En.next (WC.seq ?_))
 obtain ⟨x1_6, e1_6, h⟩ := bnd h
 obtain ⟨x1_9, e1_9, h⟩ := bnd h
 refine WC.drawnH [_] ([_]) (fun _ h => h) (by kernel_rfl) ?_
 refine tk 0 rfl (OpV.fieldAddr rfl fo_39_0) ?_
 refine tk 1 rfl (OpV.loadBox rfl pt_3 mq0 rfl) ?_
 refine tk 2 rfl (OpV.fieldAddr rfl fo_39_1) ?_
 refine tk 3 rfl (OpV.loadBox rfl pt_3 mq0 rfl) ?_
 refine tk 4 rfl (OpV.fieldAddr rfl fo_39_2) ?_
 refine tk 5 rfl (OpV.loadBox rfl pt_36 mq0 rfl) ?_
 refine tk 7 rfl (OpV.fieldAddr rfl fo_39_3) ?_
 refine tk 8 rfl (OpV.loadPart rfl mq0 ag_37 rfl rfl) ?_
 refine al1 6 rfl ?_
 refine OpH.callR (ec rfl e0) ca_76 (fun w hs => w_impl_copyPlanes e1_6 (r0_0.ext hs.below)) ?_
 rintro _ _ ⟨a1_600, n1_600, c1_600, f1_600, rfl, rfl⟩
 refine ⟨[_, _], rfl, ?_⟩
 refine al1 9 rfl ?_
 refine OpH.callR (ec rfl e0) ca_79 (fun w hs => w_impl_copyColor e1_9 (r0_1.ext hs.below) (r0_2.ext hs.below)) ?_
 rintro _ _ ⟨a1_900, n1_900, c1_900, f1_900, a1_901, n1_901, c1_901, f1_901, rfl, rfl⟩
 refine ⟨[_, _, _, _], rfl, ?_⟩
 refine tk 10 rfl (OpV.build (evps.cons rfl (evps.cons rfl (evps.cons rfl (evps.cons rfl (evps.nil))))) (bd_39_0_1_2_3 _ _ _ _ _ _ _ _ _ _ _)) ?_
 refine al0 11 rfl ?_
 refine OpH.storeTo (A := [_, _, _]) [_, _, _, _, _] rfl rfl rfl ts_39 rfl rfl rfl ?_
 refine ⟨[_, _, _, _], rfl, ?_⟩
 refine WAE.rebase (H := []) ?_
 refine WAE.done (by kernel_rfl) ?_ _
 refine En.next (WC.ret ?_)
 refine En.ret1 rfl (Res.cell rfl mq3 ag_39) ?_
 obtain rfl := Option.some.inj h
 intro w' hs
 have hs := ((((hs).pm 1).pm 1).pm 2).sub (.cons_cons _ (.cons_cons _ (.cons_cons _ (.cons _ (.cons _ (.slnil))))))
 exact ⟨_, _, rfl, ⟨a1_600, n1_600, c1_600, f1_600, a1_900, n1_900, c1_900, f1_900, a1_901, n1_901, c1_901, f1_901, rfl, rfl⟩, hs⟩

theorem w_impl_copyFlips {f_p0 : FlipsT} {r : FlipsT} {q0_0 : Option Addr} {l0_0 k0_0 : Nat} {q0_1 : Option Addr} {l0_1 k0_1 : Nat} {q0_2 : Option Addr} {l0_2 k0_2 : Nat} (h : impl_copyFlips f_p0 = some r) {w : World} (r0_0 : Rd tFlip w q0_0 l0_0 k0_0 f_p0.Pending) (r0_1 : Rd tInt w q0_1 l0_1 k0_1 f_p0.Signalled) (r0_2 : Rd tInt w q0_2 l0_2 k0_2 f_p0.Events)   :
    Calls Tryz.prog 49 #[.agg #[.slice q0_0 l0_0 k0_0, .slice q0_1 l0_1 k0_1, .int .i64 f_p0.Next, .slice q0_2 l0_2 k0_2]] w (fun en w' => ∃ rv G, en = .returned rv ∧ (∃ (a0_0 : Option Addr) (n0_0 : Nat) (c0_0 : Nat) (f0_0 : List Nat) (a0_1 : Option Addr) (n0_1 : Nat) (c0_1 : Nat) (f0_1 : List Nat) (a0_2 : Option Addr) (n0_2 : Nat) (c0_2 : Nat) (f0_2 : List Nat), rv = .agg #[.slice a0_0 n0_0 c0_0, .slice a0_1 n0_1 c0_1, .int .i64 r.Next, .slice a0_2 n0_2 c0_2] ∧ G = [Chunk.own tFlip f0_0 a0_0 n0_0 c0_0 r.Pending, Chunk.own tInt f0_1 a0_1 n0_1 c0_1 r.Signalled, Chunk.own tInt f0_2 a0_2 n0_2 c0_2 r.Events]) ∧ St w G w') := by
 obtain rfl := r0_0.1
 obtain rfl := r0_1.1
 obtain rfl := r0_2.1
 unfold impl_copyFlips at h
 refine enter (vs := [_]) Tryz.func49 rfl rfl rfl rfl ?_
 refine WC.sr ?_
 refine WL.heavy rfl rfl rfl (OpH.box rfl rfl ?_)
 intro b0_0
 refine WL.heavy rfl rfl rfl (OpH.alloc zc_35 ?_)
 intro b0_1
 refine WL.nil (En.next (WC.seq ?_))
 obtain ⟨x1_2, e1_2, h⟩ := bnd h
 obtain ⟨x1_7, e1_7, h⟩ := bnd h
 refine WC.cut (X := Nat × (Option Addr) × Nat × Nat × (Option Addr) × Nat × Nat × (List Nat) × (List Nat)) .normal (fun _ => True) (fun x => match x with | (b1_9, a1_200, n1_200, c1_200, a1_700, n1_700, c1_700, f1_700, f1_200) => [(1, .pointer (some ⟨b0_0, 0, .none⟩)), (2, .pointer (some ⟨b0_1, 0, .none⟩)), (3, .pointer (some ⟨b1_9, 0, .none⟩))]) (fun x => match x with | (b1_9, a1_200, n1_200, c1_200, a1_700, n1_700, c1_700, f1_700, f1_200) => [Chunk.box b1_9 35 [.slice .none 0 0, .slice a1_200 n1_200 c1_200, .int .i64 f_p0.Next, .slice a1_700 n1_700 c1_700], Chunk.own tInt f1_700 a1_700 n1_700 c1_700 x1_7, Chunk.own tInt f1_200 a1_200 n1_200 c1_200 x1_2, Chunk.box b0_1 35 [.slice .none 0 0, .slice .none 0 0, .int .i64 0, .slice .none 0 0], Chunk.box b0_0 35 [.slice q0_0 f_p0.Pending.length k0_0, .slice q0_1 f_p0.Signalled.length k0_1, .int .i64 f_p0.Next, .slice q0_2 f_p0.Events.length k0_2]]) ?_ ?_
 ·
  rintro ⟨b1_9, a1_200, n1_200, c1_200, a1_700, n1_700, c1_700, f1_700, f1_200⟩ _
  show En _ _ _ _ [(1, .pointer (some ⟨b0_0, 0, .none⟩)), (2, .pointer (some ⟨b0_1, 0, .none⟩)), (3, .pointer (some ⟨b1_9, 0, .none⟩))] [Chunk.box b1_9 35 [.slice .none 0 0, .slice a1_200 n1_200 c1_200, .int .i64 f_p0.Next, .slice a1_700 n1_700 c1_700], Chunk.own tInt f1_700 a1_700 n1_700 c1_700 x1_7, Chunk.own tInt f1_200 a1_200 n1_200 c1_200 x1_2, Chunk.box b0_1 35 [.slice .none 0 0, .slice .none 0 0, .int .i64 0, .slice .none 0 0], Chunk.box b0_0 35 [.slice q0_0 f_p0.Pending.length k0_0, .slice q0_1 f_p0.Signalled.length k0_1, .int .i64 f_p0.Next, .slice q0_2 f_p0.Events.length k0_2]]
  refine En.next (WC.seq (WC.sr ?_))
  refine sp (OpV.fieldAddr rfl fo_35_0) ?_
  refine sp (OpV.loadBox rfl pt_33 mq4 rfl) ?_
  refine sp (OpV.len rfl si_33 rfl) ?_
  refine mv ?_
  refine WL.nil (En.next (WC.block ?_))
  obtain ⟨zy0, ezy0, h⟩ := bnd h
  refine WC.cut (X := ((List FlipT)) × ((Option Addr) × Nat × Nat × (List Nat))) (.exit 0) (fun x => zy0 = x.1) (fun x => match x with | (out_0e, (aout_0e, nout_0e, cout_0e, fout_0e)) => [(2, .pointer (some ⟨b0_1, 0, .none⟩)), (3, .pointer (some ⟨b1_9, 0, .none⟩))]) (fun x => match x with | (out_0e, (aout_0e, nout_0e, cout_0e, fout_0e)) => [Chunk.box b0_1 35 [.slice .none 0 0, .slice .none 0 0, .int .i64 0, .slice .none 0 0], Chunk.box b1_9 35 [.slice aout_0e nout_0e cout_0e, .slice a1_200 n1_200 c1_200, .int .i64 f_p0.Next, .slice a1_700 n1_700 c1_700], Chunk.own tFlip fout_0e aout_0e nout_0e cout_0e out_0e, Chunk.own tInt f1_200 a1_200 n1_200 c1_200 x1_2, Chunk.own tInt f1_700 a1_700 n1_700 c1_700 x1_7]) ?_ ?_
  ·
   rintro ⟨out_0e, ⟨aout_0e, nout_0e, cout_0e, fout_0e⟩⟩ hx
   replace hx : out_0e = zy0 := hx.symm
   subst hx
   show En _ _ _ _ [(2, .pointer (some ⟨b0_1, 0, .none⟩)), (3, .pointer (some ⟨b1_9, 0, .none⟩))] [Chunk.box b0_1 35 [.slice .none 0 0, .slice .none 0 0, .int .i64 0, .slice .none 0 0], Chunk.box b1_9 35 [.slice aout_0e nout_0e cout_0e, .slice a1_200 n1_200 c1_200, .int .i64 f_p0.Next, .slice a1_700 n1_700 c1_700], Chunk.own tFlip fout_0e aout_0e nout_0e cout_0e out_0e, Chunk.own tInt f1_200 a1_200 n1_200 c1_200 x1_2, Chunk.own tInt f1_700 a1_700 n1_700 c1_700 x1_7]
   refine En.block_exit (En.next (WC.sr ?_))
   refine sp (OpV.loadAll rfl mq1 ag_35) ?_
   refine WL.heavy0 rfl rfl (OpH.storeTo (A := []) [_, _, _, _] rfl rfl rfl ts_35 rfl rfl rfl ?_)
   refine WL.nil (En.next (WC.ret ?_))
   refine En.ret1 rfl (Res.cell rfl mq0 ag_35) ?_
   obtain rfl := Option.some.inj h
   intro w' hs
   have hs := ((((hs).pm 4).pm 4).pm 4).sub (.cons_cons _ (.cons_cons _ (.cons_cons _ (.cons _ (.cons _ (.slnil))))))
   exact ⟨_, _, rfl, ⟨aout_0e, nout_0e, cout_0e, fout_0e, a1_200, n1_200, c1_200, f1_200, a1_700, n1_700, c1_700, f1_700, rfl, rfl⟩, hs⟩
  ·
   intro zK0_0
   refine WC.loopP (G := (Option Addr) × Nat × Nat × (List Nat)) (fun s g => match s, g with | (out_0, v_0), (aout_0, nout_0, cout_0, fout_0) => [(2, .pointer (some ⟨b0_1, 0, .none⟩)), (3, .pointer (some ⟨b1_9, 0, .none⟩)), (16, .slice q0_0 f_p0.Pending.length k0_0), (17, .int .i64 (f_p0.Pending.length : Int)), (18, .int .i64 v_0)]) (fun s g => match s, g with | (out_0, v_0), (aout_0, nout_0, cout_0, fout_0) => [Chunk.box b0_1 35 [.slice .none 0 0, .slice .none 0 0, .int .i64 0, .slice .none 0 0], Chunk.box b1_9 35 [.slice aout_0 nout_0 cout_0, .slice a1_200 n1_200 c1_200, .int .i64 f_p0.Next, .slice a1_700 n1_700 c1_700], Chunk.own tFlip fout_0 aout_0 nout_0 cout_0 out_0, Chunk.own tInt f1_200 a1_200 n1_200 c1_200 x1_2, Chunk.own tInt f1_700 a1_700 n1_700 c1_700 x1_7]) ([], 0) (.none, 0, 0, []) ezy0 (by exact sc (sc (sc (sc (sc sn))))) (by exact (fun _ h => (((((((h).ownNil (A := tFlip)).pm 2).pm 3).pm 2).pm 3).pm 4).sub (.cons_cons _ (.cons_cons _ (.cons_cons _ (.cons_cons _ (.cons_cons _ (.cons _ (.slnil))))))))) ?_
   rintro zm0 ⟨out_0, v_0⟩ ⟨aout_0, nout_0, cout_0, fout_0⟩ zo0 zf0 zb0 ze0
   have zh0 : impl_copyFlips_L0 f_p0 out_0 v_0 = some zo0 := zf0
   unfold impl_copyFlips_L0 at zh0
   show WC _ _ _ _ _ [(2, .pointer (some ⟨b0_1, 0, .none⟩)), (3, .pointer (some ⟨b1_9, 0, .none⟩)), (16, .slice q0_0 f_p0.Pending.length k0_0), (17, .int .i64 (f_p0.Pending.length : Int)), (18, .int .i64 v_0)] [Chunk.box b0_1 35 [.slice .none 0 0, .slice .none 0 0, .int .i64 0, .slice .none 0 0], Chunk.box b1_9 35 [.slice aout_0 nout_0 cout_0, .slice a1_200 n1_200 c1_200, .int .i64 f_p0.Next, .slice a1_700 n1_700 c1_700], Chunk.own tFlip fout_0 aout_0 nout_0 cout_0 out_0, Chunk.own tInt f1_200 a1_200 n1_200 c1_200 x1_2, Chunk.own tInt f1_700 a1_700 n1_700 c1_700 x1_7]
   refine WC.sr ?_
   refine sp (OpV.lss rfl rfl) ?_
   refine WL.nil (En.next (WC.seq ?_))
   refine WC.cond rfl ?_ ?_
   ·
    intro hc_1
    replace zh0 := ifO_t hc_1 zh0
    refine WC.skip (En.next (WC.seq (WC.block (WC.seq ?_))))
    obtain ⟨x4_0, e4_0, zh0⟩ := bnd zh0
    obtain ⟨g4_0, o4_0, _, ha4_0, ⟨a4_0_1, c4_0_1, a4_0_2, c4_0_2, a4_0_3, c4_0_3, rfl, r4_0_1, r4_0_2, r4_0_3⟩, hd4_0⟩ := Rd.atIdx r0_0 e4_0
    replace hd4_0 : ∀ (j : Nat) v, ([.int .i64 x4_0.Seq, .int .i64 x4_0.Fence, .int .i64 x4_0.State.W, .int .i64 x4_0.State.H, .slice a4_0_1 x4_0.State.Planes.length c4_0_1, .slice a4_0_2 x4_0.State.Color.Matrix.length c4_0_2, .slice a4_0_3 x4_0.State.Color.Curve.length c4_0_3] : List Value)[j]? = some v → w.cell? ⟨g4_0, o4_0 + v_0.toNat * 7 + j, .none⟩ = some v := hd4_0
    refine WC.region ?_
    refine sp (OpV.idxA rfl rfl se_33 ha4_0 ⟨(idx_some e4_0).1, (idx_some e4_0).2.1⟩) ?_
    refine sp (OpV.loadN rfl ag_79 rfl (fun w hs => hs.cellsAt hd4_0)) ?_
    refine WL.heavy rfl rfl rfl (OpH.alloc zc_79 ?_)
    intro b4_2
    refine WL.heavy0 rfl rfl (OpH.storeTo (A := []) [_, _, _, _, _, _, _] rfl rfl rfl ts_79 rfl rfl rfl ?_)
    refine WL.nil (En.next (WC.seq ?_))
    obtain ⟨x5_2, e5_2, zh0⟩ := bnd zh0
    refine WC.region ?_
    refine sp (OpV.fieldAddr rfl fo_79_2) ?_
    refine sp (OpV.loadPart rfl mq0 ag_39 rfl rfl) ?_
    refine WL.heavy rfl rfl rfl (OpH.callR (ec rfl e0) ca_50 (fun w hs => w_impl_copyCrtc e5_2 (r4_0_1.ext hs.below) (r4_0_2.ext hs.below) (r4_0_3.ext hs.below)) ?_)
    rintro _ _ ⟨a5_200, n5_200, c5_200, f5_200, a5_201, n5_201, c5_201, f5_201, a5_202, n5_202, c5_202, f5_202, rfl, rfl⟩
    refine sp (OpV.fieldAddr rfl fo_79_2) ?_
    refine WL.heavy0 rfl rfl (OpH.storeTo (A := [_, _, _]) [_, _, _, _, _, _, _] rfl rfl rfl ts_39 rfl rfl rfl ?_)
    refine WL.nil (En.next ?_)
    obtain ⟨x6_4, e6_4, zh0⟩ := bnd zh0
    refine WC.region ?_
    refine sp (OpV.fieldAddr rfl fo_35_0) ?_
    refine sp (OpV.loadBox rfl pt_33 mq5 rfl) ?_
    refine sp (OpV.loadAll rfl mq3 ag_79) ?_
    refine WL.heavy rfl rfl rfl (OpH.buildSlice (evps.cons rfl (evps.nil)) (bs_33_1_0 _ _ _ _ _ _ _ _ _ _ _ _ _) ?_)
    intro b6_3
    refine WL.wkF (fun _ h => h.pm 3) ?_
    refine WL.wkF (fun _ h => h.pm 3) ?_
    refine WL.wkF (fun _ h => h.pm 3) ?_
    refine WL.wkF (fun _ h => tFlip_mk x4_0.Seq x4_0.Fence x5_2 h) ?_
    refine WL.wkF (fun _ h => h.pm 5) ?_
    refine WL.wkF (fun _ h => h.pm 1) ?_
    refine WL.heavy rfl rfl rfl (OpH.push (A := tFlip) rfl rfl rfl mi_33 rfl (by decide) mq0 e6_4 ?_)
    intro f6_4 a6_4 c6_4
    refine sp (OpV.fieldAddr rfl fo_35_0) ?_
    refine WL.heavy0 rfl rfl (OpH.storeTo (A := [_, _, _, _]) [_, _, _, _] rfl rfl rfl ts_33 rfl rfl rfl ?_)
    refine WL.nil (En.block_norm (En.next (WC.region ?_)))
    refine sp (OpV.addR rfl rfl) ?_
    refine mv ?_
    refine WL.nil ?_
    exact En.backP zb0 zh0 (a6_4, x6_4.length, c6_4, f6_4) (sc (sc (sc (sc (sc sn))))) (fun _ h => ((((((h).pm 6).pm 6).pm 2).pm 6).pm 6).sub (.cons_cons _ (.cons_cons _ (.cons_cons _ (.cons_cons _ (.cons_cons _ (.cons _ (.cons _ (.slnil)))))))))
   ·
    intro hc_1
    replace zh0 := ifO_f hc_1 zh0
    refine WC.exit (En.then_exit (En.then_exit ?_))
    have hx := exitP ze0 zh0
    exact En.wk _ _ (sc (sc sn)) (fun _ h => h) (zK0_0 (out_0, (aout_0, nout_0, cout_0, fout_0)) hx.symm)
 ·
  intro KR1
  refine WC.drawnH [] ([_, _]) (fun _ h => h) (by kernel_rfl) ?_
  refine tk 0 rfl (OpV.fieldAddr rfl fo_35_1) ?_
  refine tk 1 rfl (OpV.loadBox rfl pt_23 mq1 rfl) ?_
  refine tk 3 rfl (OpV.fieldAddr rfl fo_35_2) ?_
  refine tk 4 rfl (OpV.loadBox rfl pt_3 mq1 rfl) ?_
  refine tk 5 rfl (OpV.fieldAddr rfl fo_35_3) ?_
  refine tk 6 rfl (OpV.loadBox rfl pt_23 mq1 rfl) ?_
  refine WAE.all (rs := [2, 9]) (by kernel_rfl) rfl (AllR.cons rfl rfl rfl rfl ?_ (AllR.cons rfl rfl rfl rfl ?_ AllR.nil))
  ·
   refine OpH.callR (ec rfl e0) ca_98 (fun w hs => w_slices_Clone_S_int_int e1_2 (r0_1.ext hs.below)) ?_
   rintro _ _ ⟨a1_200, n1_200, c1_200, f1_200, rfl, rfl⟩
   refine ⟨[_], rfl, ?_⟩
   refine WAE.rebase (H := []) ?_
   refine WAE.all (rs := [7, 9]) (by kernel_rfl) rfl (AllR.cons rfl rfl rfl rfl ?_ (AllR.cons rfl rfl rfl rfl ?_ AllR.nil))
   ·
    refine OpH.callR (ec rfl e0) ca_98 (fun w hs => w_slices_Clone_S_int_int e1_7 (r0_2.ext hs.below)) ?_
    rintro _ _ ⟨a1_700, n1_700, c1_700, f1_700, rfl, rfl⟩
    refine ⟨[_], rfl, ?_⟩
    refine WAE.rebase (H := []) ?_
    refine tk 8 rfl (OpV.build (evps.cons rfl (evps.cons rfl (evps.cons rfl (evps.nil)))) (bd_35_1_2_3 _ _ _ _ _ _ _)) ?_
    refine al1 9 rfl ?_
    refine OpH.alloc zc_35 ?_
    intro b1_9
    refine ⟨[_], rfl, ?_⟩
    refine al0 10 rfl ?_
    refine OpH.storeTo (A := []) [_, _, _, _] rfl rfl rfl ts_35 rfl rfl rfl ?_
    refine ⟨[_], rfl, ?_⟩
    refine WAE.rebase (H := []) ?_
    refine WAE.done (by kernel_rfl) ?_ _
    exact En.wk _ _ (sc (sc (sc sn))) (fun _ h => h) (KR1 (b1_9, a1_200, n1_200, c1_200, a1_700, n1_700, c1_700, f1_700, f1_200) trivial)
   ·
    refine OpH.alloc zc_35 ?_
    intro b1_9
    refine ⟨[_], rfl, ?_⟩
    refine al1 7 rfl ?_
    refine OpH.callR (ec rfl e0) ca_98 (fun w hs => w_slices_Clone_S_int_int e1_7 (r0_2.ext hs.below)) ?_
    rintro _ _ ⟨a1_700, n1_700, c1_700, f1_700, rfl, rfl⟩
    refine ⟨[_, _], rfl, ?_⟩
    refine tk 8 rfl (OpV.build (evps.cons rfl (evps.cons rfl (evps.cons rfl (evps.nil)))) (bd_35_1_2_3 _ _ _ _ _ _ _)) ?_
    refine al0 10 rfl ?_
    refine OpH.storeTo (A := [_]) [_, _, _, _] rfl rfl rfl ts_35 rfl rfl rfl ?_
    refine ⟨[_, _], rfl, ?_⟩
    refine WAE.rebase (H := []) ?_
    refine WAE.done (by kernel_rfl) ?_ _
    exact En.wk _ _ (sc (sc (sc sn))) (fun _ h => (((((h).pm 4).pm 4).pm 4).pm 3).pm 4) (KR1 (b1_9, a1_200, n1_200, c1_200, a1_700, n1_700, c1_700, f1_700, f1_200) trivial)
  ·
   refine OpH.alloc zc_35 ?_
   intro b1_9
   refine ⟨[_], rfl, ?_⟩
   refine al1 2 rfl ?_
   refine OpH.callR (ec rfl e0) ca_98 (fun w hs => w_slices_Clone_S_int_int e1_2 (r0_1.ext hs.below)) ?_
   rintro _ _ ⟨a1_200, n1_200, c1_200, f1_200, rfl, rfl⟩
   refine ⟨[_, _], rfl, ?_⟩
   refine al1 7 rfl ?_
   refine OpH.callR (ec rfl e0) ca_98 (fun w hs => w_slices_Clone_S_int_int e1_7 (r0_2.ext hs.below)) ?_
   rintro _ _ ⟨a1_700, n1_700, c1_700, f1_700, rfl, rfl⟩
   refine ⟨[_, _, _], rfl, ?_⟩
   refine tk 8 rfl (OpV.build (evps.cons rfl (evps.cons rfl (evps.cons rfl (evps.nil)))) (bd_35_1_2_3 _ _ _ _ _ _ _)) ?_
   refine al0 10 rfl ?_
   refine OpH.storeTo (A := [_, _]) [_, _, _, _] rfl rfl rfl ts_35 rfl rfl rfl ?_
   refine ⟨[_, _, _], rfl, ?_⟩
   refine WAE.rebase (H := []) ?_
   refine WAE.done (by kernel_rfl) ?_ _
   exact En.wk _ _ (sc (sc (sc sn))) (fun _ h => (((((h).pm 4).pm 4).pm 3).pm 3).pm 4) (KR1 (b1_9, a1_200, n1_200, c1_200, a1_700, n1_700, c1_700, f1_700, f1_200) trivial)

theorem w_cmp_isNaN_int {x_p0 : Int} {r : Bool}  (h : cmp_isNaN_int x_p0 = some r) {w : World}    :
    Calls Tryz.prog 124 #[.int .i64 x_p0] w (fun en w' => en = .returned (.bool r) ∧ Ext w w') := by
 unfold cmp_isNaN_int at h
 refine enter (vs := [_]) Tryz.func124 rfl rfl rfl rfl ?_
 refine WC.sr ?_
 refine ag ?_
 refine WL.nil (En.next (WC.sr ?_))
 refine mv ?_
 refine mv ?_
 refine sp (OpV.neq rfl rfl) ?_
 refine ag ?_
 refine WL.nil (En.next (WC.ret ?_))
 refine En.ret1 rfl (Res.tmp rfl) ?_
 obtain rfl := Option.some.inj h
 intro w' hs
 exact ⟨rfl, hs.below⟩

theorem w_cmp_Less_int {x_p0 : Int} {y_p1 : Int} {r : Bool}  (h : cmp_Less_int x_p0 y_p1 = some r) {w : World}    :
    Calls Tryz.prog 101 #[.int .i64 x_p0, .int .i64 y_p1] w (fun en w' => en = .returned (.bool r) ∧ Ext w w') := by
 unfold cmp_Less_int at h
 refine enter (vs := [_, _]) Tryz.func101 rfl rfl rfl rfl ?_
 refine WC.sr ?_
 refine ag ?_
 refine WL.nil (En.next (WC.seq ?_))
 obtain ⟨x1_1, e1_1, h⟩ := bnd h
 obtain ⟨q1_6, e1_6, h⟩ := bnd h
 refine WC.region ?_
 refine mv ?_
 refine sp (OpV.call (ec rfl e0) ca_124 (fun w hs => w_cmp_isNaN_int e1_1)) ?_
 refine mv ?_
 refine Lt.ofWL.andQ 7 11 10 (p := ?pz1) (rest := ?qz1) (B := q1_6) rfl (fun hz => andO_f e1_6 hz) ?Tz1 ?Fz1 ?az1 ?bz1 ?cz1 ?dz1 ?ez1
 case Tz1 =>
  intro hcz1 hkz1
  have hqz1 := andO_t e1_6 hcz1
  obtain ⟨x1_4, e1_4, hqz1⟩ := bnd hqz1
  obtain rfl := Option.some.inj hqz1
  refine mv ?_
  refine sp (OpV.call (ec rfl e0) ca_124 (fun w hs => w_cmp_isNaN_int e1_4)) ?_
  refine sp (OpV.not rfl) ?_
  refine hkz1 _ ?_ ?_
  exact rfl
  repeat (first | exact Sub.refl _ | refine Sub.skip rfl ?_)
 case Fz1 =>
  intro hcz1 hkz1
  refine sk ?_
  refine sk ?_
  refine sk ?_
  refine hkz1 _ ?_
  repeat (first | exact Sub.refl _ | refine Sub.skip rfl ?_)
 case az1 => exact rfl
 case bz1 => exact rfl
 case cz1 => exact rfl
 case dz1 => exact rfl
 refine mv ?_
 refine Lt.ofWL.or 12 16 15 (p := ?pz2) (rest := ?qz2) (B := ?Bz2) rfl ?Tz2 ?Fz2 ?az2 ?bz2 ?cz2 ?dz2 ?ez2
 case Tz2 =>
  intro hcz2 hkz2
  refine sk ?_
  refine sk ?_
  refine sk ?_
  refine hkz2 _ ?_
  repeat (first | exact Sub.refl _ | refine Sub.skip rfl ?_)
 case Fz2 =>
  intro hcz2 hkz2
  refine mv ?_
  refine mv ?_
  refine sp (OpV.lss rfl rfl) ?_
  refine hkz2 _ ?_ ?_
  exact rfl
  repeat (first | exact Sub.refl _ | refine Sub.skip rfl ?_)
 case az2 => exact rfl
 case bz2 => exact rfl
 case cz2 => exact rfl
 case dz2 => exact rfl
 refine ag ?_
 refine WL.nil (En.next (WC.ret ?_))
 refine En.ret1 rfl (Res.tmp rfl) ?_
 obtain rfl := Option.some.inj h
 intro w' hs
 exact ⟨rfl, hs.below⟩

theorem w_slices_isNaN_int {x_p0 : Int} {r : Bool}  (h : slices_isNaN_int x_p0 = some r) {w : World}    :
    Calls Tryz.prog 102 #[.int .i64 x_p0] w (fun en w' => en = .returned (.bool r) ∧ Ext w w') := by
 unfold slices_isNaN_int at h
 refine enter (vs := [_]) Tryz.func102 rfl rfl rfl rfl ?_
 refine WC.sr ?_
 refine ag ?_
 refine WL.nil (En.next (WC.sr ?_))
 refine mv ?_
 refine mv ?_
 refine sp (OpV.neq rfl rfl) ?_
 refine ag ?_
 refine WL.nil (En.next (WC.ret ?_))
 refine En.ret1 rfl (Res.tmp rfl) ?_
 obtain rfl := Option.some.inj h
 intro w' hs
 exact ⟨rfl, hs.below⟩

theorem w_slices_BinarySearch_S_int_int {x_p0 : List Int} {target_p1 : Int} {r : Int × Bool} {q0_0 : Option Addr} {l0_0 k0_0 : Nat} (h : slices_BinarySearch_S_int_int x_p0 target_p1 = some r) {w : World} (r0_0 : Rd tInt w q0_0 l0_0 k0_0 x_p0)   :
    Calls Tryz.prog 66 #[.slice q0_0 l0_0 k0_0, .int .i64 target_p1] w (fun en w' => en = .returned (.tuple #[.int .i64 r.1, .bool r.2]) ∧ Ext w w') := by
 obtain rfl := r0_0.1
 unfold slices_BinarySearch_S_int_int at h
 refine enter (vs := [_, _]) Tryz.func66 rfl rfl rfl rfl ?_
 refine WC.sr ?_
 refine ag ?_
 refine ag ?_
 refine WL.nil (En.next (WC.sr ?_))
 refine mv ?_
 refine sp (OpV.len rfl si_23 rfl) ?_
 refine ag ?_
 refine WL.nil (En.next (WC.sr ?_))
 refine mv ?_
 refine ag ?_
 refine ag ?_
 refine WL.nil (En.next (WC.seq (WC.block ?_)))
 obtain ⟨zy0, ezy0, h⟩ := bnd h
 refine WC.cut (X := (Int) × (Unit)) (.exit 0) (fun x => zy0 = x.1) (fun x => match x with | (i_0e, ()) => [(0, .slice q0_0 x_p0.length k0_0), (1, .int .i64 target_p1), (6, .int .i64 (x_p0.length : Int)), (7, .int .i64 i_0e)]) (fun x => match x with | (i_0e, ()) => []) ?_ ?_
 ·
  rintro ⟨i_0e, ⟨⟩⟩ hx
  replace hx : i_0e = zy0 := hx.symm
  subst hx
  show En _ _ _ _ [(0, .slice q0_0 x_p0.length k0_0), (1, .int .i64 target_p1), (6, .int .i64 (x_p0.length : Int)), (7, .int .i64 i_0e)] []
  refine En.block_exit (En.next (WC.seq ?_))
  obtain ⟨q8_22, e8_22, h⟩ := bnd h
  refine WC.region ?_
  refine mv ?_
  refine mv ?_
  refine mv ?_
  refine sp (OpV.lss rfl rfl) ?_
  refine mv ?_
  refine Lt.ofWL.andQ 35 53 52 (p := ?pz1) (rest := ?qz1) (B := q8_22) rfl (fun hz => andO_f e8_22 hz) ?Tz1 ?Fz1 ?az1 ?bz1 ?cz1 ?dz1 ?ez1
  case Tz1 =>
   intro hcz1 hkz1
   have hqz1 := andO_t e8_22 hcz1
   obtain ⟨x8_7, e8_7, hqz1⟩ := bnd hqz1
   obtain ⟨g8_7, o8_7, _, ha8_7, rfl, hd8_7⟩ := Rd.atIdx r0_0 e8_7
   replace hd8_7 : ∀ (j : Nat) v, ([.int .i64 x8_7] : List Value)[j]? = some v → w.cell? ⟨g8_7, o8_7 + i_0e.toNat * 1 + j, .none⟩ = some v := hd8_7
   obtain ⟨q8_21, e8_21, hqz1⟩ := bnd hqz1
   obtain rfl := Option.some.inj hqz1
   refine mv ?_
   refine mv ?_
   refine sp (OpV.idxA rfl rfl se_23 ha8_7 ⟨(idx_some e8_7).1, (idx_some e8_7).2.1⟩) ?_
   refine sp (OpV.load1 rfl pt_3 (fun w hs => hs.cell (hd8_7 0 _ rfl))) ?_
   refine mv ?_
   refine sp (OpV.eql rfl rfl) ?_
   refine mv ?_
   refine Lt.ofWL.orQ 42 52 51 (p := ?pz2) (rest := ?qz2) (B := q8_21) rfl (fun hz => orO_t e8_21 hz) ?Tz2 ?Fz2 ?az2 ?bz2 ?cz2 ?dz2 ?ez2
   case Tz2 =>
    intro hcz2 hkz2
    refine sk ?_
    refine sk ?_
    refine sk ?_
    refine sk ?_
    refine sk ?_
    refine sk ?_
    refine sk ?_
    refine sk ?_
    refine sk ?_
    refine hkz2 _ ?_
    repeat (first | exact Sub.refl _ | refine Sub.skip rfl ?_)
   case Fz2 =>
    intro hcz2 hkz2
    have hqz2 := orO_f e8_21 hcz2
    obtain ⟨x8_14, e8_14, hqz2⟩ := bnd hqz2
    obtain ⟨g8_14, o8_14, _, ha8_14, rfl, hd8_14⟩ := Rd.atIdx r0_0 e8_14
    replace hd8_14 : ∀ (j : Nat) v, ([.int .i64 x8_14] : List Value)[j]? = some v → w.cell? ⟨g8_14, o8_14 + i_0e.toNat * 1 + j, .none⟩ = some v := hd8_14
    obtain ⟨x8_16, e8_16, hqz2⟩ := bnd hqz2
    obtain ⟨q8_20, e8_20, hqz2⟩ := bnd hqz2
    obtain rfl := Option.some.inj hqz2
    refine mv ?_
    refine mv ?_
    refine sp (OpV.idxA rfl rfl se_23 ha8_14 ⟨(idx_some e8_14).1, (idx_some e8_14).2.1⟩) ?_
    refine sp (OpV.load1 rfl pt_3 (fun w hs => hs.cell (hd8_14 0 _ rfl))) ?_
    refine sp (OpV.call (ec rfl e0) ca_102 (fun w hs => w_slices_isNaN_int e8_16)) ?_
    refine mv ?_
    refine Lt.ofWL.andQ 48 51 50 (p := ?pz3) (rest := ?qz3) (B := q8_20) rfl (fun hz => andO_f e8_20 hz) ?Tz3 ?Fz3 ?az3 ?bz3 ?cz3 ?dz3 ?ez3
    case Tz3 =>
     intro hcz3 hkz3
     have hqz3 := andO_t e8_20 hcz3
     obtain ⟨x8_19, e8_19, hqz3⟩ := bnd hqz3
     obtain rfl := Option.some.inj hqz3
     refine mv ?_
     refine sp (OpV.call (ec rfl e0) ca_102 (fun w hs => w_slices_isNaN_int e8_19)) ?_
     refine hkz3 _ ?_ ?_
     exact rfl
     repeat (first | exact Sub.refl _ | refine Sub.skip rfl ?_)
    case Fz3 =>
     intro hcz3 hkz3
     refine sk ?_
     refine sk ?_
     refine hkz3 _ ?_
     repeat (first | exact Sub.refl _ | refine Sub.skip rfl ?_)
    case az3 => exact rfl
    case bz3 => exact rfl
    case cz3 => exact rfl
    case dz3 => exact rfl
    refine hkz2 _ ?_ ?_
    exact rfl
    repeat (first | exact Sub.refl _ | refine Sub.skip rfl ?_)
   case az2 => exact rfl
   case bz2 => exact rfl
   case cz2 => exact rfl
   case dz2 => exact rfl
   refine hkz1 _ ?_ ?_
   exact rfl
   repeat (first | exact Sub.refl _ | refine Sub.skip rfl ?_)
  case Fz1 =>
   intro hcz1 hkz1
   refine sk ?_
   refine sk ?_
   refine sk ?_
   refine sk ?_
   refine sk ?_
   refine sk ?_
   refine sk ?_
   refine sk ?_
   refine sk ?_
   refine sk ?_
   refine sk ?_
   refine sk ?_
   refine sk ?_
   refine sk ?_
   refine sk ?_
   refine sk ?_
   refine sk ?_
   refine hkz1 _ ?_
   repeat (first | exact Sub.refl _ | refine Sub.skip rfl ?_)
  case az1 => exact rfl
  case bz1 => exact rfl
  case cz1 => exact rfl
  case dz1 => exact rfl
  refine ag ?_
  refine ag ?_
  refine WL.nil (En.next (WC.ret ?_))
  refine En.ret2 rfl (Res.tmp rfl) (Res.tmp rfl) ?_
  obtain rfl := Option.some.inj h
  intro w' hs
  exact ⟨rfl, hs.below⟩
 ·
  intro zK0_0
  refine WC.loopP (G := Unit) (fun s g => match s, g with | (i_0, j_0), () => [(0, .slice q0_0 x_p0.length k0_0), (1, .int .i64 target_p1), (6, .int .i64 (x_p0.length : Int)), (7, .int .i64 i_0), (8, .int .i64 j_0)]) (fun s g => match s, g with | (i_0, j_0), () => []) (0, (x_p0.length : Int)) () ezy0 (by exact sc (sc (sc (sc (sc sn))))) (by exact (fun _ h => h)) ?_
  rintro zm0 ⟨i_0, j_0⟩ ⟨⟩ zo0 zf0 zb0 ze0
  have zh0 : slices_BinarySearch_S_int_int_L0 x_p0 target_p1 i_0 j_0 = some zo0 := zf0
  unfold slices_BinarySearch_S_int_int_L0 at zh0
  show WC _ _ _ _ _ [(0, .slice q0_0 x_p0.length k0_0), (1, .int .i64 target_p1), (6, .int .i64 (x_p0.length : Int)), (7, .int .i64 i_0), (8, .int .i64 j_0)] []
  refine WC.seq (WC.sr ?_)
  refine mv ?_
  refine mv ?_
  refine sp (OpV.lss rfl rfl) ?_
  refine WL.nil (En.next ?_)
  refine WC.cond rfl ?_ ?_
  ·
   intro hc_1
   replace zh0 := ifO_t hc_1 zh0
   refine WC.skip (En.next (WC.block (WC.sr ?_)))
   refine mv ?_
   refine mv ?_
   refine sp (OpV.addR rfl rfl) ?_
   refine sp (OpV.convU rfl uS_3 ui_123_u64) ?_
   refine sp (OpV.shrU rfl rfl rfl) ?_
   refine sp (OpV.convR rfl uS_123 ui_3_i64) ?_
   refine ag ?_
   refine WL.nil (En.next (WC.seq ?_))
   obtain ⟨x5_2, e5_2, zh0⟩ := bnd zh0
   obtain ⟨g5_2, o5_2, _, ha5_2, rfl, hd5_2⟩ := Rd.atIdx r0_0 e5_2
   replace hd5_2 : ∀ (j : Nat) v, ([.int .i64 x5_2] : List Value)[j]? = some v → w.cell? ⟨g5_2, o5_2 + (wr (shr (u64w (wr (i_0 + j_0))) 1)).toNat * 1 + j, .none⟩ = some v := hd5_2
   obtain ⟨x5_5, e5_5, zh0⟩ := bnd zh0
   refine WC.region ?_
   refine mv ?_
   refine mv ?_
   refine sp (OpV.idxA rfl rfl se_23 ha5_2 ⟨(idx_some e5_2).1, (idx_some e5_2).2.1⟩) ?_
   refine sp (OpV.load1 rfl pt_3 (fun w hs => hs.cell (hd5_2 0 _ rfl))) ?_
   refine mv ?_
   refine sp (OpV.call (ec rfl (ec rfl e0)) ca_101 (fun w hs => w_cmp_Less_int e5_5)) ?_
   refine WL.nil (En.next ?_)
   refine WC.cond rfl ?_ ?_
   ·
    intro hc_2
    replace zh0 := ifO_t hc_2 zh0
    refine WC.region ?_
    refine mv ?_
    refine sp (OpV.addR rfl rfl) ?_
    refine ag ?_
    refine WL.nil (En.block_norm ?_)
    exact En.backP zb0 zh0 () (sc (sc (sc (sc (sc sn))))) (fun _ h => h)
   ·
    intro hc_2
    replace zh0 := ifO_f hc_2 zh0
    refine WC.region ?_
    refine mv ?_
    refine ag ?_
    refine WL.nil (En.block_norm ?_)
    exact En.backP zb0 zh0 () (sc (sc (sc (sc (sc sn))))) (fun _ h => h)
  ·
   intro hc_1
   replace zh0 := ifO_f hc_1 zh0
   refine WC.exit (En.then_exit (En.then_exit ?_))
   have hx := exitP ze0 zh0
   exact En.wk _ _ (sc (sc (sc (sc sn)))) (fun _ h => h) (zK0_0 (i_0, ()) hx.symm)

theorem w_impl_within {n_p0 : Int} {low_p1 : Int} {high_p2 : Int} {r : Bool}  (h : impl_within n_p0 low_p1 high_p2 = some r) {w : World}    :
    Calls Tryz.prog 67 #[.int .i64 n_p0, .int .i64 low_p1, .int .i64 high_p2] w (fun en w' => en = .returned (.bool r) ∧ Ext w w') := by
 unfold impl_within at h
 refine enter (vs := [_, _, _]) Tryz.func67 rfl rfl rfl rfl ?_
 refine WC.sr ?_
 refine ag ?_
 refine WL.nil (En.next (WC.sr ?_))
 refine mv ?_
 refine mv ?_
 refine sp (OpV.leq rfl rfl) ?_
 refine mv ?_
 refine Lt.ofWL.and 10 14 13 (p := ?pz1) (rest := ?qz1) (B := ?Bz1) rfl ?Tz1 ?Fz1 ?az1 ?bz1 ?cz1 ?dz1 ?ez1
 case Tz1 =>
  intro hcz1 hkz1
  refine mv ?_
  refine mv ?_
  refine sp (OpV.leq rfl rfl) ?_
  refine hkz1 _ ?_ ?_
  exact rfl
  repeat (first | exact Sub.refl _ | refine Sub.skip rfl ?_)
 case Fz1 =>
  intro hcz1 hkz1
  refine sk ?_
  refine sk ?_
  refine sk ?_
  refine hkz1 _ ?_
  repeat (first | exact Sub.refl _ | refine Sub.skip rfl ?_)
 case az1 => exact rfl
 case bz1 => exact rfl
 case cz1 => exact rfl
 case dz1 => exact rfl
 refine ag ?_
 refine WL.nil (En.next (WC.ret ?_))
 refine En.ret1 rfl (Res.tmp rfl) ?_
 obtain rfl := Option.some.inj h
 intro w' hs
 exact ⟨rfl, hs.below⟩

theorem w_impl_isSide {n_p0 : Int} {r : Bool}  (h : impl_isSide n_p0 = some r) {w : World}    :
    Calls Tryz.prog 149 #[.int .i64 n_p0] w (fun en w' => en = .returned (.bool r) ∧ Ext w w') := by
 unfold impl_isSide at h
 refine enter (vs := [_]) Tryz.func149 rfl rfl rfl rfl ?_
 refine WC.sr ?_
 refine ag ?_
 refine WL.nil (En.next (WC.seq ?_))
 obtain ⟨x1_1, e1_1, h⟩ := bnd h
 refine WC.region ?_
 refine mv ?_
 refine sp (OpV.call (ec rfl (ec rfl (ec rfl e0))) ca_67 (fun w hs => w_impl_within e1_1)) ?_
 refine ag ?_
 refine WL.nil (En.next (WC.ret ?_))
 refine En.ret1 rfl (Res.tmp rfl) ?_
 obtain rfl := Option.some.inj h
 intro w' hs
 exact ⟨rfl, hs.below⟩

theorem w_slices_Equal_S_int_int {s1_p0 : List Int} {s2_p1 : List Int} {r : Bool} {q0_0 : Option Addr} {l0_0 k0_0 : Nat} {q1_0 : Option Addr} {l1_0 k1_0 : Nat} (h : slices_Equal_S_int_int s1_p0 s2_p1 = some r) {w : World} (r0_0 : Rd tInt w q0_0 l0_0 k0_0 s1_p0) (r1_0 : Rd tInt w q1_0 l1_0 k1_0 s2_p1)   :
    Calls Tryz.prog 114 #[.slice q0_0 l0_0 k0_0, .slice q1_0 l1_0 k1_0] w (fun en w' => en = .returned (.bool r) ∧ Ext w w') := by
 obtain rfl := r0_0.1
 obtain rfl := r1_0.1
 unfold slices_Equal_S_int_int at h
 refine enter (vs := [_, _]) Tryz.func114 rfl rfl rfl rfl ?_
 refine WC.sr ?_
 refine ag ?_
 refine WL.nil (En.next (WC.seq (WC.sr ?_)))
 refine mv ?_
 refine sp (OpV.len rfl si_23 rfl) ?_
 refine mv ?_
 refine sp (OpV.len rfl si_23 rfl) ?_
 refine sp (OpV.neq rfl rfl) ?_
 refine WL.nil (En.next ?_)
 refine WC.cond rfl ?_ ?_
 ·
  intro hc_1
  replace h := ifO_t hc_1 h
  refine WC.sr ?_
  refine ag ?_
  refine WL.nil (En.next (WC.ret (En.then_ret ?_)))
  refine En.ret1 rfl (Res.tmp rfl) ?_
  obtain rfl := Option.some.inj h
  intro w' hs
  exact ⟨rfl, hs.below⟩
 ·
  intro hc_1
  replace h := ifO_f hc_1 h
  refine WC.skip (En.next (WC.seq (WC.sr ?_)))
  refine mv ?_
  refine sp (OpV.len rfl si_23 rfl) ?_
  refine mv ?_
  refine WL.nil (En.next (WC.block ?_))
  obtain ⟨zy0, ezy0, h⟩ := bnd h
  refine WC.cut (X := (Unit) × (Unit)) (.exit 0) (fun x => zy0 = .inl x.1) (fun x => match x with | ((), ()) => []) (fun x => match x with | ((), ()) => []) ?_ ?_
  ·
   rintro ⟨⟨⟩, ⟨⟩⟩ hx
   replace hx : .inl () = zy0 := hx.symm
   subst hx
   replace h := fork_l h
   show En _ _ _ _ [] []
   refine En.block_exit (En.next (WC.sr ?_))
   refine ag ?_
   refine WL.nil (En.next (WC.ret ?_))
   refine En.ret1 rfl (Res.tmp rfl) ?_
   obtain rfl := Option.some.inj h
   intro w' hs
   exact ⟨rfl, hs.below⟩
  ·
   intro zK0_0
   refine WC.loopP (G := Unit) (fun s g => match s, g with | v_0, () => [(0, .slice q0_0 s1_p0.length k0_0), (1, .slice q1_0 s2_p1.length k1_0), (12, .int .i64 (s1_p0.length : Int)), (13, .int .i64 v_0)]) (fun s g => match s, g with | v_0, () => []) 0 () ezy0 (by exact sc (sc (sc (sc sn)))) (by exact (fun _ h => h)) ?_
   rintro zm0 v_0 ⟨⟩ zo0 zf0 zb0 ze0
   have zh0 : slices_Equal_S_int_int_L0 s1_p0 s2_p1 v_0 = some zo0 := zf0
   unfold slices_Equal_S_int_int_L0 at zh0
   show WC _ _ _ _ _ [(0, .slice q0_0 s1_p0.length k0_0), (1, .slice q1_0 s2_p1.length k1_0), (12, .int .i64 (s1_p0.length : Int)), (13, .int .i64 v_0)] []
   refine WC.sr ?_
   refine sp (OpV.lss rfl rfl) ?_
   refine WL.nil (En.next (WC.seq ?_))
   refine WC.cond rfl ?_ ?_
   ·
    intro hc_2
    replace zh0 := ifO_t hc_2 zh0
    refine WC.skip (En.next (WC.seq (WC.block (WC.sr ?_))))
    refine mv ?_
    refine ag ?_
    refine WL.nil (En.next (WC.seq ?_))
    obtain ⟨x6_2, e6_2, zh0⟩ := bnd zh0
    obtain ⟨g6_2, o6_2, _, ha6_2, rfl, hd6_2⟩ := Rd.atIdx r0_0 e6_2
    replace hd6_2 : ∀ (j : Nat) v, ([.int .i64 x6_2] : List Value)[j]? = some v → w.cell? ⟨g6_2, o6_2 + v_0.toNat * 1 + j, .none⟩ = some v := hd6_2
    obtain ⟨x6_6, e6_6, zh0⟩ := bnd zh0
    obtain ⟨g6_6, o6_6, _, ha6_6, rfl, hd6_6⟩ := Rd.atIdx r1_0 e6_6
    replace hd6_6 : ∀ (j : Nat) v, ([.int .i64 x6_6] : List Value)[j]? = some v → w.cell? ⟨g6_6, o6_6 + v_0.toNat * 1 + j, .none⟩ = some v := hd6_6
    refine WC.drawn [(0, ?r6q3v0), (1, ?r6q3v1), (12, ?r6q3v12), (13, ?r6q3v13), (24, ?r6q3v24)] (by kernel_rfl) (by kernel_rfl) ?dH6q3 ?dK6q3
    case dH6q3 =>
     intro W hW hk
     refine hW.mv ?_
     refine hW.mv ?_
     refine hW.sp (OpV.idxA rfl rfl se_23 ha6_2 ⟨(idx_some e6_2).1, (idx_some e6_2).2.1⟩) ?_
     refine hW.sp (OpV.load1 rfl pt_3 (fun w hs => hs.cell (hd6_2 0 _ rfl))) ?_
     refine hW.mv ?_
     refine hW.mv ?_
     refine hW.sp (OpV.idxA rfl rfl se_23 ha6_6 ⟨(idx_some e6_6).1, (idx_some e6_6).2.1⟩) ?_
     refine hW.sp (OpV.load1 rfl pt_3 (fun w hs => hs.cell (hd6_6 0 _ rfl))) ?_
     refine hW.sp (OpV.neq rfl rfl) ?_
     refine hk _ ?_
     refine Sub.cons ?_ (Sub.cons ?_ (Sub.cons ?_ (Sub.cons ?_ (Sub.cons ?_ sn))))
     all_goals exact rfl
    refine En.next ?_
    refine WC.cond rfl ?_ ?_
    ·
     intro hc_3
     replace zh0 := ifO_t hc_3 zh0
     refine WC.sr ?_
     refine ag ?_
     refine WL.nil (En.next (WC.ret (En.block_ret (En.then_ret (En.then_ret (En.block_ret (En.then_ret ?_)))))))
     refine En.ret1 rfl (Res.tmp rfl) ?_
     have hx := exitP ze0 zh0
     subst hx
     replace h := fork_r h
     obtain rfl := Option.some.inj h
     intro w' hs
     exact ⟨rfl, hs.below⟩
    ·
     intro hc_3
     replace zh0 := ifO_f hc_3 zh0
     refine WC.skip (En.block_norm (En.next (WC.region ?_)))
     refine sp (OpV.addR rfl rfl) ?_
     refine mv ?_
     refine WL.nil ?_
     exact En.backP zb0 zh0 () (sc (sc (sc (sc sn)))) (fun _ h => h)
   ·
    intro hc_2
    replace zh0 := ifO_f hc_2 zh0
    refine WC.exit (En.then_exit (En.then_exit ?_))
    have hx := exitP ze0 zh0
    exact En.wk _ _ sn (fun _ h => h) (zK0_0 ((), ()) hx.symm)

theorem w_impl_samePlane {a_p0 : PlaneT} {a_p1 : PlaneT} {r : Bool} {q0_0 : Option Addr} {l0_0 k0_0 : Nat} {q1_0 : Option Addr} {l1_0 k1_0 : Nat} (h : impl_samePlane a_p0 a_p1 = some r) {w : World} (r0_0 : Rd tInt w q0_0 l0_0 k0_0 a_p0.Words) (r1_0 : Rd tInt w q1_0 l1_0 k1_0 a_p1.Words)   :
    Calls Tryz.prog 77 #[.agg #[.bool a_p0.On, .int .i64 a_p0.X, .int .i64 a_p0.Y, .int .i64 a_p0.W, .int .i64 a_p0.H, .int .i64 a_p0.Layout, .slice q0_0 l0_0 k0_0, .int .i64 a_p0.Alpha, .int .i64 a_p0.Orient, .int .i64 a_p0.ToW, .int .i64 a_p0.ToH], .agg #[.bool a_p1.On, .int .i64 a_p1.X, .int .i64 a_p1.Y, .int .i64 a_p1.W, .int .i64 a_p1.H, .int .i64 a_p1.Layout, .slice q1_0 l1_0 k1_0, .int .i64 a_p1.Alpha, .int .i64 a_p1.Orient, .int .i64 a_p1.ToW, .int .i64 a_p1.ToH]] w (fun en w' => en = .returned (.bool r) ∧ Ext w w') := by
 obtain rfl := r0_0.1
 obtain rfl := r1_0.1
 unfold impl_samePlane at h
 refine enter (vs := [_, _]) Tryz.func77 rfl rfl rfl rfl ?_
 refine WC.sr ?_
 refine WL.heavy rfl rfl rfl (OpH.box rfl rfl ?_)
 intro b0_0
 refine WL.heavy rfl rfl rfl (OpH.box rfl rfl ?_)
 intro b0_1
 refine ag ?_
 refine WL.nil (En.next (WC.seq ?_))
 obtain ⟨q1_74, e1_74, h⟩ := bnd h
 refine WC.region ?_
 refine sp (OpV.fieldAddr rfl fo_61_0) ?_
 refine sp (OpV.loadBox rfl pt_4 mq1 rfl) ?_
 refine sp (OpV.fieldAddr rfl fo_61_0) ?_
 refine sp (OpV.loadBox rfl pt_4 mq0 rfl) ?_
 refine sp (OpV.beql rfl rfl ub_4) ?_
 refine mv ?_
 refine Lt.ofWL.and 10 16 15 (p := ?pz1) (rest := ?qz1) (B := ?Bz1) rfl ?Tz1 ?Fz1 ?az1 ?bz1 ?cz1 ?dz1 ?ez1
 case Tz1 =>
  intro hcz1 hkz1
  refine sp (OpV.fieldAddr rfl fo_61_1) ?_
  refine sp (OpV.loadBox rfl pt_3 mq1 rfl) ?_
  refine sp (OpV.fieldAddr rfl fo_61_1) ?_
  refine sp (OpV.loadBox rfl pt_3 mq0 rfl) ?_
  refine sp (OpV.eql rfl rfl) ?_
  refine hkz1 _ ?_ ?_
  exact rfl
  repeat (first | exact Sub.refl _ | refine Sub.skip rfl ?_)
 case Fz1 =>
  intro hcz1 hkz1
  refine sk ?_
  refine sk ?_
  refine sk ?_
  refine sk ?_
  refine sk ?_
  refine hkz1 _ ?_
  repeat (first | exact Sub.refl _ | refine Sub.skip rfl ?_)
 case az1 => exact rfl
 case bz1 => exact rfl
 case cz1 => exact rfl
 case dz1 => exact rfl
 refine mv ?_
 refine Lt.ofWL.and 17 23 22 (p := ?pz2) (rest := ?qz2) (B := ?Bz2) rfl ?Tz2 ?Fz2 ?az2 ?bz2 ?cz2 ?dz2 ?ez2
 case Tz2 =>
  intro hcz2 hkz2
  refine sp (OpV.fieldAddr rfl fo_61_2) ?_
  refine sp (OpV.loadBox rfl pt_3 mq1 rfl) ?_
  refine sp (OpV.fieldAddr rfl fo_61_2) ?_
  refine sp (OpV.loadBox rfl pt_3 mq0 rfl) ?_
  refine sp (OpV.eql rfl rfl) ?_
  refine hkz2 _ ?_ ?_
  exact rfl
  repeat (first | exact Sub.refl _ | refine Sub.skip rfl ?_)
 case Fz2 =>
  intro hcz2 hkz2
  refine sk ?_
  refine sk ?_
  refine sk ?_
  refine sk ?_
  refine sk ?_
  refine hkz2 _ ?_
  repeat (first | exact Sub.refl _ | refine Sub.skip rfl ?_)
 case az2 => exact rfl
 case bz2 => exact rfl
 case cz2 => exact rfl
 case dz2 => exact rfl
 refine mv ?_
 refine Lt.ofWL.and 24 30 29 (p := ?pz3) (rest := ?qz3) (B := ?Bz3) rfl ?Tz3 ?Fz3 ?az3 ?bz3 ?cz3 ?dz3 ?ez3
 case Tz3 =>
  intro hcz3 hkz3
  refine sp (OpV.fieldAddr rfl fo_61_3) ?_
  refine sp (OpV.loadBox rfl pt_3 mq1 rfl) ?_
  refine sp (OpV.fieldAddr rfl fo_61_3) ?_
  refine sp (OpV.loadBox rfl pt_3 mq0 rfl) ?_
  refine sp (OpV.eql rfl rfl) ?_
  refine hkz3 _ ?_ ?_
  exact rfl
  repeat (first | exact Sub.refl _ | refine Sub.skip rfl ?_)
 case Fz3 =>
  intro hcz3 hkz3
  refine sk ?_
  refine sk ?_
  refine sk ?_
  refine sk ?_
  refine sk ?_
  refine hkz3 _ ?_
  repeat (first | exact Sub.refl _ | refine Sub.skip rfl ?_)
 case az3 => exact rfl
 case bz3 => exact rfl
 case cz3 => exact rfl
 case dz3 => exact rfl
 refine mv ?_
 refine Lt.ofWL.and 31 37 36 (p := ?pz4) (rest := ?qz4) (B := ?Bz4) rfl ?Tz4 ?Fz4 ?az4 ?bz4 ?cz4 ?dz4 ?ez4
 case Tz4 =>
  intro hcz4 hkz4
  refine sp (OpV.fieldAddr rfl fo_61_4) ?_
  refine sp (OpV.loadBox rfl pt_3 mq1 rfl) ?_
  refine sp (OpV.fieldAddr rfl fo_61_4) ?_
  refine sp (OpV.loadBox rfl pt_3 mq0 rfl) ?_
  refine sp (OpV.eql rfl rfl) ?_
  refine hkz4 _ ?_ ?_
  exact rfl
  repeat (first | exact Sub.refl _ | refine Sub.skip rfl ?_)
 case Fz4 =>
  intro hcz4 hkz4
  refine sk ?_
  refine sk ?_
  refine sk ?_
  refine sk ?_
  refine sk ?_
  refine hkz4 _ ?_
  repeat (first | exact Sub.refl _ | refine Sub.skip rfl ?_)
 case az4 => exact rfl
 case bz4 => exact rfl
 case cz4 => exact rfl
 case dz4 => exact rfl
 refine mv ?_
 refine Lt.ofWL.and 38 44 43 (p := ?pz5) (rest := ?qz5) (B := ?Bz5) rfl ?Tz5 ?Fz5 ?az5 ?bz5 ?cz5 ?dz5 ?ez5
 case Tz5 =>
  intro hcz5 hkz5
  refine sp (OpV.fieldAddr rfl fo_61_5) ?_
  refine sp (OpV.loadBox rfl pt_3 mq1 rfl) ?_
  refine sp (OpV.fieldAddr rfl fo_61_5) ?_
  refine sp (OpV.loadBox rfl pt_3 mq0 rfl) ?_
  refine sp (OpV.eql rfl rfl) ?_
  refine hkz5 _ ?_ ?_
  exact rfl
  repeat (first | exact Sub.refl _ | refine Sub.skip rfl ?_)
 case Fz5 =>
  intro hcz5 hkz5
  refine sk ?_
  refine sk ?_
  refine sk ?_
  refine sk ?_
  refine sk ?_
  refine hkz5 _ ?_
  repeat (first | exact Sub.refl _ | refine Sub.skip rfl ?_)
 case az5 => exact rfl
 case bz5 => exact rfl
 case cz5 => exact rfl
 case dz5 => exact rfl
 refine mv ?_
 refine Lt.ofWL.and 45 51 50 (p := ?pz6) (rest := ?qz6) (B := ?Bz6) rfl ?Tz6 ?Fz6 ?az6 ?bz6 ?cz6 ?dz6 ?ez6
 case Tz6 =>
  intro hcz6 hkz6
  refine sp (OpV.fieldAddr rfl fo_61_7) ?_
  refine sp (OpV.loadBox rfl pt_3 mq1 rfl) ?_
  refine sp (OpV.fieldAddr rfl fo_61_7) ?_
  refine sp (OpV.loadBox rfl pt_3 mq0 rfl) ?_
  refine sp (OpV.eql rfl rfl) ?_
  refine hkz6 _ ?_ ?_
  exact rfl
  repeat (first | exact Sub.refl _ | refine Sub.skip rfl ?_)
 case Fz6 =>
  intro hcz6 hkz6
  refine sk ?_
  refine sk ?_
  refine sk ?_
  refine sk ?_
  refine sk ?_
  refine hkz6 _ ?_
  repeat (first | exact Sub.refl _ | refine Sub.skip rfl ?_)
 case az6 => exact rfl
 case bz6 => exact rfl
 case cz6 => exact rfl
 case dz6 => exact rfl
 refine mv ?_
 refine Lt.ofWL.and 52 58 57 (p := ?pz7) (rest := ?qz7) (B := ?Bz7) rfl ?Tz7 ?Fz7 ?az7 ?bz7 ?cz7 ?dz7 ?ez7
 case Tz7 =>
  intro hcz7 hkz7
  refine sp (OpV.fieldAddr rfl fo_61_8) ?_
  refine sp (OpV.loadBox rfl pt_3 mq1 rfl) ?_
  refine sp (OpV.fieldAddr rfl fo_61_8) ?_
  refine sp (OpV.loadBox rfl pt_3 mq0 rfl) ?_
  refine sp (OpV.eql rfl rfl) ?_
  refine hkz7 _ ?_ ?_
  exact rfl
  repeat (first | exact Sub.refl _ | refine Sub.skip rfl ?_)
 case Fz7 =>
  intro hcz7 hkz7
  refine sk ?_
  refine sk ?_
  refine sk ?_
  refine sk ?_
  refine sk ?_
  refine hkz7 _ ?_
  repeat (first | exact Sub.refl _ | refine Sub.skip rfl ?_)
 case az7 => exact rfl
 case bz7 => exact rfl
 case cz7 => exact rfl
 case dz7 => exact rfl
 refine mv ?_
 refine Lt.ofWL.and 59 65 64 (p := ?pz8) (rest := ?qz8) (B := ?Bz8) rfl ?Tz8 ?Fz8 ?az8 ?bz8 ?cz8 ?dz8 ?ez8
 case Tz8 =>
  intro hcz8 hkz8
  refine sp (OpV.fieldAddr rfl fo_61_9) ?_
  refine sp (OpV.loadBox rfl pt_3 mq1 rfl) ?_
  refine sp (OpV.fieldAddr rfl fo_61_9) ?_
  refine sp (OpV.loadBox rfl pt_3 mq0 rfl) ?_
  refine sp (OpV.eql rfl rfl) ?_
  refine hkz8 _ ?_ ?_
  exact rfl
  repeat (first | exact Sub.refl _ | refine Sub.skip rfl ?_)
 case Fz8 =>
  intro hcz8 hkz8
  refine sk ?_
  refine sk ?_
  refine sk ?_
  refine sk ?_
  refine sk ?_
  refine hkz8 _ ?_
  repeat (first | exact Sub.refl _ | refine Sub.skip rfl ?_)
 case az8 => exact rfl
 case bz8 => exact rfl
 case cz8 => exact rfl
 case dz8 => exact rfl
 refine mv ?_
 refine Lt.ofWL.and 66 72 71 (p := ?pz9) (rest := ?qz9) (B := ?Bz9) rfl ?Tz9 ?Fz9 ?az9 ?bz9 ?cz9 ?dz9 ?ez9
 case Tz9 =>
  intro hcz9 hkz9
  refine sp (OpV.fieldAddr rfl fo_61_10) ?_
  refine sp (OpV.loadBox rfl pt_3 mq1 rfl) ?_
  refine sp (OpV.fieldAddr rfl fo_61_10) ?_
  refine sp (OpV.loadBox rfl pt_3 mq0 rfl) ?_
  refine sp (OpV.eql rfl rfl) ?_
  refine hkz9 _ ?_ ?_
  exact rfl
  repeat (first | exact Sub.refl _ | refine Sub.skip rfl ?_)
 case Fz9 =>
  intro hcz9 hkz9
  refine sk ?_
  refine sk ?_
  refine sk ?_
  refine sk ?_
  refine sk ?_
  refine hkz9 _ ?_
  repeat (first | exact Sub.refl _ | refine Sub.skip rfl ?_)
 case az9 => exact rfl
 case bz9 => exact rfl
 case cz9 => exact rfl
 case dz9 => exact rfl
 refine mv ?_
 refine Lt.ofWL.andQ 73 79 78 (p := ?pz10) (rest := ?qz10) (B := q1_74) rfl (fun hz => andO_f e1_74 hz) ?Tz10 ?Fz10 ?az10 ?bz10 ?cz10 ?dz10 ?ez10
 case Tz10 =>
  intro hcz10 hkz10
  have hqz10 := andO_t e1_74 hcz10
  obtain ⟨x1_73, e1_73, hqz10⟩ := bnd hqz10
  obtain rfl := Option.some.inj hqz10
  refine sp (OpV.fieldAddr rfl fo_61_6) ?_
  refine sp (OpV.loadBox rfl pt_23 mq1 rfl) ?_
  refine sp (OpV.fieldAddr rfl fo_61_6) ?_
  refine sp (OpV.loadBox rfl pt_23 mq0 rfl) ?_
  refine sp (OpV.call (ec rfl (ec rfl e0)) ca_114 (fun w hs => w_slices_Equal_S_int_int e1_73 (r0_0.ext hs.below) (r1_0.ext hs.below))) ?_
  refine hkz10 _ ?_ ?_
  exact rfl
  repeat (first | exact Sub.refl _ | refine Sub.skip rfl ?_)
 case Fz10 =>
  intro hcz10 hkz10
  refine sk ?_
  refine sk ?_
  refine sk ?_
  refine sk ?_
  refine sk ?_
  refine hkz10 _ ?_
  repeat (first | exact Sub.refl _ | refine Sub.skip rfl ?_)
 case az10 => exact rfl
 case bz10 => exact rfl
 case cz10 => exact rfl
 case dz10 => exact rfl
 refine ag ?_
 refine WL.nil (En.next (WC.ret ?_))
 refine En.ret1 rfl (Res.tmp rfl) ?_
 obtain rfl := Option.some.inj h
 intro w' hs
 exact ⟨rfl, hs.below⟩

theorem w_slices_Repeat_S_int_int {s_p0 : List Int} {c_p1 : Int} {r : List Int} {q0_0 : Option Addr} {n0_0 k0_0 : Nat} (h : slices_Repeat_S_int_int s_p0 c_p1 = some r) {w : World} (r0_0 : Rd tInt w q0_0 n0_0 k0_0 s_p0) :
    Calls Tryz.prog 167 #[.slice q0_0 n0_0 k0_0, .int .i64 c_p1] w (fun en w' => ∃ rv G, en = .returned rv ∧ (∃ (a0_0 : Option Addr) (n0_0 : Nat) (c0_0 : Nat) (f0_0 : List Nat), rv = .slice a0_0 n0_0 c0_0 ∧ G = [Chunk.own tInt f0_0 a0_0 n0_0 c0_0 r]) ∧ St w G w') := by
  unfold slices_Repeat_S_int_int at h
  split at h
  · obtain ⟨⟨h0, h1⟩, rfl⟩ := mkO_some h
    obtain ⟨N, rfl⟩ : ∃ N : Nat, c_p1 = N := ⟨c_p1.toNat, by omega⟩
    rw [Int.toNat_natCast]
    exact w_RepeatO (by omega) r0_0
  · cases h

theorem w_impl_isPixel {p_p0 : Int} {r : Bool}  (h : impl_isPixel p_p0 = some r) {w : World}    :
    Calls Tryz.prog 164 #[.int .i64 p_p0] w (fun en w' => en = .returned (.bool r) ∧ Ext w w') := by
 unfold impl_isPixel at h
 refine enter (vs := [_]) Tryz.func164 rfl rfl rfl rfl ?_
 refine WC.sr ?_
 refine ag ?_
 refine WL.nil (En.next (WC.seq ?_))
 obtain ⟨x1_1, e1_1, h⟩ := bnd h
 refine WC.region ?_
 refine mv ?_
 refine sp (OpV.call (ec rfl (ec rfl (ec rfl e0))) ca_67 (fun w hs => w_impl_within e1_1)) ?_
 refine ag ?_
 refine WL.nil (En.next (WC.ret ?_))
 refine En.ret1 rfl (Res.tmp rfl) ?_
 obtain rfl := Option.some.inj h
 intro w' hs
 exact ⟨rfl, hs.below⟩

theorem w_impl_ImageOk {i_p0 : ImageT} {r : Bool} {q0_0 : Option Addr} {l0_0 k0_0 : Nat} (h : impl_ImageOk i_p0 = some r) {w : World} (r0_0 : Rd tInt w q0_0 l0_0 k0_0 i_p0.Data)   :
    Calls Tryz.prog 161 #[.agg #[.int .i64 i_p0.W, .int .i64 i_p0.H, .slice q0_0 l0_0 k0_0]] w (fun en w' => en = .returned (.bool r) ∧ Ext w w') := by
 obtain rfl := r0_0.1
 unfold impl_ImageOk at h
 refine enter (vs := [_]) Tryz.func161 rfl rfl rfl rfl ?_
 refine WC.sr ?_
 refine WL.heavy rfl rfl rfl (OpH.box rfl rfl ?_)
 intro b0_0
 refine ag ?_
 refine WL.nil (En.next (WC.seq (WC.seq ?_)))
 obtain ⟨x1_2, e1_2, h⟩ := bnd h
 obtain ⟨q1_9, e1_9, h⟩ := bnd h
 refine WC.region ?_
 refine sp (OpV.fieldAddr rfl fo_107_0) ?_
 refine sp (OpV.loadBox rfl pt_3 mq0 rfl) ?_
 refine sp (OpV.call (ec rfl e0) ca_149 (fun w hs => w_impl_isSide e1_2)) ?_
 refine sp (OpV.not rfl) ?_
 refine mv ?_
 refine Lt.ofWL.orQ 9 14 13 (p := ?pz1) (rest := ?qz1) (B := q1_9) rfl (fun hz => orO_t e1_9 hz) ?Tz1 ?Fz1 ?az1 ?bz1 ?cz1 ?dz1 ?ez1
 case Tz1 =>
  intro hcz1 hkz1
  refine sk ?_
  refine sk ?_
  refine sk ?_
  refine sk ?_
  refine hkz1 _ ?_
  repeat (first | exact Sub.refl _ | refine Sub.skip rfl ?_)
 case Fz1 =>
  intro hcz1 hkz1
  have hqz1 := orO_f e1_9 hcz1
  obtain ⟨x1_7, e1_7, hqz1⟩ := bnd hqz1
  obtain rfl := Option.some.inj hqz1
  refine sp (OpV.fieldAddr rfl fo_107_1) ?_
  refine sp (OpV.loadBox rfl pt_3 mq0 rfl) ?_
  refine sp (OpV.call (ec rfl e0) ca_149 (fun w hs => w_impl_isSide e1_7)) ?_
  refine sp (OpV.not rfl) ?_
  refine hkz1 _ ?_ ?_
  exact rfl
  repeat (first | exact Sub.refl _ | refine Sub.skip rfl ?_)
 case az1 => exact rfl
 case bz1 => exact rfl
 case cz1 => exact rfl
 case dz1 => exact rfl
 refine mv ?_
 refine Lt.ofWL.or 15 25 24 (p := ?pz2) (rest := ?qz2) (B := ?Bz2) rfl ?Tz2 ?Fz2 ?az2 ?bz2 ?cz2 ?dz2 ?ez2
 case Tz2 =>
  intro hcz2 hkz2
  refine sk ?_
  refine sk ?_
  refine sk ?_
  refine sk ?_
  refine sk ?_
  refine sk ?_
  refine sk ?_
  refine sk ?_
  refine sk ?_
  refine hkz2 _ ?_
  repeat (first | exact Sub.refl _ | refine Sub.skip rfl ?_)
 case Fz2 =>
  intro hcz2 hkz2
  refine sp (OpV.fieldAddr rfl fo_107_2) ?_
  refine sp (OpV.loadBox rfl pt_23 mq0 rfl) ?_
  refine sp (OpV.len rfl si_23 rfl) ?_
  refine sp (OpV.fieldAddr rfl fo_107_0) ?_
  refine sp (OpV.loadBox rfl pt_3 mq0 rfl) ?_
  refine sp (OpV.fieldAddr rfl fo_107_1) ?_
  refine sp (OpV.loadBox rfl pt_3 mq0 rfl) ?_
  refine sp (OpV.mulR rfl rfl) ?_
  refine sp (OpV.neq rfl rfl) ?_
  refine hkz2 _ ?_ ?_
  exact rfl
  repeat (first | exact Sub.refl _ | refine Sub.skip rfl ?_)
 case az2 => exact rfl
 case bz2 => exact rfl
 case cz2 => exact rfl
 case dz2 => exact rfl
 refine WL.nil (En.next ?_)
 refine WC.cond rfl ?_ ?_
 ·
  intro hc_1
  replace h := ifO_t hc_1 h
  refine WC.sr ?_
  refine ag ?_
  refine WL.nil (En.next (WC.ret (En.then_ret ?_)))
  refine En.ret1 rfl (Res.tmp rfl) ?_
  obtain rfl := Option.some.inj h
  intro w' hs
  exact ⟨rfl, hs.below⟩
 ·
  intro hc_1
  replace h := ifO_f hc_1 h
  refine WC.skip (En.next (WC.seq (WC.sr ?_)))
  refine sp (OpV.fieldAddr rfl fo_107_2) ?_
  refine sp (OpV.loadBox rfl pt_23 mq0 rfl) ?_
  refine sp (OpV.len rfl si_23 rfl) ?_
  refine mv ?_
  refine WL.nil (En.next (WC.block ?_))
  obtain ⟨zy0, ezy0, h⟩ := bnd h
  refine WC.cut (X := (Unit) × (Unit)) (.exit 0) (fun x => zy0 = .inl x.1) (fun x => match x with | ((), ()) => []) (fun x => match x with | ((), ()) => []) ?_ ?_
  ·
   rintro ⟨⟨⟩, ⟨⟩⟩ hx
   replace hx : .inl () = zy0 := hx.symm
   subst hx
   replace h := fork_l h
   show En _ _ _ _ [] []
   refine En.block_exit (En.next (WC.sr ?_))
   refine ag ?_
   refine WL.nil (En.next (WC.ret ?_))
   refine En.ret1 rfl (Res.tmp rfl) ?_
   obtain rfl := Option.some.inj h
   intro w' hs
   exact ⟨rfl, hs.below⟩
  ·
   intro zK0_0
   refine WC.loopP (G := Unit) (fun s g => match s, g with | v_0, () => [(27, .slice q0_0 i_p0.Data.length k0_0), (28, .int .i64 (i_p0.Data.length : Int)), (29, .int .i64 v_0)]) (fun s g => match s, g with | v_0, () => []) 0 () ezy0 (by exact sc (sc (sc sn))) (by exact (fun _ h => (h).sub (.cons _ (.slnil)))) ?_
   rintro zm0 v_0 ⟨⟩ zo0 zf0 zb0 ze0
   have zh0 : impl_ImageOk_L0 i_p0 v_0 = some zo0 := zf0
   unfold impl_ImageOk_L0 at zh0
   show WC _ _ _ _ _ [(27, .slice q0_0 i_p0.Data.length k0_0), (28, .int .i64 (i_p0.Data.length : Int)), (29, .int .i64 v_0)] []
   refine WC.sr ?_
   refine sp (OpV.lss rfl rfl) ?_
   refine WL.nil (En.next (WC.seq ?_))
   refine WC.cond rfl ?_ ?_
   ·
    intro hc_2
    replace zh0 := ifO_t hc_2 zh0
    refine WC.skip (En.next (WC.seq (WC.block (WC.seq ?_))))
    obtain ⟨x5_0, e5_0, zh0⟩ := bnd zh0
    obtain ⟨g5_0, o5_0, _, ha5_0, rfl, hd5_0⟩ := Rd.atIdx r0_0 e5_0
    replace hd5_0 : ∀ (j : Nat) v, ([.int .i64 x5_0] : List Value)[j]? = some v → w.cell? ⟨g5_0, o5_0 + v_0.toNat * 1 + j, .none⟩ = some v := hd5_0
    refine WC.region ?_
    refine sp (OpV.idxA rfl rfl se_23 ha5_0 ⟨(idx_some e5_0).1, (idx_some e5_0).2.1⟩) ?_
    refine sp (OpV.load1 rfl pt_3 (fun w hs => hs.cell (hd5_0 0 _ rfl))) ?_
    refine ag ?_
    refine WL.nil (En.next (WC.seq ?_))
    obtain ⟨x6_1, e6_1, zh0⟩ := bnd zh0
    refine WC.region ?_
    refine mv ?_
    refine sp (OpV.call (ec rfl e0) ca_164 (fun w hs => w_impl_isPixel e6_1)) ?_
    refine sp (OpV.not rfl) ?_
    refine WL.nil (En.next ?_)
    refine WC.cond rfl ?_ ?_
    ·
     intro hc_3
     replace zh0 := ifO_t hc_3 zh0
     refine WC.sr ?_
     refine ag ?_
     refine WL.nil (En.next (WC.ret (En.block_ret (En.then_ret (En.then_ret (En.block_ret (En.then_ret ?_)))))))
     refine En.ret1 rfl (Res.tmp rfl) ?_
     have hx := exitP ze0 zh0
     subst hx
     replace h := fork_r h
     obtain rfl := Option.some.inj h
     intro w' hs
     exact ⟨rfl, hs.below⟩
    ·
     intro hc_3
     replace zh0 := ifO_f hc_3 zh0
     refine WC.skip (En.block_norm (En.next (WC.region ?_)))
     refine sp (OpV.addR rfl rfl) ?_
     refine mv ?_
     refine WL.nil ?_
     exact En.backP zb0 zh0 () (sc (sc (sc sn))) (fun _ h => h)
   ·
    intro hc_2
    replace zh0 := ifO_f hc_2 zh0
    refine WC.exit (En.then_exit (En.then_exit ?_))
    have hx := exitP ze0 zh0
    exact En.wk _ _ sn (fun _ h => h) (zK0_0 ((), ()) hx.symm)

theorem w_impl_runsOf {i_p0 : ImageT} {r : (List Int)} {q0_0 : Option Addr} {l0_0 k0_0 : Nat} (h : impl_runsOf i_p0 = some r) {w : World} (r0_0 : Rd tInt w q0_0 l0_0 k0_0 i_p0.Data)   :
    Calls Tryz.prog 181 #[.agg #[.int .i64 i_p0.W, .int .i64 i_p0.H, .slice q0_0 l0_0 k0_0]] w (fun en w' => ∃ rv G, en = .returned rv ∧ (∃ (a0_0 : Option Addr) (n0_0 : Nat) (c0_0 : Nat) (f0_0 : List Nat), rv = .slice a0_0 n0_0 c0_0 ∧ G = [Chunk.own tInt f0_0 a0_0 n0_0 c0_0 r]) ∧ St w G w') := by
 obtain rfl := r0_0.1
 unfold impl_runsOf at h
 refine enter (vs := [_]) Tryz.func181 rfl rfl rfl rfl ?_
 refine WC.sr ?_
 refine WL.heavy rfl rfl rfl (OpH.box rfl rfl ?_)
 intro b0_0
 refine ag ?_
 refine WL.nil (En.next (WC.sr ?_))
 refine WL.heavy rfl rfl rfl (OpH.lit0 (A := tInt) (evps.nil) bs_23_0_ ?_)
 intro b1_0
 refine ag ?_
 refine WL.nil (En.next (WC.seq (WC.sr ?_)))
 refine ag ?_
 refine WL.nil (En.next (WC.block ?_))
 obtain ⟨zy0, ezy0, h⟩ := bnd h
 refine WC.cut (X := ((List Int)) × ((Option Addr) × Nat × Nat × (List Nat))) (.exit 0) (fun x => zy0 = x.1) (fun x => match x with | (out_0e, (aout_0e, nout_0e, cout_0e, fout_0e)) => [(3, .slice aout_0e nout_0e cout_0e)]) (fun x => match x with | (out_0e, (aout_0e, nout_0e, cout_0e, fout_0e)) => [Chunk.own tInt fout_0e aout_0e nout_0e cout_0e out_0e]) ?_ ?_
 ·
  rintro ⟨out_0e, ⟨aout_0e, nout_0e, cout_0e, fout_0e⟩⟩ hx
  replace hx : out_0e = zy0 := hx.symm
  subst hx
  show En _ _ _ _ [(3, .slice aout_0e nout_0e cout_0e)] [Chunk.own tInt fout_0e aout_0e nout_0e cout_0e out_0e]
  refine En.block_exit (En.next (WC.sr ?_))
  refine mv ?_
  refine ag ?_
  refine WL.nil (En.next (WC.ret ?_))
  refine En.ret1 rfl (Res.tmp rfl) ?_
  obtain rfl := Option.some.inj h
  intro w' hs
  have hs := hs
  exact ⟨_, _, rfl, ⟨aout_0e, nout_0e, cout_0e, fout_0e, rfl, rfl⟩, hs⟩
 ·
  intro zK0_0
  refine WC.loopP (G := (Option Addr) × Nat × Nat × (List Nat)) (fun s g => match s, g with | (out_0, k_0), (aout_0, nout_0, cout_0, fout_0) => [(1, .pointer (some ⟨b0_0, 0, .none⟩)), (3, .slice aout_0 nout_0 cout_0), (4, .int .i64 k_0)]) (fun s g => match s, g with | (out_0, k_0), (aout_0, nout_0, cout_0, fout_0) => [Chunk.box b0_0 107 [.int .i64 i_p0.W, .int .i64 i_p0.H, .slice q0_0 i_p0.Data.length k0_0], Chunk.own tInt fout_0 aout_0 nout_0 cout_0 out_0]) (([] : List Int), 0) ((some ⟨b1_0, 0, .none⟩), 0, 0, [b1_0]) ezy0 (by exact sc (sc (sc sn))) (by exact (fun _ h => (h).pm 1)) ?_
  rintro zm0 ⟨out_0, k_0⟩ ⟨aout_0, nout_0, cout_0, fout_0⟩ zo0 zf0 zb0 ze0
  have zh0 : impl_runsOf_L0 i_p0 out_0 k_0 = some zo0 := zf0
  unfold impl_runsOf_L0 at zh0
  show WC _ _ _ _ _ [(1, .pointer (some ⟨b0_0, 0, .none⟩)), (3, .slice aout_0 nout_0 cout_0), (4, .int .i64 k_0)] [Chunk.box b0_0 107 [.int .i64 i_p0.W, .int .i64 i_p0.H, .slice q0_0 i_p0.Data.length k0_0], Chunk.own tInt fout_0 aout_0 nout_0 cout_0 out_0]
  refine WC.seq (WC.sr ?_)
  refine mv ?_
  refine sp (OpV.fieldAddr rfl fo_107_2) ?_
  refine sp (OpV.loadBox rfl pt_23 mq0 rfl) ?_
  refine sp (OpV.len rfl si_23 rfl) ?_
  refine sp (OpV.lss rfl rfl) ?_
  refine WL.nil (En.next ?_)
  refine WC.cond rfl ?_ ?_
  ·
   intro hc_1
   replace zh0 := ifO_t hc_1 zh0
   refine WC.skip (En.next (WC.block (WC.sr ?_)))
   refine mv ?_
   refine sp (OpV.addR rfl rfl) ?_
   refine ag ?_
   refine WL.nil (En.next (WC.seq (WC.block ?_)))
   obtain ⟨zy1, ezy1, zh0⟩ := bnd zh0
   refine WC.cut (X := (Int) × (Unit)) (.exit 2) (fun x => zy1 = x.1) (fun x => match x with | (end_1e, ()) => [(1, .pointer (some ⟨b0_0, 0, .none⟩)), (3, .slice aout_0 nout_0 cout_0), (4, .int .i64 k_0), (5, .int .i64 end_1e)]) (fun x => match x with | (end_1e, ()) => [Chunk.box b0_0 107 [.int .i64 i_p0.W, .int .i64 i_p0.H, .slice q0_0 i_p0.Data.length k0_0], Chunk.own tInt fout_0 aout_0 nout_0 cout_0 out_0]) ?_ ?_
   ·
    rintro ⟨end_1e, ⟨⟩⟩ hx
    replace hx : end_1e = zy1 := hx.symm
    subst hx
    show En _ _ _ _ [(1, .pointer (some ⟨b0_0, 0, .none⟩)), (3, .slice aout_0 nout_0 cout_0), (4, .int .i64 k_0), (5, .int .i64 end_1e)] [Chunk.box b0_0 107 [.int .i64 i_p0.W, .int .i64 i_p0.H, .slice q0_0 i_p0.Data.length k0_0], Chunk.own tInt fout_0 aout_0 nout_0 cout_0 out_0]
    refine En.block_exit (En.next (WC.seq ?_))
    obtain ⟨x7_7, e7_7, zh0⟩ := bnd zh0
    obtain ⟨g7_7, o7_7, _, ha7_7, rfl, hd7_7⟩ := Rd.atIdx r0_0 e7_7
    replace hd7_7 : ∀ (j : Nat) v, ([.int .i64 x7_7] : List Value)[j]? = some v → w.cell? ⟨g7_7, o7_7 + k_0.toNat * 1 + j, .none⟩ = some v := hd7_7
    obtain ⟨x7_10, e7_10, zh0⟩ := bnd zh0
    refine WC.region ?_
    refine mv ?_
    refine mv ?_
    refine mv ?_
    refine sp (OpV.subR rfl rfl) ?_
    refine sp (OpV.fieldAddr rfl fo_107_2) ?_
    refine sp (OpV.loadBox rfl pt_23 mq0 rfl) ?_
    refine mv ?_
    refine sp (OpV.idxA rfl rfl se_23 ha7_7 ⟨(idx_some e7_7).1, (idx_some e7_7).2.1⟩) ?_
    refine sp (OpV.load1 rfl pt_3 (fun w hs => hs.cell (hd7_7 0 _ rfl))) ?_
    refine WL.heavy rfl rfl rfl (OpH.litF (A := tInt) (xs := [(wr (end_1e - k_0)), x7_7]) tInt_flat (evps.cons rfl (evps.cons rfl (evps.nil))) (bs_23_2_0_1 _ _) rfl rfl (Nat.le_of_ble_eq_true rfl) ?_)
    intro b7_9
    refine WL.heavy rfl rfl rfl (OpH.appS (F := [_, _]) (A := tInt) tInt_flat rfl rfl rfl mi_23 rfl (by decide) (fun w hs => (Ow.rd (hs.mem mq0))) e7_10 ?_)
    intro f7_10 a7_10 c7_10
    refine ag ?_
    refine WL.nil (En.next (WC.region ?_))
    refine mv ?_
    refine ag ?_
    refine WL.nil (En.block_norm ?_)
    exact En.backP zb0 zh0 (a7_10, x7_10.length, c7_10, f7_10) (sc (sc (sc sn))) (fun _ h => (((h).pm 2).pm 2).sub (.cons_cons _ (.cons_cons _ (.cons _ (.slnil)))))
   ·
    intro zK1_0
    refine WC.loopP (G := Unit) (fun s g => match s, g with | end_1, () => [(1, .pointer (some ⟨b0_0, 0, .none⟩)), (3, .slice aout_0 nout_0 cout_0), (4, .int .i64 k_0), (5, .int .i64 end_1)]) (fun s g => match s, g with | end_1, () => [Chunk.box b0_0 107 [.int .i64 i_p0.W, .int .i64 i_p0.H, .slice q0_0 i_p0.Data.length k0_0], Chunk.own tInt fout_0 aout_0 nout_0 cout_0 out_0]) (wr (k_0 + 1)) () ezy1 (by exact sc (sc (sc (sc sn)))) (by exact (fun _ h => h)) ?_
    rintro zm1 end_1 ⟨⟩ zo1 zf1 zb1 ze1
    have zh1 : impl_runsOf_L1 i_p0 k_0 end_1 = some zo1 := zf1
    unfold impl_runsOf_L1 at zh1
    show WC _ _ _ _ _ [(1, .pointer (some ⟨b0_0, 0, .none⟩)), (3, .slice aout_0 nout_0 cout_0), (4, .int .i64 k_0), (5, .int .i64 end_1)] [Chunk.box b0_0 107 [.int .i64 i_p0.W, .int .i64 i_p0.H, .slice q0_0 i_p0.Data.length k0_0], Chunk.own tInt fout_0 aout_0 nout_0 cout_0 out_0]
    refine WC.seq (WC.seq ?_)
    obtain ⟨x5_3, e5_3, zh1⟩ := bnd zh1
    obtain ⟨q5_17, e5_17, zh1⟩ := bnd zh1
    refine WC.drawn [(1, ?r5q9v1), (3, ?r5q9v3), (4, ?r5q9v4), (5, ?r5q9v5), (31, ?r5q9v31)] (by kernel_rfl) (by kernel_rfl) ?dH5q9 ?dK5q9
    case dH5q9 =>
     intro W hW hk
     refine hW.mv ?_
     refine hW.sp (OpV.fieldAddr rfl fo_107_0) ?_
     refine hW.sp (OpV.loadBox rfl pt_3 mq0 rfl) ?_
     refine hW.sp (OpV.remR rfl rfl e5_3) ?_
     refine hW.sp (OpV.neq rfl rfl) ?_
     refine hW.mv ?_
     refine hW.andQ 19 31 30 (p := ?pz1) (rest := ?qz1) (B := q5_17) rfl (fun hz => andO_f e5_17 hz) ?Tz1 ?Fz1 ?az1 ?bz1 ?cz1 ?dz1 ?ez1
     case Tz1 =>
      intro hcz1 hkz1
      have hqz1 := andO_t e5_17 hcz1
      obtain ⟨x5_9, e5_9, hqz1⟩ := bnd hqz1
      obtain ⟨g5_9, o5_9, _, ha5_9, rfl, hd5_9⟩ := Rd.atIdx r0_0 e5_9
      replace hd5_9 : ∀ (j : Nat) v, ([.int .i64 x5_9] : List Value)[j]? = some v → w.cell? ⟨g5_9, o5_9 + end_1.toNat * 1 + j, .none⟩ = some v := hd5_9
      obtain ⟨x5_14, e5_14, hqz1⟩ := bnd hqz1
      obtain ⟨g5_14, o5_14, _, ha5_14, rfl, hd5_14⟩ := Rd.atIdx r0_0 e5_14
      replace hd5_14 : ∀ (j : Nat) v, ([.int .i64 x5_14] : List Value)[j]? = some v → w.cell? ⟨g5_14, o5_14 + k_0.toNat * 1 + j, .none⟩ = some v := hd5_14
      obtain rfl := Option.some.inj hqz1
      refine hW.sp (OpV.fieldAddr rfl fo_107_2) ?_
      refine hW.sp (OpV.loadBox rfl pt_23 mq0 rfl) ?_
      refine hW.mv ?_
      refine hW.sp (OpV.idxA rfl rfl se_23 ha5_9 ⟨(idx_some e5_9).1, (idx_some e5_9).2.1⟩) ?_
      refine hW.sp (OpV.load1 rfl pt_3 (fun w hs => hs.cell (hd5_9 0 _ rfl))) ?_
      refine hW.sp (OpV.fieldAddr rfl fo_107_2) ?_
      refine hW.sp (OpV.loadBox rfl pt_23 mq0 rfl) ?_
      refine hW.mv ?_
      refine hW.sp (OpV.idxA rfl rfl se_23 ha5_14 ⟨(idx_some e5_14).1, (idx_some e5_14).2.1⟩) ?_
      refine hW.sp (OpV.load1 rfl pt_3 (fun w hs => hs.cell (hd5_14 0 _ rfl))) ?_
      refine hW.sp (OpV.eql rfl rfl) ?_
      refine hkz1 _ ?_ ?_
      exact rfl
      repeat (first | exact Sub.refl _ | refine Sub.skip rfl ?_)
     case Fz1 =>
      intro hcz1 hkz1
      refine hW.sk ?_
      refine hW.sk ?_
      refine hW.sk ?_
      refine hW.sk ?_
      refine hW.sk ?_
      refine hW.sk ?_
      refine hW.sk ?_
      refine hW.sk ?_
      refine hW.sk ?_
      refine hW.sk ?_
      refine hW.sk ?_
      refine hkz1 _ ?_
      repeat (first | exact Sub.refl _ | refine Sub.skip rfl ?_)
     case az1 => exact rfl
     case bz1 => exact rfl
     case cz1 => exact rfl
     case dz1 => exact rfl
     refine hk _ ?_
     refine Sub.cons ?_ (Sub.cons ?_ (Sub.cons ?_ (Sub.cons ?_ (Sub.cons ?_ sn))))
     all_goals exact rfl
    refine En.next ?_
    refine WC.cond rfl ?_ ?_
    ·
     intro hc_2
     replace zh1 := ifO_t hc_2 zh1
     refine WC.skip (En.next (WC.block (WC.region ?_)))
     refine mv ?_
     refine sp (OpV.addR rfl rfl) ?_
     refine ag ?_
     refine WL.nil (En.block_norm ?_)
     exact En.backP zb1 zh1 () (sc (sc (sc (sc sn)))) (fun _ h => h)
    ·
     intro hc_2
     replace zh1 := ifO_f hc_2 zh1
     refine WC.exit (En.then_exit (En.then_exit ?_))
     have hx := exitP ze1 zh1
     exact En.wk _ _ (sc (sc (sc (sc sn)))) (fun _ h => h) (zK1_0 (end_1, ()) hx.symm)
  ·
   intro hc_1
   replace zh0 := ifO_f hc_1 zh0
   refine WC.exit (En.then_exit (En.then_exit ?_))
   have hx := exitP ze0 zh0
   exact En.wk _ _ (sc sn) (fun _ h => ((h).pm 1).sub (.cons_cons _ (.cons _ (.slnil)))) (zK0_0 (out_0, (aout_0, nout_0, cout_0, fout_0)) hx.symm)

theorem w_impl_tilesOf {n_p0 : Int} {r : Int}  (h : impl_tilesOf n_p0 = some r) {w : World}    :
    Calls Tryz.prog 180 #[.int .i64 n_p0] w (fun en w' => en = .returned (.int .i64 r) ∧ Ext w w') := by
 unfold impl_tilesOf at h
 refine enter (vs := [_]) Tryz.func180 rfl rfl rfl rfl ?_
 refine WC.sr ?_
 refine ag ?_
 refine WL.nil (En.next (WC.sr ?_))
 refine mv ?_
 refine sp (OpV.addR rfl rfl) ?_
 refine sp (OpV.subR rfl rfl) ?_
 refine sp (OpV.quoR rfl rfl rfl) ?_
 refine ag ?_
 refine WL.nil (En.next (WC.ret ?_))
 refine En.ret1 rfl (Res.tmp rfl) ?_
 obtain rfl := Option.some.inj h
 intro w' hs
 exact ⟨rfl, hs.below⟩

theorem w_impl_WordCount {w_p0 : Int} {h_p1 : Int} {layout_p2 : Int} {r : Int}  (h : impl_WordCount w_p0 h_p1 layout_p2 = some r) {w : World}    :
    Calls Tryz.prog 168 #[.int .i64 w_p0, .int .i64 h_p1, .int .i64 layout_p2] w (fun en w' => en = .returned (.int .i64 r) ∧ Ext w w') := by
 unfold impl_WordCount at h
 refine enter (vs := [_, _, _]) Tryz.func168 rfl rfl rfl rfl ?_
 refine WC.sr ?_
 refine ag ?_
 refine WL.nil (En.next (WC.seq (WC.seq ?_)))
 obtain ⟨x1_1, e1_1, h⟩ := bnd h
 obtain ⟨q1_7, e1_7, h⟩ := bnd h
 refine WC.region ?_
 refine mv ?_
 refine sp (OpV.call (ec rfl e0) ca_149 (fun w hs => w_impl_isSide e1_1)) ?_
 refine sp (OpV.not rfl) ?_
 refine mv ?_
 refine Lt.ofWL.orQ 10 14 13 (p := ?pz1) (rest := ?qz1) (B := q1_7) rfl (fun hz => orO_t e1_7 hz) ?Tz1 ?Fz1 ?az1 ?bz1 ?cz1 ?dz1 ?ez1
 case Tz1 =>
  intro hcz1 hkz1
  refine sk ?_
  refine sk ?_
  refine sk ?_
  refine hkz1 _ ?_
  repeat (first | exact Sub.refl _ | refine Sub.skip rfl ?_)
 case Fz1 =>
  intro hcz1 hkz1
  have hqz1 := orO_f e1_7 hcz1
  obtain ⟨x1_5, e1_5, hqz1⟩ := bnd hqz1
  obtain rfl := Option.some.inj hqz1
  refine mv ?_
  refine sp (OpV.call (ec rfl e0) ca_149 (fun w hs => w_impl_isSide e1_5)) ?_
  refine sp (OpV.not rfl) ?_
  refine hkz1 _ ?_ ?_
  exact rfl
  repeat (first | exact Sub.refl _ | refine Sub.skip rfl ?_)
 case az1 => exact rfl
 case bz1 => exact rfl
 case cz1 => exact rfl
 case dz1 => exact rfl
 refine WL.nil (En.next ?_)
 refine WC.cond rfl ?_ ?_
 ·
  intro hc_1
  replace h := ifO_t hc_1 h
  refine WC.sr ?_
  refine ag ?_
  refine WL.nil (En.next (WC.ret (En.then_ret ?_)))
  refine En.ret1 rfl (Res.tmp rfl) ?_
  obtain rfl := Option.some.inj h
  intro w' hs
  exact ⟨rfl, hs.below⟩
 ·
  intro hc_1
  replace h := ifO_f hc_1 h
  refine WC.skip (En.next (WC.seq (WC.sr ?_)))
  refine mv ?_
  refine WL.nil (En.next (WC.block (WC.sr ?_)))
  refine sp (OpV.eql rfl rfl) ?_
  refine ag ?_
  refine WL.nil (En.next ?_)
  refine WC.cond rfl ?_ ?_
  ·
   intro hc_2
   replace h := ifO_t hc_2 h
   refine WC.sr ?_
   refine mv ?_
   refine mv ?_
   refine sp (OpV.mulR rfl rfl) ?_
   refine ag ?_
   refine WL.nil (En.next (WC.ret (En.block_ret (En.then_ret ?_))))
   refine En.ret1 rfl (Res.tmp rfl) ?_
   obtain rfl := Option.some.inj h
   intro w' hs
   exact ⟨rfl, hs.below⟩
  ·
   intro hc_2
   replace h := ifO_f hc_2 h
   refine WC.sr ?_
   refine sp (OpV.eql rfl rfl) ?_
   refine ag ?_
   refine WL.nil (En.next ?_)
   refine WC.cond rfl ?_ ?_
   ·
    intro hc_3
    replace h := ifO_t hc_3 h
    refine WC.seq ?_
    obtain ⟨x7_1, e7_1, h⟩ := bnd h
    obtain ⟨x7_3, e7_3, h⟩ := bnd h
    refine WC.region ?_
    refine mv ?_
    refine sp (OpV.call (ec rfl e0) ca_180 (fun w hs => w_impl_tilesOf e7_1)) ?_
    refine mv ?_
    refine sp (OpV.call (ec rfl e0) ca_180 (fun w hs => w_impl_tilesOf e7_3)) ?_
    refine sp (OpV.mulR rfl rfl) ?_
    refine sp (OpV.mulR rfl rfl) ?_
    refine sp (OpV.mulR rfl rfl) ?_
    refine ag ?_
    refine WL.nil (En.next (WC.ret (En.block_ret (En.then_ret ?_))))
    refine En.ret1 rfl (Res.tmp rfl) ?_
    obtain rfl := Option.some.inj h
    intro w' hs
    exact ⟨rfl, hs.below⟩
   ·
    intro hc_3
    replace h := ifO_f hc_3 h
    refine WC.skip (En.block_norm (En.next (WC.sr ?_)))
    refine ag ?_
    refine WL.nil (En.next (WC.ret ?_))
    refine En.ret1 rfl (Res.tmp rfl) ?_
    obtain rfl := Option.some.inj h
    intro w' hs
    exact ⟨rfl, hs.below⟩

theorem w_impl_wordPlace {w_p0 : Int} {layout_p1 : Int} {x_p2 : Int} {y_p3 : Int} {r : Int}  (h : impl_wordPlace w_p0 layout_p1 x_p2 y_p3 = some r) {w : World}    :
    Calls Tryz.prog 171 #[.int .i64 w_p0, .int .i64 layout_p1, .int .i64 x_p2, .int .i64 y_p3] w (fun en w' => en = .returned (.int .i64 r) ∧ Ext w w') := by
 unfold impl_wordPlace at h
 refine enter (vs := [_, _, _, _]) Tryz.func171 rfl rfl rfl rfl ?_
 refine WC.sr ?_
 refine ag ?_
 refine WL.nil (En.next (WC.seq (WC.sr ?_)))
 refine mv ?_
 refine sp (OpV.eql rfl rfl) ?_
 refine WL.nil (En.next ?_)
 refine WC.cond rfl ?_ ?_
 ·
  intro hc_1
  replace h := ifO_t hc_1 h
  refine WC.sr ?_
  refine mv ?_
  refine mv ?_
  refine sp (OpV.mulR rfl rfl) ?_
  refine mv ?_
  refine sp (OpV.addR rfl rfl) ?_
  refine ag ?_
  refine WL.nil (En.next (WC.ret (En.then_ret ?_)))
  refine En.ret1 rfl (Res.tmp rfl) ?_
  obtain rfl := Option.some.inj h
  intro w' hs
  exact ⟨rfl, hs.below⟩
 ·
  intro hc_1
  replace h := ifO_f hc_1 h
  refine WC.skip (En.next (WC.seq ?_))
  obtain ⟨x3_3, e3_3, h⟩ := bnd h
  refine WC.region ?_
  refine mv ?_
  refine sp (OpV.quoR rfl rfl rfl) ?_
  refine mv ?_
  refine sp (OpV.call (ec rfl e0) ca_180 (fun w hs => w_impl_tilesOf e3_3)) ?_
  refine sp (OpV.mulR rfl rfl) ?_
  refine mv ?_
  refine sp (OpV.quoR rfl rfl rfl) ?_
  refine sp (OpV.addR rfl rfl) ?_
  refine ag ?_
  refine WL.nil (En.next (WC.sr ?_))
  refine mv ?_
  refine sp (OpV.mulR rfl rfl) ?_
  refine sp (OpV.mulR rfl rfl) ?_
  refine mv ?_
  refine sp (OpV.remR rfl rfl rfl) ?_
  refine sp (OpV.mulR rfl rfl) ?_
  refine sp (OpV.addR rfl rfl) ?_
  refine mv ?_
  refine sp (OpV.remR rfl rfl rfl) ?_
  refine sp (OpV.addR rfl rfl) ?_
  refine ag ?_
  refine WL.nil (En.next (WC.ret ?_))
  refine En.ret1 rfl (Res.tmp rfl) ?_
  obtain rfl := Option.some.inj h
  intro w' hs
  exact ⟨rfl, hs.below⟩

theorem w_impl_StoreImage {i_p0 : ImageT} {layout_p1 : Int} {r : (List Int) × Bool} {q0_0 : Option Addr} {l0_0 k0_0 : Nat} (h : impl_StoreImage i_p0 layout_p1 = some r) {w : World} (r0_0 : Rd tInt w q0_0 l0_0 k0_0 i_p0.Data)   :
    Calls Tryz.prog 172 #[.agg #[.int .i64 i_p0.W, .int .i64 i_p0.H, .slice q0_0 l0_0 k0_0], .int .i64 layout_p1] w (fun en w' => ∃ rv G, en = .returned rv ∧ (∃ (a0_0 : Option Addr) (n0_0 : Nat) (c0_0 : Nat) (f0_0 : List Nat), rv = .tuple #[.slice a0_0 n0_0 c0_0, .bool r.2] ∧ G = [Chunk.own tInt f0_0 a0_0 n0_0 c0_0 r.1]) ∧ St w G w') := by
 obtain rfl := r0_0.1
 unfold impl_StoreImage at h
 refine enter (vs := [_, _]) Tryz.func172 rfl rfl rfl rfl ?_
 refine WC.sr ?_
 refine WL.heavy rfl rfl rfl (OpH.box rfl rfl ?_)
 intro b0_0
 refine ag ?_
 refine ag ?_
 refine WL.nil (En.next (WC.seq (WC.seq ?_)))
 obtain ⟨x1_1, e1_1, h⟩ := bnd h
 obtain ⟨q1_7, e1_7, h⟩ := bnd h
 refine WC.region ?_
 refine sp (OpV.loadAll rfl mq0 ag_107) ?_
 refine sp (OpV.call (ec rfl e0) ca_161 (fun w hs => w_impl_ImageOk e1_1 (r0_0.ext hs.below))) ?_
 refine sp (OpV.not rfl) ?_
 refine mv ?_
 refine Lt.ofWL.orQ 12 16 15 (p := ?pz1) (rest := ?qz1) (B := q1_7) rfl (fun hz => orO_t e1_7 hz) ?Tz1 ?Fz1 ?az1 ?bz1 ?cz1 ?dz1 ?ez1
 case Tz1 =>
  intro hcz1 hkz1
  refine sk ?_
  refine sk ?_
  refine sk ?_
  refine hkz1 _ ?_
  repeat (first | exact Sub.refl _ | refine Sub.skip rfl ?_)
 case Fz1 =>
  intro hcz1 hkz1
  have hqz1 := orO_f e1_7 hcz1
  obtain ⟨x1_5, e1_5, hqz1⟩ := bnd hqz1
  obtain rfl := Option.some.inj hqz1
  refine mv ?_
  refine sp (OpV.call (ec rfl (ec rfl (ec rfl e0))) ca_67 (fun w hs => w_impl_within e1_5)) ?_
  refine sp (OpV.not rfl) ?_
  refine hkz1 _ ?_ ?_
  exact rfl
  repeat (first | exact Sub.refl _ | refine Sub.skip rfl ?_)
 case az1 => exact rfl
 case bz1 => exact rfl
 case cz1 => exact rfl
 case dz1 => exact rfl
 refine WL.nil (En.next ?_)
 refine WC.cond rfl ?_ ?_
 ·
  intro hc_1
  replace h := ifO_t hc_1 h
  refine WC.sr ?_
  refine ag ?_
  refine ag ?_
  refine WL.nil (En.next (WC.ret (En.then_ret ?_)))
  refine En.ret2 rfl (Res.tmp rfl) (Res.tmp rfl) ?_
  obtain rfl := Option.some.inj h
  intro w' hs
  have hs := ((hs).ownNil (A := tInt)).sub (.cons_cons _ (.cons _ (.slnil)))
  exact ⟨_, _, rfl, ⟨.none, 0, 0, [], rfl, rfl⟩, hs⟩
 ·
  intro hc_1
  replace h := ifO_f hc_1 h
  refine WC.skip (En.next (WC.seq (WC.sr ?_)))
  refine mv ?_
  refine sp (OpV.eql rfl rfl) ?_
  refine WL.nil (En.next ?_)
  refine WC.cond rfl ?_ ?_
  ·
   intro hc_2
   replace h := ifO_t hc_2 h
   refine WC.seq ?_
   obtain ⟨x4_1, e4_1, h⟩ := bnd h
   refine WC.region ?_
   refine sp (OpV.loadAll rfl mq0 ag_107) ?_
   refine WL.heavy rfl rfl rfl (OpH.callR (ec rfl e0) ca_181 (fun w hs => w_impl_runsOf e4_1 (r0_0.ext hs.below)) ?_)
   rintro _ _ ⟨a4_100, n4_100, c4_100, f4_100, rfl, rfl⟩
   refine ag ?_
   refine ag ?_
   refine WL.nil (En.next (WC.ret (En.then_ret ?_)))
   refine En.ret2 rfl (Res.tmp rfl) (Res.tmp rfl) ?_
   obtain rfl := Option.some.inj h
   intro w' hs
   have hs := (hs).sub (.cons_cons _ (.cons _ (.slnil)))
   exact ⟨_, _, rfl, ⟨a4_100, n4_100, c4_100, f4_100, rfl, rfl⟩, hs⟩
  ·
   intro hc_2
   replace h := ifO_f hc_2 h
   refine WC.skip (En.next (WC.seq ?_))
   obtain ⟨x5_5, e5_5, h⟩ := bnd h
   obtain ⟨x5_6, e5_6, h⟩ := bnd h
   refine WC.region ?_
   refine sp (OpV.fieldAddr rfl fo_107_0) ?_
   refine sp (OpV.loadBox rfl pt_3 mq0 rfl) ?_
   refine sp (OpV.fieldAddr rfl fo_107_1) ?_
   refine sp (OpV.loadBox rfl pt_3 mq0 rfl) ?_
   refine mv ?_
   refine sp (OpV.call (ec rfl (ec rfl (ec rfl e0))) ca_168 (fun w hs => w_impl_WordCount e5_5)) ?_
   refine WL.heavy rfl rfl rfl (OpH.makeO (A := tInt) rfl rfl mi_23 (fun w => tInt_flat.ow w 0) (by decide) e5_6 ⟨Int.le_refl _, (mkO_some e5_6).1.2⟩ ?_)
   intro b5_6
   refine ag ?_
   refine WL.nil (En.next (WC.seq (WC.sr ?_)))
   refine sp (OpV.fieldAddr rfl fo_107_2) ?_
   refine sp (OpV.loadBox rfl pt_23 mq1 rfl) ?_
   refine sp (OpV.len rfl si_23 rfl) ?_
   refine mv ?_
   refine WL.nil (En.next (WC.block ?_))
   obtain ⟨zy0, ezy0, h⟩ := bnd h
   refine WC.cut (X := ((List Int)) × ((List Nat))) (.exit 0) (fun x => zy0 = x.1) (fun x => match x with | (out_0e, fout_0e) => [(6, .slice (some ⟨b5_6, 0, .none⟩) x5_6.length x5_5.toNat)]) (fun x => match x with | (out_0e, fout_0e) => [Chunk.own tInt fout_0e (some ⟨b5_6, 0, .none⟩) x5_6.length x5_5.toNat out_0e]) ?_ ?_
   ·
    rintro ⟨out_0e, fout_0e⟩ hx
    replace hx : out_0e = zy0 := hx.symm
    subst hx
    show En _ _ _ _ [(6, .slice (some ⟨b5_6, 0, .none⟩) x5_6.length x5_5.toNat)] [Chunk.own tInt fout_0e (some ⟨b5_6, 0, .none⟩) x5_6.length x5_5.toNat out_0e]
    refine En.block_exit (En.next (WC.sr ?_))
    refine mv ?_
    refine ag ?_
    refine ag ?_
    refine WL.nil (En.next (WC.ret ?_))
    refine En.ret2 rfl (Res.tmp rfl) (Res.tmp rfl) ?_
    obtain rfl := Option.some.inj h
    intro w' hs
    have hs := hs
    exact ⟨_, _, rfl, ⟨(some ⟨b5_6, 0, .none⟩), x5_6.length, x5_5.toNat, fout_0e, rfl, rfl⟩, hs⟩
   ·
    intro zK0_0
    refine WC.loopP (G := (List Nat)) (fun s g => match s, g with | (out_0, v_0), fout_0 => [(1, .int .i64 layout_p1), (2, .pointer (some ⟨b0_0, 0, .none⟩)), (6, .slice (some ⟨b5_6, 0, .none⟩) x5_6.length x5_5.toNat), (29, .slice q0_0 i_p0.Data.length k0_0), (30, .int .i64 (i_p0.Data.length : Int)), (31, .int .i64 v_0)]) (fun s g => match s, g with | (out_0, v_0), fout_0 => [Chunk.box b0_0 107 [.int .i64 i_p0.W, .int .i64 i_p0.H, .slice q0_0 i_p0.Data.length k0_0], Chunk.own tInt fout_0 (some ⟨b5_6, 0, .none⟩) x5_6.length x5_5.toNat out_0]) (x5_6, 0) [b5_6] ezy0 (by exact sc (sc (sc (sc (sc (sc sn)))))) (by exact (fun _ h => (h).pm 1)) ?_
    rintro zm0 ⟨out_0, v_0⟩ fout_0 zo0 zf0 zb0 ze0
    have zh0 : impl_StoreImage_L0 i_p0 layout_p1 out_0 v_0 = some zo0 := zf0
    unfold impl_StoreImage_L0 at zh0
    show WC _ _ _ _ _ [(1, .int .i64 layout_p1), (2, .pointer (some ⟨b0_0, 0, .none⟩)), (6, .slice (some ⟨b5_6, 0, .none⟩) x5_6.length x5_5.toNat), (29, .slice q0_0 i_p0.Data.length k0_0), (30, .int .i64 (i_p0.Data.length : Int)), (31, .int .i64 v_0)] [Chunk.box b0_0 107 [.int .i64 i_p0.W, .int .i64 i_p0.H, .slice q0_0 i_p0.Data.length k0_0], Chunk.own tInt fout_0 (some ⟨b5_6, 0, .none⟩) x5_6.length x5_5.toNat out_0]
    refine WC.sr ?_
    refine sp (OpV.lss rfl rfl) ?_
    refine WL.nil (En.next (WC.seq ?_))
    refine WC.cond rfl ?_ ?_
    ·
     intro hc_3
     replace zh0 := ifO_t hc_3 zh0
     refine WC.skip (En.next (WC.seq (WC.block (WC.seq ?_))))
     obtain ⟨x8_1, e8_1, zh0⟩ := bnd zh0
     obtain ⟨g8_1, o8_1, _, ha8_1, rfl, hd8_1⟩ := Rd.atIdx r0_0 e8_1
     replace hd8_1 : ∀ (j : Nat) v, ([.int .i64 x8_1] : List Value)[j]? = some v → w.cell? ⟨g8_1, o8_1 + v_0.toNat * 1 + j, .none⟩ = some v := hd8_1
     refine WC.region ?_
     refine mv ?_
     refine sp (OpV.idxA rfl rfl se_23 ha8_1 ⟨(idx_some e8_1).1, (idx_some e8_1).2.1⟩) ?_
     refine sp (OpV.load1 rfl pt_3 (fun w hs => hs.cell (hd8_1 0 _ rfl))) ?_
     refine ag ?_
     refine ag ?_
     refine WL.nil (En.next ?_)
     refine WC.inh fun hin9 => ?_
     obtain ⟨x9_7, e9_7, zh0⟩ := bnd zh0
     obtain ⟨x9_11, e9_11, zh0⟩ := bnd zh0
     obtain ⟨x9_12, e9_12, zh0⟩ := bnd zh0
     have hn9_14 := ownLen hin9 mq1
     obtain ⟨x9_15, e9_15, zh0⟩ := bnd zh0
     obtain ⟨g9_14, o9_14, ha9_14⟩ := ownAddrU hin9 mq1 e9_15
     refine WC.wkF (fun _ h => h.pm 1) ?_
     refine WC.drawnH [_] ([_]) (fun _ h => h) (by kernel_rfl) ?_
     refine tk 0 rfl (OpV.move rfl) ?_
     refine tk 1 rfl (OpV.fieldAddr rfl fo_107_0) ?_
     refine tk 2 rfl (OpV.loadBox rfl pt_3 mq0 rfl) ?_
     refine tk 3 rfl (OpV.move rfl) ?_
     refine tk 4 rfl (OpV.move rfl) ?_
     refine tk 5 rfl (OpV.fieldAddr rfl fo_107_0) ?_
     refine tk 6 rfl (OpV.loadBox rfl pt_3 mq0 rfl) ?_
     refine tk 7 rfl (OpV.remR rfl rfl e9_7) ?_
     refine tk 8 rfl (OpV.move rfl) ?_
     refine tk 9 rfl (OpV.fieldAddr rfl fo_107_0) ?_
     refine tk 10 rfl (OpV.loadBox rfl pt_3 mq0 rfl) ?_
     refine tk 11 rfl (OpV.quoR rfl rfl e9_11) ?_
     refine tk 12 rfl (OpV.call (ec rfl (ec rfl (ec rfl (ec rfl e0)))) ca_171 (fun w hs => w_impl_wordPlace e9_12)) ?_
     refine tk 13 rfl (OpV.move rfl) ?_
     refine tk 14 rfl (OpV.idxA rfl rfl se_23 ha9_14 ⟨(upd_some e9_15).1.1, by rw [hn9_14]; exact (upd_some e9_15).1.2⟩) ?_
     refine al0 15 rfl ?_
     refine OpH.wkF (fun _ h => St.elFlat tInt_flat x8_1 h) ?_
     refine OpH.setEl (A := tInt) ha9_14 rfl rfl rfl ts_3 e9_15 ?_
     intro f9_15
     refine ⟨[_], rfl, ?_⟩
     refine WAE.rebase (H := []) ?_
     refine WAE.done (by kernel_rfl) ?_ _
     refine En.block_norm (En.next (WC.region ?_))
     refine sp (OpV.addR rfl rfl) ?_
     refine mv ?_
     refine WL.nil ?_
     exact En.backP zb0 zh0 f9_15 (sc (sc (sc (sc (sc (sc sn)))))) (fun _ h => (h).pm 1)
    ·
     intro hc_3
     replace zh0 := ifO_f hc_3 zh0
     refine WC.exit (En.then_exit (En.then_exit ?_))
     have hx := exitP ze0 zh0
     exact En.wk _ _ (sc sn) (fun _ h => ((h).pm 1).sub (.cons_cons _ (.cons _ (.slnil)))) (zK0_0 (out_0, fout_0) hx.symm)

theorem w_impl_mapImage {w_p0 : Int} {h_p1 : Int} {f_p2 : Int → Int → Option Int} {r : ImageT} {fv2 : Value} (h : impl_mapImage w_p0 h_p1 f_p2 = some r) {w : World}   (hF2 : ∀ {y0 : Int} {y1 : Int} {r1 : Int}  {w1 : World}, Ext w w1 → f_p2 y0 y1 = some r1 → CallsV Tryz.prog fv2 [.int .i64 y0, .int .i64 y1] w1 (fun en w2 => en = .returned (.int .i64 r1) ∧ Ext w1 w2)) :
    Calls Tryz.prog 169 #[.int .i64 w_p0, .int .i64 h_p1, fv2] w (fun en w' => ∃ rv G, en = .returned rv ∧ (∃ (a0_0 : Option Addr) (n0_0 : Nat) (c0_0 : Nat) (f0_0 : List Nat), rv = .agg #[.int .i64 r.W, .int .i64 r.H, .slice a0_0 n0_0 c0_0] ∧ G = [Chunk.own tInt f0_0 a0_0 n0_0 c0_0 r.Data]) ∧ St w G w') := by
 unfold impl_mapImage at h
 refine enter (vs := [_, _, _]) Tryz.func169 rfl rfl rfl rfl ?_
 refine WC.sr ?_
 refine WL.heavy rfl rfl rfl (OpH.alloc zc_107 ?_)
 intro b0_0
 refine WL.nil (En.next (WC.seq ?_))
 obtain ⟨x1_5, e1_5, h⟩ := bnd h
 obtain ⟨n1_5, h⟩ := need_some h
 refine WC.region ?_
 refine mv ?_
 refine mv ?_
 refine mv ?_
 refine mv ?_
 refine sp (OpV.mulR rfl rfl) ?_
 refine WL.heavy rfl rfl rfl (OpH.makeO (A := tInt) rfl rfl mi_23 (fun w => tInt_flat.ow w 0) (by decide) e1_5 n1_5 ?_)
 intro b1_5
 refine sp (OpV.build (evps.cons rfl (evps.cons rfl (evps.cons rfl (evps.nil)))) (bd_107_0_1_2 _ _ _ _ _)) ?_
 refine WL.heavy rfl rfl rfl (OpH.alloc zc_107 ?_)
 intro b1_7
 refine WL.heavy0 rfl rfl (OpH.storeTo (A := []) [_, _, _] rfl rfl rfl ts_107 rfl rfl rfl ?_)
 refine WL.nil (En.next (WC.seq (WC.sr ?_)))
 refine mv ?_
 refine mv ?_
 refine WL.nil (En.next (WC.block ?_))
 obtain ⟨zy0, ezy0, h⟩ := bnd h
 refine WC.cut (X := ((List Int)) × ((Option Addr) × Nat × Nat × (List Nat))) (.exit 0) (fun x => zy0 = x.1) (fun x => match x with | (out_0e, (aout_0e, nout_0e, cout_0e, fout_0e)) => [(6, .pointer (some ⟨b0_0, 0, .none⟩)), (7, .pointer (some ⟨b1_7, 0, .none⟩))]) (fun x => match x with | (out_0e, (aout_0e, nout_0e, cout_0e, fout_0e)) => [Chunk.box b0_0 107 [.int .i64 0, .int .i64 0, .slice .none 0 0], Chunk.box b1_7 107 [.int .i64 w_p0, .int .i64 h_p1, .slice aout_0e nout_0e cout_0e], Chunk.own tInt fout_0e aout_0e nout_0e cout_0e out_0e]) ?_ ?_
 ·
  rintro ⟨out_0e, ⟨aout_0e, nout_0e, cout_0e, fout_0e⟩⟩ hx
  replace hx : out_0e = zy0 := hx.symm
  subst hx
  show En _ _ _ _ [(6, .pointer (some ⟨b0_0, 0, .none⟩)), (7, .pointer (some ⟨b1_7, 0, .none⟩))] [Chunk.box b0_0 107 [.int .i64 0, .int .i64 0, .slice .none 0 0], Chunk.box b1_7 107 [.int .i64 w_p0, .int .i64 h_p1, .slice aout_0e nout_0e cout_0e], Chunk.own tInt fout_0e aout_0e nout_0e cout_0e out_0e]
  refine En.block_exit (En.next (WC.sr ?_))
  refine sp (OpV.loadAll rfl mq1 ag_107) ?_
  refine WL.heavy0 rfl rfl (OpH.storeTo (A := []) [_, _, _] rfl rfl rfl ts_107 rfl rfl rfl ?_)
  refine WL.nil (En.next (WC.ret ?_))
  refine En.ret1 rfl (Res.cell rfl mq0 ag_107) ?_
  obtain rfl := Option.some.inj h
  intro w' hs
  have hs := ((hs).pm 2).sub (.cons_cons _ (.cons _ (.cons _ (.slnil))))
  exact ⟨_, _, rfl, ⟨aout_0e, nout_0e, cout_0e, fout_0e, rfl, rfl⟩, hs⟩
 ·
  intro zK0_0
  refine WC.loopP (G := (Option Addr) × Nat × Nat × (List Nat)) (fun s g => match s, g with | (out_0, v_0), (aout_0, nout_0, cout_0, fout_0) => [(0, .int .i64 w_p0), (2, fv2), (6, .pointer (some ⟨b0_0, 0, .none⟩)), (7, .pointer (some ⟨b1_7, 0, .none⟩)), (17, .int .i64 h_p1), (18, .int .i64 v_0)]) (fun s g => match s, g with | (out_0, v_0), (aout_0, nout_0, cout_0, fout_0) => [Chunk.box b0_0 107 [.int .i64 0, .int .i64 0, .slice .none 0 0], Chunk.box b1_7 107 [.int .i64 w_p0, .int .i64 h_p1, .slice aout_0 nout_0 cout_0], Chunk.own tInt fout_0 aout_0 nout_0 cout_0 out_0]) (x1_5, 0) ((some ⟨b1_5, 0, .none⟩), x1_5.length, (wr (w_p0 * h_p1)).toNat, [b1_5]) ezy0 (by exact sc (sc (sc (sc (sc (sc sn)))))) (by exact (fun _ h => (((h).pm 1).pm 1).pm 2)) ?_
  rintro zm0 ⟨out_0, v_0⟩ ⟨aout_0, nout_0, cout_0, fout_0⟩ zo0 zf0 zb0 ze0
  have zh0 : impl_mapImage_L0 w_p0 h_p1 f_p2 out_0 v_0 = some zo0 := zf0
  unfold impl_mapImage_L0 at zh0
  show WC _ _ _ _ _ [(0, .int .i64 w_p0), (2, fv2), (6, .pointer (some ⟨b0_0, 0, .none⟩)), (7, .pointer (some ⟨b1_7, 0, .none⟩)), (17, .int .i64 h_p1), (18, .int .i64 v_0)] [Chunk.box b0_0 107 [.int .i64 0, .int .i64 0, .slice .none 0 0], Chunk.box b1_7 107 [.int .i64 w_p0, .int .i64 h_p1, .slice aout_0 nout_0 cout_0], Chunk.own tInt fout_0 aout_0 nout_0 cout_0 out_0]
  refine WC.sr ?_
  refine sp (OpV.lss rfl rfl) ?_
  refine WL.nil (En.next (WC.seq ?_))
  refine WC.cond rfl ?_ ?_
  ·
   intro hc_1
   replace zh0 := ifO_t hc_1 zh0
   refine WC.skip (En.next (WC.seq (WC.block (WC.sr ?_))))
   refine mv ?_
   refine ag ?_
   refine WL.nil (En.next (WC.sr ?_))
   refine mv ?_
   refine mv ?_
   refine WL.nil (En.next (WC.block ?_))
   obtain ⟨zy1, ezy1, zh0⟩ := bnd zh0
   refine WC.cut (X := ((List Int)) × ((Option Addr) × Nat × Nat × (List Nat))) (.exit 2) (fun x => zy1 = x.1) (fun x => match x with | (out_1e, (aout_1e, nout_1e, cout_1e, fout_1e)) => [(0, .int .i64 w_p0), (2, fv2), (6, .pointer (some ⟨b0_0, 0, .none⟩)), (7, .pointer (some ⟨b1_7, 0, .none⟩)), (17, .int .i64 h_p1), (18, .int .i64 v_0)]) (fun x => match x with | (out_1e, (aout_1e, nout_1e, cout_1e, fout_1e)) => [Chunk.box b0_0 107 [.int .i64 0, .int .i64 0, .slice .none 0 0], Chunk.box b1_7 107 [.int .i64 w_p0, .int .i64 h_p1, .slice aout_1e nout_1e cout_1e], Chunk.own tInt fout_1e aout_1e nout_1e cout_1e out_1e]) ?_ ?_
   ·
    rintro ⟨out_1e, ⟨aout_1e, nout_1e, cout_1e, fout_1e⟩⟩ hx
    replace hx : out_1e = zy1 := hx.symm
    subst hx
    show En _ _ _ _ [(0, .int .i64 w_p0), (2, fv2), (6, .pointer (some ⟨b0_0, 0, .none⟩)), (7, .pointer (some ⟨b1_7, 0, .none⟩)), (17, .int .i64 h_p1), (18, .int .i64 v_0)] [Chunk.box b0_0 107 [.int .i64 0, .int .i64 0, .slice .none 0 0], Chunk.box b1_7 107 [.int .i64 w_p0, .int .i64 h_p1, .slice aout_1e nout_1e cout_1e], Chunk.own tInt fout_1e aout_1e nout_1e cout_1e out_1e]
    refine En.block_exit (En.block_norm (En.next (WC.region ?_)))
    refine sp (OpV.addR rfl rfl) ?_
    refine mv ?_
    refine WL.nil ?_
    exact En.backP zb0 zh0 (aout_1e, nout_1e, cout_1e, fout_1e) (sc (sc (sc (sc (sc (sc sn)))))) (fun _ h => h)
   ·
    intro zK1_0
    refine WC.loopP (G := (Option Addr) × Nat × Nat × (List Nat)) (fun s g => match s, g with | (out_1, v_1), (aout_1, nout_1, cout_1, fout_1) => [(0, .int .i64 w_p0), (2, fv2), (6, .pointer (some ⟨b0_0, 0, .none⟩)), (7, .pointer (some ⟨b1_7, 0, .none⟩)), (8, .int .i64 v_0), (17, .int .i64 h_p1), (18, .int .i64 v_0), (21, .int .i64 w_p0), (22, .int .i64 v_1)]) (fun s g => match s, g with | (out_1, v_1), (aout_1, nout_1, cout_1, fout_1) => [Chunk.box b0_0 107 [.int .i64 0, .int .i64 0, .slice .none 0 0], Chunk.box b1_7 107 [.int .i64 w_p0, .int .i64 h_p1, .slice aout_1 nout_1 cout_1], Chunk.own tInt fout_1 aout_1 nout_1 cout_1 out_1]) (out_0, 0) (aout_0, nout_0, cout_0, fout_0) ezy1 (by exact sc (sc (sc (sc (sc (sc (sc (sc (sc sn))))))))) (by exact (fun _ h => h)) ?_
    rintro zm1 ⟨out_1, v_1⟩ ⟨aout_1, nout_1, cout_1, fout_1⟩ zo1 zf1 zb1 ze1
    have zh1 : impl_mapImage_L1 w_p0 f_p2 v_0 out_1 v_1 = some zo1 := zf1
    unfold impl_mapImage_L1 at zh1
    show WC _ _ _ _ _ [(0, .int .i64 w_p0), (2, fv2), (6, .pointer (some ⟨b0_0, 0, .none⟩)), (7, .pointer (some ⟨b1_7, 0, .none⟩)), (8, .int .i64 v_0), (17, .int .i64 h_p1), (18, .int .i64 v_0), (21, .int .i64 w_p0), (22, .int .i64 v_1)] [Chunk.box b0_0 107 [.int .i64 0, .int .i64 0, .slice .none 0 0], Chunk.box b1_7 107 [.int .i64 w_p0, .int .i64 h_p1, .slice aout_1 nout_1 cout_1], Chunk.own tInt fout_1 aout_1 nout_1 cout_1 out_1]
    refine WC.sr ?_
    refine sp (OpV.lss rfl rfl) ?_
    refine WL.nil (En.next (WC.seq ?_))
    refine WC.cond rfl ?_ ?_
    ·
     intro hc_2
     replace zh1 := ifO_t hc_2 zh1
     refine WC.skip (En.next (WC.seq (WC.block (WC.sr ?_))))
     refine mv ?_
     refine ag ?_
     refine WL.nil (En.next ?_)
     obtain ⟨x8_5, e8_5, zh1⟩ := bnd zh1
     obtain ⟨x8_7, e8_7, zh1⟩ := bnd zh1
     refine WC.wkF (fun _ h => h.pm 2) ?_
     refine WC.wkF (fun _ h => h.pm 2) ?_
     refine WC.drawnH [_, _] ([_]) (fun _ h => h) (by kernel_rfl) ?_
     refine tk 0 rfl (OpV.fieldAddr rfl fo_107_2) ?_
     refine tk 2 rfl (OpV.move rfl) ?_
     refine tk 3 rfl (OpV.move rfl) ?_
     refine tk 4 rfl (OpV.move rfl) ?_
     refine tk 5 rfl (OpV.callV rfl (ec rfl (ec rfl e0)) (fun w hs => hF2 hs.below e8_5)) ?_
     refine WAE.all (rs := [1, 6]) (by kernel_rfl) rfl (AllR.cons rfl rfl rfl rfl ?_ (AllR.cons rfl rfl rfl rfl ?_ AllR.nil))
     ·
      refine OpH.light (OpV.loadBox rfl pt_23 mq0 rfl) ?_
      refine ⟨[_, _], rfl, ?_⟩
      refine al1 6 rfl ?_
      refine OpH.litF (A := tInt) (xs := [x8_5]) tInt_flat (evps.cons rfl (evps.nil)) (bs_23_1_0 _) rfl rfl (Nat.le_of_ble_eq_true rfl) ?_
      intro b8_6
      refine ⟨[_, _, _], rfl, ?_⟩
      refine al1 7 rfl ?_
      refine OpH.appS (F := [_, _]) (A := tInt) tInt_flat rfl rfl rfl mi_23 rfl (by decide) (fun w hs => (Ow.rd (hs.mem mq0))) e8_7 ?_
      intro f8_7 a8_7 c8_7
      refine ⟨[_, _, _], rfl, ?_⟩
      refine tk 8 rfl (OpV.fieldAddr rfl fo_107_2) ?_
      refine al0 9 rfl ?_
      refine OpH.storeTo (A := [_]) [_, _, _] rfl rfl rfl ts_23 rfl rfl rfl ?_
      refine ⟨[_, _, _], rfl, ?_⟩
      refine WAE.rebase (H := []) ?_
      refine WAE.done (by kernel_rfl) ?_ _
      refine En.block_norm (En.next (WC.region ?_))
      refine sp (OpV.addR rfl rfl) ?_
      refine mv ?_
      refine WL.nil ?_
      exact En.backP zb1 zh1 (a8_7, x8_7.length, c8_7, f8_7) (sc (sc (sc (sc (sc (sc (sc (sc (sc sn))))))))) (fun _ h => ((((h).pm 2).pm 2).pm 3).sub (.cons_cons _ (.cons_cons _ (.cons_cons _ (.cons _ (.slnil))))))
     ·
      refine OpH.litF (A := tInt) (xs := [x8_5]) tInt_flat (evps.cons rfl (evps.nil)) (bs_23_1_0 _) rfl rfl (Nat.le_of_ble_eq_true rfl) ?_
      intro b8_6
      refine ⟨[_, _, _], rfl, ?_⟩
      refine al1 1 rfl ?_
      refine OpH.light (OpV.loadBox rfl pt_23 mq1 rfl) ?_
      refine ⟨[_, _, _], rfl, ?_⟩
      refine al1 7 rfl ?_
      refine OpH.appS (F := [_, _]) (A := tInt) tInt_flat rfl rfl rfl mi_23 rfl (by decide) (fun w hs => (Ow.rd (hs.mem mq0))) e8_7 ?_
      intro f8_7 a8_7 c8_7
      refine ⟨[_, _, _], rfl, ?_⟩
      refine tk 8 rfl (OpV.fieldAddr rfl fo_107_2) ?_
      refine al0 9 rfl ?_
      refine OpH.storeTo (A := [_]) [_, _, _] rfl rfl rfl ts_23 rfl rfl rfl ?_
      refine ⟨[_, _, _], rfl, ?_⟩
      refine WAE.rebase (H := []) ?_
      refine WAE.done (by kernel_rfl) ?_ _
      refine En.block_norm (En.next (WC.region ?_))
      refine sp (OpV.addR rfl rfl) ?_
      refine mv ?_
      refine WL.nil ?_
      exact En.backP zb1 zh1 (a8_7, x8_7.length, c8_7, f8_7) (sc (sc (sc (sc (sc (sc (sc (sc (sc sn))))))))) (fun _ h => ((((h).pm 2).pm 2).pm 3).sub (.cons_cons _ (.cons_cons _ (.cons_cons _ (.cons _ (.slnil))))))
    ·
     intro hc_2
     replace zh1 := ifO_f hc_2 zh1
     refine WC.exit (En.then_exit (En.then_exit ?_))
     have hx := exitP ze1 zh1
     exact En.wk _ _ (sc (sc (sc (sc (sc (sc sn)))))) (fun _ h => h) (zK1_0 (out_1, (aout_1, nout_1, cout_1, fout_1)) hx.symm)
  ·
   intro hc_1
   replace zh0 := ifO_f hc_1 zh0
   refine WC.exit (En.then_exit (En.then_exit ?_))
   have hx := exitP ze0 zh0
   exact En.wk _ _ (sc (sc sn)) (fun _ h => h) (zK0_0 (out_0, (aout_0, nout_0, cout_0, fout_0)) hx.symm)

theorem w_impl_LoadImage_1 {x_p0 : Int} {y_p1 : Int} {c_p2 : List Int} {c_p3 : Int} {c_p4 : Int} {r : Int} {b2 : Nat} {q2_0 : Option Addr} {l2_0 k2_0 : Nat} {b3 : Nat} {b4 : Nat} (h : impl_LoadImage_1 x_p0 y_p1 c_p2 c_p3 c_p4 = some r) {w : World} (r2_0 : Rd tInt w q2_0 l2_0 k2_0 c_p2) (hbb2 : w.heap[b2]? = some (.cells #[.slice q2_0 l2_0 k2_0] 23 (0, 0))) (hbb3 : w.heap[b3]? = some (.cells #[.int .i64 c_p3] 3 (0, 0))) (hbb4 : w.heap[b4]? = some (.cells #[.int .i64 c_p4] 3 (0, 0)))  :
    Calls Tryz.prog 170 #[.int .i64 x_p0, .int .i64 y_p1, .pointer (some ⟨b2, 0, .none⟩), .pointer (some ⟨b3, 0, .none⟩), .pointer (some ⟨b4, 0, .none⟩)] w (fun en w' => en = .returned (.int .i64 r) ∧ Ext w w') := by
 obtain rfl := r2_0.1
 unfold impl_LoadImage_1 at h
 refine enter (vs := [_, _, _, _, _]) Tryz.func170 rfl rfl rfl rfl ?_
 refine WC.sr ?_
 refine ag ?_
 refine WL.nil (En.next (WC.seq ?_))
 obtain ⟨x1_5, e1_5, h⟩ := bnd h
 obtain ⟨x1_6, e1_6, h⟩ := bnd h
 obtain ⟨g1_6, o1_6, _, ha1_6, rfl, hd1_6⟩ := Rd.atIdx r2_0 e1_6
 replace hd1_6 : ∀ (j : Nat) v, ([.int .i64 x1_6] : List Value)[j]? = some v → w.cell? ⟨g1_6, o1_6 + x1_5.toNat * 1 + j, .none⟩ = some v := hd1_6
 refine WC.drawn [(7, ?r1v7)] (by kernel_rfl) (by kernel_rfl) ?dH1 ?dK1
 case dH1 =>
  intro W hW hk
  refine hW.sp (OpV.loadCap rfl pt_23 hbb2 rfl) ?_
  refine hW.sp (OpV.loadCap rfl pt_3 hbb3 rfl) ?_
  refine hW.sp (OpV.loadCap rfl pt_3 hbb4 rfl) ?_
  refine hW.mv ?_
  refine hW.mv ?_
  refine hW.sp (OpV.call (ec rfl (ec rfl (ec rfl (ec rfl e0)))) ca_171 (fun w hs => w_impl_wordPlace e1_5)) ?_
  refine hW.sp (OpV.idxA rfl rfl se_23 ha1_6 ⟨(idx_some e1_6).1, (idx_some e1_6).2.1⟩) ?_
  refine hW.sp (OpV.load1 rfl pt_3 (fun w hs => hs.cell (hd1_6 0 _ rfl))) ?_
  refine hW.sp (OpV.assign rfl) ?_
  refine hk _ ?_
  refine Sub.cons ?_ sn
  all_goals exact rfl
 refine En.next (WC.ret ?_)
 refine En.ret1 rfl (Res.tmp rfl) ?_
 obtain rfl := Option.some.inj h
 intro w' hs
 exact ⟨rfl, hs.below⟩

end Go.Proofs.YtmhalmnbgkpmnaaGreat
