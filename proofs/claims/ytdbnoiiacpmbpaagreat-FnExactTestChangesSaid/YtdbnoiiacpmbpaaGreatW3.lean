/- Walks: the program computes the pure functions. -/
import Derived.Test.YtdbnoiiacpmbpaaGreatW2
namespace Go.Proofs.YtdbnoiiacpmbpaaGreat
open Go.RowKit K
set_option maxRecDepth 100000
set_option maxHeartbeats 4000000

theorem w_impl_OrientPoint {w_p0 : Int} {h_p1 : Int} {o_p2 : Int} {x_p3 : Int} {y_p4 : Int} {r : Int × Int}  (h : impl_OrientPoint w_p0 h_p1 o_p2 x_p3 y_p4 = some r) {w : World}    :
    Calls Tryz.prog 183 #[.int .i64 w_p0, .int .i64 h_p1, .int .i64 o_p2, .int .i64 x_p3, .int .i64 y_p4] w (fun en w' => en = .returned (.tuple #[.int .i64 r.1, .int .i64 r.2]) ∧ Ext w w') := by
 unfold impl_OrientPoint at h
 refine enter (vs := [_, _, _, _, _]) Tryz.func183 rfl rfl rfl rfl ?_
 refine WC.seq (WC.region ?_)
 refine sp (OpV.assign rfl) ?_
 refine sp (OpV.assign rfl) ?_
 refine WL.nil (En.next (WC.seq (WC.seq ?_)))
 obtain ⟨x1_1, e1_1, h⟩ := bnd h
 obtain ⟨q1_7, e1_7, h⟩ := bnd h
 obtain ⟨q1_12, e1_12, h⟩ := bnd h
 obtain ⟨q1_19, e1_19, h⟩ := bnd h
 obtain ⟨q1_26, e1_26, h⟩ := bnd h
 refine WC.region ?_
 refine sp (OpV.move rfl) ?_
 refine sp (OpV.call (evs.cons rfl (evs.nil)) ca_137 (fun w hs => w_impl_isSide e1_1)) ?_
 refine sp (OpV.not rfl) ?_
 refine sp (OpV.move rfl) ?_
 refine Lt.ofWL.orQ 15 19 18 (p := ?pz1) (rest := ?qz1) (B := q1_7) rfl (fun hz => orO_t e1_7 hz) ?Tz1 ?Fz1 ?az1 ?bz1 ?cz1 ?dz1 ?ez1
 case Tz1 =>
  intro hcz1 hkz1
  refine sk ?_
  refine sk ?_
  refine sk ?_
  refine hkz1 _ ?_
  repeat (first | exact Sub.refl _ | refine Sub.skip rfl ?_)
 case Fz1 =>
  intro hcz1 hkz1
  have hqz1 := orO_f e1_7 hcz1
  obtain ⟨x1_5, e1_5, hqz1⟩ := bnd hqz1
  obtain rfl := Option.some.inj hqz1
  refine sp (OpV.move rfl) ?_
  refine sp (OpV.call (evs.cons rfl (evs.nil)) ca_137 (fun w hs => w_impl_isSide e1_5)) ?_
  refine sp (OpV.not rfl) ?_
  refine hkz1 _ ?_ ?_
  exact rfl
  repeat (first | exact Sub.refl _ | refine Sub.skip rfl ?_)
 case az1 => exact rfl
 case bz1 => exact rfl
 case cz1 => exact rfl
 case dz1 => exact rfl
 refine sp (OpV.move rfl) ?_
 refine Lt.ofWL.orQ 20 24 23 (p := ?pz2) (rest := ?qz2) (B := q1_12) rfl (fun hz => orO_t e1_12 hz) ?Tz2 ?Fz2 ?az2 ?bz2 ?cz2 ?dz2 ?ez2
 case Tz2 =>
  intro hcz2 hkz2
  refine sk ?_
  refine sk ?_
  refine sk ?_
  refine hkz2 _ ?_
  repeat (first | exact Sub.refl _ | refine Sub.skip rfl ?_)
 case Fz2 =>
  intro hcz2 hkz2
  have hqz2 := orO_f e1_12 hcz2
  obtain ⟨x1_10, e1_10, hqz2⟩ := bnd hqz2
  obtain rfl := Option.some.inj hqz2
  refine sp (OpV.move rfl) ?_
  refine sp (OpV.call (evs.cons rfl (evs.nil)) ca_181 (fun w hs => w_impl_isOrient e1_10)) ?_
  refine sp (OpV.not rfl) ?_
  refine hkz2 _ ?_ ?_
  exact rfl
  repeat (first | exact Sub.refl _ | refine Sub.skip rfl ?_)
 case az2 => exact rfl
 case bz2 => exact rfl
 case cz2 => exact rfl
 case dz2 => exact rfl
 refine sp (OpV.move rfl) ?_
 refine Lt.ofWL.orQ 25 31 30 (p := ?pz3) (rest := ?qz3) (B := q1_19) rfl (fun hz => orO_t e1_19 hz) ?Tz3 ?Fz3 ?az3 ?bz3 ?cz3 ?dz3 ?ez3
 case Tz3 =>
  intro hcz3 hkz3
  refine sk ?_
  refine sk ?_
  refine sk ?_
  refine sk ?_
  refine sk ?_
  refine hkz3 _ ?_
  repeat (first | exact Sub.refl _ | refine Sub.skip rfl ?_)
 case Fz3 =>
  intro hcz3 hkz3
  have hqz3 := orO_f e1_19 hcz3
  obtain ⟨x1_17, e1_17, hqz3⟩ := bnd hqz3
  obtain rfl := Option.some.inj hqz3
  refine sp (OpV.move rfl) ?_
  refine sp (OpV.move rfl) ?_
  refine sp (OpV.subR rfl rfl) ?_
  refine sp (OpV.call (evs.cons rfl (evs.cons rfl (evs.cons rfl (evs.nil)))) ca_59 (fun w hs => w_impl_within e1_17)) ?_
  refine sp (OpV.not rfl) ?_
  refine hkz3 _ ?_ ?_
  exact rfl
  repeat (first | exact Sub.refl _ | refine Sub.skip rfl ?_)
 case az3 => exact rfl
 case bz3 => exact rfl
 case cz3 => exact rfl
 case dz3 => exact rfl
 refine sp (OpV.move rfl) ?_
 refine Lt.ofWL.orQ 32 38 37 (p := ?pz4) (rest := ?qz4) (B := q1_26) rfl (fun hz => orO_t e1_26 hz) ?Tz4 ?Fz4 ?az4 ?bz4 ?cz4 ?dz4 ?ez4
 case Tz4 =>
  intro hcz4 hkz4
  refine sk ?_
  refine sk ?_
  refine sk ?_
  refine sk ?_
  refine sk ?_
  refine hkz4 _ ?_
  repeat (first | exact Sub.refl _ | refine Sub.skip rfl ?_)
 case Fz4 =>
  intro hcz4 hkz4
  have hqz4 := orO_f e1_26 hcz4
  obtain ⟨x1_24, e1_24, hqz4⟩ := bnd hqz4
  obtain rfl := Option.some.inj hqz4
  refine sp (OpV.move rfl) ?_
  refine sp (OpV.move rfl) ?_
  refine sp (OpV.subR rfl rfl) ?_
  refine sp (OpV.call (evs.cons rfl (evs.cons rfl (evs.cons rfl (evs.nil)))) ca_59 (fun w hs => w_impl_within e1_24)) ?_
  refine sp (OpV.not rfl) ?_
  refine hkz4 _ ?_ ?_
  exact rfl
  repeat (first | exact Sub.refl _ | refine Sub.skip rfl ?_)
 case az4 => exact rfl
 case bz4 => exact rfl
 case cz4 => exact rfl
 case dz4 => exact rfl
 refine WL.nil (En.next ?_)
 refine WC.cond rfl ?_ ?_
 ·
  intro hc_1
  replace h := ifO_t hc_1 h
  refine WC.seq (WC.region ?_)
  refine sp (OpV.assign rfl) ?_
  refine sp (OpV.assign rfl) ?_
  refine WL.nil (En.next (WC.ret (En.then_ret ?_)))
  refine En.ret2 rfl (Res.tmp rfl) (Res.tmp rfl) ?_
  obtain rfl := Option.some.inj h
  intro w' hs
  exact ⟨rfl, hs.below⟩
 ·
  intro hc_1
  replace h := ifO_f hc_1 h
  refine WC.skip (En.next (WC.seq (WC.seq (WC.region ?_))))
  refine sp (OpV.move rfl) ?_
  refine sp (OpV.geq rfl rfl) ?_
  refine WL.nil (En.next ?_)
  refine WC.cond rfl ?_ ?_
  ·
   intro hc_2
   replace h := ifO_t hc_2 h
   refine WC.region ?_
   refine sp (OpV.move rfl) ?_
   refine sp (OpV.subR rfl rfl) ?_
   refine sp (OpV.move rfl) ?_
   refine sp (OpV.subR rfl rfl) ?_
   refine sp (OpV.assign rfl) ?_
   refine WL.nil (En.next (WC.seq (WC.seq (WC.region ?_))))
   refine sp (OpV.move rfl) ?_
   refine sp (OpV.remR rfl rfl rfl) ?_
   refine sp (OpV.move rfl) ?_
   refine WL.nil (En.next (WC.block ?_))
   obtain ⟨zy0, ezy0, h⟩ := bnd h
   refine WC.cut (X := (Int × Int) × (Unit)) (.exit 0) (fun x => zy0 = x.1) (fun x => match x with | ((x_0e, y_0e), ()) => [(3, .int .i64 x_0e), (4, .int .i64 y_0e)]) (fun x => match x with | ((x_0e, y_0e), ()) => []) ?_ ?_
   ·
    rintro ⟨⟨x_0e, y_0e⟩, ⟨⟩⟩ hx
    replace hx : (x_0e, y_0e) = zy0 := hx.symm
    subst hx
    show En _ _ _ _ [(3, .int .i64 x_0e), (4, .int .i64 y_0e)] []
    refine En.block_exit (En.next (WC.seq (WC.region ?_)))
    refine sp (OpV.move rfl) ?_
    refine sp (OpV.move rfl) ?_
    refine sp (OpV.assign rfl) ?_
    refine sp (OpV.assign rfl) ?_
    refine WL.nil (En.next (WC.ret ?_))
    refine En.ret2 rfl (Res.tmp rfl) (Res.tmp rfl) ?_
    obtain rfl := Option.some.inj h
    intro w' hs
    exact ⟨rfl, hs.below⟩
   ·
    intro zK0_0
    refine WC.loopP (G := Unit) (fun s g => match s, g with | (w_0, h_0, x_0, y_0, v_0), () => [(0, .int .i64 w_0), (1, .int .i64 h_0), (3, .int .i64 x_0), (4, .int .i64 y_0), (46, .int .i64 (Int.tmod o_p2 4)), (47, .int .i64 v_0)]) (fun s g => match s, g with | (w_0, h_0, x_0, y_0, v_0), () => []) (w_p0, h_p1, (wr ((wr (w_p0 - 1)) - x_p3)), y_p4, 0) () ezy0 (by exact Sub.cons rfl (Sub.cons rfl (Sub.cons rfl (Sub.cons rfl (Sub.cons rfl (Sub.cons rfl (Sub.nil _))))))) (by exact (fun _ h => h)) ?_
    rintro zm0 ⟨w_0, h_0, x_0, y_0, v_0⟩ ⟨⟩ zo0 zf0 zb0 ze0
    have zh0 : impl_OrientPoint_L0 o_p2 w_0 h_0 x_0 y_0 v_0 = some zo0 := zf0
    unfold impl_OrientPoint_L0 at zh0
    show WC _ _ _ _ _ [(0, .int .i64 w_0), (1, .int .i64 h_0), (3, .int .i64 x_0), (4, .int .i64 y_0), (46, .int .i64 (Int.tmod o_p2 4)), (47, .int .i64 v_0)] []
    refine WC.seq (WC.region ?_)
    refine sp (OpV.lss rfl rfl) ?_
    refine WL.nil (En.next (WC.seq ?_))
    refine WC.cond rfl ?_ ?_
    ·
     intro hc_3
     replace zh0 := ifO_t hc_3 zh0
     refine WC.skip (En.next (WC.seq (WC.block (WC.seq (WC.region ?_)))))
     refine sp (OpV.move rfl) ?_
     refine sp (OpV.subR rfl rfl) ?_
     refine sp (OpV.move rfl) ?_
     refine sp (OpV.subR rfl rfl) ?_
     refine sp (OpV.move rfl) ?_
     refine sp (OpV.assign rfl) ?_
     refine sp (OpV.assign rfl) ?_
     refine WL.nil (En.next (WC.region ?_))
     refine sp (OpV.move rfl) ?_
     refine sp (OpV.move rfl) ?_
     refine sp (OpV.assign rfl) ?_
     refine sp (OpV.assign rfl) ?_
     refine WL.nil (En.block_norm (En.next (WC.region ?_)))
     refine sp (OpV.addR rfl rfl) ?_
     refine sp (OpV.move rfl) ?_
     refine WL.nil ?_
     exact En.backP zb0 zh0 () (Sub.cons rfl (Sub.cons rfl (Sub.cons rfl (Sub.cons rfl (Sub.cons rfl (Sub.cons rfl (Sub.nil _))))))) (fun _ h => h)
    ·
     intro hc_3
     replace zh0 := ifO_f hc_3 zh0
     refine WC.exit (En.then_exit (En.then_exit ?_))
     have hx := exitP ze0 zh0
     exact En.wk _ _ (Sub.cons rfl (Sub.cons rfl (Sub.nil _))) (fun _ h => h) (zK0_0 ((x_0, y_0), ()) hx.symm)
  ·
   intro hc_2
   replace h := ifO_f hc_2 h
   refine WC.skip (En.next (WC.seq (WC.seq (WC.region ?_))))
   refine sp (OpV.move rfl) ?_
   refine sp (OpV.remR rfl rfl rfl) ?_
   refine sp (OpV.move rfl) ?_
   refine WL.nil (En.next (WC.block ?_))
   obtain ⟨zy1, ezy1, h⟩ := bnd h
   refine WC.cut (X := (Int × Int) × (Unit)) (.exit 0) (fun x => zy1 = x.1) (fun x => match x with | ((x_1e, y_1e), ()) => [(3, .int .i64 x_1e), (4, .int .i64 y_1e)]) (fun x => match x with | ((x_1e, y_1e), ()) => []) ?_ ?_
   ·
    rintro ⟨⟨x_1e, y_1e⟩, ⟨⟩⟩ hx
    replace hx : (x_1e, y_1e) = zy1 := hx.symm
    subst hx
    show En _ _ _ _ [(3, .int .i64 x_1e), (4, .int .i64 y_1e)] []
    refine En.block_exit (En.next (WC.seq (WC.region ?_)))
    refine sp (OpV.move rfl) ?_
    refine sp (OpV.move rfl) ?_
    refine sp (OpV.assign rfl) ?_
    refine sp (OpV.assign rfl) ?_
    refine WL.nil (En.next (WC.ret ?_))
    refine En.ret2 rfl (Res.tmp rfl) (Res.tmp rfl) ?_
    obtain rfl := Option.some.inj h
    intro w' hs
    exact ⟨rfl, hs.below⟩
   ·
    intro zK1_0
    refine WC.loopP (G := Unit) (fun s g => match s, g with | (w_1, h_1, x_1, y_1, v_1), () => [(0, .int .i64 w_1), (1, .int .i64 h_1), (3, .int .i64 x_1), (4, .int .i64 y_1), (46, .int .i64 (Int.tmod o_p2 4)), (47, .int .i64 v_1)]) (fun s g => match s, g with | (w_1, h_1, x_1, y_1, v_1), () => []) (w_p0, h_p1, x_p3, y_p4, 0) () ezy1 (by exact Sub.cons rfl (Sub.cons rfl (Sub.cons rfl (Sub.cons rfl (Sub.cons rfl (Sub.cons rfl (Sub.nil _))))))) (by exact (fun _ h => h)) ?_
    rintro zm1 ⟨w_1, h_1, x_1, y_1, v_1⟩ ⟨⟩ zo1 zf1 zb1 ze1
    have zh1 : impl_OrientPoint_L1 o_p2 w_1 h_1 x_1 y_1 v_1 = some zo1 := zf1
    unfold impl_OrientPoint_L1 at zh1
    show WC _ _ _ _ _ [(0, .int .i64 w_1), (1, .int .i64 h_1), (3, .int .i64 x_1), (4, .int .i64 y_1), (46, .int .i64 (Int.tmod o_p2 4)), (47, .int .i64 v_1)] []
    refine WC.seq (WC.region ?_)
    refine sp (OpV.lss rfl rfl) ?_
    refine WL.nil (En.next (WC.seq ?_))
    refine WC.cond rfl ?_ ?_
    ·
     intro hc_4
     replace zh1 := ifO_t hc_4 zh1
     refine WC.skip (En.next (WC.seq (WC.block (WC.seq (WC.region ?_)))))
     refine sp (OpV.move rfl) ?_
     refine sp (OpV.subR rfl rfl) ?_
     refine sp (OpV.move rfl) ?_
     refine sp (OpV.subR rfl rfl) ?_
     refine sp (OpV.move rfl) ?_
     refine sp (OpV.assign rfl) ?_
     refine sp (OpV.assign rfl) ?_
     refine WL.nil (En.next (WC.region ?_))
     refine sp (OpV.move rfl) ?_
     refine sp (OpV.move rfl) ?_
     refine sp (OpV.assign rfl) ?_
     refine sp (OpV.assign rfl) ?_
     refine WL.nil (En.block_norm (En.next (WC.region ?_)))
     refine sp (OpV.addR rfl rfl) ?_
     refine sp (OpV.move rfl) ?_
     refine WL.nil ?_
     exact En.backP zb1 zh1 () (Sub.cons rfl (Sub.cons rfl (Sub.cons rfl (Sub.cons rfl (Sub.cons rfl (Sub.cons rfl (Sub.nil _))))))) (fun _ h => h)
    ·
     intro hc_4
     replace zh1 := ifO_f hc_4 zh1
     refine WC.exit (En.then_exit (En.then_exit ?_))
     have hx := exitP ze1 zh1
     exact En.wk _ _ (Sub.cons rfl (Sub.cons rfl (Sub.nil _))) (fun _ h => h) (zK1_0 ((x_1, y_1), ()) hx.symm)

theorem w_impl_Oriented {a_p0 : ImageT} {a_p1 : Int} {r : ImageT} {q0_0 : Option Addr} {n0_0 k0_0 : Nat} (h : impl_Oriented a_p0 a_p1 = some r) {w : World} (r0_0 : Rd tInt w q0_0 n0_0 k0_0 a_p0.Data)   :
    Calls Tryz.prog 147 #[.agg #[.int .i64 a_p0.W, .int .i64 a_p0.H, .slice q0_0 n0_0 k0_0], .int .i64 a_p1] w (fun en w' => ∃ rv G, en = .returned rv ∧ (∃ (a0_0 : Option Addr) (n0_0 : Nat) (c0_0 : Nat) (f0_0 : List Nat), rv = .agg #[.int .i64 r.W, .int .i64 r.H, .slice a0_0 n0_0 c0_0] ∧ G = [Chunk.own tInt f0_0 a0_0 n0_0 c0_0 r.Data]) ∧ St w G w') := by
 obtain rfl := r0_0.1
 unfold impl_Oriented at h
 refine enter (vs := [_, _]) Tryz.func147 rfl rfl rfl rfl ?_
 refine WC.seq (WC.region ?_)
 refine WL.heavy rfl rfl rfl (OpH.box rfl rfl ?_)
 intro b0_0
 refine WL.heavy rfl rfl rfl (OpH.alloc zc_96 ?_)
 intro b0_1
 refine WL.nil (En.next (WC.seq (WC.seq ?_)))
 obtain ⟨x1_1, e1_1, h⟩ := bnd h
 obtain ⟨q1_7, e1_7, h⟩ := bnd h
 refine WC.region ?_
 refine sp (OpV.loadAll rfl (.tail _ (.head _)) ag_96) ?_
 refine sp (OpV.call (evs.cons rfl (evs.nil)) ca_149 (fun w hs => w_impl_ImageOk e1_1 (r0_0.ext hs.below))) ?_
 refine sp (OpV.not rfl) ?_
 refine sp (OpV.move rfl) ?_
 refine Lt.ofWL.orQ 15 19 18 (p := ?pz1) (rest := ?qz1) (B := q1_7) rfl (fun hz => orO_t e1_7 hz) ?Tz1 ?Fz1 ?az1 ?bz1 ?cz1 ?dz1 ?ez1
 case Tz1 =>
  intro hcz1 hkz1
  refine sk ?_
  refine sk ?_
  refine sk ?_
  refine hkz1 _ ?_
  repeat (first | exact Sub.refl _ | refine Sub.skip rfl ?_)
 case Fz1 =>
  intro hcz1 hkz1
  have hqz1 := orO_f e1_7 hcz1
  obtain ⟨x1_5, e1_5, hqz1⟩ := bnd hqz1
  obtain rfl := Option.some.inj hqz1
  refine sp (OpV.move rfl) ?_
  refine sp (OpV.call (evs.cons rfl (evs.nil)) ca_181 (fun w hs => w_impl_isOrient e1_5)) ?_
  refine sp (OpV.not rfl) ?_
  refine hkz1 _ ?_ ?_
  exact rfl
  repeat (first | exact Sub.refl _ | refine Sub.skip rfl ?_)
 case az1 => exact rfl
 case bz1 => exact rfl
 case cz1 => exact rfl
 case dz1 => exact rfl
 refine WL.nil (En.next ?_)
 refine WC.cond rfl ?_ ?_
 ·
  intro hc_1
  replace h := ifO_t hc_1 h
  refine WC.seq (WC.region ?_)
  refine sp (OpV.build (evps.nil) bd_96_) ?_
  refine WL.heavy0 rfl rfl (OpH.storeTo (A := []) [_, _, _] rfl rfl rfl ts_96 rfl rfl rfl ?_)
  refine WL.nil (En.next (WC.ret (En.then_ret ?_)))
  refine En.ret1 rfl (Res.cell rfl (.head _) ag_96) ?_
  obtain rfl := Option.some.inj h
  intro w' hs
  have hs := ((hs).ownNil (A := tInt)).sub (.cons_cons _ (.cons _ (.cons _ (.slnil))))
  exact ⟨_, _, rfl, ⟨.none, 0, 0, [], rfl, rfl⟩, hs⟩
 ·
  intro hc_1
  replace h := ifO_f hc_1 h
  refine WC.skip (En.next (WC.seq ?_))
  obtain ⟨⟨x3_5a, x3_5b⟩, e3_5, h⟩ := bnd h
  refine WC.region ?_
  refine sp (OpV.fieldAddr rfl fo_96_0) ?_
  refine sp (OpV.loadBox rfl pt_3 (.tail _ (.head _)) rfl) ?_
  refine sp (OpV.fieldAddr rfl fo_96_1) ?_
  refine sp (OpV.loadBox rfl pt_3 (.tail _ (.head _)) rfl) ?_
  refine sp (OpV.move rfl) ?_
  refine sp (OpV.call (evs.cons rfl (evs.cons rfl (evs.cons rfl (evs.nil)))) ca_182 (fun w hs => w_impl_OrientSize e3_5)) ?_
  refine sp (OpV.move rfl) ?_
  refine sp (OpV.extract rfl rfl) ?_
  refine sp (OpV.extract rfl rfl) ?_
  refine sp (OpV.assign rfl) ?_
  refine sp (OpV.assign rfl) ?_
  refine WL.nil (En.next (WC.seq ?_))
  obtain ⟨x4_5, e4_5, h⟩ := bnd h
  refine WC.region ?_
  refine sp (OpV.move rfl) ?_
  refine sp (OpV.move rfl) ?_
  refine sp (OpV.move rfl) ?_
  refine sp (OpV.move rfl) ?_
  refine sp (OpV.mulR rfl rfl) ?_
  refine WL.heavy rfl rfl rfl (OpH.makeO (A := tInt) rfl rfl mi_23 (fun w => tInt_flat.ow w 0) (by decide) e4_5 ⟨Int.le_refl _, (mkO_some e4_5).1.2⟩ ?_)
  intro b4_5
  refine sp (OpV.build (evps.cons rfl (evps.cons rfl (evps.cons rfl (evps.nil)))) (bd_96_0_1_2 _ _ _ _ _)) ?_
  refine WL.heavy rfl rfl rfl (OpH.alloc zc_96 ?_)
  intro b4_7
  refine WL.heavy0 rfl rfl (OpH.storeTo (A := []) [_, _, _] rfl rfl rfl ts_96 rfl rfl rfl ?_)
  refine WL.nil (En.next (WC.seq (WC.seq (WC.region ?_))))
  refine sp (OpV.fieldAddr rfl fo_96_2) ?_
  refine sp (OpV.loadBox rfl pt_23 (.tail _ (.tail _ (.tail _ (.head _)))) rfl) ?_
  refine sp (OpV.len rfl si_23 rfl) ?_
  refine sp (OpV.move rfl) ?_
  refine WL.nil (En.next (WC.block ?_))
  obtain ⟨zy0, ezy0, h⟩ := bnd h
  refine WC.cut (X := ((List Int)) × ((List Nat))) (.exit 0) (fun x => zy0 = x.1) (fun x => match x with | (x_0e, fx_0e) => [(4, .pointer (some ⟨b0_1, 0, .none⟩)), (7, .pointer (some ⟨b4_7, 0, .none⟩))]) (fun x => match x with | (x_0e, fx_0e) => [Chunk.box b0_1 96 [.int .i64 0, .int .i64 0, .slice .none 0 0], Chunk.box b4_7 96 [.int .i64 x3_5a, .int .i64 x3_5b, .slice (some ⟨b4_5, 0, .none⟩) x4_5.length ((wr (x3_5a * x3_5b)).toNat)], Chunk.own tInt fx_0e (some ⟨b4_5, 0, .none⟩) x4_5.length ((wr (x3_5a * x3_5b)).toNat) x_0e]) ?_ ?_
  ·
   rintro ⟨x_0e, fx_0e⟩ hx
   replace hx : x_0e = zy0 := hx.symm
   subst hx
   show En _ _ _ _ [(4, .pointer (some ⟨b0_1, 0, .none⟩)), (7, .pointer (some ⟨b4_7, 0, .none⟩))] [Chunk.box b0_1 96 [.int .i64 0, .int .i64 0, .slice .none 0 0], Chunk.box b4_7 96 [.int .i64 x3_5a, .int .i64 x3_5b, .slice (some ⟨b4_5, 0, .none⟩) x4_5.length ((wr (x3_5a * x3_5b)).toNat)], Chunk.own tInt fx_0e (some ⟨b4_5, 0, .none⟩) x4_5.length ((wr (x3_5a * x3_5b)).toNat) x_0e]
   refine En.block_exit (En.next (WC.seq (WC.region ?_)))
   refine sp (OpV.loadAll rfl (.tail _ (.head _)) ag_96) ?_
   refine WL.heavy0 rfl rfl (OpH.storeTo (A := []) [_, _, _] rfl rfl rfl ts_96 rfl rfl rfl ?_)
   refine WL.nil (En.next (WC.ret ?_))
   refine En.ret1 rfl (Res.cell rfl (.head _) ag_96) ?_
   obtain rfl := Option.some.inj h
   intro w' hs
   have hs := ((hs).perm (List.perm_middle (l₁ := [_, _]))).sub (.cons_cons _ (.cons _ (.cons _ (.slnil))))
   exact ⟨_, _, rfl, ⟨(some ⟨b4_5, 0, .none⟩), x4_5.length, ((wr (x3_5a * x3_5b)).toNat), fx_0e, rfl, rfl⟩, hs⟩
  ·
   intro zK0_0
   refine WC.loopP (G := (List Nat)) (fun s g => match s, g with | (x_0, v_0), fx_0 => [(1, .int .i64 a_p1), (2, .pointer (some ⟨b0_0, 0, .none⟩)), (4, .pointer (some ⟨b0_1, 0, .none⟩)), (5, .int .i64 x3_5a), (7, .pointer (some ⟨b4_7, 0, .none⟩)), (38, .slice q0_0 a_p0.Data.length k0_0), (39, .int .i64 (a_p0.Data.length : Int)), (40, .int .i64 v_0)]) (fun s g => match s, g with | (x_0, v_0), fx_0 => [Chunk.box b0_0 96 [.int .i64 a_p0.W, .int .i64 a_p0.H, .slice q0_0 a_p0.Data.length k0_0], Chunk.box b0_1 96 [.int .i64 0, .int .i64 0, .slice .none 0 0], Chunk.box b4_7 96 [.int .i64 x3_5a, .int .i64 x3_5b, .slice (some ⟨b4_5, 0, .none⟩) x4_5.length ((wr (x3_5a * x3_5b)).toNat)], Chunk.own tInt fx_0 (some ⟨b4_5, 0, .none⟩) x4_5.length ((wr (x3_5a * x3_5b)).toNat) x_0]) (x4_5, 0) [b4_5] ezy0 (by exact Sub.cons rfl (Sub.cons rfl (Sub.cons rfl (Sub.cons rfl (Sub.cons rfl (Sub.cons rfl (Sub.cons rfl (Sub.cons rfl (Sub.nil _))))))))) (by exact (fun _ h => ((((h).perm (List.perm_middle (l₁ := [_]))).perm (List.perm_middle (l₁ := [_]))).perm (List.perm_middle (l₁ := [_, _]))).perm (List.perm_middle (l₁ := [_, _, _])))) ?_
   rintro zm0 ⟨x_0, v_0⟩ fx_0 zo0 zf0 zb0 ze0
   have zh0 : impl_Oriented_L0 a_p0 a_p1 x3_5a x_0 v_0 = some zo0 := zf0
   unfold impl_Oriented_L0 at zh0
   show WC _ _ _ _ _ [(1, .int .i64 a_p1), (2, .pointer (some ⟨b0_0, 0, .none⟩)), (4, .pointer (some ⟨b0_1, 0, .none⟩)), (5, .int .i64 x3_5a), (7, .pointer (some ⟨b4_7, 0, .none⟩)), (38, .slice q0_0 a_p0.Data.length k0_0), (39, .int .i64 (a_p0.Data.length : Int)), (40, .int .i64 v_0)] [Chunk.box b0_0 96 [.int .i64 a_p0.W, .int .i64 a_p0.H, .slice q0_0 a_p0.Data.length k0_0], Chunk.box b0_1 96 [.int .i64 0, .int .i64 0, .slice .none 0 0], Chunk.box b4_7 96 [.int .i64 x3_5a, .int .i64 x3_5b, .slice (some ⟨b4_5, 0, .none⟩) x4_5.length ((wr (x3_5a * x3_5b)).toNat)], Chunk.own tInt fx_0 (some ⟨b4_5, 0, .none⟩) x4_5.length ((wr (x3_5a * x3_5b)).toNat) x_0]
   refine WC.seq (WC.region ?_)
   refine sp (OpV.lss rfl rfl) ?_
   refine WL.nil (En.next (WC.seq ?_))
   refine WC.cond rfl ?_ ?_
   ·
    intro hc_2
    replace zh0 := ifO_t hc_2 zh0
    refine WC.skip (En.next (WC.seq (WC.block (WC.seq ?_))))
    obtain ⟨x7_1, e7_1, zh0⟩ := bnd zh0
    obtain ⟨g7_1, o7_1, _, ha7_1, rfl, hd7_1⟩ := Rd.atIdx r0_0 e7_1
    replace hd7_1 : ∀ (j : Nat) v, ([.int .i64 x7_1] : List Value)[j]? = some v → w.cell? ⟨g7_1, o7_1 + v_0.toNat * 1 + j, .none⟩ = some v := hd7_1
    refine WC.region ?_
    refine sp (OpV.move rfl) ?_
    refine sp (OpV.idxA rfl rfl se_23 ha7_1 ⟨(idx_some e7_1).1, (idx_some e7_1).2.1⟩) ?_
    refine sp (OpV.load1 rfl pt_3 (fun w hs => hs.cell (hd7_1 0 _ rfl))) ?_
    refine sp (OpV.assign rfl) ?_
    refine sp (OpV.assign rfl) ?_
    refine WL.nil (En.next (WC.seq ?_))
    obtain ⟨x8_8, e8_8, zh0⟩ := bnd zh0
    obtain ⟨x8_12, e8_12, zh0⟩ := bnd zh0
    obtain ⟨⟨x8_13a, x8_13b⟩, e8_13, zh0⟩ := bnd zh0
    refine WC.drawn [(1, ?r8v1), (2, ?r8v2), (4, ?r8v4), (5, ?r8v5), (7, ?r8v7), (9, ?r8v9), (10, ?r8v10), (11, ?r8v11), (38, ?r8v38), (39, ?r8v39), (40, ?r8v40)] (by kernel_rfl) (by kernel_rfl) ?dH8 ?dK8
    case dH8 =>
     intro W hW hk
     refine hW.step rfl rfl rfl (OpV.fieldAddr rfl fo_96_0) ?_
     refine hW.step rfl rfl rfl (OpV.loadBox rfl pt_3 (.head _) rfl) ?_
     refine hW.step rfl rfl rfl (OpV.fieldAddr rfl fo_96_1) ?_
     refine hW.step rfl rfl rfl (OpV.loadBox rfl pt_3 (.head _) rfl) ?_
     refine hW.step rfl rfl rfl (OpV.move rfl) ?_
     refine hW.step rfl rfl rfl (OpV.move rfl) ?_
     refine hW.step rfl rfl rfl (OpV.fieldAddr rfl fo_96_0) ?_
     refine hW.step rfl rfl rfl (OpV.loadBox rfl pt_3 (.head _) rfl) ?_
     refine hW.step rfl rfl rfl (OpV.remR rfl rfl e8_8) ?_
     refine hW.step rfl rfl rfl (OpV.move rfl) ?_
     refine hW.step rfl rfl rfl (OpV.fieldAddr rfl fo_96_0) ?_
     refine hW.step rfl rfl rfl (OpV.loadBox rfl pt_3 (.head _) rfl) ?_
     refine hW.step rfl rfl rfl (OpV.quoR rfl rfl e8_12) ?_
     refine hW.step rfl rfl rfl (OpV.call (evs.cons rfl (evs.cons rfl (evs.cons rfl (evs.cons rfl (evs.cons rfl (evs.nil)))))) ca_183 (fun w hs => w_impl_OrientPoint e8_13)) ?_
     refine hW.step rfl rfl rfl (OpV.move rfl) ?_
     refine hW.step rfl rfl rfl (OpV.extract rfl rfl) ?_
     refine hW.step rfl rfl rfl (OpV.extract rfl rfl) ?_
     refine hW.step rfl rfl rfl (OpV.assign rfl) ?_
     refine hW.step rfl rfl rfl (OpV.assign rfl) ?_
     refine hk _ ?_
     refine Sub.cons ?_ (Sub.cons ?_ (Sub.cons ?_ (Sub.cons ?_ (Sub.cons ?_ (Sub.cons ?_ (Sub.cons ?_ (Sub.cons ?_ (Sub.cons ?_ (Sub.cons ?_ (Sub.cons ?_ (Sub.nil _)))))))))))
     all_goals exact rfl
    refine En.next ?_
    refine WC.inh fun hin9 => ?_
    have hn9_8 := ownLen hin9 (.tail _ (.tail _ (.tail _ (.head _))))
    obtain ⟨x9_9, e9_9, zh0⟩ := bnd zh0
    obtain ⟨g9_8, ha9_8⟩ := ownAddrU hin9 (.tail _ (.tail _ (.tail _ (.head _)))) e9_9
    refine WC.region ?_
    refine sp (OpV.fieldAddr rfl fo_96_2) ?_
    refine sp (OpV.loadBox rfl pt_23 (.tail _ (.tail _ (.head _))) rfl) ?_
    refine sp (OpV.move rfl) ?_
    refine sp (OpV.move rfl) ?_
    refine sp (OpV.mulR rfl rfl) ?_
    refine sp (OpV.move rfl) ?_
    refine sp (OpV.addR rfl rfl) ?_
    refine sp (OpV.move rfl) ?_
    refine sp (OpV.idxA rfl rfl se_23 ha9_8 ⟨(upd_some e9_9).1.1, by rw [hn9_8]; exact (upd_some e9_9).1.2⟩) ?_
    refine WL.wkF (fun _ h => St.elFlat tInt_flat x7_1 h) ?_
    refine WL.wkF (fun _ h => h.perm (List.perm_middle (l₁ := [_, _, _, _]))) ?_
    refine WL.wkF (fun _ h => h.perm (List.perm_middle (l₁ := [_]))) ?_
    refine WL.heavy0 rfl rfl (OpH.setEl (A := tInt) ha9_8 rfl rfl rfl ts_3 e9_9 ?_)
    intro f9_9
    refine WL.nil (En.block_norm (En.next (WC.region ?_)))
    refine sp (OpV.addR rfl rfl) ?_
    refine sp (OpV.move rfl) ?_
    refine WL.nil ?_
    exact En.backP zb0 zh0 f9_9 (Sub.cons rfl (Sub.cons rfl (Sub.cons rfl (Sub.cons rfl (Sub.cons rfl (Sub.cons rfl (Sub.cons rfl (Sub.cons rfl (Sub.nil _))))))))) (fun _ h => (((h).perm (List.perm_middle (l₁ := [_, _, _]))).perm (List.perm_middle (l₁ := [_, _, _]))).perm (List.perm_middle (l₁ := [_, _, _])))
   ·
    intro hc_2
    replace zh0 := ifO_f hc_2 zh0
    refine WC.exit (En.then_exit (En.then_exit ?_))
    have hx := exitP ze0 zh0
    exact En.wk _ _ (Sub.cons rfl (Sub.cons rfl (Sub.nil _))) (fun _ h => ((((h).perm (List.perm_middle (l₁ := [_, _, _]))).perm (List.perm_middle (l₁ := [_, _, _]))).perm (List.perm_middle (l₁ := [_, _, _]))).sub (.cons_cons _ (.cons_cons _ (.cons_cons _ (.cons _ (.slnil)))))) (zK0_0 (x_0, fx_0) hx.symm)

theorem w_impl_ScalePoint {from_p0 : Int} {to_p1 : Int} {k_p2 : Int} {r : Int}  (h : impl_ScalePoint from_p0 to_p1 k_p2 = some r) {w : World}    :
    Calls Tryz.prog 185 #[.int .i64 from_p0, .int .i64 to_p1, .int .i64 k_p2] w (fun en w' => en = .returned (.int .i64 r) ∧ Ext w w') := by
 unfold impl_ScalePoint at h
 refine enter (vs := [_, _, _]) Tryz.func185 rfl rfl rfl rfl ?_
 refine WC.seq (WC.region ?_)
 refine sp (OpV.assign rfl) ?_
 refine WL.nil (En.next (WC.seq (WC.seq ?_)))
 obtain ⟨x1_1, e1_1, h⟩ := bnd h
 obtain ⟨q1_7, e1_7, h⟩ := bnd h
 obtain ⟨q1_14, e1_14, h⟩ := bnd h
 refine WC.region ?_
 refine sp (OpV.move rfl) ?_
 refine sp (OpV.call (evs.cons rfl (evs.nil)) ca_137 (fun w hs => w_impl_isSide e1_1)) ?_
 refine sp (OpV.not rfl) ?_
 refine sp (OpV.move rfl) ?_
 refine Lt.ofWL.orQ 10 14 13 (p := ?pz1) (rest := ?qz1) (B := q1_7) rfl (fun hz => orO_t e1_7 hz) ?Tz1 ?Fz1 ?az1 ?bz1 ?cz1 ?dz1 ?ez1
 case Tz1 =>
  intro hcz1 hkz1
  refine sk ?_
  refine sk ?_
  refine sk ?_
  refine hkz1 _ ?_
  repeat (first | exact Sub.refl _ | refine Sub.skip rfl ?_)
 case Fz1 =>
  intro hcz1 hkz1
  have hqz1 := orO_f e1_7 hcz1
  obtain ⟨x1_5, e1_5, hqz1⟩ := bnd hqz1
  obtain rfl := Option.some.inj hqz1
  refine sp (OpV.move rfl) ?_
  refine sp (OpV.call (evs.cons rfl (evs.nil)) ca_137 (fun w hs => w_impl_isSide e1_5)) ?_
  refine sp (OpV.not rfl) ?_
  refine hkz1 _ ?_ ?_
  exact rfl
  repeat (first | exact Sub.refl _ | refine Sub.skip rfl ?_)
 case az1 => exact rfl
 case bz1 => exact rfl
 case cz1 => exact rfl
 case dz1 => exact rfl
 refine sp (OpV.move rfl) ?_
 refine Lt.ofWL.orQ 15 21 20 (p := ?pz2) (rest := ?qz2) (B := q1_14) rfl (fun hz => orO_t e1_14 hz) ?Tz2 ?Fz2 ?az2 ?bz2 ?cz2 ?dz2 ?ez2
 case Tz2 =>
  intro hcz2 hkz2
  refine sk ?_
  refine sk ?_
  refine sk ?_
  refine sk ?_
  refine sk ?_
  refine hkz2 _ ?_
  repeat (first | exact Sub.refl _ | refine Sub.skip rfl ?_)
 case Fz2 =>
  intro hcz2 hkz2
  have hqz2 := orO_f e1_14 hcz2
  obtain ⟨x1_12, e1_12, hqz2⟩ := bnd hqz2
  obtain rfl := Option.some.inj hqz2
  refine sp (OpV.move rfl) ?_
  refine sp (OpV.move rfl) ?_
  refine sp (OpV.subR rfl rfl) ?_
  refine sp (OpV.call (evs.cons rfl (evs.cons rfl (evs.cons rfl (evs.nil)))) ca_59 (fun w hs => w_impl_within e1_12)) ?_
  refine sp (OpV.not rfl) ?_
  refine hkz2 _ ?_ ?_
  exact rfl
  repeat (first | exact Sub.refl _ | refine Sub.skip rfl ?_)
 case az2 => exact rfl
 case bz2 => exact rfl
 case cz2 => exact rfl
 case dz2 => exact rfl
 refine WL.nil (En.next ?_)
 refine WC.cond rfl ?_ ?_
 ·
  intro hc_1
  replace h := ifO_t hc_1 h
  refine WC.seq (WC.region ?_)
  refine sp (OpV.assign rfl) ?_
  refine WL.nil (En.next (WC.ret (En.then_ret ?_)))
  refine En.ret1 rfl (Res.tmp rfl) ?_
  obtain rfl := Option.some.inj h
  intro w' hs
  exact ⟨rfl, hs.below⟩
 ·
  intro hc_1
  replace h := ifO_f hc_1 h
  refine WC.skip (En.next (WC.seq ?_))
  obtain ⟨x3_4, e3_4, h⟩ := bnd h
  refine WC.region ?_
  refine sp (OpV.move rfl) ?_
  refine sp (OpV.move rfl) ?_
  refine sp (OpV.mulR rfl rfl) ?_
  refine sp (OpV.move rfl) ?_
  refine sp (OpV.quoR rfl rfl e3_4) ?_
  refine sp (OpV.assign rfl) ?_
  refine WL.nil (En.next (WC.ret ?_))
  refine En.ret1 rfl (Res.tmp rfl) ?_
  obtain rfl := Option.some.inj h
  intro w' hs
  exact ⟨rfl, hs.below⟩

theorem w_impl_Scaled_1 {x_p0 : Int} {y_p1 : Int} {c_p2 : ImageT} {c_p3 : Int} {c_p4 : Int} {r : Int} {b2 : Nat} {q2_0 : Option Addr} {n2_0 k2_0 : Nat} {b3 : Nat} {b4 : Nat} (h : impl_Scaled_1 x_p0 y_p1 c_p2 c_p3 c_p4 = some r) {w : World} (r2_0 : Rd tInt w q2_0 n2_0 k2_0 c_p2.Data) (hbb2 : w.heap[b2]? = some (.cells #[.int .i64 c_p2.W, .int .i64 c_p2.H, .slice q2_0 n2_0 k2_0] 96 (0, 0))) (hbb3 : w.heap[b3]? = some (.cells #[.int .i64 c_p3] 3 (0, 0))) (hbb4 : w.heap[b4]? = some (.cells #[.int .i64 c_p4] 3 (0, 0)))  :
    Calls Tryz.prog 184 #[.int .i64 x_p0, .int .i64 y_p1, .pointer (some ⟨b2, 0, .none⟩), .pointer (some ⟨b3, 0, .none⟩), .pointer (some ⟨b4, 0, .none⟩)] w (fun en w' => en = .returned (.int .i64 r) ∧ Ext w w') := by
 obtain rfl := r2_0.1
 unfold impl_Scaled_1 at h
 refine enter (vs := [_, _, _, _, _]) Tryz.func184 rfl rfl rfl rfl ?_
 refine WC.seq (WC.region ?_)
 refine sp (OpV.assign rfl) ?_
 refine WL.nil (En.next (WC.seq ?_))
 obtain ⟨x1_6, e1_6, h⟩ := bnd h
 obtain ⟨x1_14, e1_14, h⟩ := bnd h
 obtain ⟨x1_16, e1_16, h⟩ := bnd h
 obtain ⟨g1_16, o1_16, _, ha1_16, rfl, hd1_16⟩ := Rd.atIdx r2_0 e1_16
 replace hd1_16 : ∀ (j : Nat) v, ([.int .i64 x1_16] : List Value)[j]? = some v → w.cell? ⟨g1_16, o1_16 + (wr ((wr (x1_6 * c_p2.W)) + x1_14)).toNat * 1 + j, .none⟩ = some v := hd1_16
 refine WC.drawn [(7, ?r1v7)] (by kernel_rfl) (by kernel_rfl) ?dH1 ?dK1
 case dH1 =>
  intro W hW hk
  refine hW.step rfl rfl rfl (OpV.fieldAddr rfl fo_96_2) ?_
  refine hW.step rfl rfl rfl (OpV.loadCap rfl pt_23 hbb2 rfl) ?_
  refine hW.step rfl rfl rfl (OpV.fieldAddr rfl fo_96_1) ?_
  refine hW.step rfl rfl rfl (OpV.loadCap rfl pt_3 hbb2 rfl) ?_
  refine hW.step rfl rfl rfl (OpV.loadCap rfl pt_3 hbb3 rfl) ?_
  refine hW.step rfl rfl rfl (OpV.move rfl) ?_
  refine hW.step rfl rfl rfl (OpV.call (evs.cons rfl (evs.cons rfl (evs.cons rfl (evs.nil)))) ca_185 (fun w hs => w_impl_ScalePoint e1_6)) ?_
  refine hW.step rfl rfl rfl (OpV.fieldAddr rfl fo_96_0) ?_
  refine hW.step rfl rfl rfl (OpV.loadCap rfl pt_3 hbb2 rfl) ?_
  refine hW.step rfl rfl rfl (OpV.mulR rfl rfl) ?_
  refine hW.step rfl rfl rfl (OpV.fieldAddr rfl fo_96_0) ?_
  refine hW.step rfl rfl rfl (OpV.loadCap rfl pt_3 hbb2 rfl) ?_
  refine hW.step rfl rfl rfl (OpV.loadCap rfl pt_3 hbb4 rfl) ?_
  refine hW.step rfl rfl rfl (OpV.move rfl) ?_
  refine hW.step rfl rfl rfl (OpV.call (evs.cons rfl (evs.cons rfl (evs.cons rfl (evs.nil)))) ca_185 (fun w hs => w_impl_ScalePoint e1_14)) ?_
  refine hW.step rfl rfl rfl (OpV.addR rfl rfl) ?_
  refine hW.step rfl rfl rfl (OpV.idxA rfl rfl se_23 ha1_16 ⟨(idx_some e1_16).1, (idx_some e1_16).2.1⟩) ?_
  refine hW.step rfl rfl rfl (OpV.load1 rfl pt_3 (fun w hs => hs.cell (hd1_16 0 _ rfl))) ?_
  refine hW.step rfl rfl rfl (OpV.assign rfl) ?_
  refine hk _ ?_
  refine Sub.cons ?_ (Sub.nil _)
  all_goals exact rfl
 refine En.next (WC.ret ?_)
 refine En.ret1 rfl (Res.tmp rfl) ?_
 obtain rfl := Option.some.inj h
 intro w' hs
 exact ⟨rfl, hs.below⟩

theorem w_impl_Scaled {i_p0 : ImageT} {w_p1 : Int} {h_p2 : Int} {r : ImageT} {q0_0 : Option Addr} {n0_0 k0_0 : Nat} (h : impl_Scaled i_p0 w_p1 h_p2 = some r) {w : World} (r0_0 : Rd tInt w q0_0 n0_0 k0_0 i_p0.Data)   :
    Calls Tryz.prog 148 #[.agg #[.int .i64 i_p0.W, .int .i64 i_p0.H, .slice q0_0 n0_0 k0_0], .int .i64 w_p1, .int .i64 h_p2] w (fun en w' => ∃ rv G, en = .returned rv ∧ (∃ (a0_0 : Option Addr) (n0_0 : Nat) (c0_0 : Nat) (f0_0 : List Nat), rv = .agg #[.int .i64 r.W, .int .i64 r.H, .slice a0_0 n0_0 c0_0] ∧ G = [Chunk.own tInt f0_0 a0_0 n0_0 c0_0 r.Data]) ∧ St w G w') := by
 obtain rfl := r0_0.1
 unfold impl_Scaled at h
 refine enter (vs := [_, _, _]) Tryz.func148 rfl rfl rfl rfl ?_
 refine WC.seq (WC.region ?_)
 refine WL.heavy rfl rfl rfl (OpH.box rfl rfl ?_)
 intro b0_0
 refine WL.heavy rfl rfl rfl (OpH.box rfl rfl ?_)
 intro b0_1
 refine WL.heavy rfl rfl rfl (OpH.box rfl rfl ?_)
 intro b0_2
 refine WL.heavy rfl rfl rfl (OpH.alloc zc_96 ?_)
 intro b0_3
 refine WL.nil (En.next (WC.seq (WC.seq ?_)))
 obtain ⟨x1_1, e1_1, h⟩ := bnd h
 obtain ⟨q1_7, e1_7, h⟩ := bnd h
 obtain ⟨q1_12, e1_12, h⟩ := bnd h
 refine WC.region ?_
 refine sp (OpV.loadAll rfl (.tail _ (.tail _ (.tail _ (.head _)))) ag_96) ?_
 refine sp (OpV.call (evs.cons rfl (evs.nil)) ca_149 (fun w hs => w_impl_ImageOk e1_1 (r0_0.ext hs.below))) ?_
 refine sp (OpV.not rfl) ?_
 refine sp (OpV.move rfl) ?_
 refine Lt.ofWL.orQ 10 14 13 (p := ?pz1) (rest := ?qz1) (B := q1_7) rfl (fun hz => orO_t e1_7 hz) ?Tz1 ?Fz1 ?az1 ?bz1 ?cz1 ?dz1 ?ez1
 case Tz1 =>
  intro hcz1 hkz1
  refine sk ?_
  refine sk ?_
  refine sk ?_
  refine hkz1 _ ?_
  repeat (first | exact Sub.refl _ | refine Sub.skip rfl ?_)
 case Fz1 =>
  intro hcz1 hkz1
  have hqz1 := orO_f e1_7 hcz1
  obtain ⟨x1_5, e1_5, hqz1⟩ := bnd hqz1
  obtain rfl := Option.some.inj hqz1
  refine sp (OpV.loadBox rfl pt_3 (.tail _ (.tail _ (.head _))) rfl) ?_
  refine sp (OpV.call (evs.cons rfl (evs.nil)) ca_137 (fun w hs => w_impl_isSide e1_5)) ?_
  refine sp (OpV.not rfl) ?_
  refine hkz1 _ ?_ ?_
  exact rfl
  repeat (first | exact Sub.refl _ | refine Sub.skip rfl ?_)
 case az1 => exact rfl
 case bz1 => exact rfl
 case cz1 => exact rfl
 case dz1 => exact rfl
 refine sp (OpV.move rfl) ?_
 refine Lt.ofWL.orQ 15 19 18 (p := ?pz2) (rest := ?qz2) (B := q1_12) rfl (fun hz => orO_t e1_12 hz) ?Tz2 ?Fz2 ?az2 ?bz2 ?cz2 ?dz2 ?ez2
 case Tz2 =>
  intro hcz2 hkz2
  refine sk ?_
  refine sk ?_
  refine sk ?_
  refine hkz2 _ ?_
  repeat (first | exact Sub.refl _ | refine Sub.skip rfl ?_)
 case Fz2 =>
  intro hcz2 hkz2
  have hqz2 := orO_f e1_12 hcz2
  obtain ⟨x1_10, e1_10, hqz2⟩ := bnd hqz2
  obtain rfl := Option.some.inj hqz2
  refine sp (OpV.loadBox rfl pt_3 (.tail _ (.head _)) rfl) ?_
  refine sp (OpV.call (evs.cons rfl (evs.nil)) ca_137 (fun w hs => w_impl_isSide e1_10)) ?_
  refine sp (OpV.not rfl) ?_
  refine hkz2 _ ?_ ?_
  exact rfl
  repeat (first | exact Sub.refl _ | refine Sub.skip rfl ?_)
 case az2 => exact rfl
 case bz2 => exact rfl
 case cz2 => exact rfl
 case dz2 => exact rfl
 refine WL.nil (En.next ?_)
 refine WC.cond rfl ?_ ?_
 ·
  intro hc_1
  replace h := ifO_t hc_1 h
  refine WC.seq (WC.region ?_)
  refine sp (OpV.build (evps.nil) bd_96_) ?_
  refine WL.heavy0 rfl rfl (OpH.storeTo (A := []) [_, _, _] rfl rfl rfl ts_96 rfl rfl rfl ?_)
  refine WL.nil (En.next (WC.ret (En.then_ret ?_)))
  refine En.ret1 rfl (Res.cell rfl (.head _) ag_96) ?_
  obtain rfl := Option.some.inj h
  intro w' hs
  have hs := ((hs).ownNil (A := tInt)).sub (.cons_cons _ (.cons _ (.cons _ (.cons _ (.cons _ (.slnil))))))
  exact ⟨_, _, rfl, ⟨.none, 0, 0, [], rfl, rfl⟩, hs⟩
 ·
  intro hc_1
  replace h := ifO_f hc_1 h
  refine WC.skip (En.next (WC.seq ?_))
  obtain ⟨x3_3, e3_3, h⟩ := bnd h
  refine WC.region ?_
  refine sp (OpV.loadBox rfl pt_3 (.tail _ (.tail _ (.head _))) rfl) ?_
  refine sp (OpV.loadBox rfl pt_3 (.tail _ (.head _)) rfl) ?_
  refine sp (OpV.makeFunc (evs.cons rfl (evs.cons rfl (evs.cons rfl (evs.nil))))) ?_
  refine WL.heavy rfl rfl rfl (OpH.callR (evs.cons rfl (evs.cons rfl (evs.cons rfl (evs.nil)))) ca_177 (fun w hs => w_impl_mapImage e3_3 (fun hx he => CallsV.cap ca_184 (w_impl_Scaled_1 he ((r0_0.ext hs.below).ext hx) (Ext.blk hx (hs.mem (.tail _ (.tail _ (.tail _ (.head _)))))) (Ext.blk hx (hs.mem (.tail _ (.head _)))) (Ext.blk hx (hs.mem (.tail _ (.tail _ (.head _)))))))) ?_)
  rintro _ _ ⟨a3_300, n3_300, c3_300, f3_300, rfl, rfl⟩
  refine WL.heavy0 rfl rfl (OpH.storeTo (A := [_]) [_, _, _] rfl rfl rfl ts_96 rfl rfl rfl ?_)
  refine WL.nil (En.next (WC.ret ?_))
  refine En.ret1 rfl (Res.cell rfl (.tail _ (.head _)) ag_96) ?_
  obtain rfl := Option.some.inj h
  intro w' hs
  have hs := (hs).sub (.cons_cons _ (.cons _ (.cons _ (.cons _ (.cons _ (.slnil))))))
  exact ⟨_, _, rfl, ⟨a3_300, n3_300, c3_300, f3_300, rfl, rfl⟩, hs⟩

theorem w_impl_channel {p_p0 : Int} {k_p1 : Int} {r : Int}  (h : impl_channel p_p0 k_p1 = some r) {w : World}    :
    Calls Tryz.prog 143 #[.int .i64 p_p0, .int .i64 k_p1] w (fun en w' => en = .returned (.int .i64 r) ∧ Ext w w') := by
 unfold impl_channel at h
 refine enter (vs := [_, _]) Tryz.func143 rfl rfl rfl rfl ?_
 refine WC.seq (WC.region ?_)
 refine sp (OpV.assign rfl) ?_
 refine WL.nil (En.next (WC.seq ?_))
 obtain ⟨x1_4, e1_4, h⟩ := bnd h
 refine WC.region ?_
 refine sp (OpV.move rfl) ?_
 refine sp (OpV.move rfl) ?_
 refine sp (OpV.mulR rfl rfl) ?_
 refine sp (OpV.subR rfl rfl) ?_
 refine sp (OpV.shrR rfl rfl e1_4) ?_
 refine sp (OpV.andR rfl rfl) ?_
 refine sp (OpV.assign rfl) ?_
 refine WL.nil (En.next (WC.ret ?_))
 refine En.ret1 rfl (Res.tmp rfl) ?_
 obtain rfl := Option.some.inj h
 intro w' hs
 exact ⟨rfl, hs.below⟩

theorem w_impl_Part {a_p0 : Int} {b_p1 : Int} {r : Int}  (h : impl_Part a_p0 b_p1 = some r) {w : World}    :
    Calls Tryz.prog 151 #[.int .i64 a_p0, .int .i64 b_p1] w (fun en w' => en = .returned (.int .i64 r) ∧ Ext w w') := by
 unfold impl_Part at h
 refine enter (vs := [_, _]) Tryz.func151 rfl rfl rfl rfl ?_
 refine WC.seq (WC.region ?_)
 refine sp (OpV.assign rfl) ?_
 refine WL.nil (En.next (WC.seq (WC.seq ?_)))
 obtain ⟨x1_1, e1_1, h⟩ := bnd h
 obtain ⟨q1_7, e1_7, h⟩ := bnd h
 refine WC.region ?_
 refine sp (OpV.move rfl) ?_
 refine sp (OpV.call (evs.cons rfl (evs.cons rfl (evs.cons rfl (evs.nil)))) ca_59 (fun w hs => w_impl_within e1_1)) ?_
 refine sp (OpV.not rfl) ?_
 refine sp (OpV.move rfl) ?_
 refine Lt.ofWL.orQ 8 12 11 (p := ?pz1) (rest := ?qz1) (B := q1_7) rfl (fun hz => orO_t e1_7 hz) ?Tz1 ?Fz1 ?az1 ?bz1 ?cz1 ?dz1 ?ez1
 case Tz1 =>
  intro hcz1 hkz1
  refine sk ?_
  refine sk ?_
  refine sk ?_
  refine hkz1 _ ?_
  repeat (first | exact Sub.refl _ | refine Sub.skip rfl ?_)
 case Fz1 =>
  intro hcz1 hkz1
  have hqz1 := orO_f e1_7 hcz1
  obtain ⟨x1_5, e1_5, hqz1⟩ := bnd hqz1
  obtain rfl := Option.some.inj hqz1
  refine sp (OpV.move rfl) ?_
  refine sp (OpV.call (evs.cons rfl (evs.cons rfl (evs.cons rfl (evs.nil)))) ca_59 (fun w hs => w_impl_within e1_5)) ?_
  refine sp (OpV.not rfl) ?_
  refine hkz1 _ ?_ ?_
  exact rfl
  repeat (first | exact Sub.refl _ | refine Sub.skip rfl ?_)
 case az1 => exact rfl
 case bz1 => exact rfl
 case cz1 => exact rfl
 case dz1 => exact rfl
 refine WL.nil (En.next ?_)
 refine WC.cond rfl ?_ ?_
 ·
  intro hc_1
  replace h := ifO_t hc_1 h
  refine WC.seq (WC.region ?_)
  refine sp (OpV.assign rfl) ?_
  refine WL.nil (En.next (WC.ret (En.then_ret ?_)))
  refine En.ret1 rfl (Res.tmp rfl) ?_
  obtain rfl := Option.some.inj h
  intro w' hs
  exact ⟨rfl, hs.below⟩
 ·
  intro hc_1
  replace h := ifO_f hc_1 h
  refine WC.skip (En.next (WC.seq (WC.region ?_)))
  refine sp (OpV.move rfl) ?_
  refine sp (OpV.move rfl) ?_
  refine sp (OpV.mulR rfl rfl) ?_
  refine sp (OpV.addR rfl rfl) ?_
  refine sp (OpV.quoR rfl rfl rfl) ?_
  refine sp (OpV.assign rfl) ?_
  refine WL.nil (En.next (WC.ret ?_))
  refine En.ret1 rfl (Res.tmp rfl) ?_
  obtain rfl := Option.some.inj h
  intro w' hs
  exact ⟨rfl, hs.below⟩

theorem w_impl_Fade {p_p0 : Int} {alpha_p1 : Int} {r : Int}  (h : impl_Fade p_p0 alpha_p1 = some r) {w : World}    :
    Calls Tryz.prog 186 #[.int .i64 p_p0, .int .i64 alpha_p1] w (fun en w' => en = .returned (.int .i64 r) ∧ Ext w w') := by
 unfold impl_Fade at h
 refine enter (vs := [_, _]) Tryz.func186 rfl rfl rfl rfl ?_
 refine WC.seq (WC.region ?_)
 refine sp (OpV.assign rfl) ?_
 refine WL.nil (En.next (WC.seq (WC.seq ?_)))
 obtain ⟨x1_1, e1_1, h⟩ := bnd h
 obtain ⟨q1_7, e1_7, h⟩ := bnd h
 refine WC.region ?_
 refine sp (OpV.move rfl) ?_
 refine sp (OpV.call (evs.cons rfl (evs.nil)) ca_141 (fun w hs => w_impl_isPixel e1_1)) ?_
 refine sp (OpV.not rfl) ?_
 refine sp (OpV.move rfl) ?_
 refine Lt.ofWL.orQ 8 12 11 (p := ?pz1) (rest := ?qz1) (B := q1_7) rfl (fun hz => orO_t e1_7 hz) ?Tz1 ?Fz1 ?az1 ?bz1 ?cz1 ?dz1 ?ez1
 case Tz1 =>
  intro hcz1 hkz1
  refine sk ?_
  refine sk ?_
  refine sk ?_
  refine hkz1 _ ?_
  repeat (first | exact Sub.refl _ | refine Sub.skip rfl ?_)
 case Fz1 =>
  intro hcz1 hkz1
  have hqz1 := orO_f e1_7 hcz1
  obtain ⟨x1_5, e1_5, hqz1⟩ := bnd hqz1
  obtain rfl := Option.some.inj hqz1
  refine sp (OpV.move rfl) ?_
  refine sp (OpV.call (evs.cons rfl (evs.cons rfl (evs.cons rfl (evs.nil)))) ca_59 (fun w hs => w_impl_within e1_5)) ?_
  refine sp (OpV.not rfl) ?_
  refine hkz1 _ ?_ ?_
  exact rfl
  repeat (first | exact Sub.refl _ | refine Sub.skip rfl ?_)
 case az1 => exact rfl
 case bz1 => exact rfl
 case cz1 => exact rfl
 case dz1 => exact rfl
 refine WL.nil (En.next ?_)
 refine WC.cond rfl ?_ ?_
 ·
  intro hc_1
  replace h := ifO_t hc_1 h
  refine WC.seq (WC.region ?_)
  refine sp (OpV.assign rfl) ?_
  refine WL.nil (En.next (WC.ret (En.then_ret ?_)))
  refine En.ret1 rfl (Res.tmp rfl) ?_
  obtain rfl := Option.some.inj h
  intro w' hs
  exact ⟨rfl, hs.below⟩
 ·
  intro hc_1
  replace h := ifO_f hc_1 h
  refine WC.skip (En.next (WC.seq ?_))
  obtain ⟨x3_1, e3_1, h⟩ := bnd h
  obtain ⟨x3_3, e3_3, h⟩ := bnd h
  refine WC.region ?_
  refine sp (OpV.move rfl) ?_
  refine sp (OpV.call (evs.cons rfl (evs.cons rfl (evs.nil))) ca_143 (fun w hs => w_impl_channel e3_1)) ?_
  refine sp (OpV.move rfl) ?_
  refine sp (OpV.call (evs.cons rfl (evs.cons rfl (evs.nil))) ca_151 (fun w hs => w_impl_Part e3_3)) ?_
  refine sp (OpV.shlR rfl rfl rfl) ?_
  refine sp (OpV.move rfl) ?_
  refine sp (OpV.andR rfl rfl) ?_
  refine sp (OpV.orR rfl rfl) ?_
  refine sp (OpV.assign rfl) ?_
  refine WL.nil (En.next (WC.ret ?_))
  refine En.ret1 rfl (Res.tmp rfl) ?_
  obtain rfl := Option.some.inj h
  intro w' hs
  exact ⟨rfl, hs.below⟩

theorem w_impl_faded {i_p0 : ImageT} {alpha_p1 : Int} {r : ImageT × (List Int)} {q0_0 : Option Addr} {n0_0 k0_0 : Nat} {f0_0 : List Nat} (h : impl_faded i_p0 alpha_p1 = some r) {w0 w : World} {C : List Chunk} (hs0 : St w0 (Chunk.own tInt f0_0 q0_0 n0_0 k0_0 i_p0.Data :: C) w)  :
    Calls Tryz.prog 150 #[.agg #[.int .i64 i_p0.W, .int .i64 i_p0.H, .slice q0_0 n0_0 k0_0], .int .i64 alpha_p1] w (fun en w' => ∃ rv G, en = .returned rv ∧ (∃ (g0_0 : List Nat), rv = .agg #[.int .i64 r.1.W, .int .i64 r.1.H, .slice q0_0 n0_0 k0_0] ∧ G = Chunk.own tInt g0_0 q0_0 n0_0 k0_0 r.2 :: C) ∧ St w0 G w') := by
 unfold impl_faded at h
 refine enterF hs0 (vs := [_, _]) Tryz.func150 rfl rfl rfl rfl ?_
 refine WC.seq (WC.region ?_)
 refine WL.heavy rfl rfl rfl (OpH.box rfl rfl ?_)
 intro b0_0
 refine WL.heavy rfl rfl rfl (OpH.alloc zc_96 ?_)
 intro b0_1
 refine WL.nil (En.next (WC.seq (WC.seq (WC.region ?_))))
 refine sp (OpV.fieldAddr rfl fo_96_2) ?_
 refine sp (OpV.loadBox rfl pt_23 (.tail _ (.head _)) rfl) ?_
 refine sp (OpV.inhF fun hin => OpV.lenO (xs := i_p0.Data) rfl si_23 rfl (ownLen hin (.tail _ (.tail _ (.head _))))) ?_
 refine sp (OpV.move rfl) ?_
 refine WL.nil (En.next (WC.block ?_))
 obtain ⟨zy0, ezy0, h⟩ := bnd h
 refine WC.cut (X := ((List Int)) × ((List Nat))) (.exit 0) (fun x => zy0 = x.1) (fun x => match x with | (i_0e, fi_0e) => [(2, .pointer (some ⟨b0_0, 0, .none⟩)), (4, .pointer (some ⟨b0_1, 0, .none⟩))]) (fun x => match x with | (i_0e, fi_0e) => (Chunk.box b0_0 96 [.int .i64 i_p0.W, .int .i64 i_p0.H, .slice q0_0 n0_0 k0_0] :: Chunk.own tInt fi_0e q0_0 n0_0 k0_0 i_0e :: Chunk.box b0_1 96 [.int .i64 0, .int .i64 0, .slice .none 0 0] :: C)) ?_ ?_
 ·
  rintro ⟨i_0e, fi_0e⟩ hx
  replace hx : i_0e = zy0 := hx.symm
  subst hx
  show En _ _ _ _ [(2, .pointer (some ⟨b0_0, 0, .none⟩)), (4, .pointer (some ⟨b0_1, 0, .none⟩))] (Chunk.box b0_0 96 [.int .i64 i_p0.W, .int .i64 i_p0.H, .slice q0_0 n0_0 k0_0] :: Chunk.own tInt fi_0e q0_0 n0_0 k0_0 i_0e :: Chunk.box b0_1 96 [.int .i64 0, .int .i64 0, .slice .none 0 0] :: C)
  refine En.block_exit (En.next (WC.seq (WC.region ?_)))
  refine sp (OpV.loadAll rfl (.head _) ag_96) ?_
  refine WL.heavy0 rfl rfl (OpH.storeTo (A := [_, _]) [_, _, _] rfl rfl rfl ts_96 rfl rfl rfl ?_)
  refine WL.nil (En.next (WC.ret ?_))
  refine En.ret1 rfl (Res.cell rfl (.tail _ (.tail _ (.head _))) ag_96) ?_
  obtain rfl := Option.some.inj h
  intro w' hs
  have hs := ((hs).perm (List.perm_middle (l₁ := [_]))).sub (.cons_cons _ (.cons _ (.cons _ (List.Sublist.refl _))))
  exact ⟨_, _, rfl, ⟨fi_0e, rfl, rfl⟩, hs⟩
 ·
  intro zK0_0
  refine WC.loopP (G := (List Nat)) (fun s g => match s, g with | (i_0, v_0), fi_0 => [(1, .int .i64 alpha_p1), (2, .pointer (some ⟨b0_0, 0, .none⟩)), (4, .pointer (some ⟨b0_1, 0, .none⟩)), (8, .slice q0_0 n0_0 k0_0), (9, .int .i64 (i_p0.Data.length : Int)), (10, .int .i64 v_0)]) (fun s g => match s, g with | (i_0, v_0), fi_0 => (Chunk.box b0_0 96 [.int .i64 i_p0.W, .int .i64 i_p0.H, .slice q0_0 n0_0 k0_0] :: Chunk.own tInt fi_0 q0_0 n0_0 k0_0 i_0 :: Chunk.box b0_1 96 [.int .i64 0, .int .i64 0, .slice .none 0 0] :: C)) (i_p0.Data, 0) f0_0 ezy0 (by exact Sub.cons rfl (Sub.cons rfl (Sub.cons rfl (Sub.cons rfl (Sub.cons rfl (Sub.cons rfl (Sub.nil _))))))) (by exact (fun _ h => ((h).perm (List.perm_middle (l₁ := [_, _]))).perm (List.perm_middle (l₁ := [_, _])))) ?_
  rintro zm0 ⟨i_0, v_0⟩ fi_0 zo0 zf0 zb0 ze0
  have zh0 : impl_faded_L0 i_p0 alpha_p1 i_0 v_0 = some zo0 := zf0
  unfold impl_faded_L0 at zh0
  show WC _ _ _ _ _ [(1, .int .i64 alpha_p1), (2, .pointer (some ⟨b0_0, 0, .none⟩)), (4, .pointer (some ⟨b0_1, 0, .none⟩)), (8, .slice q0_0 n0_0 k0_0), (9, .int .i64 (i_p0.Data.length : Int)), (10, .int .i64 v_0)] (Chunk.box b0_0 96 [.int .i64 i_p0.W, .int .i64 i_p0.H, .slice q0_0 n0_0 k0_0] :: Chunk.own tInt fi_0 q0_0 n0_0 k0_0 i_0 :: Chunk.box b0_1 96 [.int .i64 0, .int .i64 0, .slice .none 0 0] :: C)
  refine WC.seq (WC.region ?_)
  refine sp (OpV.lss rfl rfl) ?_
  refine WL.nil (En.next (WC.seq ?_))
  refine WC.cond rfl ?_ ?_
  ·
   intro hc_1
   replace zh0 := ifO_t hc_1 zh0
   refine WC.skip (En.next (WC.seq (WC.block (WC.seq ?_))))
   refine WC.inh fun hin3 => ?_
   obtain ⟨x3_1, e3_1, zh0⟩ := bnd zh0
   obtain ⟨g3_1, ha3_1⟩ := ownAddr hin3 (.tail _ (.head _)) e3_1
   have hn3_1 := ownLen hin3 (.tail _ (.head _))
   refine WC.region ?_
   refine sp (OpV.move rfl) ?_
   refine sp (OpV.idxA rfl rfl se_23 ha3_1 ⟨(idx_some e3_1).1, by rw [hn3_1]; exact (idx_some e3_1).2.1⟩) ?_
   refine sp (OpV.load1 rfl pt_3 (fun w hs => Rd.cell1 tInt_flat (Ow.rd (hs.mem (.tail _ (.head _)))) e3_1 ha3_1 rfl)) ?_
   refine sp (OpV.assign rfl) ?_
   refine sp (OpV.assign rfl) ?_
   refine WL.nil (En.next ?_)
   refine WC.inh fun hin4 => ?_
   obtain ⟨x4_5, e4_5, zh0⟩ := bnd zh0
   have hn4_6 := ownLen hin4 (.tail _ (.head _))
   obtain ⟨x4_7, e4_7, zh0⟩ := bnd zh0
   obtain ⟨g4_6, ha4_6⟩ := ownAddrU hin4 (.tail _ (.head _)) e4_7
   refine WC.wkF (fun _ h => h.perm (List.perm_middle (l₁ := [_]))) ?_
   refine WC.drawnH [_] (_ :: _ :: C) (fun _ h => h) (by kernel_rfl) ?_
   refine WAE.take (i := 0) rfl (by kernel_rfl) (by kernel_rfl) (by kernel_rfl) rfl rfl rfl (OpV.fieldAddr rfl fo_96_2) ?_
   refine WAE.take (i := 1) rfl (by kernel_rfl) (by kernel_rfl) (by kernel_rfl) rfl rfl rfl (OpV.loadBox rfl pt_23 (.head _) rfl) ?_
   refine WAE.take (i := 2) rfl (by kernel_rfl) (by kernel_rfl) (by kernel_rfl) rfl rfl rfl (OpV.move rfl) ?_
   refine WAE.take (i := 3) rfl (by kernel_rfl) (by kernel_rfl) (by kernel_rfl) rfl rfl rfl (OpV.move rfl) ?_
   refine WAE.take (i := 4) rfl (by kernel_rfl) (by kernel_rfl) (by kernel_rfl) rfl rfl rfl (OpV.move rfl) ?_
   refine WAE.take (i := 5) rfl (by kernel_rfl) (by kernel_rfl) (by kernel_rfl) rfl rfl rfl (OpV.call (evs.cons rfl (evs.cons rfl (evs.nil))) ca_186 (fun w hs => w_impl_Fade e4_5)) ?_
   refine WAE.take (i := 6) rfl (by kernel_rfl) (by kernel_rfl) (by kernel_rfl) rfl rfl rfl (OpV.idxA rfl rfl se_23 ha4_6 ⟨(upd_some e4_7).1.1, by rw [hn4_6]; exact (upd_some e4_7).1.2⟩) ?_
   refine WAE.all (rs := [7]) (by kernel_rfl) rfl (AllR.cons0 rfl rfl rfl ?_ AllR.nil)
   refine OpH.wkF (fun _ h => St.elFlat tInt_flat x4_5 h) ?_
   refine OpH.setEl (A := tInt) ha4_6 rfl rfl rfl ts_3 e4_7 ?_
   intro f4_7
   refine ⟨[_], rfl, ?_⟩
   refine WAE.rebase (H := []) ?_
   refine WAE.done (by kernel_rfl) ?_ _
   refine En.block_norm (En.next (WC.region ?_))
   refine sp (OpV.addR rfl rfl) ?_
   refine sp (OpV.move rfl) ?_
   refine WL.nil ?_
   exact En.backP zb0 zh0 f4_7 (Sub.cons rfl (Sub.cons rfl (Sub.cons rfl (Sub.cons rfl (Sub.cons rfl (Sub.cons rfl (Sub.nil _))))))) (fun _ h => (((h).perm (List.perm_middle (l₁ := [_, _]))).perm (List.perm_middle (l₁ := [_]))).perm (List.perm_middle (l₁ := [_, _])))
  ·
   intro hc_1
   replace zh0 := ifO_f hc_1 zh0
   refine WC.exit (En.then_exit (En.then_exit ?_))
   have hx := exitP ze0 zh0
   exact En.wk _ _ (Sub.cons rfl (Sub.cons rfl (Sub.nil _))) (fun _ h => h) (zK0_0 (i_0, fi_0) hx.symm)

theorem w_impl_PlaneImage {p_p0 : PlaneT} {r : ImageT × Bool} {q0_0 : Option Addr} {n0_0 k0_0 : Nat} (h : impl_PlaneImage p_p0 = some r) {w : World} (r0_0 : Rd tInt w q0_0 n0_0 k0_0 p_p0.Words)   :
    Calls Tryz.prog 108 #[.agg #[.bool p_p0.On, .int .i64 p_p0.X, .int .i64 p_p0.Y, .int .i64 p_p0.W, .int .i64 p_p0.H, .int .i64 p_p0.Layout, .slice q0_0 n0_0 k0_0, .int .i64 p_p0.Alpha, .int .i64 p_p0.Orient, .int .i64 p_p0.ToW, .int .i64 p_p0.ToH]] w (fun en w' => ∃ rv G, en = .returned rv ∧ (∃ (a0_0 : Option Addr) (n0_0 : Nat) (c0_0 : Nat) (f0_0 : List Nat), rv = .tuple #[.agg #[.int .i64 r.1.W, .int .i64 r.1.H, .slice a0_0 n0_0 c0_0], .bool r.2] ∧ G = [Chunk.own tInt f0_0 a0_0 n0_0 c0_0 r.1.Data]) ∧ St w G w') := by
 obtain rfl := r0_0.1
 unfold impl_PlaneImage at h
 refine enter (vs := [_]) Tryz.func108 rfl rfl rfl rfl ?_
 refine WC.seq (WC.region ?_)
 refine WL.heavy rfl rfl rfl (OpH.box rfl rfl ?_)
 intro b0_0
 refine WL.heavy rfl rfl rfl (OpH.alloc zc_96 ?_)
 intro b0_1
 refine sp (OpV.assign rfl) ?_
 refine WL.nil (En.next (WC.seq (WC.seq ?_)))
 obtain ⟨q1_8, e1_8, h⟩ := bnd h
 refine WC.region ?_
 refine sp (OpV.fieldAddr rfl fo_82_0) ?_
 refine sp (OpV.loadBox rfl pt_4 (.tail _ (.head _)) rfl) ?_
 refine sp (OpV.not rfl) ?_
 refine sp (OpV.move rfl) ?_
 refine Lt.ofWL.orQ 9 14 13 (p := ?pz1) (rest := ?qz1) (B := q1_8) rfl (fun hz => orO_t e1_8 hz) ?Tz1 ?Fz1 ?az1 ?bz1 ?cz1 ?dz1 ?ez1
 case Tz1 =>
  intro hcz1 hkz1
  refine sk ?_
  refine sk ?_
  refine sk ?_
  refine sk ?_
  refine hkz1 _ ?_
  repeat (first | exact Sub.refl _ | refine Sub.skip rfl ?_)
 case Fz1 =>
  intro hcz1 hkz1
  have hqz1 := orO_f e1_8 hcz1
  obtain ⟨x1_6, e1_6, hqz1⟩ := bnd hqz1
  obtain rfl := Option.some.inj hqz1
  refine sp (OpV.fieldAddr rfl fo_82_7) ?_
  refine sp (OpV.loadBox rfl pt_3 (.tail _ (.head _)) rfl) ?_
  refine sp (OpV.call (evs.cons rfl (evs.cons rfl (evs.cons rfl (evs.nil)))) ca_59 (fun w hs => w_impl_within e1_6)) ?_
  refine sp (OpV.not rfl) ?_
  refine hkz1 _ ?_ ?_
  exact rfl
  repeat (first | exact Sub.refl _ | refine Sub.skip rfl ?_)
 case az1 => exact rfl
 case bz1 => exact rfl
 case cz1 => exact rfl
 case dz1 => exact rfl
 refine WL.nil (En.next ?_)
 refine WC.cond rfl ?_ ?_
 ·
  intro hc_1
  replace h := ifO_t hc_1 h
  refine WC.seq (WC.region ?_)
  refine sp (OpV.build (evps.nil) bd_96_) ?_
  refine WL.heavy0 rfl rfl (OpH.storeTo (A := []) [_, _, _] rfl rfl rfl ts_96 rfl rfl rfl ?_)
  refine sp (OpV.assign rfl) ?_
  refine WL.nil (En.next (WC.ret (En.then_ret ?_)))
  refine En.ret2 rfl (Res.cell rfl (.head _) ag_96) (Res.tmp rfl) ?_
  obtain rfl := Option.some.inj h
  intro w' hs
  have hs := ((hs).ownNil (A := tInt)).sub (.cons_cons _ (.cons _ (.cons _ (.slnil))))
  exact ⟨_, _, rfl, ⟨.none, 0, 0, [], rfl, rfl⟩, hs⟩
 ·
  intro hc_1
  replace h := ifO_f hc_1 h
  refine WC.skip (En.next (WC.seq ?_))
  obtain ⟨⟨x3_8a, x3_8b⟩, e3_8, h⟩ := bnd h
  refine WC.region ?_
  refine sp (OpV.fieldAddr rfl fo_82_6) ?_
  refine sp (OpV.loadBox rfl pt_23 (.tail _ (.head _)) rfl) ?_
  refine sp (OpV.fieldAddr rfl fo_82_3) ?_
  refine sp (OpV.loadBox rfl pt_3 (.tail _ (.head _)) rfl) ?_
  refine sp (OpV.fieldAddr rfl fo_82_4) ?_
  refine sp (OpV.loadBox rfl pt_3 (.tail _ (.head _)) rfl) ?_
  refine sp (OpV.fieldAddr rfl fo_82_5) ?_
  refine sp (OpV.loadBox rfl pt_3 (.tail _ (.head _)) rfl) ?_
  refine WL.heavy rfl rfl rfl (OpH.callR (evs.cons rfl (evs.cons rfl (evs.cons rfl (evs.cons rfl (evs.nil))))) ca_146 (fun w hs => w_impl_LoadImage e3_8 (r0_0.ext hs.below)) ?_)
  rintro _ _ ⟨a3_800, n3_800, c3_800, f3_800, rfl, rfl⟩
  refine sp (OpV.move rfl) ?_
  refine sp (OpV.extract rfl rfl) ?_
  refine sp (OpV.extract rfl rfl) ?_
  refine WL.heavy rfl rfl rfl (OpH.alloc zc_96 ?_)
  intro b3_12
  refine WL.heavy0 rfl rfl (OpH.storeTo (A := []) [_, _, _] rfl rfl rfl ts_96 rfl rfl rfl ?_)
  refine sp (OpV.assign rfl) ?_
  refine WL.nil (En.next (WC.seq ?_))
  obtain ⟨x4_3, e4_3, h⟩ := bnd h
  refine WC.region ?_
  refine sp (OpV.loadAll rfl (.head _) ag_96) ?_
  refine sp (OpV.fieldAddr rfl fo_82_8) ?_
  refine sp (OpV.loadBox rfl pt_3 (.tail _ (.tail _ (.tail _ (.head _)))) rfl) ?_
  refine WL.heavy rfl rfl rfl (OpH.callR (evs.cons rfl (evs.cons rfl (evs.nil))) ca_147 (fun w hs => w_impl_Oriented e4_3 (Ow.rd (hs.mem (.tail _ (.head _))))) ?_)
  rintro _ _ ⟨a4_300, n4_300, c4_300, f4_300, rfl, rfl⟩
  refine WL.heavy0 rfl rfl (OpH.storeTo (A := [_]) [_, _, _] rfl rfl rfl ts_96 rfl rfl rfl ?_)
  refine WL.nil (En.next (WC.seq (WC.seq (WC.region ?_))))
  refine sp (OpV.fieldAddr rfl fo_82_9) ?_
  refine sp (OpV.loadBox rfl pt_3 (.tail _ (.tail _ (.tail _ (.tail _ (.head _))))) rfl) ?_
  refine sp (OpV.neq rfl rfl) ?_
  refine sp (OpV.move rfl) ?_
  refine Lt.ofWL.or 35 39 38 (p := ?pz2) (rest := ?qz2) (B := ?Bz2) rfl ?Tz2 ?Fz2 ?az2 ?bz2 ?cz2 ?dz2 ?ez2
  case Tz2 =>
   intro hcz2 hkz2
   refine sk ?_
   refine sk ?_
   refine sk ?_
   refine hkz2 _ ?_
   repeat (first | exact Sub.refl _ | refine Sub.skip rfl ?_)
  case Fz2 =>
   intro hcz2 hkz2
   refine sp (OpV.fieldAddr rfl fo_82_10) ?_
   refine sp (OpV.loadBox rfl pt_3 (.tail _ (.tail _ (.tail _ (.tail _ (.head _))))) rfl) ?_
   refine sp (OpV.neq rfl rfl) ?_
   refine hkz2 _ ?_ ?_
   exact rfl
   repeat (first | exact Sub.refl _ | refine Sub.skip rfl ?_)
  case az2 => exact rfl
  case bz2 => exact rfl
  case cz2 => exact rfl
  case dz2 => exact rfl
  refine WL.nil (En.next ?_)
  refine WC.cond rfl ?_ ?_
  ·
   intro hc_2
   replace h := ifO_t hc_2 h
   obtain ⟨x6_5, e6_5, h⟩ := bnd h
   refine WC.region ?_
   refine sp (OpV.loadAll rfl (.tail _ (.head _)) ag_96) ?_
   refine sp (OpV.fieldAddr rfl fo_82_9) ?_
   refine sp (OpV.loadBox rfl pt_3 (.tail _ (.tail _ (.tail _ (.tail _ (.head _))))) rfl) ?_
   refine sp (OpV.fieldAddr rfl fo_82_10) ?_
   refine sp (OpV.loadBox rfl pt_3 (.tail _ (.tail _ (.tail _ (.tail _ (.head _))))) rfl) ?_
   refine WL.heavy rfl rfl rfl (OpH.callR (evs.cons rfl (evs.cons rfl (evs.cons rfl (evs.nil)))) ca_148 (fun w hs => w_impl_Scaled e6_5 (Ow.rd (hs.mem (.head _)))) ?_)
   rintro _ _ ⟨a6_500, n6_500, c6_500, f6_500, rfl, rfl⟩
   refine WL.heavy0 rfl rfl (OpH.storeTo (A := [_, _]) [_, _, _] rfl rfl rfl ts_96 rfl rfl rfl ?_)
   refine WL.nil (En.next (WC.seq (WC.seq ?_)))
   obtain ⟨q7_6, e7_6, h⟩ := bnd h
   refine WC.region ?_
   refine sp (OpV.move rfl) ?_
   refine sp (OpV.not rfl) ?_
   refine sp (OpV.move rfl) ?_
   refine Lt.ofWL.orQ 48 52 51 (p := ?pz3) (rest := ?qz3) (B := q7_6) rfl (fun hz => orO_t e7_6 hz) ?Tz3 ?Fz3 ?az3 ?bz3 ?cz3 ?dz3 ?ez3
   case Tz3 =>
    intro hcz3 hkz3
    refine sk ?_
    refine sk ?_
    refine sk ?_
    refine hkz3 _ ?_
    repeat (first | exact Sub.refl _ | refine Sub.skip rfl ?_)
   case Fz3 =>
    intro hcz3 hkz3
    have hqz3 := orO_f e7_6 hcz3
    obtain ⟨x7_4, e7_4, hqz3⟩ := bnd hqz3
    obtain rfl := Option.some.inj hqz3
    refine sp (OpV.loadAll rfl (.tail _ (.tail _ (.head _))) ag_96) ?_
    refine sp (OpV.call (evs.cons rfl (evs.nil)) ca_149 (fun w hs => w_impl_ImageOk e7_4 (Ow.rd (hs.mem (.head _))))) ?_
    refine sp (OpV.not rfl) ?_
    refine hkz3 _ ?_ ?_
    exact rfl
    repeat (first | exact Sub.refl _ | refine Sub.skip rfl ?_)
   case az3 => exact rfl
   case bz3 => exact rfl
   case cz3 => exact rfl
   case dz3 => exact rfl
   refine WL.nil (En.next ?_)
   refine WC.cond rfl ?_ ?_
   ·
    intro hc_3
    replace h := ifO_t hc_3 h
    refine WC.seq (WC.region ?_)
    refine sp (OpV.build (evps.nil) bd_96_) ?_
    refine WL.heavy0 rfl rfl (OpH.storeTo (A := [_, _, _, _]) [_, _, _] rfl rfl rfl ts_96 rfl rfl rfl ?_)
    refine sp (OpV.assign rfl) ?_
    refine WL.nil (En.next (WC.ret (En.then_ret ?_)))
    refine En.ret2 rfl (Res.cell rfl (.tail _ (.tail _ (.tail _ (.tail _ (.head _))))) ag_96) (Res.tmp rfl) ?_
    obtain rfl := Option.some.inj h
    intro w' hs
    have hs := ((hs).ownNil (A := tInt)).sub (.cons_cons _ (.cons _ (.cons _ (.cons _ (.cons _ (.cons _ (.cons _ (.slnil))))))))
    exact ⟨_, _, rfl, ⟨.none, 0, 0, [], rfl, rfl⟩, hs⟩
   ·
    intro hc_3
    replace h := ifO_f hc_3 h
    refine WC.skip (En.next (WC.seq ?_))
    obtain ⟨⟨x9_3a, x9_3b⟩, e9_3, h⟩ := bnd h
    refine WC.region ?_
    refine sp (OpV.loadAll rfl (.tail _ (.tail _ (.head _))) ag_96) ?_
    refine sp (OpV.fieldAddr rfl fo_82_7) ?_
    refine sp (OpV.loadBox rfl pt_3 (.tail _ (.tail _ (.tail _ (.tail _ (.tail _ (.head _)))))) rfl) ?_
    refine WL.heavy rfl rfl rfl (OpH.callX (evs.cons rfl (evs.cons rfl (evs.nil))) ca_150 (fun w hs => w_impl_faded e9_3 hs) ?_)
    rintro _ _ ⟨g9_300, rfl, rfl⟩
    refine WL.heavy0 rfl rfl (OpH.storeTo (A := [_, _, _, _]) [_, _, _] rfl rfl rfl ts_96 rfl rfl rfl ?_)
    refine sp (OpV.assign rfl) ?_
    refine WL.nil (En.next (WC.ret ?_))
    refine En.ret2 rfl (Res.cell rfl (.tail _ (.tail _ (.tail _ (.tail _ (.head _))))) ag_96) (Res.tmp rfl) ?_
    obtain rfl := Option.some.inj h
    intro w' hs
    have hs := (hs).sub (.cons_cons _ (.cons _ (.cons _ (.cons _ (.cons _ (.cons _ (.slnil)))))))
    exact ⟨_, _, rfl, ⟨a6_500, n6_500, c6_500, g9_300, rfl, rfl⟩, hs⟩
  ·
   intro hc_2
   replace h := ifO_f hc_2 h
   refine WC.skip (En.next (WC.seq (WC.seq ?_)))
   obtain ⟨q7_6, e7_6, h⟩ := bnd h
   refine WC.region ?_
   refine sp (OpV.move rfl) ?_
   refine sp (OpV.not rfl) ?_
   refine sp (OpV.move rfl) ?_
   refine Lt.ofWL.orQ 48 52 51 (p := ?pz4) (rest := ?qz4) (B := q7_6) rfl (fun hz => orO_t e7_6 hz) ?Tz4 ?Fz4 ?az4 ?bz4 ?cz4 ?dz4 ?ez4
   case Tz4 =>
    intro hcz4 hkz4
    refine sk ?_
    refine sk ?_
    refine sk ?_
    refine hkz4 _ ?_
    repeat (first | exact Sub.refl _ | refine Sub.skip rfl ?_)
   case Fz4 =>
    intro hcz4 hkz4
    have hqz4 := orO_f e7_6 hcz4
    obtain ⟨x7_4, e7_4, hqz4⟩ := bnd hqz4
    obtain rfl := Option.some.inj hqz4
    refine sp (OpV.loadAll rfl (.tail _ (.head _)) ag_96) ?_
    refine sp (OpV.call (evs.cons rfl (evs.nil)) ca_149 (fun w hs => w_impl_ImageOk e7_4 (Ow.rd (hs.mem (.head _))))) ?_
    refine sp (OpV.not rfl) ?_
    refine hkz4 _ ?_ ?_
    exact rfl
    repeat (first | exact Sub.refl _ | refine Sub.skip rfl ?_)
   case az4 => exact rfl
   case bz4 => exact rfl
   case cz4 => exact rfl
   case dz4 => exact rfl
   refine WL.nil (En.next ?_)
   refine WC.cond rfl ?_ ?_
   ·
    intro hc_4
    replace h := ifO_t hc_4 h
    refine WC.seq (WC.region ?_)
    refine sp (OpV.build (evps.nil) bd_96_) ?_
    refine WL.heavy0 rfl rfl (OpH.storeTo (A := [_, _, _]) [_, _, _] rfl rfl rfl ts_96 rfl rfl rfl ?_)
    refine sp (OpV.assign rfl) ?_
    refine WL.nil (En.next (WC.ret (En.then_ret ?_)))
    refine En.ret2 rfl (Res.cell rfl (.tail _ (.tail _ (.tail _ (.head _)))) ag_96) (Res.tmp rfl) ?_
    obtain rfl := Option.some.inj h
    intro w' hs
    have hs := ((hs).ownNil (A := tInt)).sub (.cons_cons _ (.cons _ (.cons _ (.cons _ (.cons _ (.cons _ (.slnil)))))))
    exact ⟨_, _, rfl, ⟨.none, 0, 0, [], rfl, rfl⟩, hs⟩
   ·
    intro hc_4
    replace h := ifO_f hc_4 h
    refine WC.skip (En.next (WC.seq ?_))
    obtain ⟨⟨x9_3a, x9_3b⟩, e9_3, h⟩ := bnd h
    refine WC.region ?_
    refine sp (OpV.loadAll rfl (.tail _ (.head _)) ag_96) ?_
    refine sp (OpV.fieldAddr rfl fo_82_7) ?_
    refine sp (OpV.loadBox rfl pt_3 (.tail _ (.tail _ (.tail _ (.tail _ (.head _))))) rfl) ?_
    refine WL.heavy rfl rfl rfl (OpH.callX (evs.cons rfl (evs.cons rfl (evs.nil))) ca_150 (fun w hs => w_impl_faded e9_3 hs) ?_)
    rintro _ _ ⟨g9_300, rfl, rfl⟩
    refine WL.heavy0 rfl rfl (OpH.storeTo (A := [_, _, _]) [_, _, _] rfl rfl rfl ts_96 rfl rfl rfl ?_)
    refine sp (OpV.assign rfl) ?_
    refine WL.nil (En.next (WC.ret ?_))
    refine En.ret2 rfl (Res.cell rfl (.tail _ (.tail _ (.tail _ (.head _)))) ag_96) (Res.tmp rfl) ?_
    obtain rfl := Option.some.inj h
    intro w' hs
    have hs := (hs).sub (.cons_cons _ (.cons _ (.cons _ (.cons _ (.cons _ (.slnil))))))
    exact ⟨_, _, rfl, ⟨a4_300, n4_300, c4_300, g9_300, rfl, rfl⟩, hs⟩

theorem w_slices_IndexFunc_S_int_int {s_p0 : List Int} {f_p1 : Int → Option Bool} {r : Int} {q0_0 : Option Addr} {n0_0 k0_0 : Nat} {fv1 : Value} (h : slices_IndexFunc_S_int_int s_p0 f_p1 = some r) {w : World} (r0_0 : Rd tInt w q0_0 n0_0 k0_0 s_p0)  (hF1 : ∀ {y0 : Int} {r1 : Bool}  {w1 : World}, Ext w w1 → f_p1 y0 = some r1 → CallsV Tryz.prog fv1 [.int .i64 y0] w1 (fun en w2 => en = .returned (.bool r1) ∧ Ext w1 w2)) :
    Calls Tryz.prog 171 #[.slice q0_0 n0_0 k0_0, fv1] w (fun en w' => en = .returned (.int .i64 r) ∧ Ext w w') := by
 obtain rfl := r0_0.1
 unfold slices_IndexFunc_S_int_int at h
 refine enter (vs := [_, _]) Tryz.func171 rfl rfl rfl rfl ?_
 refine WC.seq (WC.region ?_)
 refine sp (OpV.assign rfl) ?_
 refine WL.nil (En.next (WC.seq (WC.seq (WC.region ?_))))
 refine sp (OpV.move rfl) ?_
 refine sp (OpV.len rfl si_23 rfl) ?_
 refine sp (OpV.move rfl) ?_
 refine WL.nil (En.next (WC.block ?_))
 obtain ⟨zy0, ezy0, h⟩ := bnd h
 refine WC.cut (X := (Unit) × (Unit)) (.exit 0) (fun x => zy0 = .inl x.1) (fun x => match x with | ((), ()) => []) (fun x => match x with | ((), ()) => []) ?_ ?_
 ·
  rintro ⟨⟨⟩, ⟨⟩⟩ hx
  replace hx : .inl () = zy0 := hx.symm
  subst hx
  replace h := fork_l h
  show En _ _ _ _ [] []
  refine En.block_exit (En.next (WC.seq (WC.region ?_)))
  refine sp (OpV.assign rfl) ?_
  refine WL.nil (En.next (WC.ret ?_))
  refine En.ret1 rfl (Res.tmp rfl) ?_
  obtain rfl := Option.some.inj h
  intro w' hs
  exact ⟨rfl, hs.below⟩
 ·
  intro zK0_0
  refine WC.loopP (G := Unit) (fun s g => match s, g with | v_0, () => [(0, .slice q0_0 s_p0.length k0_0), (1, fv1), (7, .int .i64 (s_p0.length : Int)), (8, .int .i64 v_0)]) (fun s g => match s, g with | v_0, () => []) 0 () ezy0 (by exact Sub.cons rfl (Sub.cons rfl (Sub.cons rfl (Sub.cons rfl (Sub.nil _))))) (by exact (fun _ h => h)) ?_
  rintro zm0 v_0 ⟨⟩ zo0 zf0 zb0 ze0
  have zh0 : slices_IndexFunc_S_int_int_L0 s_p0 f_p1 v_0 = some zo0 := zf0
  unfold slices_IndexFunc_S_int_int_L0 at zh0
  show WC _ _ _ _ _ [(0, .slice q0_0 s_p0.length k0_0), (1, fv1), (7, .int .i64 (s_p0.length : Int)), (8, .int .i64 v_0)] []
  refine WC.seq (WC.region ?_)
  refine sp (OpV.lss rfl rfl) ?_
  refine WL.nil (En.next (WC.seq ?_))
  refine WC.cond rfl ?_ ?_
  ·
   intro hc_1
   replace zh0 := ifO_t hc_1 zh0
   refine WC.skip (En.next (WC.seq (WC.block (WC.seq (WC.region ?_)))))
   refine sp (OpV.move rfl) ?_
   refine sp (OpV.assign rfl) ?_
   refine WL.nil (En.next (WC.seq ?_))
   obtain ⟨x4_3, e4_3, zh0⟩ := bnd zh0
   obtain ⟨g4_3, o4_3, _, ha4_3, rfl, hd4_3⟩ := Rd.atIdx r0_0 e4_3
   replace hd4_3 : ∀ (j : Nat) v, ([.int .i64 x4_3] : List Value)[j]? = some v → w.cell? ⟨g4_3, o4_3 + v_0.toNat * 1 + j, .none⟩ = some v := hd4_3
   obtain ⟨x4_5, e4_5, zh0⟩ := bnd zh0
   refine WC.region ?_
   refine sp (OpV.move rfl) ?_
   refine sp (OpV.move rfl) ?_
   refine sp (OpV.move rfl) ?_
   refine sp (OpV.idxA rfl rfl se_23 ha4_3 ⟨(idx_some e4_3).1, (idx_some e4_3).2.1⟩) ?_
   refine sp (OpV.load1 rfl pt_3 (fun w hs => hs.cell (hd4_3 0 _ rfl))) ?_
   refine sp (OpV.callV rfl (evs.cons rfl (evs.nil)) (fun w hs => hF1 hs.below e4_5)) ?_
   refine WL.nil (En.next ?_)
   refine WC.cond rfl ?_ ?_
   ·
    intro hc_2
    replace zh0 := ifO_t hc_2 zh0
    refine WC.seq (WC.region ?_)
    refine sp (OpV.move rfl) ?_
    refine sp (OpV.assign rfl) ?_
    refine WL.nil (En.next (WC.ret (En.block_ret (En.then_ret (En.then_ret (En.block_ret (En.then_ret ?_)))))))
    refine En.ret1 rfl (Res.tmp rfl) ?_
    have hx := exitP ze0 zh0
    subst hx
    replace h := fork_r h
    obtain rfl := Option.some.inj h
    intro w' hs
    exact ⟨rfl, hs.below⟩
   ·
    intro hc_2
    replace zh0 := ifO_f hc_2 zh0
    refine WC.skip (En.block_norm (En.next (WC.region ?_)))
    refine sp (OpV.addR rfl rfl) ?_
    refine sp (OpV.move rfl) ?_
    refine WL.nil ?_
    exact En.backP zb0 zh0 () (Sub.cons rfl (Sub.cons rfl (Sub.cons rfl (Sub.cons rfl (Sub.nil _))))) (fun _ h => h)
  ·
   intro hc_1
   replace zh0 := ifO_f hc_1 zh0
   refine WC.exit (En.then_exit (En.then_exit ?_))
   have hx := exitP ze0 zh0
   exact En.wk _ _ (Sub.nil _) (fun _ h => h) (zK0_0 ((), ()) hx.symm)

theorem w_slices_ContainsFunc_S_int_int {s_p0 : List Int} {f_p1 : Int → Option Bool} {r : Bool} {q0_0 : Option Addr} {n0_0 k0_0 : Nat} {fv1 : Value} (h : slices_ContainsFunc_S_int_int s_p0 f_p1 = some r) {w : World} (r0_0 : Rd tInt w q0_0 n0_0 k0_0 s_p0)  (hF1 : ∀ {y0 : Int} {r1 : Bool}  {w1 : World}, Ext w w1 → f_p1 y0 = some r1 → CallsV Tryz.prog fv1 [.int .i64 y0] w1 (fun en w2 => en = .returned (.bool r1) ∧ Ext w1 w2)) :
    Calls Tryz.prog 138 #[.slice q0_0 n0_0 k0_0, fv1] w (fun en w' => en = .returned (.bool r) ∧ Ext w w') := by
 obtain rfl := r0_0.1
 unfold slices_ContainsFunc_S_int_int at h
 refine enter (vs := [_, _]) Tryz.func138 rfl rfl rfl rfl ?_
 refine WC.seq (WC.region ?_)
 refine sp (OpV.assign rfl) ?_
 refine WL.nil (En.next (WC.seq ?_))
 obtain ⟨x1_2, e1_2, h⟩ := bnd h
 refine WC.region ?_
 refine sp (OpV.move rfl) ?_
 refine sp (OpV.move rfl) ?_
 refine sp (OpV.call (evs.cons rfl (evs.cons rfl (evs.nil))) ca_171 (fun w hs => w_slices_IndexFunc_S_int_int e1_2 (r0_0.ext hs.below) (fun hx he  => hF1 (Ext.trans hs.below hx) he ))) ?_
 refine sp (OpV.geq rfl rfl) ?_
 refine sp (OpV.assign rfl) ?_
 refine WL.nil (En.next (WC.ret ?_))
 refine En.ret1 rfl (Res.tmp rfl) ?_
 obtain rfl := Option.some.inj h
 intro w' hs
 exact ⟨rfl, hs.below⟩

theorem w_impl_isOpaquePixel {p_p0 : Int} {r : Bool}  (h : impl_isOpaquePixel p_p0 = some r) {w : World}    :
    Calls Tryz.prog 140 #[.int .i64 p_p0] w (fun en w' => en = .returned (.bool r) ∧ Ext w w') := by
 unfold impl_isOpaquePixel at h
 refine enter (vs := [_]) Tryz.func140 rfl rfl rfl rfl ?_
 refine WC.seq (WC.region ?_)
 refine sp (OpV.assign rfl) ?_
 refine WL.nil (En.next (WC.seq ?_))
 obtain ⟨x1_1, e1_1, h⟩ := bnd h
 obtain ⟨q1_6, e1_6, h⟩ := bnd h
 refine WC.region ?_
 refine sp (OpV.move rfl) ?_
 refine sp (OpV.call (evs.cons rfl (evs.nil)) ca_141 (fun w hs => w_impl_isPixel e1_1)) ?_
 refine sp (OpV.move rfl) ?_
 refine Lt.ofWL.andQ 5 9 8 (p := ?pz1) (rest := ?qz1) (B := q1_6) rfl (fun hz => andO_f e1_6 hz) ?Tz1 ?Fz1 ?az1 ?bz1 ?cz1 ?dz1 ?ez1
 case Tz1 =>
  intro hcz1 hkz1
  have hqz1 := andO_t e1_6 hcz1
  obtain ⟨x1_4, e1_4, hqz1⟩ := bnd hqz1
  obtain rfl := Option.some.inj hqz1
  refine sp (OpV.move rfl) ?_
  refine sp (OpV.call (evs.cons rfl (evs.cons rfl (evs.nil))) ca_143 (fun w hs => w_impl_channel e1_4)) ?_
  refine sp (OpV.eql rfl rfl) ?_
  refine hkz1 _ ?_ ?_
  exact rfl
  repeat (first | exact Sub.refl _ | refine Sub.skip rfl ?_)
 case Fz1 =>
  intro hcz1 hkz1
  refine sk ?_
  refine sk ?_
  refine sk ?_
  refine hkz1 _ ?_
  repeat (first | exact Sub.refl _ | refine Sub.skip rfl ?_)
 case az1 => exact rfl
 case bz1 => exact rfl
 case cz1 => exact rfl
 case dz1 => exact rfl
 refine sp (OpV.assign rfl) ?_
 refine WL.nil (En.next (WC.ret ?_))
 refine En.ret1 rfl (Res.tmp rfl) ?_
 obtain rfl := Option.some.inj h
 intro w' hs
 exact ⟨rfl, hs.below⟩

theorem w_impl_PlaneOk_1 {p_p0 : Int} {r : Bool}  (h : impl_PlaneOk_1 p_p0 = some r) {w : World}    :
    Calls Tryz.prog 139 #[.int .i64 p_p0] w (fun en w' => en = .returned (.bool r) ∧ Ext w w') := by
 unfold impl_PlaneOk_1 at h
 refine enter (vs := [_]) Tryz.func139 rfl rfl rfl rfl ?_
 refine WC.seq (WC.region ?_)
 refine sp (OpV.assign rfl) ?_
 refine WL.nil (En.next (WC.seq ?_))
 obtain ⟨x1_1, e1_1, h⟩ := bnd h
 refine WC.region ?_
 refine sp (OpV.move rfl) ?_
 refine sp (OpV.call (evs.cons rfl (evs.nil)) ca_140 (fun w hs => w_impl_isOpaquePixel e1_1)) ?_
 refine sp (OpV.not rfl) ?_
 refine sp (OpV.assign rfl) ?_
 refine WL.nil (En.next (WC.ret ?_))
 refine En.ret1 rfl (Res.tmp rfl) ?_
 obtain rfl := Option.some.inj h
 intro w' hs
 exact ⟨rfl, hs.below⟩

theorem w_impl_PlaneOk {a_p0 : Int} {a_p1 : PlaneT} {a_p2 : Int} {a_p3 : Int} {r : Bool} {q1_0 : Option Addr} {n1_0 k1_0 : Nat} (h : impl_PlaneOk a_p0 a_p1 a_p2 a_p3 = some r) {w : World} (r1_0 : Rd tInt w q1_0 n1_0 k1_0 a_p1.Words)   :
    Calls Tryz.prog 105 #[.int .i64 a_p0, .agg #[.bool a_p1.On, .int .i64 a_p1.X, .int .i64 a_p1.Y, .int .i64 a_p1.W, .int .i64 a_p1.H, .int .i64 a_p1.Layout, .slice q1_0 n1_0 k1_0, .int .i64 a_p1.Alpha, .int .i64 a_p1.Orient, .int .i64 a_p1.ToW, .int .i64 a_p1.ToH], .int .i64 a_p2, .int .i64 a_p3] w (fun en w' => en = .returned (.bool r) ∧ Ext w w') := by
 obtain rfl := r1_0.1
 unfold impl_PlaneOk at h
 refine enter (vs := [_, _, _, _]) Tryz.func105 rfl rfl rfl rfl ?_
 refine WC.seq (WC.region ?_)
 refine WL.heavy rfl rfl rfl (OpH.box rfl rfl ?_)
 intro b0_0
 refine sp (OpV.assign rfl) ?_
 refine WL.nil (En.next (WC.seq (WC.seq ?_)))
 obtain ⟨x1_1, e1_1, h⟩ := bnd h
 obtain ⟨q1_7, e1_7, h⟩ := bnd h
 obtain ⟨q1_12, e1_12, h⟩ := bnd h
 refine WC.region ?_
 refine sp (OpV.move rfl) ?_
 refine sp (OpV.call (evs.cons rfl (evs.cons rfl (evs.cons rfl (evs.nil)))) ca_59 (fun w hs => w_impl_within e1_1)) ?_
 refine sp (OpV.not rfl) ?_
 refine sp (OpV.move rfl) ?_
 refine Lt.ofWL.orQ 15 19 18 (p := ?pz1) (rest := ?qz1) (B := q1_7) rfl (fun hz => orO_t e1_7 hz) ?Tz1 ?Fz1 ?az1 ?bz1 ?cz1 ?dz1 ?ez1
 case Tz1 =>
  intro hcz1 hkz1
  refine sk ?_
  refine sk ?_
  refine sk ?_
  refine hkz1 _ ?_
  repeat (first | exact Sub.refl _ | refine Sub.skip rfl ?_)
 case Fz1 =>
  intro hcz1 hkz1
  have hqz1 := orO_f e1_7 hcz1
  obtain ⟨x1_5, e1_5, hqz1⟩ := bnd hqz1
  obtain rfl := Option.some.inj hqz1
  refine sp (OpV.move rfl) ?_
  refine sp (OpV.call (evs.cons rfl (evs.nil)) ca_137 (fun w hs => w_impl_isSide e1_5)) ?_
  refine sp (OpV.not rfl) ?_
  refine hkz1 _ ?_ ?_
  exact rfl
  repeat (first | exact Sub.refl _ | refine Sub.skip rfl ?_)
 case az1 => exact rfl
 case bz1 => exact rfl
 case cz1 => exact rfl
 case dz1 => exact rfl
 refine sp (OpV.move rfl) ?_
 refine Lt.ofWL.orQ 20 24 23 (p := ?pz2) (rest := ?qz2) (B := q1_12) rfl (fun hz => orO_t e1_12 hz) ?Tz2 ?Fz2 ?az2 ?bz2 ?cz2 ?dz2 ?ez2
 case Tz2 =>
  intro hcz2 hkz2
  refine sk ?_
  refine sk ?_
  refine sk ?_
  refine hkz2 _ ?_
  repeat (first | exact Sub.refl _ | refine Sub.skip rfl ?_)
 case Fz2 =>
  intro hcz2 hkz2
  have hqz2 := orO_f e1_12 hcz2
  obtain ⟨x1_10, e1_10, hqz2⟩ := bnd hqz2
  obtain rfl := Option.some.inj hqz2
  refine sp (OpV.move rfl) ?_
  refine sp (OpV.call (evs.cons rfl (evs.nil)) ca_137 (fun w hs => w_impl_isSide e1_10)) ?_
  refine sp (OpV.not rfl) ?_
  refine hkz2 _ ?_ ?_
  exact rfl
  repeat (first | exact Sub.refl _ | refine Sub.skip rfl ?_)
 case az2 => exact rfl
 case bz2 => exact rfl
 case cz2 => exact rfl
 case dz2 => exact rfl
 refine WL.nil (En.next ?_)
 refine WC.cond rfl ?_ ?_
 ·
  intro hc_1
  replace h := ifO_t hc_1 h
  refine WC.seq (WC.region ?_)
  refine sp (OpV.assign rfl) ?_
  refine WL.nil (En.next (WC.ret (En.then_ret ?_)))
  refine En.ret1 rfl (Res.tmp rfl) ?_
  obtain rfl := Option.some.inj h
  intro w' hs
  exact ⟨rfl, hs.below⟩
 ·
  intro hc_1
  replace h := ifO_f hc_1 h
  refine WC.skip (En.next (WC.seq (WC.seq (WC.region ?_))))
  refine sp (OpV.fieldAddr rfl fo_82_0) ?_
  refine sp (OpV.loadBox rfl pt_4 (.head _) rfl) ?_
  refine sp (OpV.not rfl) ?_
  refine WL.nil (En.next ?_)
  refine WC.cond rfl ?_ ?_
  ·
   intro hc_2
   replace h := ifO_t hc_2 h
   refine WC.seq ?_
   obtain ⟨q4_6, e4_6, h⟩ := bnd h
   refine WC.region ?_
   refine sp (OpV.move rfl) ?_
   refine sp (OpV.neq rfl rfl) ?_
   refine sp (OpV.move rfl) ?_
   refine Lt.ofWL.andQ 30 34 33 (p := ?pz3) (rest := ?qz3) (B := q4_6) rfl (fun hz => andO_f e4_6 hz) ?Tz3 ?Fz3 ?az3 ?bz3 ?cz3 ?dz3 ?ez3
   case Tz3 =>
    intro hcz3 hkz3
    have hqz3 := andO_t e4_6 hcz3
    obtain ⟨x4_5, e4_5, hqz3⟩ := bnd hqz3
    obtain rfl := Option.some.inj hqz3
    refine sp (OpV.loadAll rfl (.head _) ag_82) ?_
    refine sp (OpV.build (evps.nil) bd_82_) ?_
    refine sp (OpV.call (evs.cons rfl (evs.cons rfl (evs.nil))) ca_95 (fun w hs => w_impl_samePlane e4_5 (r1_0.ext hs.below) (Rd.nil _))) ?_
    refine hkz3 _ ?_ ?_
    exact rfl
    repeat (first | exact Sub.refl _ | refine Sub.skip rfl ?_)
   case Fz3 =>
    intro hcz3 hkz3
    refine sk ?_
    refine sk ?_
    refine sk ?_
    refine hkz3 _ ?_
    repeat (first | exact Sub.refl _ | refine Sub.skip rfl ?_)
   case az3 => exact rfl
   case bz3 => exact rfl
   case cz3 => exact rfl
   case dz3 => exact rfl
   refine sp (OpV.assign rfl) ?_
   refine WL.nil (En.next (WC.ret (En.then_ret ?_)))
   refine En.ret1 rfl (Res.tmp rfl) ?_
   obtain rfl := Option.some.inj h
   intro w' hs
   exact ⟨rfl, hs.below⟩
  ·
   intro hc_2
   replace h := ifO_f hc_2 h
   refine WC.skip (En.next (WC.seq ?_))
   obtain ⟨⟨x5_1a, x5_1b⟩, e5_1, h⟩ := bnd h
   refine WC.region ?_
   refine sp (OpV.loadAll rfl (.head _) ag_82) ?_
   refine WL.heavy rfl rfl rfl (OpH.callR (evs.cons rfl (evs.nil)) ca_108 (fun w hs => w_impl_PlaneImage e5_1 (r1_0.ext hs.below)) ?_)
   rintro _ _ ⟨a5_100, n5_100, c5_100, f5_100, rfl, rfl⟩
   refine sp (OpV.move rfl) ?_
   refine sp (OpV.extract rfl rfl) ?_
   refine sp (OpV.extract rfl rfl) ?_
   refine WL.heavy rfl rfl rfl (OpH.alloc zc_96 ?_)
   intro b5_5
   refine WL.heavy0 rfl rfl (OpH.storeTo (A := []) [_, _, _] rfl rfl rfl ts_96 rfl rfl rfl ?_)
   refine sp (OpV.assign rfl) ?_
   refine WL.nil (En.next (WC.seq (WC.seq ?_)))
   obtain ⟨q6_7, e6_7, h⟩ := bnd h
   obtain ⟨q6_13, e6_13, h⟩ := bnd h
   refine WC.region ?_
   refine sp (OpV.move rfl) ?_
   refine sp (OpV.not rfl) ?_
   refine sp (OpV.move rfl) ?_
   refine Lt.ofWL.orQ 42 47 46 (p := ?pz4) (rest := ?qz4) (B := q6_7) rfl (fun hz => orO_t e6_7 hz) ?Tz4 ?Fz4 ?az4 ?bz4 ?cz4 ?dz4 ?ez4
   case Tz4 =>
    intro hcz4 hkz4
    refine sk ?_
    refine sk ?_
    refine sk ?_
    refine sk ?_
    refine hkz4 _ ?_
    repeat (first | exact Sub.refl _ | refine Sub.skip rfl ?_)
   case Fz4 =>
    intro hcz4 hkz4
    have hqz4 := orO_f e6_7 hcz4
    obtain ⟨x6_5, e6_5, hqz4⟩ := bnd hqz4
    obtain rfl := Option.some.inj hqz4
    refine sp (OpV.fieldAddr rfl fo_82_1) ?_
    refine sp (OpV.loadBox rfl pt_3 (.tail _ (.tail _ (.head _))) rfl) ?_
    refine sp (OpV.call (evs.cons rfl (evs.cons rfl (evs.cons rfl (evs.nil)))) ca_59 (fun w hs => w_impl_within e6_5)) ?_
    refine sp (OpV.not rfl) ?_
    refine hkz4 _ ?_ ?_
    exact rfl
    repeat (first | exact Sub.refl _ | refine Sub.skip rfl ?_)
   case az4 => exact rfl
   case bz4 => exact rfl
   case cz4 => exact rfl
   case dz4 => exact rfl
   refine sp (OpV.move rfl) ?_
   refine Lt.ofWL.orQ 48 53 52 (p := ?pz5) (rest := ?qz5) (B := q6_13) rfl (fun hz => orO_t e6_13 hz) ?Tz5 ?Fz5 ?az5 ?bz5 ?cz5 ?dz5 ?ez5
   case Tz5 =>
    intro hcz5 hkz5
    refine sk ?_
    refine sk ?_
    refine sk ?_
    refine sk ?_
    refine hkz5 _ ?_
    repeat (first | exact Sub.refl _ | refine Sub.skip rfl ?_)
   case Fz5 =>
    intro hcz5 hkz5
    have hqz5 := orO_f e6_13 hcz5
    obtain ⟨x6_11, e6_11, hqz5⟩ := bnd hqz5
    obtain rfl := Option.some.inj hqz5
    refine sp (OpV.fieldAddr rfl fo_82_2) ?_
    refine sp (OpV.loadBox rfl pt_3 (.tail _ (.tail _ (.head _))) rfl) ?_
    refine sp (OpV.call (evs.cons rfl (evs.cons rfl (evs.cons rfl (evs.nil)))) ca_59 (fun w hs => w_impl_within e6_11)) ?_
    refine sp (OpV.not rfl) ?_
    refine hkz5 _ ?_ ?_
    exact rfl
    repeat (first | exact Sub.refl _ | refine Sub.skip rfl ?_)
   case az5 => exact rfl
   case bz5 => exact rfl
   case cz5 => exact rfl
   case dz5 => exact rfl
   refine WL.nil (En.next ?_)
   refine WC.cond rfl ?_ ?_
   ·
    intro hc_3
    replace h := ifO_t hc_3 h
    refine WC.seq (WC.region ?_)
    refine sp (OpV.assign rfl) ?_
    refine WL.nil (En.next (WC.ret (En.then_ret ?_)))
    refine En.ret1 rfl (Res.tmp rfl) ?_
    obtain rfl := Option.some.inj h
    intro w' hs
    exact ⟨rfl, hs.below⟩
   ·
    intro hc_3
    replace h := ifO_f hc_3 h
    refine WC.skip (En.next (WC.seq (WC.region ?_)))
    refine sp (OpV.fieldAddr rfl fo_82_8) ?_
    refine sp (OpV.loadBox rfl pt_3 (.tail _ (.tail _ (.head _))) rfl) ?_
    refine sp (OpV.eql rfl rfl) ?_
    refine sp (OpV.move rfl) ?_
    refine Lt.ofWL.and 57 61 60 (p := ?pz6) (rest := ?qz6) (B := ?Bz6) rfl ?Tz6 ?Fz6 ?az6 ?bz6 ?cz6 ?dz6 ?ez6
    case Tz6 =>
     intro hcz6 hkz6
     refine sp (OpV.fieldAddr rfl fo_82_9) ?_
     refine sp (OpV.loadBox rfl pt_3 (.tail _ (.tail _ (.head _))) rfl) ?_
     refine sp (OpV.eql rfl rfl) ?_
     refine hkz6 _ ?_ ?_
     exact rfl
     repeat (first | exact Sub.refl _ | refine Sub.skip rfl ?_)
    case Fz6 =>
     intro hcz6 hkz6
     refine sk ?_
     refine sk ?_
     refine sk ?_
     refine hkz6 _ ?_
     repeat (first | exact Sub.refl _ | refine Sub.skip rfl ?_)
    case az6 => exact rfl
    case bz6 => exact rfl
    case cz6 => exact rfl
    case dz6 => exact rfl
    refine sp (OpV.move rfl) ?_
    refine Lt.ofWL.and 62 66 65 (p := ?pz7) (rest := ?qz7) (B := ?Bz7) rfl ?Tz7 ?Fz7 ?az7 ?bz7 ?cz7 ?dz7 ?ez7
    case Tz7 =>
     intro hcz7 hkz7
     refine sp (OpV.fieldAddr rfl fo_82_10) ?_
     refine sp (OpV.loadBox rfl pt_3 (.tail _ (.tail _ (.head _))) rfl) ?_
     refine sp (OpV.eql rfl rfl) ?_
     refine hkz7 _ ?_ ?_
     exact rfl
     repeat (first | exact Sub.refl _ | refine Sub.skip rfl ?_)
    case Fz7 =>
     intro hcz7 hkz7
     refine sk ?_
     refine sk ?_
     refine sk ?_
     refine hkz7 _ ?_
     repeat (first | exact Sub.refl _ | refine Sub.skip rfl ?_)
    case az7 => exact rfl
    case bz7 => exact rfl
    case cz7 => exact rfl
    case dz7 => exact rfl
    refine sp (OpV.move rfl) ?_
    refine Lt.ofWL.and 67 71 70 (p := ?pz8) (rest := ?qz8) (B := ?Bz8) rfl ?Tz8 ?Fz8 ?az8 ?bz8 ?cz8 ?dz8 ?ez8
    case Tz8 =>
     intro hcz8 hkz8
     refine sp (OpV.fieldAddr rfl fo_82_7) ?_
     refine sp (OpV.loadBox rfl pt_3 (.tail _ (.tail _ (.head _))) rfl) ?_
     refine sp (OpV.eql rfl rfl) ?_
     refine hkz8 _ ?_ ?_
     exact rfl
     repeat (first | exact Sub.refl _ | refine Sub.skip rfl ?_)
    case Fz8 =>
     intro hcz8 hkz8
     refine sk ?_
     refine sk ?_
     refine sk ?_
     refine hkz8 _ ?_
     repeat (first | exact Sub.refl _ | refine Sub.skip rfl ?_)
    case az8 => exact rfl
    case bz8 => exact rfl
    case cz8 => exact rfl
    case dz8 => exact rfl
    refine sp (OpV.assign rfl) ?_
    refine WL.nil (En.next (WC.seq (WC.seq (WC.region ?_))))
    refine sp (OpV.move rfl) ?_
    refine WL.nil (En.next (WC.block (WC.seq (WC.region ?_))))
    refine sp (OpV.eql rfl rfl) ?_
    refine sp (OpV.assign rfl) ?_
    refine WL.nil (En.next ?_)
    refine WC.cond rfl ?_ ?_
    ·
     intro hc_4
     replace h := ifO_t hc_4 h
     refine WC.seq ?_
     obtain ⟨q11_28, e11_28, h⟩ := bnd h
     refine WC.region ?_
     refine sp (OpV.move rfl) ?_
     refine sp (OpV.move rfl) ?_
     refine Lt.ofWL.and 76 80 79 (p := ?pz9) (rest := ?qz9) (B := ?Bz9) rfl ?Tz9 ?Fz9 ?az9 ?bz9 ?cz9 ?dz9 ?ez9
     case Tz9 =>
      intro hcz9 hkz9
      refine sp (OpV.fieldAddr rfl fo_82_1) ?_
      refine sp (OpV.loadBox rfl pt_3 (.tail _ (.tail _ (.head _))) rfl) ?_
      refine sp (OpV.eql rfl rfl) ?_
      refine hkz9 _ ?_ ?_
      exact rfl
      repeat (first | exact Sub.refl _ | refine Sub.skip rfl ?_)
     case Fz9 =>
      intro hcz9 hkz9
      refine sk ?_
      refine sk ?_
      refine sk ?_
      refine hkz9 _ ?_
      repeat (first | exact Sub.refl _ | refine Sub.skip rfl ?_)
     case az9 => exact rfl
     case bz9 => exact rfl
     case cz9 => exact rfl
     case dz9 => exact rfl
     refine sp (OpV.move rfl) ?_
     refine Lt.ofWL.and 81 85 84 (p := ?pz10) (rest := ?qz10) (B := ?Bz10) rfl ?Tz10 ?Fz10 ?az10 ?bz10 ?cz10 ?dz10 ?ez10
     case Tz10 =>
      intro hcz10 hkz10
      refine sp (OpV.fieldAddr rfl fo_82_2) ?_
      refine sp (OpV.loadBox rfl pt_3 (.tail _ (.tail _ (.head _))) rfl) ?_
      refine sp (OpV.eql rfl rfl) ?_
      refine hkz10 _ ?_ ?_
      exact rfl
      repeat (first | exact Sub.refl _ | refine Sub.skip rfl ?_)
     case Fz10 =>
      intro hcz10 hkz10
      refine sk ?_
      refine sk ?_
      refine sk ?_
      refine hkz10 _ ?_
      repeat (first | exact Sub.refl _ | refine Sub.skip rfl ?_)
     case az10 => exact rfl
     case bz10 => exact rfl
     case cz10 => exact rfl
     case dz10 => exact rfl
     refine sp (OpV.move rfl) ?_
     refine Lt.ofWL.and 86 91 90 (p := ?pz11) (rest := ?qz11) (B := ?Bz11) rfl ?Tz11 ?Fz11 ?az11 ?bz11 ?cz11 ?dz11 ?ez11
     case Tz11 =>
      intro hcz11 hkz11
      refine sp (OpV.fieldAddr rfl fo_82_3) ?_
      refine sp (OpV.loadBox rfl pt_3 (.tail _ (.tail _ (.head _))) rfl) ?_
      refine sp (OpV.move rfl) ?_
      refine sp (OpV.eql rfl rfl) ?_
      refine hkz11 _ ?_ ?_
      exact rfl
      repeat (first | exact Sub.refl _ | refine Sub.skip rfl ?_)
     case Fz11 =>
      intro hcz11 hkz11
      refine sk ?_
      refine sk ?_
      refine sk ?_
      refine sk ?_
      refine hkz11 _ ?_
      repeat (first | exact Sub.refl _ | refine Sub.skip rfl ?_)
     case az11 => exact rfl
     case bz11 => exact rfl
     case cz11 => exact rfl
     case dz11 => exact rfl
     refine sp (OpV.move rfl) ?_
     refine Lt.ofWL.and 92 97 96 (p := ?pz12) (rest := ?qz12) (B := ?Bz12) rfl ?Tz12 ?Fz12 ?az12 ?bz12 ?cz12 ?dz12 ?ez12
     case Tz12 =>
      intro hcz12 hkz12
      refine sp (OpV.fieldAddr rfl fo_82_4) ?_
      refine sp (OpV.loadBox rfl pt_3 (.tail _ (.tail _ (.head _))) rfl) ?_
      refine sp (OpV.move rfl) ?_
      refine sp (OpV.eql rfl rfl) ?_
      refine hkz12 _ ?_ ?_
      exact rfl
      repeat (first | exact Sub.refl _ | refine Sub.skip rfl ?_)
     case Fz12 =>
      intro hcz12 hkz12
      refine sk ?_
      refine sk ?_
      refine sk ?_
      refine sk ?_
      refine hkz12 _ ?_
      repeat (first | exact Sub.refl _ | refine Sub.skip rfl ?_)
     case az12 => exact rfl
     case bz12 => exact rfl
     case cz12 => exact rfl
     case dz12 => exact rfl
     refine sp (OpV.move rfl) ?_
     refine Lt.ofWL.andQ 98 103 102 (p := ?pz13) (rest := ?qz13) (B := q11_28) rfl (fun hz => andO_f e11_28 hz) ?Tz13 ?Fz13 ?az13 ?bz13 ?cz13 ?dz13 ?ez13
     case Tz13 =>
      intro hcz13 hkz13
      have hqz13 := andO_t e11_28 hcz13
      obtain ⟨x11_26, e11_26, hqz13⟩ := bnd hqz13
      obtain rfl := Option.some.inj hqz13
      refine sp (OpV.fieldAddr rfl fo_96_2) ?_
      refine sp (OpV.loadBox rfl pt_23 (.head _) rfl) ?_
      refine sp (OpV.call (evs.cons rfl (evs.cons rfl (evs.nil))) ca_138 (fun w hs => w_slices_ContainsFunc_S_int_int e11_26 (Ow.rd (hs.mem (.tail _ (.head _)))) (fun _ he  => CallsV.of ca_139 (w_impl_PlaneOk_1 he )))) ?_
      refine sp (OpV.not rfl) ?_
      refine hkz13 _ ?_ ?_
      exact rfl
      repeat (first | exact Sub.refl _ | refine Sub.skip rfl ?_)
     case Fz13 =>
      intro hcz13 hkz13
      refine sk ?_
      refine sk ?_
      refine sk ?_
      refine sk ?_
      refine hkz13 _ ?_
      repeat (first | exact Sub.refl _ | refine Sub.skip rfl ?_)
     case az13 => exact rfl
     case bz13 => exact rfl
     case cz13 => exact rfl
     case dz13 => exact rfl
     refine sp (OpV.assign rfl) ?_
     refine WL.nil (En.next (WC.ret (En.block_ret (En.then_ret ?_))))
     refine En.ret1 rfl (Res.tmp rfl) ?_
     obtain rfl := Option.some.inj h
     intro w' hs
     exact ⟨rfl, hs.below⟩
    ·
     intro hc_4
     replace h := ifO_f hc_4 h
     refine WC.seq (WC.region ?_)
     refine sp (OpV.eql rfl rfl) ?_
     refine sp (OpV.assign rfl) ?_
     refine WL.nil (En.next ?_)
     refine WC.cond rfl ?_ ?_
     ·
      intro hc_5
      replace h := ifO_t hc_5 h
      refine WC.seq (WC.region ?_)
      refine sp (OpV.move rfl) ?_
      refine sp (OpV.move rfl) ?_
      refine Lt.ofWL.and 107 111 110 (p := ?pz14) (rest := ?qz14) (B := ?Bz14) rfl ?Tz14 ?Fz14 ?az14 ?bz14 ?cz14 ?dz14 ?ez14
      case Tz14 =>
       intro hcz14 hkz14
       refine sp (OpV.fieldAddr rfl fo_82_3) ?_
       refine sp (OpV.loadBox rfl pt_3 (.tail _ (.tail _ (.head _))) rfl) ?_
       refine sp (OpV.leq rfl rfl) ?_
       refine hkz14 _ ?_ ?_
       exact rfl
       repeat (first | exact Sub.refl _ | refine Sub.skip rfl ?_)
      case Fz14 =>
       intro hcz14 hkz14
       refine sk ?_
       refine sk ?_
       refine sk ?_
       refine hkz14 _ ?_
       repeat (first | exact Sub.refl _ | refine Sub.skip rfl ?_)
      case az14 => exact rfl
      case bz14 => exact rfl
      case cz14 => exact rfl
      case dz14 => exact rfl
      refine sp (OpV.move rfl) ?_
      refine Lt.ofWL.and 112 116 115 (p := ?pz15) (rest := ?qz15) (B := ?Bz15) rfl ?Tz15 ?Fz15 ?az15 ?bz15 ?cz15 ?dz15 ?ez15
      case Tz15 =>
       intro hcz15 hkz15
       refine sp (OpV.fieldAddr rfl fo_82_4) ?_
       refine sp (OpV.loadBox rfl pt_3 (.tail _ (.tail _ (.head _))) rfl) ?_
       refine sp (OpV.leq rfl rfl) ?_
       refine hkz15 _ ?_ ?_
       exact rfl
       repeat (first | exact Sub.refl _ | refine Sub.skip rfl ?_)
      case Fz15 =>
       intro hcz15 hkz15
       refine sk ?_
       refine sk ?_
       refine sk ?_
       refine hkz15 _ ?_
       repeat (first | exact Sub.refl _ | refine Sub.skip rfl ?_)
      case az15 => exact rfl
      case bz15 => exact rfl
      case cz15 => exact rfl
      case dz15 => exact rfl
      refine sp (OpV.assign rfl) ?_
      refine WL.nil (En.next (WC.ret (En.block_ret (En.then_ret ?_))))
      refine En.ret1 rfl (Res.tmp rfl) ?_
      obtain rfl := Option.some.inj h
      intro w' hs
      exact ⟨rfl, hs.below⟩
     ·
      intro hc_5
      replace h := ifO_f hc_5 h
      refine WC.skip (En.block_norm (En.next (WC.seq (WC.region ?_))))
      refine sp (OpV.assign rfl) ?_
      refine WL.nil (En.next (WC.ret ?_))
      refine En.ret1 rfl (Res.tmp rfl) ?_
      obtain rfl := Option.some.inj h
      intro w' hs
      exact ⟨rfl, hs.below⟩

theorem w_impl_PlanesOk {list_p0 : List PlaneT} {w_p1 : Int} {h_p2 : Int} {r : Bool} {q0_0 : Option Addr} {n0_0 k0_0 : Nat} (h : impl_PlanesOk list_p0 w_p1 h_p2 = some r) {w : World} (r0_0 : Rd tPlane w q0_0 n0_0 k0_0 list_p0)   :
    Calls Tryz.prog 57 #[.slice q0_0 n0_0 k0_0, .int .i64 w_p1, .int .i64 h_p2] w (fun en w' => en = .returned (.bool r) ∧ Ext w w') := by
 obtain rfl := r0_0.1
 unfold impl_PlanesOk at h
 refine enter (vs := [_, _, _]) Tryz.func57 rfl rfl rfl rfl ?_
 refine WC.seq (WC.region ?_)
 refine sp (OpV.assign rfl) ?_
 refine WL.nil (En.next (WC.seq (WC.seq ?_)))
 obtain ⟨q1_16, e1_16, h⟩ := bnd h
 refine WC.region ?_
 refine sp (OpV.move rfl) ?_
 refine sp (OpV.len rfl si_29 rfl) ?_
 refine sp (OpV.neq rfl rfl) ?_
 refine sp (OpV.move rfl) ?_
 refine Lt.ofWL.orQ 12 25 24 (p := ?pz1) (rest := ?qz1) (B := q1_16) rfl (fun hz => orO_t e1_16 hz) ?Tz1 ?Fz1 ?az1 ?bz1 ?cz1 ?dz1 ?ez1
 case Tz1 =>
  intro hcz1 hkz1
  refine sk ?_
  refine sk ?_
  refine sk ?_
  refine sk ?_
  refine sk ?_
  refine sk ?_
  refine sk ?_
  refine sk ?_
  refine sk ?_
  refine sk ?_
  refine sk ?_
  refine sk ?_
  refine hkz1 _ ?_
  repeat (first | exact Sub.refl _ | refine Sub.skip rfl ?_)
 case Fz1 =>
  intro hcz1 hkz1
  have hqz1 := orO_f e1_16 hcz1
  obtain ⟨x1_5, e1_5, hqz1⟩ := bnd hqz1
  obtain ⟨g1_5, o1_5, _, ha1_5, ⟨a1_5_1, c1_5_1, rfl, r1_5_1⟩, hd1_5⟩ := Rd.atIdx r0_0 e1_5
  replace hd1_5 : ∀ (j : Nat) v, ([.bool x1_5.On, .int .i64 x1_5.X, .int .i64 x1_5.Y, .int .i64 x1_5.W, .int .i64 x1_5.H, .int .i64 x1_5.Layout, .slice a1_5_1 x1_5.Words.length c1_5_1, .int .i64 x1_5.Alpha, .int .i64 x1_5.Orient, .int .i64 x1_5.ToW, .int .i64 x1_5.ToH] : List Value)[j]? = some v → w.cell? ⟨g1_5, o1_5 + (Int.toNat 1) * 11 + j, .none⟩ = some v := hd1_5
  obtain ⟨q1_15, e1_15, hqz1⟩ := bnd hqz1
  obtain rfl := Option.some.inj hqz1
  refine sp (OpV.move rfl) ?_
  refine sp (OpV.idxA rfl rfl se_29 ha1_5 ⟨(idx_some e1_5).1, (idx_some e1_5).2.1⟩) ?_
  refine sp (OpV.fieldAddr rfl fo_82_9) ?_
  refine sp (OpV.load1 rfl pt_3 (fun w hs => hs.cell (hd1_5 9 _ rfl))) ?_
  refine sp (OpV.neq rfl rfl) ?_
  refine sp (OpV.move rfl) ?_
  refine Lt.ofWL.andQ 18 24 23 (p := ?pz2) (rest := ?qz2) (B := q1_15) rfl (fun hz => andO_f e1_15 hz) ?Tz2 ?Fz2 ?az2 ?bz2 ?cz2 ?dz2 ?ez2
  case Tz2 =>
   intro hcz2 hkz2
   have hqz2 := andO_t e1_15 hcz2
   obtain ⟨x1_11, e1_11, hqz2⟩ := bnd hqz2
   obtain ⟨g1_11, o1_11, _, ha1_11, ⟨a1_11_1, c1_11_1, rfl, r1_11_1⟩, hd1_11⟩ := Rd.atIdx r0_0 e1_11
   replace hd1_11 : ∀ (j : Nat) v, ([.bool x1_11.On, .int .i64 x1_11.X, .int .i64 x1_11.Y, .int .i64 x1_11.W, .int .i64 x1_11.H, .int .i64 x1_11.Layout, .slice a1_11_1 x1_11.Words.length c1_11_1, .int .i64 x1_11.Alpha, .int .i64 x1_11.Orient, .int .i64 x1_11.ToW, .int .i64 x1_11.ToH] : List Value)[j]? = some v → w.cell? ⟨g1_11, o1_11 + (Int.toNat 2) * 11 + j, .none⟩ = some v := hd1_11
   obtain rfl := Option.some.inj hqz2
   refine sp (OpV.move rfl) ?_
   refine sp (OpV.idxA rfl rfl se_29 ha1_11 ⟨(idx_some e1_11).1, (idx_some e1_11).2.1⟩) ?_
   refine sp (OpV.fieldAddr rfl fo_82_9) ?_
   refine sp (OpV.load1 rfl pt_3 (fun w hs => hs.cell (hd1_11 9 _ rfl))) ?_
   refine sp (OpV.neq rfl rfl) ?_
   refine hkz2 _ ?_ ?_
   exact rfl
   repeat (first | exact Sub.refl _ | refine Sub.skip rfl ?_)
  case Fz2 =>
   intro hcz2 hkz2
   refine sk ?_
   refine sk ?_
   refine sk ?_
   refine sk ?_
   refine sk ?_
   refine hkz2 _ ?_
   repeat (first | exact Sub.refl _ | refine Sub.skip rfl ?_)
  case az2 => exact rfl
  case bz2 => exact rfl
  case cz2 => exact rfl
  case dz2 => exact rfl
  refine hkz1 _ ?_ ?_
  exact rfl
  repeat (first | exact Sub.refl _ | refine Sub.skip rfl ?_)
 case az1 => exact rfl
 case bz1 => exact rfl
 case cz1 => exact rfl
 case dz1 => exact rfl
 refine WL.nil (En.next ?_)
 refine WC.cond rfl ?_ ?_
 ·
  intro hc_1
  replace h := ifO_t hc_1 h
  refine WC.seq (WC.region ?_)
  refine sp (OpV.assign rfl) ?_
  refine WL.nil (En.next (WC.ret (En.then_ret ?_)))
  refine En.ret1 rfl (Res.tmp rfl) ?_
  obtain rfl := Option.some.inj h
  intro w' hs
  exact ⟨rfl, hs.below⟩
 ·
  intro hc_1
  replace h := ifO_f hc_1 h
  refine WC.skip (En.next (WC.seq (WC.seq (WC.region ?_))))
  refine sp (OpV.move rfl) ?_
  refine sp (OpV.len rfl si_29 rfl) ?_
  refine sp (OpV.move rfl) ?_
  refine WL.nil (En.next (WC.block ?_))
  obtain ⟨zy0, ezy0, h⟩ := bnd h
  refine WC.cut (X := (Unit) × (Unit)) (.exit 0) (fun x => zy0 = .inl x.1) (fun x => match x with | ((), ()) => []) (fun x => match x with | ((), ()) => []) ?_ ?_
  ·
   rintro ⟨⟨⟩, ⟨⟩⟩ hx
   replace hx : .inl () = zy0 := hx.symm
   subst hx
   replace h := fork_l h
   show En _ _ _ _ [] []
   refine En.block_exit (En.next (WC.seq (WC.region ?_)))
   refine sp (OpV.assign rfl) ?_
   refine WL.nil (En.next (WC.ret ?_))
   refine En.ret1 rfl (Res.tmp rfl) ?_
   obtain rfl := Option.some.inj h
   intro w' hs
   exact ⟨rfl, hs.below⟩
  ·
   intro zK0_0
   refine WC.loopP (G := Unit) (fun s g => match s, g with | v_0, () => [(1, .int .i64 w_p1), (2, .int .i64 h_p2), (26, .slice q0_0 list_p0.length k0_0), (27, .int .i64 (list_p0.length : Int)), (28, .int .i64 v_0)]) (fun s g => match s, g with | v_0, () => []) 0 () ezy0 (by exact Sub.cons rfl (Sub.cons rfl (Sub.cons rfl (Sub.cons rfl (Sub.cons rfl (Sub.nil _)))))) (by exact (fun _ h => h)) ?_
   rintro zm0 v_0 ⟨⟩ zo0 zf0 zb0 ze0
   have zh0 : impl_PlanesOk_L0 list_p0 w_p1 h_p2 v_0 = some zo0 := zf0
   unfold impl_PlanesOk_L0 at zh0
   show WC _ _ _ _ _ [(1, .int .i64 w_p1), (2, .int .i64 h_p2), (26, .slice q0_0 list_p0.length k0_0), (27, .int .i64 (list_p0.length : Int)), (28, .int .i64 v_0)] []
   refine WC.seq (WC.region ?_)
   refine sp (OpV.lss rfl rfl) ?_
   refine WL.nil (En.next (WC.seq ?_))
   refine WC.cond rfl ?_ ?_
   ·
    intro hc_2
    replace zh0 := ifO_t hc_2 zh0
    refine WC.skip (En.next (WC.seq (WC.block (WC.seq ?_))))
    obtain ⟨x5_1, e5_1, zh0⟩ := bnd zh0
    obtain ⟨g5_1, o5_1, _, ha5_1, ⟨a5_1_1, c5_1_1, rfl, r5_1_1⟩, hd5_1⟩ := Rd.atIdx r0_0 e5_1
    replace hd5_1 : ∀ (j : Nat) v, ([.bool x5_1.On, .int .i64 x5_1.X, .int .i64 x5_1.Y, .int .i64 x5_1.W, .int .i64 x5_1.H, .int .i64 x5_1.Layout, .slice a5_1_1 x5_1.Words.length c5_1_1, .int .i64 x5_1.Alpha, .int .i64 x5_1.Orient, .int .i64 x5_1.ToW, .int .i64 x5_1.ToH] : List Value)[j]? = some v → w.cell? ⟨g5_1, o5_1 + v_0.toNat * 11 + j, .none⟩ = some v := hd5_1
    refine WC.region ?_
    refine sp (OpV.move rfl) ?_
    refine sp (OpV.idxA rfl rfl se_29 ha5_1 ⟨(idx_some e5_1).1, (idx_some e5_1).2.1⟩) ?_
    refine sp (OpV.loadN rfl ag_82 rfl (fun w hs => hs.cellsAt hd5_1)) ?_
    refine WL.heavy rfl rfl rfl (OpH.alloc zc_82 ?_)
    intro b5_3
    refine sp (OpV.assign rfl) ?_
    refine WL.heavy0 rfl rfl (OpH.storeTo (A := []) [_, _, _, _, _, _, _, _, _, _, _] rfl rfl rfl ts_82 rfl rfl rfl ?_)
    refine WL.nil (En.next (WC.seq ?_))
    obtain ⟨x6_4, e6_4, zh0⟩ := bnd zh0
    refine WC.region ?_
    refine sp (OpV.move rfl) ?_
    refine sp (OpV.loadAll rfl (.head _) ag_82) ?_
    refine sp (OpV.move rfl) ?_
    refine sp (OpV.move rfl) ?_
    refine sp (OpV.call (evs.cons rfl (evs.cons rfl (evs.cons rfl (evs.cons rfl (evs.nil))))) ca_105 (fun w hs => w_impl_PlaneOk e6_4 (r5_1_1.ext hs.below))) ?_
    refine sp (OpV.not rfl) ?_
    refine WL.nil (En.next ?_)
    refine WC.cond rfl ?_ ?_
    ·
     intro hc_3
     replace zh0 := ifO_t hc_3 zh0
     refine WC.seq (WC.region ?_)
     refine sp (OpV.assign rfl) ?_
     refine WL.nil (En.next (WC.ret (En.block_ret (En.then_ret (En.then_ret (En.block_ret (En.then_ret ?_)))))))
     refine En.ret1 rfl (Res.tmp rfl) ?_
     have hx := exitP ze0 zh0
     subst hx
     replace h := fork_r h
     obtain rfl := Option.some.inj h
     intro w' hs
     exact ⟨rfl, hs.below⟩
    ·
     intro hc_3
     replace zh0 := ifO_f hc_3 zh0
     refine WC.skip (En.block_norm (En.next (WC.region ?_)))
     refine sp (OpV.addR rfl rfl) ?_
     refine sp (OpV.move rfl) ?_
     refine WL.nil ?_
     exact En.backP zb0 zh0 () (Sub.cons rfl (Sub.cons rfl (Sub.cons rfl (Sub.cons rfl (Sub.cons rfl (Sub.nil _)))))) (fun _ h => (h).sub (.cons _ (.slnil)))
   ·
    intro hc_2
    replace zh0 := ifO_f hc_2 zh0
    refine WC.exit (En.then_exit (En.then_exit ?_))
    have hx := exitP ze0 zh0
    exact En.wk _ _ (Sub.nil _) (fun _ h => h) (zK0_0 ((), ()) hx.symm)

theorem w_impl_ColorOk {m_p0 : ColorMapT} {r : Bool} {q0_0 : Option Addr} {n0_0 k0_0 : Nat} {q0_1 : Option Addr} {n0_1 k0_1 : Nat} (h : impl_ColorOk m_p0 = some r) {w : World} (r0_0 : Rd tInt w q0_0 n0_0 k0_0 m_p0.Matrix) (r0_1 : Rd tInt w q0_1 n0_1 k0_1 m_p0.Curve)   :
    Calls Tryz.prog 58 #[.agg #[.slice q0_0 n0_0 k0_0, .slice q0_1 n0_1 k0_1]] w (fun en w' => en = .returned (.bool r) ∧ Ext w w') := by
 obtain rfl := r0_0.1
 obtain rfl := r0_1.1
 unfold impl_ColorOk at h
 refine enter (vs := [_]) Tryz.func58 rfl rfl rfl rfl ?_
 refine WC.seq (WC.region ?_)
 refine WL.heavy rfl rfl rfl (OpH.box rfl rfl ?_)
 intro b0_0
 refine sp (OpV.assign rfl) ?_
 refine WL.nil (En.next (WC.seq (WC.seq (WC.region ?_))))
 refine sp (OpV.fieldAddr rfl fo_31_0) ?_
 refine sp (OpV.loadBox rfl pt_23 (.head _) rfl) ?_
 refine sp (OpV.len rfl si_23 rfl) ?_
 refine sp (OpV.move rfl) ?_
 refine WL.nil (En.next (WC.block ?_))
 obtain ⟨zy0, ezy0, h⟩ := bnd h
 refine WC.cut (X := (Unit) × (Unit)) (.exit 0) (fun x => zy0 = .inl x.1) (fun x => match x with | ((), ()) => [(1, .pointer (some ⟨b0_0, 0, .none⟩))]) (fun x => match x with | ((), ()) => [Chunk.box b0_0 31 [.slice q0_0 m_p0.Matrix.length k0_0, .slice q0_1 m_p0.Curve.length k0_1]]) ?_ ?_
 ·
  rintro ⟨⟨⟩, ⟨⟩⟩ hx
  replace hx : .inl () = zy0 := hx.symm
  subst hx
  replace h := fork_l h
  show En _ _ _ _ [(1, .pointer (some ⟨b0_0, 0, .none⟩))] [Chunk.box b0_0 31 [.slice q0_0 m_p0.Matrix.length k0_0, .slice q0_1 m_p0.Curve.length k0_1]]
  refine En.block_exit (En.next (WC.seq (WC.seq (WC.region ?_))))
  refine sp (OpV.fieldAddr rfl fo_31_1) ?_
  refine sp (OpV.loadBox rfl pt_23 (.head _) rfl) ?_
  refine sp (OpV.len rfl si_23 rfl) ?_
  refine sp (OpV.move rfl) ?_
  refine WL.nil (En.next (WC.block ?_))
  obtain ⟨zy1, ezy1, h⟩ := bnd h
  refine WC.cut (X := (Unit) × (Unit)) (.exit 2) (fun x => zy1 = .inl x.1) (fun x => match x with | ((), ()) => [(1, .pointer (some ⟨b0_0, 0, .none⟩))]) (fun x => match x with | ((), ()) => [Chunk.box b0_0 31 [.slice q0_0 m_p0.Matrix.length k0_0, .slice q0_1 m_p0.Curve.length k0_1]]) ?_ ?_
  ·
   rintro ⟨⟨⟩, ⟨⟩⟩ hx
   replace hx : .inl () = zy1 := hx.symm
   subst hx
   replace h := fork_l h
   show En _ _ _ _ [(1, .pointer (some ⟨b0_0, 0, .none⟩))] [Chunk.box b0_0 31 [.slice q0_0 m_p0.Matrix.length k0_0, .slice q0_1 m_p0.Curve.length k0_1]]
   refine En.block_exit (En.next (WC.seq (WC.region ?_)))
   refine sp (OpV.fieldAddr rfl fo_31_0) ?_
   refine sp (OpV.loadBox rfl pt_23 (.head _) rfl) ?_
   refine sp (OpV.len rfl si_23 rfl) ?_
   refine sp (OpV.eql rfl rfl) ?_
   refine sp (OpV.move rfl) ?_
   refine Lt.ofWL.and 33 38 37 (p := ?pz1) (rest := ?qz1) (B := ?Bz1) rfl ?Tz1 ?Fz1 ?az1 ?bz1 ?cz1 ?dz1 ?ez1
   case Tz1 =>
    intro hcz1 hkz1
    refine sp (OpV.fieldAddr rfl fo_31_1) ?_
    refine sp (OpV.loadBox rfl pt_23 (.head _) rfl) ?_
    refine sp (OpV.len rfl si_23 rfl) ?_
    refine sp (OpV.eql rfl rfl) ?_
    refine hkz1 _ ?_ ?_
    exact rfl
    repeat (first | exact Sub.refl _ | refine Sub.skip rfl ?_)
   case Fz1 =>
    intro hcz1 hkz1
    refine sk ?_
    refine sk ?_
    refine sk ?_
    refine sk ?_
    refine hkz1 _ ?_
    repeat (first | exact Sub.refl _ | refine Sub.skip rfl ?_)
   case az1 => exact rfl
   case bz1 => exact rfl
   case cz1 => exact rfl
   case dz1 => exact rfl
   refine sp (OpV.assign rfl) ?_
   refine WL.nil (En.next (WC.ret ?_))
   refine En.ret1 rfl (Res.tmp rfl) ?_
   obtain rfl := Option.some.inj h
   intro w' hs
   exact ⟨rfl, hs.below⟩
  ·
   intro zK1_0
   refine WC.loopP (G := Unit) (fun s g => match s, g with | v_1, () => [(1, .pointer (some ⟨b0_0, 0, .none⟩)), (19, .slice q0_1 m_p0.Curve.length k0_1), (20, .int .i64 (m_p0.Curve.length : Int)), (21, .int .i64 v_1)]) (fun s g => match s, g with | v_1, () => [Chunk.box b0_0 31 [.slice q0_0 m_p0.Matrix.length k0_0, .slice q0_1 m_p0.Curve.length k0_1]]) 0 () ezy1 (by exact Sub.cons rfl (Sub.cons rfl (Sub.cons rfl (Sub.cons rfl (Sub.nil _))))) (by exact (fun _ h => h)) ?_
   rintro zm1 v_1 ⟨⟩ zo1 zf1 zb1 ze1
   have zh1 : impl_ColorOk_L1 m_p0 v_1 = some zo1 := zf1
   unfold impl_ColorOk_L1 at zh1
   show WC _ _ _ _ _ [(1, .pointer (some ⟨b0_0, 0, .none⟩)), (19, .slice q0_1 m_p0.Curve.length k0_1), (20, .int .i64 (m_p0.Curve.length : Int)), (21, .int .i64 v_1)] [Chunk.box b0_0 31 [.slice q0_0 m_p0.Matrix.length k0_0, .slice q0_1 m_p0.Curve.length k0_1]]
   refine WC.seq (WC.region ?_)
   refine sp (OpV.lss rfl rfl) ?_
   refine WL.nil (En.next (WC.seq ?_))
   refine WC.cond rfl ?_ ?_
   ·
    intro hc_1
    replace zh1 := ifO_t hc_1 zh1
    refine WC.skip (En.next (WC.seq (WC.block (WC.seq ?_))))
    obtain ⟨x9_0, e9_0, zh1⟩ := bnd zh1
    obtain ⟨g9_0, o9_0, _, ha9_0, rfl, hd9_0⟩ := Rd.atIdx r0_1 e9_0
    replace hd9_0 : ∀ (j : Nat) v, ([.int .i64 x9_0] : List Value)[j]? = some v → w.cell? ⟨g9_0, o9_0 + v_1.toNat * 1 + j, .none⟩ = some v := hd9_0
    refine WC.region ?_
    refine sp (OpV.idxA rfl rfl se_23 ha9_0 ⟨(idx_some e9_0).1, (idx_some e9_0).2.1⟩) ?_
    refine sp (OpV.load1 rfl pt_3 (fun w hs => hs.cell (hd9_0 0 _ rfl))) ?_
    refine sp (OpV.assign rfl) ?_
    refine WL.nil (En.next (WC.seq ?_))
    obtain ⟨x10_1, e10_1, zh1⟩ := bnd zh1
    refine WC.region ?_
    refine sp (OpV.move rfl) ?_
    refine sp (OpV.call (evs.cons rfl (evs.cons rfl (evs.cons rfl (evs.nil)))) ca_59 (fun w hs => w_impl_within e10_1)) ?_
    refine sp (OpV.not rfl) ?_
    refine WL.nil (En.next ?_)
    refine WC.cond rfl ?_ ?_
    ·
     intro hc_2
     replace zh1 := ifO_t hc_2 zh1
     refine WC.seq (WC.region ?_)
     refine sp (OpV.assign rfl) ?_
     refine WL.nil (En.next (WC.ret (En.block_ret (En.then_ret (En.then_ret (En.block_ret (En.then_ret ?_)))))))
     refine En.ret1 rfl (Res.tmp rfl) ?_
     have hx := exitP ze1 zh1
     subst hx
     replace h := fork_r h
     obtain rfl := Option.some.inj h
     intro w' hs
     exact ⟨rfl, hs.below⟩
    ·
     intro hc_2
     replace zh1 := ifO_f hc_2 zh1
     refine WC.skip (En.block_norm (En.next (WC.region ?_)))
     refine sp (OpV.addR rfl rfl) ?_
     refine sp (OpV.move rfl) ?_
     refine WL.nil ?_
     exact En.backP zb1 zh1 () (Sub.cons rfl (Sub.cons rfl (Sub.cons rfl (Sub.cons rfl (Sub.nil _))))) (fun _ h => h)
   ·
    intro hc_1
    replace zh1 := ifO_f hc_1 zh1
    refine WC.exit (En.then_exit (En.then_exit ?_))
    have hx := exitP ze1 zh1
    exact En.wk _ _ (Sub.cons rfl (Sub.nil _)) (fun _ h => h) (zK1_0 ((), ()) hx.symm)
 ·
  intro zK0_0
  refine WC.loopP (G := Unit) (fun s g => match s, g with | v_0, () => [(1, .pointer (some ⟨b0_0, 0, .none⟩)), (8, .slice q0_0 m_p0.Matrix.length k0_0), (9, .int .i64 (m_p0.Matrix.length : Int)), (10, .int .i64 v_0)]) (fun s g => match s, g with | v_0, () => [Chunk.box b0_0 31 [.slice q0_0 m_p0.Matrix.length k0_0, .slice q0_1 m_p0.Curve.length k0_1]]) 0 () ezy0 (by exact Sub.cons rfl (Sub.cons rfl (Sub.cons rfl (Sub.cons rfl (Sub.nil _))))) (by exact (fun _ h => h)) ?_
  rintro zm0 v_0 ⟨⟩ zo0 zf0 zb0 ze0
  have zh0 : impl_ColorOk_L0 m_p0 v_0 = some zo0 := zf0
  unfold impl_ColorOk_L0 at zh0
  show WC _ _ _ _ _ [(1, .pointer (some ⟨b0_0, 0, .none⟩)), (8, .slice q0_0 m_p0.Matrix.length k0_0), (9, .int .i64 (m_p0.Matrix.length : Int)), (10, .int .i64 v_0)] [Chunk.box b0_0 31 [.slice q0_0 m_p0.Matrix.length k0_0, .slice q0_1 m_p0.Curve.length k0_1]]
  refine WC.seq (WC.region ?_)
  refine sp (OpV.lss rfl rfl) ?_
  refine WL.nil (En.next (WC.seq ?_))
  refine WC.cond rfl ?_ ?_
  ·
   intro hc_3
   replace zh0 := ifO_t hc_3 zh0
   refine WC.skip (En.next (WC.seq (WC.block (WC.seq ?_))))
   obtain ⟨x3_0, e3_0, zh0⟩ := bnd zh0
   obtain ⟨g3_0, o3_0, _, ha3_0, rfl, hd3_0⟩ := Rd.atIdx r0_0 e3_0
   replace hd3_0 : ∀ (j : Nat) v, ([.int .i64 x3_0] : List Value)[j]? = some v → w.cell? ⟨g3_0, o3_0 + v_0.toNat * 1 + j, .none⟩ = some v := hd3_0
   refine WC.region ?_
   refine sp (OpV.idxA rfl rfl se_23 ha3_0 ⟨(idx_some e3_0).1, (idx_some e3_0).2.1⟩) ?_
   refine sp (OpV.load1 rfl pt_3 (fun w hs => hs.cell (hd3_0 0 _ rfl))) ?_
   refine sp (OpV.assign rfl) ?_
   refine WL.nil (En.next (WC.seq ?_))
   obtain ⟨x4_1, e4_1, zh0⟩ := bnd zh0
   refine WC.region ?_
   refine sp (OpV.move rfl) ?_
   refine sp (OpV.call (evs.cons rfl (evs.cons rfl (evs.cons rfl (evs.nil)))) ca_59 (fun w hs => w_impl_within e4_1)) ?_
   refine sp (OpV.not rfl) ?_
   refine WL.nil (En.next ?_)
   refine WC.cond rfl ?_ ?_
   ·
    intro hc_4
    replace zh0 := ifO_t hc_4 zh0
    refine WC.seq (WC.region ?_)
    refine sp (OpV.assign rfl) ?_
    refine WL.nil (En.next (WC.ret (En.block_ret (En.then_ret (En.then_ret (En.block_ret (En.then_ret ?_)))))))
    refine En.ret1 rfl (Res.tmp rfl) ?_
    have hx := exitP ze0 zh0
    subst hx
    replace h := fork_r h
    obtain rfl := Option.some.inj h
    intro w' hs
    exact ⟨rfl, hs.below⟩
   ·
    intro hc_4
    replace zh0 := ifO_f hc_4 zh0
    refine WC.skip (En.block_norm (En.next (WC.region ?_)))
    refine sp (OpV.addR rfl rfl) ?_
    refine sp (OpV.move rfl) ?_
    refine WL.nil ?_
    exact En.backP zb0 zh0 () (Sub.cons rfl (Sub.cons rfl (Sub.cons rfl (Sub.cons rfl (Sub.nil _))))) (fun _ h => h)
  ·
   intro hc_3
   replace zh0 := ifO_f hc_3 zh0
   refine WC.exit (En.then_exit (En.then_exit ?_))
   have hx := exitP ze0 zh0
   exact En.wk _ _ (Sub.cons rfl (Sub.nil _)) (fun _ h => h) (zK0_0 ((), ()) hx.symm)

theorem w_impl_CrtcOk {c_p0 : CrtcT} {r : Bool} {q0_0 : Option Addr} {n0_0 k0_0 : Nat} {q0_1 : Option Addr} {n0_1 k0_1 : Nat} {q0_2 : Option Addr} {n0_2 k0_2 : Nat} (h : impl_CrtcOk c_p0 = some r) {w : World} (r0_0 : Rd tPlane w q0_0 n0_0 k0_0 c_p0.Planes) (r0_1 : Rd tInt w q0_1 n0_1 k0_1 c_p0.Color.Matrix) (r0_2 : Rd tInt w q0_2 n0_2 k0_2 c_p0.Color.Curve)   :
    Calls Tryz.prog 71 #[.agg #[.int .i64 c_p0.W, .int .i64 c_p0.H, .slice q0_0 n0_0 k0_0, .slice q0_1 n0_1 k0_1, .slice q0_2 n0_2 k0_2]] w (fun en w' => en = .returned (.bool r) ∧ Ext w w') := by
 obtain rfl := r0_0.1
 obtain rfl := r0_1.1
 obtain rfl := r0_2.1
 unfold impl_CrtcOk at h
 refine enter (vs := [_]) Tryz.func71 rfl rfl rfl rfl ?_
 refine WC.seq (WC.region ?_)
 refine WL.heavy rfl rfl rfl (OpH.box rfl rfl ?_)
 intro b0_0
 refine sp (OpV.assign rfl) ?_
 refine WL.nil (En.next (WC.seq ?_))
 obtain ⟨x1_6, e1_6, h⟩ := bnd h
 obtain ⟨q1_11, e1_11, h⟩ := bnd h
 refine WC.region ?_
 refine sp (OpV.fieldAddr rfl fo_46_2) ?_
 refine sp (OpV.loadBox rfl pt_29 (.head _) rfl) ?_
 refine sp (OpV.fieldAddr rfl fo_46_0) ?_
 refine sp (OpV.loadBox rfl pt_3 (.head _) rfl) ?_
 refine sp (OpV.fieldAddr rfl fo_46_1) ?_
 refine sp (OpV.loadBox rfl pt_3 (.head _) rfl) ?_
 refine sp (OpV.call (evs.cons rfl (evs.cons rfl (evs.cons rfl (evs.nil)))) ca_57 (fun w hs => w_impl_PlanesOk e1_6 (r0_0.ext hs.below))) ?_
 refine sp (OpV.move rfl) ?_
 refine Lt.ofWL.andQ 10 14 13 (p := ?pz1) (rest := ?qz1) (B := q1_11) rfl (fun hz => andO_f e1_11 hz) ?Tz1 ?Fz1 ?az1 ?bz1 ?cz1 ?dz1 ?ez1
 case Tz1 =>
  intro hcz1 hkz1
  have hqz1 := andO_t e1_11 hcz1
  obtain ⟨x1_10, e1_10, hqz1⟩ := bnd hqz1
  obtain rfl := Option.some.inj hqz1
  refine sp (OpV.fieldAddr rfl fo_46_3) ?_
  refine sp (OpV.loadPart rfl (.head _) ag_31 rfl rfl) ?_
  refine sp (OpV.call (evs.cons rfl (evs.nil)) ca_58 (fun w hs => w_impl_ColorOk e1_10 (r0_1.ext hs.below) (r0_2.ext hs.below))) ?_
  refine hkz1 _ ?_ ?_
  exact rfl
  repeat (first | exact Sub.refl _ | refine Sub.skip rfl ?_)
 case Fz1 =>
  intro hcz1 hkz1
  refine sk ?_
  refine sk ?_
  refine sk ?_
  refine hkz1 _ ?_
  repeat (first | exact Sub.refl _ | refine Sub.skip rfl ?_)
 case az1 => exact rfl
 case bz1 => exact rfl
 case cz1 => exact rfl
 case dz1 => exact rfl
 refine sp (OpV.assign rfl) ?_
 refine WL.nil (En.next (WC.ret ?_))
 refine En.ret1 rfl (Res.tmp rfl) ?_
 obtain rfl := Option.some.inj h
 intro w' hs
 exact ⟨rfl, hs.below⟩

theorem w_impl_ChangeOk {x_p0 : ChangeT} {r : Bool} {q0_0 : Option Addr} {n0_0 k0_0 : Nat} {q0_1 : Option Addr} {n0_1 k0_1 : Nat} {q0_2 : Option Addr} {n0_2 k0_2 : Nat} (h : impl_ChangeOk x_p0 = some r) {w : World} (r0_0 : Rd tInt w q0_0 n0_0 k0_0 x_p0.Value.Words) (r0_1 : Rd tInt w q0_1 n0_1 k0_1 x_p0.Color.Matrix) (r0_2 : Rd tInt w q0_2 n0_2 k0_2 x_p0.Color.Curve)   :
    Calls Tryz.prog 47 #[.agg #[.int .i64 x_p0.Plane, .bool x_p0.Value.On, .int .i64 x_p0.Value.X, .int .i64 x_p0.Value.Y, .int .i64 x_p0.Value.W, .int .i64 x_p0.Value.H, .int .i64 x_p0.Value.Layout, .slice q0_0 n0_0 k0_0, .int .i64 x_p0.Value.Alpha, .int .i64 x_p0.Value.Orient, .int .i64 x_p0.Value.ToW, .int .i64 x_p0.Value.ToH, .slice q0_1 n0_1 k0_1, .slice q0_2 n0_2 k0_2]] w (fun en w' => en = .returned (.bool r) ∧ Ext w w') := by
 obtain rfl := r0_0.1
 obtain rfl := r0_1.1
 obtain rfl := r0_2.1
 unfold impl_ChangeOk at h
 refine enter (vs := [_]) Tryz.func47 rfl rfl rfl rfl ?_
 refine WC.seq (WC.region ?_)
 refine WL.heavy rfl rfl rfl (OpH.box rfl rfl ?_)
 intro b0_0
 refine sp (OpV.assign rfl) ?_
 refine WL.nil (En.next (WC.seq (WC.seq (WC.region ?_))))
 refine sp (OpV.fieldAddr rfl fo_84_0) ?_
 refine sp (OpV.loadBox rfl pt_3 (.head _) rfl) ?_
 refine sp (OpV.eql rfl rfl) ?_
 refine WL.nil (En.next ?_)
 refine WC.cond rfl ?_ ?_
 ·
  intro hc_1
  replace h := ifO_t hc_1 h
  refine WC.seq ?_
  obtain ⟨x2_3, e2_3, h⟩ := bnd h
  refine WC.region ?_
  refine sp (OpV.fieldAddr rfl fo_84_1) ?_
  refine sp (OpV.loadPart rfl (.head _) ag_82 rfl rfl) ?_
  refine sp (OpV.build (evps.nil) bd_82_) ?_
  refine sp (OpV.call (evs.cons rfl (evs.cons rfl (evs.nil))) ca_95 (fun w hs => w_impl_samePlane e2_3 (r0_0.ext hs.below) (Rd.nil _))) ?_
  refine sp (OpV.assign rfl) ?_
  refine WL.nil (En.next (WC.ret (En.then_ret ?_)))
  refine En.ret1 rfl (Res.tmp rfl) ?_
  obtain rfl := Option.some.inj h
  intro w' hs
  exact ⟨rfl, hs.below⟩
 ·
  intro hc_1
  replace h := ifO_f hc_1 h
  refine WC.skip (En.next (WC.seq ?_))
  obtain ⟨x3_2, e3_2, h⟩ := bnd h
  refine WC.region ?_
  refine sp (OpV.fieldAddr rfl fo_84_0) ?_
  refine sp (OpV.loadBox rfl pt_3 (.head _) rfl) ?_
  refine sp (OpV.call (evs.cons rfl (evs.cons rfl (evs.cons rfl (evs.nil)))) ca_59 (fun w hs => w_impl_within e3_2)) ?_
  refine sp (OpV.move rfl) ?_
  refine Lt.ofWL.and 13 19 18 (p := ?pz1) (rest := ?qz1) (B := ?Bz1) rfl ?Tz1 ?Fz1 ?az1 ?bz1 ?cz1 ?dz1 ?ez1
  case Tz1 =>
   intro hcz1 hkz1
   refine sp (OpV.fieldAddr rfl fo_84_2) ?_
   refine sp (OpV.fieldAddr rfl fo_31_0) ?_
   refine sp (OpV.loadBox rfl pt_23 (.head _) rfl) ?_
   refine sp (OpV.len rfl si_23 rfl) ?_
   refine sp (OpV.eql rfl rfl) ?_
   refine hkz1 _ ?_ ?_
   exact rfl
   repeat (first | exact Sub.refl _ | refine Sub.skip rfl ?_)
  case Fz1 =>
   intro hcz1 hkz1
   refine sk ?_
   refine sk ?_
   refine sk ?_
   refine sk ?_
   refine sk ?_
   refine hkz1 _ ?_
   repeat (first | exact Sub.refl _ | refine Sub.skip rfl ?_)
  case az1 => exact rfl
  case bz1 => exact rfl
  case cz1 => exact rfl
  case dz1 => exact rfl
  refine sp (OpV.move rfl) ?_
  refine Lt.ofWL.and 20 26 25 (p := ?pz2) (rest := ?qz2) (B := ?Bz2) rfl ?Tz2 ?Fz2 ?az2 ?bz2 ?cz2 ?dz2 ?ez2
  case Tz2 =>
   intro hcz2 hkz2
   refine sp (OpV.fieldAddr rfl fo_84_2) ?_
   refine sp (OpV.fieldAddr rfl fo_31_1) ?_
   refine sp (OpV.loadBox rfl pt_23 (.head _) rfl) ?_
   refine sp (OpV.len rfl si_23 rfl) ?_
   refine sp (OpV.eql rfl rfl) ?_
   refine hkz2 _ ?_ ?_
   exact rfl
   repeat (first | exact Sub.refl _ | refine Sub.skip rfl ?_)
  case Fz2 =>
   intro hcz2 hkz2
   refine sk ?_
   refine sk ?_
   refine sk ?_
   refine sk ?_
   refine sk ?_
   refine hkz2 _ ?_
   repeat (first | exact Sub.refl _ | refine Sub.skip rfl ?_)
  case az2 => exact rfl
  case bz2 => exact rfl
  case cz2 => exact rfl
  case dz2 => exact rfl
  refine sp (OpV.assign rfl) ?_
  refine WL.nil (En.next (WC.ret ?_))
  refine En.ret1 rfl (Res.tmp rfl) ?_
  obtain rfl := Option.some.inj h
  intro w' hs
  exact ⟨rfl, hs.below⟩

theorem w_impl_TestChanges {c_p0 : CrtcT} {list_p1 : List ChangeT} {r : CrtcT × Bool} {q0_0 : Option Addr} {n0_0 k0_0 : Nat} {q0_1 : Option Addr} {n0_1 k0_1 : Nat} {q0_2 : Option Addr} {n0_2 k0_2 : Nat} {q1_0 : Option Addr} {n1_0 k1_0 : Nat} (h : impl_TestChanges c_p0 list_p1 = some r) {w : World} (r0_0 : Rd tPlane w q0_0 n0_0 k0_0 c_p0.Planes) (r0_1 : Rd tInt w q0_1 n0_1 k0_1 c_p0.Color.Matrix) (r0_2 : Rd tInt w q0_2 n0_2 k0_2 c_p0.Color.Curve) (r1_0 : Rd tChange w q1_0 n1_0 k1_0 list_p1)   :
    Calls Tryz.prog 27 #[.agg #[.int .i64 c_p0.W, .int .i64 c_p0.H, .slice q0_0 n0_0 k0_0, .slice q0_1 n0_1 k0_1, .slice q0_2 n0_2 k0_2], .slice q1_0 n1_0 k1_0] w (fun en w' => ∃ rv G, en = .returned rv ∧ (∃ (a0_0 : Option Addr) (n0_0 : Nat) (c0_0 : Nat) (f0_0 : List Nat) (a0_1 : Option Addr) (n0_1 : Nat) (c0_1 : Nat) (f0_1 : List Nat) (a0_2 : Option Addr) (n0_2 : Nat) (c0_2 : Nat) (f0_2 : List Nat), rv = .tuple #[.agg #[.int .i64 r.1.W, .int .i64 r.1.H, .slice a0_0 n0_0 c0_0, .slice a0_1 n0_1 c0_1, .slice a0_2 n0_2 c0_2], .bool r.2] ∧ G = [Chunk.own tPlane f0_0 a0_0 n0_0 c0_0 r.1.Planes, Chunk.own tInt f0_1 a0_1 n0_1 c0_1 r.1.Color.Matrix, Chunk.own tInt f0_2 a0_2 n0_2 c0_2 r.1.Color.Curve]) ∧ St w G w') := by
  obtain rfl := r0_0.1
  obtain rfl := r0_1.1
  obtain rfl := r0_2.1
  obtain rfl := r1_0.1
  unfold impl_TestChanges at h
  refine enter (vs := [_, _]) Tryz.func27 rfl rfl rfl rfl ?_
  refine WC.seq (WC.region ?_)
  refine WL.heavy rfl rfl rfl (OpH.box rfl rfl ?_)
  intro b0_0
  refine WL.heavy rfl rfl rfl (OpH.alloc zc_46 ?_)
  intro b0_1
  refine sp (OpV.assign rfl) ?_
  refine WL.nil (En.next (WC.seq ?_))
  obtain ⟨x1_1, e1_1, h⟩ := bnd h
  refine WC.region ?_
  refine sp (OpV.loadAll rfl (.tail _ (.head _)) ag_46) ?_
  refine WL.heavy rfl rfl rfl (OpH.callR (evs.cons rfl (evs.nil)) ca_70 (fun w hs => w_impl_copyCrtc e1_1 (r0_0.ext hs.below) (r0_1.ext hs.below) (r0_2.ext hs.below)) ?_)
  rintro _ _ ⟨a1_100, n1_100, c1_100, f1_100, a1_101, n1_101, c1_101, f1_101, a1_102, n1_102, c1_102, f1_102, rfl, rfl⟩
  refine WL.heavy rfl rfl rfl (OpH.alloc zc_46 ?_)
  intro b1_2
  refine WL.heavy0 rfl rfl (OpH.storeTo (A := []) [_, _, _, _, _] rfl rfl rfl ts_46 rfl rfl rfl ?_)
  refine WL.nil (En.next (WC.seq (WC.seq ?_)))
  obtain ⟨x2_1, e2_1, h⟩ := bnd h
  refine WC.region ?_
  refine sp (OpV.loadAll rfl (.tail _ (.tail _ (.tail _ (.tail _ (.tail _ (.head _)))))) ag_46) ?_
  refine sp (OpV.call (evs.cons rfl (evs.nil)) ca_71 (fun w hs => w_impl_CrtcOk e2_1 (r0_0.ext hs.below) (r0_1.ext hs.below) (r0_2.ext hs.below))) ?_
  refine sp (OpV.not rfl) ?_
  refine WL.nil (En.next ?_)
  refine WC.cond rfl ?_ ?_
  ·
    intro hc_1
    replace h := ifO_t hc_1 h
    refine WC.seq (WC.region ?_)
    refine sp (OpV.loadAll rfl (.head _) ag_46) ?_
    refine WL.heavy0 rfl rfl (OpH.storeTo (A := [_, _, _, _]) [_, _, _, _, _] rfl rfl rfl ts_46 rfl rfl rfl ?_)
    refine sp (OpV.assign rfl) ?_
    refine WL.nil (En.next (WC.ret (En.then_ret ?_)))
    refine En.ret2 rfl (Res.cell rfl (.tail _ (.tail _ (.tail _ (.tail _ (.head _))))) ag_46) (Res.tmp rfl) ?_
    obtain rfl := Option.some.inj h
    intro w' hs
    have hs := ((((hs).perm (List.perm_middle (l₁ := [_, _, _]))).perm (List.perm_middle (l₁ := [_, _, _]))).perm (List.perm_middle (l₁ := [_, _, _]))).sub (.cons_cons _ (.cons_cons _ (.cons_cons _ (.cons _ (.cons _ (.cons _ (.slnil)))))))
    exact ⟨_, _, rfl, ⟨a1_100, n1_100, c1_100, f1_100, a1_101, n1_101, c1_101, f1_101, a1_102, n1_102, c1_102, f1_102, rfl, rfl⟩, hs⟩
  ·
    intro hc_1
    replace h := ifO_f hc_1 h
    refine WC.skip (En.next (WC.seq (WC.seq (WC.region ?_))))
    refine sp (OpV.move rfl) ?_
    refine sp (OpV.len rfl si_50 rfl) ?_
    refine sp (OpV.move rfl) ?_
    refine WL.nil (En.next (WC.block ?_))
    obtain ⟨zy0, ezy0, h⟩ := bnd h
    refine WC.cut (X := ((List PlaneT) × (List Int) × (List Int)) × ((List Nat) × (Option Addr) × Nat × Nat × (List Nat) × (Option Addr) × Nat × Nat × (List Nat))) (.exit 0) (fun x => zy0 = .inl x.1) (fun x => match x with | ((out_0e, out1_0e, out2_0e), (fout_0e, aout_0e, nout_0e, cout_0e, fout1_0e, aout1_0e, nout1_0e, cout1_0e, fout2_0e)) => [(2, .pointer (some ⟨b0_0, 0, .none⟩)), (4, .pointer (some ⟨b0_1, 0, .none⟩)), (6, .pointer (some ⟨b1_2, 0, .none⟩))]) (fun x => match x with | ((out_0e, out1_0e, out2_0e), (fout_0e, aout_0e, nout_0e, cout_0e, fout1_0e, aout1_0e, nout1_0e, cout1_0e, fout2_0e)) => [Chunk.box b0_0 46 [.int .i64 c_p0.W, .int .i64 c_p0.H, .slice q0_0 c_p0.Planes.length k0_0, .slice q0_1 c_p0.Color.Matrix.length k0_1, .slice q0_2 c_p0.Color.Curve.length k0_2], Chunk.box b0_1 46 [.int .i64 0, .int .i64 0, .slice .none 0 0, .slice .none 0 0, .slice .none 0 0], Chunk.box b1_2 46 [.int .i64 x1_1.W, .int .i64 x1_1.H, .slice a1_100 n1_100 c1_100, .slice aout_0e nout_0e cout_0e, .slice aout1_0e nout1_0e cout1_0e], Chunk.own tPlane fout_0e a1_100 n1_100 c1_100 out_0e, Chunk.own tInt fout1_0e aout_0e nout_0e cout_0e out1_0e, Chunk.own tInt fout2_0e aout1_0e nout1_0e cout1_0e out2_0e]) ?_ ?_
    ·
      rintro ⟨⟨out_0e, out1_0e, out2_0e⟩, ⟨fout_0e, aout_0e, nout_0e, cout_0e, fout1_0e, aout1_0e, nout1_0e, cout1_0e, fout2_0e⟩⟩ hx
      replace hx : .inl (out_0e, out1_0e, out2_0e) = zy0 := hx.symm
      subst hx
      replace h := fork_l h
      show En _ _ _ _ [(2, .pointer (some ⟨b0_0, 0, .none⟩)), (4, .pointer (some ⟨b0_1, 0, .none⟩)), (6, .pointer (some ⟨b1_2, 0, .none⟩))] [Chunk.box b0_0 46 [.int .i64 c_p0.W, .int .i64 c_p0.H, .slice q0_0 c_p0.Planes.length k0_0, .slice q0_1 c_p0.Color.Matrix.length k0_1, .slice q0_2 c_p0.Color.Curve.length k0_2], Chunk.box b0_1 46 [.int .i64 0, .int .i64 0, .slice .none 0 0, .slice .none 0 0, .slice .none 0 0], Chunk.box b1_2 46 [.int .i64 x1_1.W, .int .i64 x1_1.H, .slice a1_100 n1_100 c1_100, .slice aout_0e nout_0e cout_0e, .slice aout1_0e nout1_0e cout1_0e], Chunk.own tPlane fout_0e a1_100 n1_100 c1_100 out_0e, Chunk.own tInt fout1_0e aout_0e nout_0e cout_0e out1_0e, Chunk.own tInt fout2_0e aout1_0e nout1_0e cout1_0e out2_0e]
      refine En.block_exit (En.next (WC.seq (WC.seq ?_)))
      obtain ⟨x13_1, e13_1, h⟩ := bnd h
      refine WC.region ?_
      refine sp (OpV.loadAll rfl (.tail _ (.tail _ (.head _))) ag_46) ?_
      refine sp (OpV.call (evs.cons rfl (evs.nil)) ca_71 (fun w hs => w_impl_CrtcOk e13_1 (Ow.rd (hs.mem (.tail _ (.tail _ (.tail _ (.head _)))))) (Ow.rd (hs.mem (.tail _ (.tail _ (.tail _ (.tail _ (.head _))))))) (Ow.rd (hs.mem (.tail _ (.tail _ (.tail _ (.tail _ (.tail _ (.head _)))))))))) ?_
      refine sp (OpV.not rfl) ?_
      refine WL.nil (En.next ?_)
      refine WC.cond rfl ?_ ?_
      ·
        intro hc_2
        replace h := ifO_t hc_2 h
        refine WC.seq ?_
        obtain ⟨x14_1, e14_1, h⟩ := bnd h
        refine WC.region ?_
        refine sp (OpV.loadAll rfl (.head _) ag_46) ?_
        refine WL.heavy rfl rfl rfl (OpH.callR (evs.cons rfl (evs.nil)) ca_70 (fun w hs => w_impl_copyCrtc e14_1 (r0_0.ext hs.below) (r0_1.ext hs.below) (r0_2.ext hs.below)) ?_)
        rintro _ _ ⟨a14_100, n14_100, c14_100, f14_100, a14_101, n14_101, c14_101, f14_101, a14_102, n14_102, c14_102, f14_102, rfl, rfl⟩
        refine WL.heavy0 rfl rfl (OpH.storeTo (A := [_, _, _, _]) [_, _, _, _, _] rfl rfl rfl ts_46 rfl rfl rfl ?_)
        refine sp (OpV.assign rfl) ?_
        refine WL.nil (En.next (WC.ret (En.then_ret ?_)))
        refine En.ret2 rfl (Res.cell rfl (.tail _ (.tail _ (.tail _ (.tail _ (.head _))))) ag_46) (Res.tmp rfl) ?_
        obtain rfl := Option.some.inj h
        intro w' hs
        have hs := (hs).sub (.cons_cons _ (.cons_cons _ (.cons_cons _ (.cons _ (.cons _ (.cons _ (.cons _ (.cons _ (.cons _ (.slnil))))))))))
        exact ⟨_, _, rfl, ⟨a14_100, n14_100, c14_100, f14_100, a14_101, n14_101, c14_101, f14_101, a14_102, n14_102, c14_102, f14_102, rfl, rfl⟩, hs⟩
      ·
        intro hc_2
        replace h := ifO_f hc_2 h
        refine WC.skip (En.next (WC.seq (WC.region ?_)))
        refine sp (OpV.loadAll rfl (.tail _ (.tail _ (.head _))) ag_46) ?_
        refine WL.heavy0 rfl rfl (OpH.storeTo (A := [_]) [_, _, _, _, _] rfl rfl rfl ts_46 rfl rfl rfl ?_)
        refine sp (OpV.assign rfl) ?_
        refine WL.nil (En.next (WC.ret ?_))
        refine En.ret2 rfl (Res.cell rfl (.tail _ (.head _)) ag_46) (Res.tmp rfl) ?_
        obtain rfl := Option.some.inj h
        intro w' hs
        have hs := ((((hs).perm (List.perm_middle (l₁ := [_, _, _, _, _]))).perm (List.perm_middle (l₁ := [_, _, _, _, _]))).perm (List.perm_middle (l₁ := [_, _, _, _, _]))).sub (.cons_cons _ (.cons_cons _ (.cons_cons _ (.cons _ (.cons _ (.cons _ (.slnil)))))))
        exact ⟨_, _, rfl, ⟨a1_100, n1_100, c1_100, fout_0e, aout_0e, nout_0e, cout_0e, fout1_0e, aout1_0e, nout1_0e, cout1_0e, fout2_0e, rfl, rfl⟩, hs⟩
    ·
      intro zK0_0
      refine WC.loopP (G := (List Nat) × (Option Addr) × Nat × Nat × (List Nat) × (Option Addr) × Nat × Nat × (List Nat)) (fun s g => match s, g with | (out_0, out1_0, out2_0, v_0), (fout_0, aout_0, nout_0, cout_0, fout1_0, aout1_0, nout1_0, cout1_0, fout2_0) => [(2, .pointer (some ⟨b0_0, 0, .none⟩)), (4, .pointer (some ⟨b0_1, 0, .none⟩)), (6, .pointer (some ⟨b1_2, 0, .none⟩)), (15, .slice q1_0 list_p1.length k1_0), (16, .int .i64 (list_p1.length : Int)), (17, .int .i64 v_0)]) (fun s g => match s, g with | (out_0, out1_0, out2_0, v_0), (fout_0, aout_0, nout_0, cout_0, fout1_0, aout1_0, nout1_0, cout1_0, fout2_0) => [Chunk.box b0_0 46 [.int .i64 c_p0.W, .int .i64 c_p0.H, .slice q0_0 c_p0.Planes.length k0_0, .slice q0_1 c_p0.Color.Matrix.length k0_1, .slice q0_2 c_p0.Color.Curve.length k0_2], Chunk.box b0_1 46 [.int .i64 0, .int .i64 0, .slice .none 0 0, .slice .none 0 0, .slice .none 0 0], Chunk.box b1_2 46 [.int .i64 x1_1.W, .int .i64 x1_1.H, .slice a1_100 n1_100 c1_100, .slice aout_0 nout_0 cout_0, .slice aout1_0 nout1_0 cout1_0], Chunk.own tPlane fout_0 a1_100 n1_100 c1_100 out_0, Chunk.own tInt fout1_0 aout_0 nout_0 cout_0 out1_0, Chunk.own tInt fout2_0 aout1_0 nout1_0 cout1_0 out2_0]) (x1_1.Planes, x1_1.Color.Matrix, x1_1.Color.Curve, 0) (f1_100, a1_101, n1_101, c1_101, f1_101, a1_102, n1_102, c1_102, f1_102) ezy0 (by exact Sub.cons rfl (Sub.cons rfl (Sub.cons rfl (Sub.cons rfl (Sub.cons rfl (Sub.cons rfl (Sub.nil _))))))) (by exact (fun _ h => ((((((h).perm (List.perm_middle (l₁ := [_, _, _]))).perm (List.perm_middle (l₁ := [_, _, _]))).perm (List.perm_middle (l₁ := [_, _, _]))).perm (List.perm_middle (l₁ := [_, _, _]))).perm (List.perm_middle (l₁ := [_, _, _, _]))).perm (List.perm_middle (l₁ := [_, _, _, _, _])))) ?_
      rintro zm0 ⟨out_0, out1_0, out2_0, v_0⟩ ⟨fout_0, aout_0, nout_0, cout_0, fout1_0, aout1_0, nout1_0, cout1_0, fout2_0⟩ zo0 zf0 zb0 ze0
      have zh0 : impl_TestChanges_L0 c_p0 list_p1 out_0 out1_0 out2_0 v_0 = some zo0 := zf0
      unfold impl_TestChanges_L0 at zh0
      show WC _ _ _ _ _ [(2, .pointer (some ⟨b0_0, 0, .none⟩)), (4, .pointer (some ⟨b0_1, 0, .none⟩)), (6, .pointer (some ⟨b1_2, 0, .none⟩)), (15, .slice q1_0 list_p1.length k1_0), (16, .int .i64 (list_p1.length : Int)), (17, .int .i64 v_0)] [Chunk.box b0_0 46 [.int .i64 c_p0.W, .int .i64 c_p0.H, .slice q0_0 c_p0.Planes.length k0_0, .slice q0_1 c_p0.Color.Matrix.length k0_1, .slice q0_2 c_p0.Color.Curve.length k0_2], Chunk.box b0_1 46 [.int .i64 0, .int .i64 0, .slice .none 0 0, .slice .none 0 0, .slice .none 0 0], Chunk.box b1_2 46 [.int .i64 x1_1.W, .int .i64 x1_1.H, .slice a1_100 n1_100 c1_100, .slice aout_0 nout_0 cout_0, .slice aout1_0 nout1_0 cout1_0], Chunk.own tPlane fout_0 a1_100 n1_100 c1_100 out_0, Chunk.own tInt fout1_0 aout_0 nout_0 cout_0 out1_0, Chunk.own tInt fout2_0 aout1_0 nout1_0 cout1_0 out2_0]
      refine WC.seq (WC.region ?_)
      refine sp (OpV.lss rfl rfl) ?_
      refine WL.nil (En.next (WC.seq ?_))
      refine WC.cond rfl ?_ ?_
      ·
        intro hc_3
        replace zh0 := ifO_t hc_3 zh0
        refine WC.skip (En.next (WC.seq (WC.block (WC.seq ?_))))
        obtain ⟨x6_0, e6_0, zh0⟩ := bnd zh0
        obtain ⟨g6_0, o6_0, _, ha6_0, ⟨a6_0_1, c6_0_1, a6_0_2, c6_0_2, a6_0_3, c6_0_3, rfl, r6_0_1, r6_0_2, r6_0_3⟩, hd6_0⟩ := Rd.atIdx r1_0 e6_0
        replace hd6_0 : ∀ (j : Nat) v, ([.int .i64 x6_0.Plane, .bool x6_0.Value.On, .int .i64 x6_0.Value.X, .int .i64 x6_0.Value.Y, .int .i64 x6_0.Value.W, .int .i64 x6_0.Value.H, .int .i64 x6_0.Value.Layout, .slice a6_0_1 x6_0.Value.Words.length c6_0_1, .int .i64 x6_0.Value.Alpha, .int .i64 x6_0.Value.Orient, .int .i64 x6_0.Value.ToW, .int .i64 x6_0.Value.ToH, .slice a6_0_2 x6_0.Color.Matrix.length c6_0_2, .slice a6_0_3 x6_0.Color.Curve.length c6_0_3] : List Value)[j]? = some v → w.cell? ⟨g6_0, o6_0 + v_0.toNat * 14 + j, .none⟩ = some v := hd6_0
        refine WC.region ?_
        refine sp (OpV.idxA rfl rfl se_50 ha6_0 ⟨(idx_some e6_0).1, (idx_some e6_0).2.1⟩) ?_
        refine sp (OpV.loadN rfl ag_84 rfl (fun w hs => hs.cellsAt hd6_0)) ?_
        refine WL.heavy rfl rfl rfl (OpH.alloc zc_84 ?_)
        intro b6_2
        refine WL.heavy0 rfl rfl (OpH.storeTo (A := []) [_, _, _, _, _, _, _, _, _, _, _, _, _, _] rfl rfl rfl ts_84 rfl rfl rfl ?_)
        refine WL.nil (En.next (WC.block (WC.seq ?_)))
        obtain ⟨x8_1, e8_1, zh0⟩ := bnd zh0
        refine WC.region ?_
        refine sp (OpV.loadAll rfl (.head _) ag_84) ?_
        refine sp (OpV.call (evs.cons rfl (evs.nil)) ca_47 (fun w hs => w_impl_ChangeOk e8_1 (r6_0_1.ext hs.below) (r6_0_2.ext hs.below) (r6_0_3.ext hs.below))) ?_
        refine sp (OpV.not rfl) ?_
        refine sp (OpV.assign rfl) ?_
        refine WL.nil (En.next ?_)
        refine WC.cond rfl ?_ ?_
        ·
          intro hc_4
          replace zh0 := ifO_t hc_4 zh0
          refine WC.seq ?_
          obtain ⟨x9_1, e9_1, zh0⟩ := bnd zh0
          refine WC.region ?_
          refine sp (OpV.loadAll rfl (.tail _ (.head _)) ag_46) ?_
          refine WL.heavy rfl rfl rfl (OpH.callR (evs.cons rfl (evs.nil)) ca_70 (fun w hs => w_impl_copyCrtc e9_1 (r0_0.ext hs.below) (r0_1.ext hs.below) (r0_2.ext hs.below)) ?_)
          rintro _ _ ⟨a9_100, n9_100, c9_100, f9_100, a9_101, n9_101, c9_101, f9_101, a9_102, n9_102, c9_102, f9_102, rfl, rfl⟩
          refine WL.heavy0 rfl rfl (OpH.storeTo (A := [_, _, _, _, _]) [_, _, _, _, _] rfl rfl rfl ts_46 rfl rfl rfl ?_)
          refine sp (OpV.assign rfl) ?_
          refine WL.nil (En.next (WC.ret (En.block_ret (En.block_ret (En.then_ret (En.then_ret (En.block_ret (En.then_ret ?_))))))))
          refine En.ret2 rfl (Res.cell rfl (.tail _ (.tail _ (.tail _ (.tail _ (.tail _ (.head _)))))) ag_46) (Res.tmp rfl) ?_
          have hx := exitP ze0 zh0
          subst hx
          replace h := fork_r h
          obtain rfl := Option.some.inj h
          intro w' hs
          have hs := (hs).sub (.cons_cons _ (.cons_cons _ (.cons_cons _ (.cons _ (.cons _ (.cons _ (.cons _ (.cons _ (.cons _ (.cons _ (.slnil)))))))))))
          exact ⟨_, _, rfl, ⟨a9_100, n9_100, c9_100, f9_100, a9_101, n9_101, c9_101, f9_101, a9_102, n9_102, c9_102, f9_102, rfl, rfl⟩, hs⟩
        ·
          intro hc_4
          replace zh0 := ifO_f hc_4 zh0
          refine WC.seq (WC.region ?_)
          refine sp (OpV.fieldAddr rfl fo_84_0) ?_
          refine sp (OpV.loadBox rfl pt_3 (.head _) rfl) ?_
          refine sp (OpV.lss rfl rfl) ?_
          refine sp (OpV.assign rfl) ?_
          refine WL.nil (En.next ?_)
          refine WC.cond rfl ?_ ?_
          ·
            intro hc_5
            replace zh0 := ifO_t hc_5 zh0
            obtain ⟨x11_2, e11_2, zh0⟩ := bnd zh0
            refine WC.region ?_
            refine sp (OpV.fieldAddr rfl fo_84_2) ?_
            refine sp (OpV.loadPart rfl (.head _) ag_31 rfl rfl) ?_
            refine WL.heavy rfl rfl rfl (OpH.callR (evs.cons rfl (evs.nil)) ca_72 (fun w hs => w_impl_copyColor e11_2 (r6_0_2.ext hs.below) (r6_0_3.ext hs.below)) ?_)
            rintro _ _ ⟨a11_200, n11_200, c11_200, f11_200, a11_201, n11_201, c11_201, f11_201, rfl, rfl⟩
            refine sp (OpV.fieldAddr rfl fo_46_3) ?_
            refine WL.heavy0 rfl rfl (OpH.storeTo (A := [_, _, _, _, _]) [_, _, _, _, _] rfl rfl rfl ts_31 rfl rfl rfl ?_)
            refine WL.nil (En.block_norm (En.block_norm (En.next (WC.region ?_))))
            refine sp (OpV.addR rfl rfl) ?_
            refine sp (OpV.move rfl) ?_
            refine WL.nil ?_
            exact En.backP zb0 zh0 (fout_0, a11_200, n11_200, c11_200, f11_200, a11_201, n11_201, c11_201, f11_201) (Sub.cons rfl (Sub.cons rfl (Sub.cons rfl (Sub.cons rfl (Sub.cons rfl (Sub.cons rfl (Sub.nil _))))))) (fun _ h => (((((((h).perm (List.perm_middle (l₁ := [_]))).perm (List.perm_middle (l₁ := [_]))).perm (List.perm_middle (l₁ := [_, _, _, _, _, _]))).perm (List.perm_middle (l₁ := [_, _, _, _, _, _]))).perm (List.perm_middle (l₁ := [_, _, _, _, _, _]))).perm (List.perm_middle (l₁ := [_, _, _, _, _, _]))).sub (.cons_cons _ (.cons_cons _ (.cons_cons _ (.cons_cons _ (.cons_cons _ (.cons_cons _ (.cons _ (.cons _ (.cons _ (.slnil)))))))))))
          ·
            intro hc_5
            replace zh0 := ifO_f hc_5 zh0
            refine WC.inh fun hin7 => ?_
            obtain ⟨x7_7, e7_7, zh0⟩ := bnd zh0
            obtain ⟨x7_8, e7_8, zh0⟩ := bnd zh0
            have hn7_10 := ownLen hin7 (.tail _ (.tail _ (.tail _ (.tail _ (.head _)))))
            obtain ⟨x7_11, e7_11, zh0⟩ := bnd zh0
            obtain ⟨g7_10, ha7_10⟩ := ownAddrU hin7 (.tail _ (.tail _ (.tail _ (.tail _ (.head _))))) e7_11
            refine WC.wkF (fun _ h => h.perm (List.perm_middle (l₁ := [_, _, _, _]))) ?_
            refine WC.drawnH [_] ([_, _, _, _, _, _]) (fun _ h => h) (by kernel_rfl) ?_
            refine WAE.take (i := 0) rfl (by kernel_rfl) (by kernel_rfl) (by kernel_rfl) rfl rfl rfl (OpV.fieldAddr rfl fo_46_2) ?_
            refine WAE.take (i := 1) rfl (by kernel_rfl) (by kernel_rfl) (by kernel_rfl) rfl rfl rfl (OpV.loadBox rfl pt_29 (.tail _ (.tail _ (.tail _ (.head _)))) rfl) ?_
            refine WAE.take (i := 2) rfl (by kernel_rfl) (by kernel_rfl) (by kernel_rfl) rfl rfl rfl (OpV.fieldAddr rfl fo_84_0) ?_
            refine WAE.take (i := 3) rfl (by kernel_rfl) (by kernel_rfl) (by kernel_rfl) rfl rfl rfl (OpV.loadBox rfl pt_3 (.head _) rfl) ?_
            refine WAE.take (i := 4) rfl (by kernel_rfl) (by kernel_rfl) (by kernel_rfl) rfl rfl rfl (OpV.fieldAddr rfl fo_84_1) ?_
            refine WAE.take (i := 5) rfl (by kernel_rfl) (by kernel_rfl) (by kernel_rfl) rfl rfl rfl (OpV.loadPart rfl (.head _) ag_82 rfl rfl) ?_
            refine WAE.all (rs := [6]) (by kernel_rfl) rfl (AllR.cons rfl rfl rfl rfl ?_ AllR.nil)
            refine OpH.buildSlice (evps.cons rfl (evps.nil)) (bs_29_1_0 _ _ _ _ _ _ _ _ _ _ _ _ _) ?_
            intro b7_6
            refine ⟨[_, _], rfl, ?_⟩
            refine WAE.all (rs := [7]) (by kernel_rfl) rfl (AllR.cons rfl rfl rfl rfl ?_ AllR.nil)
            refine OpH.post (K := fun v F' => ∃ (a7_700 : Option Addr) (n7_700 c7_700 : Nat) (f7_700 : List Nat), v = .slice a7_700 n7_700 c7_700 ∧ F' = Chunk.own tPlane f7_700 a7_700 n7_700 c7_700 x7_7 :: [Chunk.box b7_6 82 [.bool x6_0.Value.On, .int .i64 x6_0.Value.X, .int .i64 x6_0.Value.Y, .int .i64 x6_0.Value.W, .int .i64 x6_0.Value.H, .int .i64 x6_0.Value.Layout, .slice a6_0_1 x6_0.Value.Words.length c6_0_1, .int .i64 x6_0.Value.Alpha, .int .i64 x6_0.Value.Orient, .int .i64 x6_0.Value.ToW, .int .i64 x6_0.Value.ToH], Chunk.own tPlane fout_0 a1_100 n1_100 c1_100 out_0, Chunk.box b6_2 84 [.int .i64 x6_0.Plane, .bool x6_0.Value.On, .int .i64 x6_0.Value.X, .int .i64 x6_0.Value.Y, .int .i64 x6_0.Value.W, .int .i64 x6_0.Value.H, .int .i64 x6_0.Value.Layout, .slice a6_0_1 x6_0.Value.Words.length c6_0_1, .int .i64 x6_0.Value.Alpha, .int .i64 x6_0.Value.Orient, .int .i64 x6_0.Value.ToW, .int .i64 x6_0.Value.ToH, .slice a6_0_2 x6_0.Color.Matrix.length c6_0_2, .slice a6_0_3 x6_0.Color.Curve.length c6_0_3], Chunk.box b0_0 46 [.int .i64 c_p0.W, .int .i64 c_p0.H, .slice q0_0 c_p0.Planes.length k0_0, .slice q0_1 c_p0.Color.Matrix.length k0_1, .slice q0_2 c_p0.Color.Curve.length k0_2], Chunk.box b0_1 46 [.int .i64 0, .int .i64 0, .slice .none 0 0, .slice .none 0 0, .slice .none 0 0], Chunk.box b1_2 46 [.int .i64 x1_1.W, .int .i64 x1_1.H, .slice a1_100 n1_100 c1_100, .slice aout_0 nout_0 cout_0, .slice aout1_0 nout1_0 cout1_0], Chunk.own tInt fout1_0 aout_0 nout_0 cout_0 out1_0, Chunk.own tInt fout2_0 aout1_0 nout1_0 cout1_0 out2_0]) (OpH.callR (evs.cons rfl (evs.nil)) ca_73 (fun w hs => w_impl_copyPlanes e7_7 (Rd.lit1 (hs.mem (.head _)) ⟨_, _, rfl, (r6_0_1.ext hs.below)⟩)) ?_) ?_
            · rintro _ _ ⟨a7_700, n7_700, c7_700, f7_700, rfl, rfl⟩
              exact ⟨_, _, _, _, rfl, rfl⟩
            rintro _ _ w' ⟨a7_700, n7_700, c7_700, f7_700, rfl, rfl⟩ hs
            have hn7_8 := ownLen ⟨w', hs⟩ (.head _)
            obtain ⟨g7_8, rfl⟩ := ownAddr ⟨w', hs⟩ (.head _) e7_8
            obtain ⟨⟨css7_8, fps7_8, cs7_8, fz7_8⟩, ⟨hcs7_8, hk7_8⟩, hs⟩ := St.focus (F := []) e7_8 hs
            obtain ⟨a7_8_0, c7_8_0, f7_8_0, hz7_8, hs⟩ := tPlane_open (F := []) hs
            subst hz7_8
            refine ⟨_, ?_, hs⟩
            refine ⟨[_, _, _, _, _], rfl, ?_⟩
            refine WAE.take (i := 8) rfl (by kernel_rfl) (by kernel_rfl) (by kernel_rfl) rfl rfl rfl (OpV.idxA rfl rfl se_29 rfl ⟨(idx_some e7_8).1, by rw [hn7_8]; exact (idx_some e7_8).2.1⟩) ?_
            refine WAE.all (rs := [9]) (by kernel_rfl) rfl (AllR.cons rfl rfl rfl rfl ?_ AllR.nil)
            refine OpH.light (OpV.loadN (l := [.bool x7_8.On, .int .i64 x7_8.X, .int .i64 x7_8.Y, .int .i64 x7_8.W, .int .i64 x7_8.H, .int .i64 x7_8.Layout, .slice a7_8_0 x7_8.Words.length c7_8_0, .int .i64 x7_8.Alpha, .int .i64 x7_8.Orient, .int .i64 x7_8.ToW, .int .i64 x7_8.ToH]) rfl ag_82 rfl (fun w hs j v hj => by rw [Addr.add_lit]; exact focCell (hs.mem (.tail _ (.head _))) hk7_8 hcs7_8 rfl hj)) ?_
            refine ⟨[_, _, _, _, _], rfl, ?_⟩
            refine WAE.take (i := 10) rfl (by kernel_rfl) (by kernel_rfl) (by kernel_rfl) rfl rfl rfl (OpV.idxA rfl rfl se_29 ha7_10 ⟨(upd_some e7_11).1.1, by rw [hn7_10]; exact (upd_some e7_11).1.2⟩) ?_
            refine WAE.all (rs := [11]) (by kernel_rfl) rfl (AllR.cons0 rfl rfl rfl ?_ AllR.nil)
            refine OpH.wkF (fun _ h => tPlane_mk x7_8.On x7_8.X x7_8.Y x7_8.W x7_8.H x7_8.Layout x7_8.Words x7_8.Alpha x7_8.Orient x7_8.ToW x7_8.ToH h) ?_
            refine OpH.wkF (fun _ h => h.perm (List.perm_middle (l₁ := [_, _, _, _]))) ?_
            refine OpH.wkF (fun _ h => h.perm (List.perm_middle (l₁ := [_]))) ?_
            refine OpH.setEl (A := tPlane) ha7_10 rfl rfl rfl ts_82 e7_11 ?_
            intro f7_11
            refine ⟨[_, _, _, _], rfl, ?_⟩
            refine WAE.rebase (H := []) ?_
            refine WAE.done (by kernel_rfl) ?_ _
            refine En.block_norm (En.block_norm (En.next (WC.region ?_)))
            refine sp (OpV.addR rfl rfl) ?_
            refine sp (OpV.move rfl) ?_
            refine WL.nil ?_
            exact En.backP zb0 zh0 (f7_11, aout_0, nout_0, cout_0, fout1_0, aout1_0, nout1_0, cout1_0, fout2_0) (Sub.cons rfl (Sub.cons rfl (Sub.cons rfl (Sub.cons rfl (Sub.cons rfl (Sub.cons rfl (Sub.nil _))))))) (fun _ h => (((((((h).perm (List.perm_middle (l₁ := [_, _, _, _, _, _, _, _, _]))).perm (List.perm_middle (l₁ := [_, _, _, _, _, _, _, _, _]))).perm (List.perm_middle (l₁ := [_, _]))).perm (List.perm_middle (l₁ := [_, _, _, _, _, _, _, _, _]))).perm (List.perm_middle (l₁ := [_, _, _, _, _, _, _, _, _]))).perm (List.perm_middle (l₁ := [_, _, _, _, _, _, _, _, _]))).sub (.cons_cons _ (.cons_cons _ (.cons_cons _ (.cons_cons _ (.cons_cons _ (.cons_cons _ (.cons _ (.cons _ (.cons _ (.cons _ (.slnil))))))))))))
      ·
        intro hc_3
        replace zh0 := ifO_f hc_3 zh0
        refine WC.exit (En.then_exit (En.then_exit ?_))
        have hx := exitP ze0 zh0
        exact En.wk _ _ (Sub.cons rfl (Sub.cons rfl (Sub.cons rfl (Sub.nil _)))) (fun _ h => h) (zK0_0 ((out_0, out1_0, out2_0), (fout_0, aout_0, nout_0, cout_0, fout1_0, aout1_0, nout1_0, cout1_0, fout2_0)) hx.symm)

theorem w_laws_eqIntS {a_p0 : List Int} {b_p1 : List Int} {r : Bool} {q0_0 : Option Addr} {n0_0 k0_0 : Nat} {q1_0 : Option Addr} {n1_0 k1_0 : Nat} (h : laws_eqIntS a_p0 b_p1 = some r) {w : World} (r0_0 : Rd tInt w q0_0 n0_0 k0_0 a_p0) (r1_0 : Rd tInt w q1_0 n1_0 k1_0 b_p1)   :
    Calls Tryz.prog 15 #[.slice q0_0 n0_0 k0_0, .slice q1_0 n1_0 k1_0] w (fun en w' => en = .returned (.bool r) ∧ Ext w w') := by
 obtain rfl := r0_0.1
 obtain rfl := r1_0.1
 unfold laws_eqIntS at h
 refine enter (vs := [_, _]) Tryz.func15 rfl rfl rfl rfl ?_
 refine WC.seq (WC.region ?_)
 refine sp (OpV.assign rfl) ?_
 refine WL.nil (En.next (WC.seq (WC.seq (WC.region ?_))))
 refine sp (OpV.move rfl) ?_
 refine sp (OpV.len rfl si_23 rfl) ?_
 refine sp (OpV.move rfl) ?_
 refine sp (OpV.len rfl si_23 rfl) ?_
 refine sp (OpV.neq rfl rfl) ?_
 refine WL.nil (En.next ?_)
 refine WC.cond rfl ?_ ?_
 ·
  intro hc_1
  replace h := ifO_t hc_1 h
  refine WC.seq (WC.region ?_)
  refine sp (OpV.assign rfl) ?_
  refine WL.nil (En.next (WC.ret (En.then_ret ?_)))
  refine En.ret1 rfl (Res.tmp rfl) ?_
  obtain rfl := Option.some.inj h
  intro w' hs
  exact ⟨rfl, hs.below⟩
 ·
  intro hc_1
  replace h := ifO_f hc_1 h
  refine WC.skip (En.next (WC.seq (WC.seq (WC.region ?_))))
  refine sp (OpV.assign rfl) ?_
  refine WL.nil (En.next (WC.block ?_))
  obtain ⟨zy0, ezy0, h⟩ := bnd h
  refine WC.cut (X := (Unit) × (Unit)) (.exit 0) (fun x => zy0 = .inl x.1) (fun x => match x with | ((), ()) => []) (fun x => match x with | ((), ()) => []) ?_ ?_
  ·
   rintro ⟨⟨⟩, ⟨⟩⟩ hx
   replace hx : .inl () = zy0 := hx.symm
   subst hx
   replace h := fork_l h
   show En _ _ _ _ [] []
   refine En.block_exit (En.next (WC.seq (WC.region ?_)))
   refine sp (OpV.assign rfl) ?_
   refine WL.nil (En.next (WC.ret ?_))
   refine En.ret1 rfl (Res.tmp rfl) ?_
   obtain rfl := Option.some.inj h
   intro w' hs
   exact ⟨rfl, hs.below⟩
  ·
   intro zK0_0
   refine WC.loopP (G := Unit) (fun s g => match s, g with | i_0, () => [(0, .slice q0_0 a_p0.length k0_0), (1, .slice q1_0 b_p1.length k1_0), (5, .int .i64 i_0)]) (fun s g => match s, g with | i_0, () => []) 0 () ezy0 (by exact Sub.cons rfl (Sub.cons rfl (Sub.cons rfl (Sub.nil _)))) (by exact (fun _ h => h)) ?_
   rintro zm0 i_0 ⟨⟩ zo0 zf0 zb0 ze0
   have zh0 : laws_eqIntS_L0 a_p0 b_p1 i_0 = some zo0 := zf0
   unfold laws_eqIntS_L0 at zh0
   show WC _ _ _ _ _ [(0, .slice q0_0 a_p0.length k0_0), (1, .slice q1_0 b_p1.length k1_0), (5, .int .i64 i_0)] []
   refine WC.seq (WC.seq (WC.region ?_))
   refine sp (OpV.move rfl) ?_
   refine sp (OpV.move rfl) ?_
   refine sp (OpV.len rfl si_23 rfl) ?_
   refine sp (OpV.lss rfl rfl) ?_
   refine WL.nil (En.next ?_)
   refine WC.cond rfl ?_ ?_
   ·
    intro hc_2
    replace zh0 := ifO_t hc_2 zh0
    refine WC.skip (En.next (WC.seq (WC.block (WC.seq ?_))))
    obtain ⟨x6_2, e6_2, zh0⟩ := bnd zh0
    obtain ⟨g6_2, o6_2, _, ha6_2, rfl, hd6_2⟩ := Rd.atIdx r0_0 e6_2
    replace hd6_2 : ∀ (j : Nat) v, ([.int .i64 x6_2] : List Value)[j]? = some v → w.cell? ⟨g6_2, o6_2 + i_0.toNat * 1 + j, .none⟩ = some v := hd6_2
    obtain ⟨x6_6, e6_6, zh0⟩ := bnd zh0
    obtain ⟨g6_6, o6_6, _, ha6_6, rfl, hd6_6⟩ := Rd.atIdx r1_0 e6_6
    replace hd6_6 : ∀ (j : Nat) v, ([.int .i64 x6_6] : List Value)[j]? = some v → w.cell? ⟨g6_6, o6_6 + i_0.toNat * 1 + j, .none⟩ = some v := hd6_6
    refine WC.drawn [(0, ?r6v0), (1, ?r6v1), (5, ?r6v5), (25, ?r6v25)] (by kernel_rfl) (by kernel_rfl) ?dH6 ?dK6
    case dH6 =>
     intro W hW hk
     refine hW.step rfl rfl rfl (OpV.move rfl) ?_
     refine hW.step rfl rfl rfl (OpV.move rfl) ?_
     refine hW.step rfl rfl rfl (OpV.idxA rfl rfl se_23 ha6_2 ⟨(idx_some e6_2).1, (idx_some e6_2).2.1⟩) ?_
     refine hW.step rfl rfl rfl (OpV.load1 rfl pt_3 (fun w hs => hs.cell (hd6_2 0 _ rfl))) ?_
     refine hW.step rfl rfl rfl (OpV.move rfl) ?_
     refine hW.step rfl rfl rfl (OpV.move rfl) ?_
     refine hW.step rfl rfl rfl (OpV.idxA rfl rfl se_23 ha6_6 ⟨(idx_some e6_6).1, (idx_some e6_6).2.1⟩) ?_
     refine hW.step rfl rfl rfl (OpV.load1 rfl pt_3 (fun w hs => hs.cell (hd6_6 0 _ rfl))) ?_
     refine hW.step rfl rfl rfl (OpV.neq rfl rfl) ?_
     refine hk _ ?_
     refine Sub.cons ?_ (Sub.cons ?_ (Sub.cons ?_ (Sub.cons ?_ (Sub.nil _))))
     all_goals exact rfl
    refine En.next ?_
    refine WC.cond rfl ?_ ?_
    ·
     intro hc_3
     replace zh0 := ifO_t hc_3 zh0
     refine WC.seq (WC.region ?_)
     refine sp (OpV.assign rfl) ?_
     refine WL.nil (En.next (WC.ret (En.block_ret (En.then_ret (En.then_ret (En.block_ret (En.then_ret ?_)))))))
     refine En.ret1 rfl (Res.tmp rfl) ?_
     have hx := exitP ze0 zh0
     subst hx
     replace h := fork_r h
     obtain rfl := Option.some.inj h
     intro w' hs
     exact ⟨rfl, hs.below⟩
    ·
     intro hc_3
     replace zh0 := ifO_f hc_3 zh0
     refine WC.skip (En.block_norm (En.next (WC.region ?_)))
     refine sp (OpV.move rfl) ?_
     refine sp (OpV.addR rfl rfl) ?_
     refine sp (OpV.assign rfl) ?_
     refine WL.nil ?_
     exact En.backP zb0 zh0 () (Sub.cons rfl (Sub.cons rfl (Sub.cons rfl (Sub.nil _)))) (fun _ h => h)
   ·
    intro hc_2
    replace zh0 := ifO_f hc_2 zh0
    refine WC.exit (En.then_exit (En.then_exit ?_))
    have hx := exitP ze0 zh0
    exact En.wk _ _ (Sub.nil _) (fun _ h => h) (zK0_0 ((), ()) hx.symm)

theorem w_laws_eqPlane {a_p0 : PlaneT} {b_p1 : PlaneT} {r : Bool} {q0_0 : Option Addr} {n0_0 k0_0 : Nat} {q1_0 : Option Addr} {n1_0 k1_0 : Nat} (h : laws_eqPlane a_p0 b_p1 = some r) {w : World} (r0_0 : Rd tInt w q0_0 n0_0 k0_0 a_p0.Words) (r1_0 : Rd tInt w q1_0 n1_0 k1_0 b_p1.Words)   :
    Calls Tryz.prog 62 #[.agg #[.bool a_p0.On, .int .i64 a_p0.X, .int .i64 a_p0.Y, .int .i64 a_p0.W, .int .i64 a_p0.H, .int .i64 a_p0.Layout, .slice q0_0 n0_0 k0_0, .int .i64 a_p0.Alpha, .int .i64 a_p0.Orient, .int .i64 a_p0.ToW, .int .i64 a_p0.ToH], .agg #[.bool b_p1.On, .int .i64 b_p1.X, .int .i64 b_p1.Y, .int .i64 b_p1.W, .int .i64 b_p1.H, .int .i64 b_p1.Layout, .slice q1_0 n1_0 k1_0, .int .i64 b_p1.Alpha, .int .i64 b_p1.Orient, .int .i64 b_p1.ToW, .int .i64 b_p1.ToH]] w (fun en w' => en = .returned (.bool r) ∧ Ext w w') := by
 obtain rfl := r0_0.1
 obtain rfl := r1_0.1
 unfold laws_eqPlane at h
 refine enter (vs := [_, _]) Tryz.func62 rfl rfl rfl rfl ?_
 refine WC.seq (WC.region ?_)
 refine WL.heavy rfl rfl rfl (OpH.box rfl rfl ?_)
 intro b0_0
 refine WL.heavy rfl rfl rfl (OpH.box rfl rfl ?_)
 intro b0_1
 refine sp (OpV.assign rfl) ?_
 refine WL.nil (En.next (WC.seq (WC.seq (WC.region ?_))))
 refine sp (OpV.fieldAddr rfl fo_82_0) ?_
 refine sp (OpV.loadBox rfl pt_4 (.tail _ (.head _)) rfl) ?_
 refine sp (OpV.fieldAddr rfl fo_82_0) ?_
 refine sp (OpV.loadBox rfl pt_4 (.head _) rfl) ?_
 refine sp (OpV.bneq rfl rfl ub_4) ?_
 refine WL.nil (En.next ?_)
 refine WC.cond rfl ?_ ?_
 ·
  intro hc_1
  replace h := ifO_t hc_1 h
  refine WC.seq (WC.region ?_)
  refine sp (OpV.assign rfl) ?_
  refine WL.nil (En.next (WC.ret (En.then_ret ?_)))
  refine En.ret1 rfl (Res.tmp rfl) ?_
  obtain rfl := Option.some.inj h
  intro w' hs
  exact ⟨rfl, hs.below⟩
 ·
  intro hc_1
  replace h := ifO_f hc_1 h
  refine WC.skip (En.next (WC.seq (WC.seq (WC.region ?_))))
  refine sp (OpV.fieldAddr rfl fo_82_1) ?_
  refine sp (OpV.loadBox rfl pt_3 (.tail _ (.head _)) rfl) ?_
  refine sp (OpV.fieldAddr rfl fo_82_1) ?_
  refine sp (OpV.loadBox rfl pt_3 (.head _) rfl) ?_
  refine sp (OpV.neq rfl rfl) ?_
  refine WL.nil (En.next ?_)
  refine WC.cond rfl ?_ ?_
  ·
   intro hc_2
   replace h := ifO_t hc_2 h
   refine WC.seq (WC.region ?_)
   refine sp (OpV.assign rfl) ?_
   refine WL.nil (En.next (WC.ret (En.then_ret ?_)))
   refine En.ret1 rfl (Res.tmp rfl) ?_
   obtain rfl := Option.some.inj h
   intro w' hs
   exact ⟨rfl, hs.below⟩
  ·
   intro hc_2
   replace h := ifO_f hc_2 h
   refine WC.skip (En.next (WC.seq (WC.seq (WC.region ?_))))
   refine sp (OpV.fieldAddr rfl fo_82_2) ?_
   refine sp (OpV.loadBox rfl pt_3 (.tail _ (.head _)) rfl) ?_
   refine sp (OpV.fieldAddr rfl fo_82_2) ?_
   refine sp (OpV.loadBox rfl pt_3 (.head _) rfl) ?_
   refine sp (OpV.neq rfl rfl) ?_
   refine WL.nil (En.next ?_)
   refine WC.cond rfl ?_ ?_
   ·
    intro hc_3
    replace h := ifO_t hc_3 h
    refine WC.seq (WC.region ?_)
    refine sp (OpV.assign rfl) ?_
    refine WL.nil (En.next (WC.ret (En.then_ret ?_)))
    refine En.ret1 rfl (Res.tmp rfl) ?_
    obtain rfl := Option.some.inj h
    intro w' hs
    exact ⟨rfl, hs.below⟩
   ·
    intro hc_3
    replace h := ifO_f hc_3 h
    refine WC.skip (En.next (WC.seq (WC.seq (WC.region ?_))))
    refine sp (OpV.fieldAddr rfl fo_82_3) ?_
    refine sp (OpV.loadBox rfl pt_3 (.tail _ (.head _)) rfl) ?_
    refine sp (OpV.fieldAddr rfl fo_82_3) ?_
    refine sp (OpV.loadBox rfl pt_3 (.head _) rfl) ?_
    refine sp (OpV.neq rfl rfl) ?_
    refine WL.nil (En.next ?_)
    refine WC.cond rfl ?_ ?_
    ·
     intro hc_4
     replace h := ifO_t hc_4 h
     refine WC.seq (WC.region ?_)
     refine sp (OpV.assign rfl) ?_
     refine WL.nil (En.next (WC.ret (En.then_ret ?_)))
     refine En.ret1 rfl (Res.tmp rfl) ?_
     obtain rfl := Option.some.inj h
     intro w' hs
     exact ⟨rfl, hs.below⟩
    ·
     intro hc_4
     replace h := ifO_f hc_4 h
     refine WC.skip (En.next (WC.seq (WC.seq (WC.region ?_))))
     refine sp (OpV.fieldAddr rfl fo_82_4) ?_
     refine sp (OpV.loadBox rfl pt_3 (.tail _ (.head _)) rfl) ?_
     refine sp (OpV.fieldAddr rfl fo_82_4) ?_
     refine sp (OpV.loadBox rfl pt_3 (.head _) rfl) ?_
     refine sp (OpV.neq rfl rfl) ?_
     refine WL.nil (En.next ?_)
     refine WC.cond rfl ?_ ?_
     ·
      intro hc_5
      replace h := ifO_t hc_5 h
      refine WC.seq (WC.region ?_)
      refine sp (OpV.assign rfl) ?_
      refine WL.nil (En.next (WC.ret (En.then_ret ?_)))
      refine En.ret1 rfl (Res.tmp rfl) ?_
      obtain rfl := Option.some.inj h
      intro w' hs
      exact ⟨rfl, hs.below⟩
     ·
      intro hc_5
      replace h := ifO_f hc_5 h
      refine WC.skip (En.next (WC.seq (WC.seq (WC.region ?_))))
      refine sp (OpV.fieldAddr rfl fo_82_5) ?_
      refine sp (OpV.loadBox rfl pt_3 (.tail _ (.head _)) rfl) ?_
      refine sp (OpV.fieldAddr rfl fo_82_5) ?_
      refine sp (OpV.loadBox rfl pt_3 (.head _) rfl) ?_
      refine sp (OpV.neq rfl rfl) ?_
      refine WL.nil (En.next ?_)
      refine WC.cond rfl ?_ ?_
      ·
       intro hc_6
       replace h := ifO_t hc_6 h
       refine WC.seq (WC.region ?_)
       refine sp (OpV.assign rfl) ?_
       refine WL.nil (En.next (WC.ret (En.then_ret ?_)))
       refine En.ret1 rfl (Res.tmp rfl) ?_
       obtain rfl := Option.some.inj h
       intro w' hs
       exact ⟨rfl, hs.below⟩
      ·
       intro hc_6
       replace h := ifO_f hc_6 h
       refine WC.skip (En.next (WC.seq (WC.seq ?_)))
       obtain ⟨x13_4, e13_4, h⟩ := bnd h
       refine WC.region ?_
       refine sp (OpV.fieldAddr rfl fo_82_6) ?_
       refine sp (OpV.loadBox rfl pt_23 (.tail _ (.head _)) rfl) ?_
       refine sp (OpV.fieldAddr rfl fo_82_6) ?_
       refine sp (OpV.loadBox rfl pt_23 (.head _) rfl) ?_
       refine sp (OpV.call (evs.cons rfl (evs.cons rfl (evs.nil))) ca_15 (fun w hs => w_laws_eqIntS e13_4 (r0_0.ext hs.below) (r1_0.ext hs.below))) ?_
       refine sp (OpV.not rfl) ?_
       refine WL.nil (En.next ?_)
       refine WC.cond rfl ?_ ?_
       ·
        intro hc_7
        replace h := ifO_t hc_7 h
        refine WC.seq (WC.region ?_)
        refine sp (OpV.assign rfl) ?_
        refine WL.nil (En.next (WC.ret (En.then_ret ?_)))
        refine En.ret1 rfl (Res.tmp rfl) ?_
        obtain rfl := Option.some.inj h
        intro w' hs
        exact ⟨rfl, hs.below⟩
       ·
        intro hc_7
        replace h := ifO_f hc_7 h
        refine WC.skip (En.next (WC.seq (WC.seq (WC.region ?_))))
        refine sp (OpV.fieldAddr rfl fo_82_7) ?_
        refine sp (OpV.loadBox rfl pt_3 (.tail _ (.head _)) rfl) ?_
        refine sp (OpV.fieldAddr rfl fo_82_7) ?_
        refine sp (OpV.loadBox rfl pt_3 (.head _) rfl) ?_
        refine sp (OpV.neq rfl rfl) ?_
        refine WL.nil (En.next ?_)
        refine WC.cond rfl ?_ ?_
        ·
         intro hc_8
         replace h := ifO_t hc_8 h
         refine WC.seq (WC.region ?_)
         refine sp (OpV.assign rfl) ?_
         refine WL.nil (En.next (WC.ret (En.then_ret ?_)))
         refine En.ret1 rfl (Res.tmp rfl) ?_
         obtain rfl := Option.some.inj h
         intro w' hs
         exact ⟨rfl, hs.below⟩
        ·
         intro hc_8
         replace h := ifO_f hc_8 h
         refine WC.skip (En.next (WC.seq (WC.seq (WC.region ?_))))
         refine sp (OpV.fieldAddr rfl fo_82_8) ?_
         refine sp (OpV.loadBox rfl pt_3 (.tail _ (.head _)) rfl) ?_
         refine sp (OpV.fieldAddr rfl fo_82_8) ?_
         refine sp (OpV.loadBox rfl pt_3 (.head _) rfl) ?_
         refine sp (OpV.neq rfl rfl) ?_
         refine WL.nil (En.next ?_)
         refine WC.cond rfl ?_ ?_
         ·
          intro hc_9
          replace h := ifO_t hc_9 h
          refine WC.seq (WC.region ?_)
          refine sp (OpV.assign rfl) ?_
          refine WL.nil (En.next (WC.ret (En.then_ret ?_)))
          refine En.ret1 rfl (Res.tmp rfl) ?_
          obtain rfl := Option.some.inj h
          intro w' hs
          exact ⟨rfl, hs.below⟩
         ·
          intro hc_9
          replace h := ifO_f hc_9 h
          refine WC.skip (En.next (WC.seq (WC.seq (WC.region ?_))))
          refine sp (OpV.fieldAddr rfl fo_82_9) ?_
          refine sp (OpV.loadBox rfl pt_3 (.tail _ (.head _)) rfl) ?_
          refine sp (OpV.fieldAddr rfl fo_82_9) ?_
          refine sp (OpV.loadBox rfl pt_3 (.head _) rfl) ?_
          refine sp (OpV.neq rfl rfl) ?_
          refine WL.nil (En.next ?_)
          refine WC.cond rfl ?_ ?_
          ·
           intro hc_10
           replace h := ifO_t hc_10 h
           refine WC.seq (WC.region ?_)
           refine sp (OpV.assign rfl) ?_
           refine WL.nil (En.next (WC.ret (En.then_ret ?_)))
           refine En.ret1 rfl (Res.tmp rfl) ?_
           obtain rfl := Option.some.inj h
           intro w' hs
           exact ⟨rfl, hs.below⟩
          ·
           intro hc_10
           replace h := ifO_f hc_10 h
           refine WC.skip (En.next (WC.seq (WC.seq (WC.region ?_))))
           refine sp (OpV.fieldAddr rfl fo_82_10) ?_
           refine sp (OpV.loadBox rfl pt_3 (.tail _ (.head _)) rfl) ?_
           refine sp (OpV.fieldAddr rfl fo_82_10) ?_
           refine sp (OpV.loadBox rfl pt_3 (.head _) rfl) ?_
           refine sp (OpV.neq rfl rfl) ?_
           refine WL.nil (En.next ?_)
           refine WC.cond rfl ?_ ?_
           ·
            intro hc_11
            replace h := ifO_t hc_11 h
            refine WC.seq (WC.region ?_)
            refine sp (OpV.assign rfl) ?_
            refine WL.nil (En.next (WC.ret (En.then_ret ?_)))
            refine En.ret1 rfl (Res.tmp rfl) ?_
            obtain rfl := Option.some.inj h
            intro w' hs
            exact ⟨rfl, hs.below⟩
           ·
            intro hc_11
            replace h := ifO_f hc_11 h
            refine WC.skip (En.next (WC.seq (WC.region ?_)))
            refine sp (OpV.assign rfl) ?_
            refine WL.nil (En.next (WC.ret ?_))
            refine En.ret1 rfl (Res.tmp rfl) ?_
            obtain rfl := Option.some.inj h
            intro w' hs
            exact ⟨rfl, hs.below⟩

theorem w_laws_eqPlaneS {a_p0 : List PlaneT} {b_p1 : List PlaneT} {r : Bool} {q0_0 : Option Addr} {n0_0 k0_0 : Nat} {q1_0 : Option Addr} {n1_0 k1_0 : Nat} (h : laws_eqPlaneS a_p0 b_p1 = some r) {w : World} (r0_0 : Rd tPlane w q0_0 n0_0 k0_0 a_p0) (r1_0 : Rd tPlane w q1_0 n1_0 k1_0 b_p1)   :
    Calls Tryz.prog 16 #[.slice q0_0 n0_0 k0_0, .slice q1_0 n1_0 k1_0] w (fun en w' => en = .returned (.bool r) ∧ Ext w w') := by
 obtain rfl := r0_0.1
 obtain rfl := r1_0.1
 unfold laws_eqPlaneS at h
 refine enter (vs := [_, _]) Tryz.func16 rfl rfl rfl rfl ?_
 refine WC.seq (WC.region ?_)
 refine sp (OpV.assign rfl) ?_
 refine WL.nil (En.next (WC.seq (WC.seq (WC.region ?_))))
 refine sp (OpV.move rfl) ?_
 refine sp (OpV.len rfl si_29 rfl) ?_
 refine sp (OpV.move rfl) ?_
 refine sp (OpV.len rfl si_29 rfl) ?_
 refine sp (OpV.neq rfl rfl) ?_
 refine WL.nil (En.next ?_)
 refine WC.cond rfl ?_ ?_
 ·
  intro hc_1
  replace h := ifO_t hc_1 h
  refine WC.seq (WC.region ?_)
  refine sp (OpV.assign rfl) ?_
  refine WL.nil (En.next (WC.ret (En.then_ret ?_)))
  refine En.ret1 rfl (Res.tmp rfl) ?_
  obtain rfl := Option.some.inj h
  intro w' hs
  exact ⟨rfl, hs.below⟩
 ·
  intro hc_1
  replace h := ifO_f hc_1 h
  refine WC.skip (En.next (WC.seq (WC.seq (WC.region ?_))))
  refine sp (OpV.assign rfl) ?_
  refine WL.nil (En.next (WC.block ?_))
  obtain ⟨zy0, ezy0, h⟩ := bnd h
  refine WC.cut (X := (Unit) × (Unit)) (.exit 0) (fun x => zy0 = .inl x.1) (fun x => match x with | ((), ()) => []) (fun x => match x with | ((), ()) => []) ?_ ?_
  ·
   rintro ⟨⟨⟩, ⟨⟩⟩ hx
   replace hx : .inl () = zy0 := hx.symm
   subst hx
   replace h := fork_l h
   show En _ _ _ _ [] []
   refine En.block_exit (En.next (WC.seq (WC.region ?_)))
   refine sp (OpV.assign rfl) ?_
   refine WL.nil (En.next (WC.ret ?_))
   refine En.ret1 rfl (Res.tmp rfl) ?_
   obtain rfl := Option.some.inj h
   intro w' hs
   exact ⟨rfl, hs.below⟩
  ·
   intro zK0_0
   refine WC.loopP (G := Unit) (fun s g => match s, g with | i_0, () => [(0, .slice q0_0 a_p0.length k0_0), (1, .slice q1_0 b_p1.length k1_0), (5, .int .i64 i_0)]) (fun s g => match s, g with | i_0, () => []) 0 () ezy0 (by exact Sub.cons rfl (Sub.cons rfl (Sub.cons rfl (Sub.nil _)))) (by exact (fun _ h => h)) ?_
   rintro zm0 i_0 ⟨⟩ zo0 zf0 zb0 ze0
   have zh0 : laws_eqPlaneS_L0 a_p0 b_p1 i_0 = some zo0 := zf0
   unfold laws_eqPlaneS_L0 at zh0
   show WC _ _ _ _ _ [(0, .slice q0_0 a_p0.length k0_0), (1, .slice q1_0 b_p1.length k1_0), (5, .int .i64 i_0)] []
   refine WC.seq (WC.seq (WC.region ?_))
   refine sp (OpV.move rfl) ?_
   refine sp (OpV.move rfl) ?_
   refine sp (OpV.len rfl si_29 rfl) ?_
   refine sp (OpV.lss rfl rfl) ?_
   refine WL.nil (En.next ?_)
   refine WC.cond rfl ?_ ?_
   ·
    intro hc_2
    replace zh0 := ifO_t hc_2 zh0
    refine WC.skip (En.next (WC.seq (WC.block (WC.seq ?_))))
    obtain ⟨x6_2, e6_2, zh0⟩ := bnd zh0
    obtain ⟨g6_2, o6_2, _, ha6_2, ⟨a6_2_1, c6_2_1, rfl, r6_2_1⟩, hd6_2⟩ := Rd.atIdx r0_0 e6_2
    replace hd6_2 : ∀ (j : Nat) v, ([.bool x6_2.On, .int .i64 x6_2.X, .int .i64 x6_2.Y, .int .i64 x6_2.W, .int .i64 x6_2.H, .int .i64 x6_2.Layout, .slice a6_2_1 x6_2.Words.length c6_2_1, .int .i64 x6_2.Alpha, .int .i64 x6_2.Orient, .int .i64 x6_2.ToW, .int .i64 x6_2.ToH] : List Value)[j]? = some v → w.cell? ⟨g6_2, o6_2 + i_0.toNat * 11 + j, .none⟩ = some v := hd6_2
    obtain ⟨x6_6, e6_6, zh0⟩ := bnd zh0
    obtain ⟨g6_6, o6_6, _, ha6_6, ⟨a6_6_1, c6_6_1, rfl, r6_6_1⟩, hd6_6⟩ := Rd.atIdx r1_0 e6_6
    replace hd6_6 : ∀ (j : Nat) v, ([.bool x6_6.On, .int .i64 x6_6.X, .int .i64 x6_6.Y, .int .i64 x6_6.W, .int .i64 x6_6.H, .int .i64 x6_6.Layout, .slice a6_6_1 x6_6.Words.length c6_6_1, .int .i64 x6_6.Alpha, .int .i64 x6_6.Orient, .int .i64 x6_6.ToW, .int .i64 x6_6.ToH] : List Value)[j]? = some v → w.cell? ⟨g6_6, o6_6 + i_0.toNat * 11 + j, .none⟩ = some v := hd6_6
    obtain ⟨x6_8, e6_8, zh0⟩ := bnd zh0
    refine WC.drawn [(0, ?r6v0), (1, ?r6v1), (5, ?r6v5), (26, ?r6v26)] (by kernel_rfl) (by kernel_rfl) ?dH6 ?dK6
    case dH6 =>
     intro W hW hk
     refine hW.step rfl rfl rfl (OpV.move rfl) ?_
     refine hW.step rfl rfl rfl (OpV.move rfl) ?_
     refine hW.step rfl rfl rfl (OpV.idxA rfl rfl se_29 ha6_2 ⟨(idx_some e6_2).1, (idx_some e6_2).2.1⟩) ?_
     refine hW.step rfl rfl rfl (OpV.loadN rfl ag_82 rfl (fun w hs => hs.cellsAt hd6_2)) ?_
     refine hW.step rfl rfl rfl (OpV.move rfl) ?_
     refine hW.step rfl rfl rfl (OpV.move rfl) ?_
     refine hW.step rfl rfl rfl (OpV.idxA rfl rfl se_29 ha6_6 ⟨(idx_some e6_6).1, (idx_some e6_6).2.1⟩) ?_
     refine hW.step rfl rfl rfl (OpV.loadN rfl ag_82 rfl (fun w hs => hs.cellsAt hd6_6)) ?_
     refine hW.step rfl rfl rfl (OpV.call (evs.cons rfl (evs.cons rfl (evs.nil))) ca_62 (fun w hs => w_laws_eqPlane e6_8 (r6_2_1.ext hs.below) (r6_6_1.ext hs.below))) ?_
     refine hW.step rfl rfl rfl (OpV.not rfl) ?_
     refine hk _ ?_
     refine Sub.cons ?_ (Sub.cons ?_ (Sub.cons ?_ (Sub.cons ?_ (Sub.nil _))))
     all_goals exact rfl
    refine En.next ?_
    refine WC.cond rfl ?_ ?_
    ·
     intro hc_3
     replace zh0 := ifO_t hc_3 zh0
     refine WC.seq (WC.region ?_)
     refine sp (OpV.assign rfl) ?_
     refine WL.nil (En.next (WC.ret (En.block_ret (En.then_ret (En.then_ret (En.block_ret (En.then_ret ?_)))))))
     refine En.ret1 rfl (Res.tmp rfl) ?_
     have hx := exitP ze0 zh0
     subst hx
     replace h := fork_r h
     obtain rfl := Option.some.inj h
     intro w' hs
     exact ⟨rfl, hs.below⟩
    ·
     intro hc_3
     replace zh0 := ifO_f hc_3 zh0
     refine WC.skip (En.block_norm (En.next (WC.region ?_)))
     refine sp (OpV.move rfl) ?_
     refine sp (OpV.addR rfl rfl) ?_
     refine sp (OpV.assign rfl) ?_
     refine WL.nil ?_
     exact En.backP zb0 zh0 () (Sub.cons rfl (Sub.cons rfl (Sub.cons rfl (Sub.nil _)))) (fun _ h => h)
   ·
    intro hc_2
    replace zh0 := ifO_f hc_2 zh0
    refine WC.exit (En.then_exit (En.then_exit ?_))
    have hx := exitP ze0 zh0
    exact En.wk _ _ (Sub.nil _) (fun _ h => h) (zK0_0 ((), ()) hx.symm)

theorem w_laws_eqColorMap {a_p0 : ColorMapT} {b_p1 : ColorMapT} {r : Bool} {q0_0 : Option Addr} {n0_0 k0_0 : Nat} {q0_1 : Option Addr} {n0_1 k0_1 : Nat} {q1_0 : Option Addr} {n1_0 k1_0 : Nat} {q1_1 : Option Addr} {n1_1 k1_1 : Nat} (h : laws_eqColorMap a_p0 b_p1 = some r) {w : World} (r0_0 : Rd tInt w q0_0 n0_0 k0_0 a_p0.Matrix) (r0_1 : Rd tInt w q0_1 n0_1 k0_1 a_p0.Curve) (r1_0 : Rd tInt w q1_0 n1_0 k1_0 b_p1.Matrix) (r1_1 : Rd tInt w q1_1 n1_1 k1_1 b_p1.Curve)   :
    Calls Tryz.prog 17 #[.agg #[.slice q0_0 n0_0 k0_0, .slice q0_1 n0_1 k0_1], .agg #[.slice q1_0 n1_0 k1_0, .slice q1_1 n1_1 k1_1]] w (fun en w' => en = .returned (.bool r) ∧ Ext w w') := by
 obtain rfl := r0_0.1
 obtain rfl := r0_1.1
 obtain rfl := r1_0.1
 obtain rfl := r1_1.1
 unfold laws_eqColorMap at h
 refine enter (vs := [_, _]) Tryz.func17 rfl rfl rfl rfl ?_
 refine WC.seq (WC.region ?_)
 refine WL.heavy rfl rfl rfl (OpH.box rfl rfl ?_)
 intro b0_0
 refine WL.heavy rfl rfl rfl (OpH.box rfl rfl ?_)
 intro b0_1
 refine sp (OpV.assign rfl) ?_
 refine WL.nil (En.next (WC.seq (WC.seq ?_)))
 obtain ⟨x1_4, e1_4, h⟩ := bnd h
 refine WC.region ?_
 refine sp (OpV.fieldAddr rfl fo_31_0) ?_
 refine sp (OpV.loadBox rfl pt_23 (.tail _ (.head _)) rfl) ?_
 refine sp (OpV.fieldAddr rfl fo_31_0) ?_
 refine sp (OpV.loadBox rfl pt_23 (.head _) rfl) ?_
 refine sp (OpV.call (evs.cons rfl (evs.cons rfl (evs.nil))) ca_15 (fun w hs => w_laws_eqIntS e1_4 (r0_0.ext hs.below) (r1_0.ext hs.below))) ?_
 refine sp (OpV.not rfl) ?_
 refine WL.nil (En.next ?_)
 refine WC.cond rfl ?_ ?_
 ·
  intro hc_1
  replace h := ifO_t hc_1 h
  refine WC.seq (WC.region ?_)
  refine sp (OpV.assign rfl) ?_
  refine WL.nil (En.next (WC.ret (En.then_ret ?_)))
  refine En.ret1 rfl (Res.tmp rfl) ?_
  obtain rfl := Option.some.inj h
  intro w' hs
  exact ⟨rfl, hs.below⟩
 ·
  intro hc_1
  replace h := ifO_f hc_1 h
  refine WC.skip (En.next (WC.seq (WC.seq ?_)))
  obtain ⟨x3_4, e3_4, h⟩ := bnd h
  refine WC.region ?_
  refine sp (OpV.fieldAddr rfl fo_31_1) ?_
  refine sp (OpV.loadBox rfl pt_23 (.tail _ (.head _)) rfl) ?_
  refine sp (OpV.fieldAddr rfl fo_31_1) ?_
  refine sp (OpV.loadBox rfl pt_23 (.head _) rfl) ?_
  refine sp (OpV.call (evs.cons rfl (evs.cons rfl (evs.nil))) ca_15 (fun w hs => w_laws_eqIntS e3_4 (r0_1.ext hs.below) (r1_1.ext hs.below))) ?_
  refine sp (OpV.not rfl) ?_
  refine WL.nil (En.next ?_)
  refine WC.cond rfl ?_ ?_
  ·
   intro hc_2
   replace h := ifO_t hc_2 h
   refine WC.seq (WC.region ?_)
   refine sp (OpV.assign rfl) ?_
   refine WL.nil (En.next (WC.ret (En.then_ret ?_)))
   refine En.ret1 rfl (Res.tmp rfl) ?_
   obtain rfl := Option.some.inj h
   intro w' hs
   exact ⟨rfl, hs.below⟩
  ·
   intro hc_2
   replace h := ifO_f hc_2 h
   refine WC.skip (En.next (WC.seq (WC.region ?_)))
   refine sp (OpV.assign rfl) ?_
   refine WL.nil (En.next (WC.ret ?_))
   refine En.ret1 rfl (Res.tmp rfl) ?_
   obtain rfl := Option.some.inj h
   intro w' hs
   exact ⟨rfl, hs.below⟩

theorem w_laws_eqCrtc {a_p0 : CrtcT} {b_p1 : CrtcT} {r : Bool} {q0_0 : Option Addr} {n0_0 k0_0 : Nat} {q0_1 : Option Addr} {n0_1 k0_1 : Nat} {q0_2 : Option Addr} {n0_2 k0_2 : Nat} {q1_0 : Option Addr} {n1_0 k1_0 : Nat} {q1_1 : Option Addr} {n1_1 k1_1 : Nat} {q1_2 : Option Addr} {n1_2 k1_2 : Nat} (h : laws_eqCrtc a_p0 b_p1 = some r) {w : World} (r0_0 : Rd tPlane w q0_0 n0_0 k0_0 a_p0.Planes) (r0_1 : Rd tInt w q0_1 n0_1 k0_1 a_p0.Color.Matrix) (r0_2 : Rd tInt w q0_2 n0_2 k0_2 a_p0.Color.Curve) (r1_0 : Rd tPlane w q1_0 n1_0 k1_0 b_p1.Planes) (r1_1 : Rd tInt w q1_1 n1_1 k1_1 b_p1.Color.Matrix) (r1_2 : Rd tInt w q1_2 n1_2 k1_2 b_p1.Color.Curve)   :
    Calls Tryz.prog 28 #[.agg #[.int .i64 a_p0.W, .int .i64 a_p0.H, .slice q0_0 n0_0 k0_0, .slice q0_1 n0_1 k0_1, .slice q0_2 n0_2 k0_2], .agg #[.int .i64 b_p1.W, .int .i64 b_p1.H, .slice q1_0 n1_0 k1_0, .slice q1_1 n1_1 k1_1, .slice q1_2 n1_2 k1_2]] w (fun en w' => en = .returned (.bool r) ∧ Ext w w') := by
 obtain rfl := r0_0.1
 obtain rfl := r0_1.1
 obtain rfl := r0_2.1
 obtain rfl := r1_0.1
 obtain rfl := r1_1.1
 obtain rfl := r1_2.1
 unfold laws_eqCrtc at h
 refine enter (vs := [_, _]) Tryz.func28 rfl rfl rfl rfl ?_
 refine WC.seq (WC.region ?_)
 refine WL.heavy rfl rfl rfl (OpH.box rfl rfl ?_)
 intro b0_0
 refine WL.heavy rfl rfl rfl (OpH.box rfl rfl ?_)
 intro b0_1
 refine sp (OpV.assign rfl) ?_
 refine WL.nil (En.next (WC.seq (WC.seq (WC.region ?_))))
 refine sp (OpV.fieldAddr rfl fo_46_0) ?_
 refine sp (OpV.loadBox rfl pt_3 (.tail _ (.head _)) rfl) ?_
 refine sp (OpV.fieldAddr rfl fo_46_0) ?_
 refine sp (OpV.loadBox rfl pt_3 (.head _) rfl) ?_
 refine sp (OpV.neq rfl rfl) ?_
 refine WL.nil (En.next ?_)
 refine WC.cond rfl ?_ ?_
 ·
  intro hc_1
  replace h := ifO_t hc_1 h
  refine WC.seq (WC.region ?_)
  refine sp (OpV.assign rfl) ?_
  refine WL.nil (En.next (WC.ret (En.then_ret ?_)))
  refine En.ret1 rfl (Res.tmp rfl) ?_
  obtain rfl := Option.some.inj h
  intro w' hs
  exact ⟨rfl, hs.below⟩
 ·
  intro hc_1
  replace h := ifO_f hc_1 h
  refine WC.skip (En.next (WC.seq (WC.seq (WC.region ?_))))
  refine sp (OpV.fieldAddr rfl fo_46_1) ?_
  refine sp (OpV.loadBox rfl pt_3 (.tail _ (.head _)) rfl) ?_
  refine sp (OpV.fieldAddr rfl fo_46_1) ?_
  refine sp (OpV.loadBox rfl pt_3 (.head _) rfl) ?_
  refine sp (OpV.neq rfl rfl) ?_
  refine WL.nil (En.next ?_)
  refine WC.cond rfl ?_ ?_
  ·
   intro hc_2
   replace h := ifO_t hc_2 h
   refine WC.seq (WC.region ?_)
   refine sp (OpV.assign rfl) ?_
   refine WL.nil (En.next (WC.ret (En.then_ret ?_)))
   refine En.ret1 rfl (Res.tmp rfl) ?_
   obtain rfl := Option.some.inj h
   intro w' hs
   exact ⟨rfl, hs.below⟩
  ·
   intro hc_2
   replace h := ifO_f hc_2 h
   refine WC.skip (En.next (WC.seq (WC.seq ?_)))
   obtain ⟨x5_4, e5_4, h⟩ := bnd h
   refine WC.region ?_
   refine sp (OpV.fieldAddr rfl fo_46_2) ?_
   refine sp (OpV.loadBox rfl pt_29 (.tail _ (.head _)) rfl) ?_
   refine sp (OpV.fieldAddr rfl fo_46_2) ?_
   refine sp (OpV.loadBox rfl pt_29 (.head _) rfl) ?_
   refine sp (OpV.call (evs.cons rfl (evs.cons rfl (evs.nil))) ca_16 (fun w hs => w_laws_eqPlaneS e5_4 (r0_0.ext hs.below) (r1_0.ext hs.below))) ?_
   refine sp (OpV.not rfl) ?_
   refine WL.nil (En.next ?_)
   refine WC.cond rfl ?_ ?_
   ·
    intro hc_3
    replace h := ifO_t hc_3 h
    refine WC.seq (WC.region ?_)
    refine sp (OpV.assign rfl) ?_
    refine WL.nil (En.next (WC.ret (En.then_ret ?_)))
    refine En.ret1 rfl (Res.tmp rfl) ?_
    obtain rfl := Option.some.inj h
    intro w' hs
    exact ⟨rfl, hs.below⟩
   ·
    intro hc_3
    replace h := ifO_f hc_3 h
    refine WC.skip (En.next (WC.seq (WC.seq ?_)))
    obtain ⟨x7_4, e7_4, h⟩ := bnd h
    refine WC.region ?_
    refine sp (OpV.fieldAddr rfl fo_46_3) ?_
    refine sp (OpV.loadPart rfl (.tail _ (.head _)) ag_31 rfl rfl) ?_
    refine sp (OpV.fieldAddr rfl fo_46_3) ?_
    refine sp (OpV.loadPart rfl (.head _) ag_31 rfl rfl) ?_
    refine sp (OpV.call (evs.cons rfl (evs.cons rfl (evs.nil))) ca_17 (fun w hs => w_laws_eqColorMap e7_4 (r0_1.ext hs.below) (r0_2.ext hs.below) (r1_1.ext hs.below) (r1_2.ext hs.below))) ?_
    refine sp (OpV.not rfl) ?_
    refine WL.nil (En.next ?_)
    refine WC.cond rfl ?_ ?_
    ·
     intro hc_4
     replace h := ifO_t hc_4 h
     refine WC.seq (WC.region ?_)
     refine sp (OpV.assign rfl) ?_
     refine WL.nil (En.next (WC.ret (En.then_ret ?_)))
     refine En.ret1 rfl (Res.tmp rfl) ?_
     obtain rfl := Option.some.inj h
     intro w' hs
     exact ⟨rfl, hs.below⟩
    ·
     intro hc_4
     replace h := ifO_f hc_4 h
     refine WC.skip (En.next (WC.seq (WC.region ?_)))
     refine sp (OpV.assign rfl) ?_
     refine WL.nil (En.next (WC.ret ?_))
     refine En.ret1 rfl (Res.tmp rfl) ?_
     obtain rfl := Option.some.inj h
     intro w' hs
     exact ⟨rfl, hs.below⟩

theorem w_laws_eqChange {a_p0 : ChangeT} {b_p1 : ChangeT} {r : Bool} {q0_0 : Option Addr} {n0_0 k0_0 : Nat} {q0_1 : Option Addr} {n0_1 k0_1 : Nat} {q0_2 : Option Addr} {n0_2 k0_2 : Nat} {q1_0 : Option Addr} {n1_0 k1_0 : Nat} {q1_1 : Option Addr} {n1_1 k1_1 : Nat} {q1_2 : Option Addr} {n1_2 k1_2 : Nat} (h : laws_eqChange a_p0 b_p1 = some r) {w : World} (r0_0 : Rd tInt w q0_0 n0_0 k0_0 a_p0.Value.Words) (r0_1 : Rd tInt w q0_1 n0_1 k0_1 a_p0.Color.Matrix) (r0_2 : Rd tInt w q0_2 n0_2 k0_2 a_p0.Color.Curve) (r1_0 : Rd tInt w q1_0 n1_0 k1_0 b_p1.Value.Words) (r1_1 : Rd tInt w q1_1 n1_1 k1_1 b_p1.Color.Matrix) (r1_2 : Rd tInt w q1_2 n1_2 k1_2 b_p1.Color.Curve)   :
    Calls Tryz.prog 74 #[.agg #[.int .i64 a_p0.Plane, .bool a_p0.Value.On, .int .i64 a_p0.Value.X, .int .i64 a_p0.Value.Y, .int .i64 a_p0.Value.W, .int .i64 a_p0.Value.H, .int .i64 a_p0.Value.Layout, .slice q0_0 n0_0 k0_0, .int .i64 a_p0.Value.Alpha, .int .i64 a_p0.Value.Orient, .int .i64 a_p0.Value.ToW, .int .i64 a_p0.Value.ToH, .slice q0_1 n0_1 k0_1, .slice q0_2 n0_2 k0_2], .agg #[.int .i64 b_p1.Plane, .bool b_p1.Value.On, .int .i64 b_p1.Value.X, .int .i64 b_p1.Value.Y, .int .i64 b_p1.Value.W, .int .i64 b_p1.Value.H, .int .i64 b_p1.Value.Layout, .slice q1_0 n1_0 k1_0, .int .i64 b_p1.Value.Alpha, .int .i64 b_p1.Value.Orient, .int .i64 b_p1.Value.ToW, .int .i64 b_p1.Value.ToH, .slice q1_1 n1_1 k1_1, .slice q1_2 n1_2 k1_2]] w (fun en w' => en = .returned (.bool r) ∧ Ext w w') := by
 obtain rfl := r0_0.1
 obtain rfl := r0_1.1
 obtain rfl := r0_2.1
 obtain rfl := r1_0.1
 obtain rfl := r1_1.1
 obtain rfl := r1_2.1
 unfold laws_eqChange at h
 refine enter (vs := [_, _]) Tryz.func74 rfl rfl rfl rfl ?_
 refine WC.seq (WC.region ?_)
 refine WL.heavy rfl rfl rfl (OpH.box rfl rfl ?_)
 intro b0_0
 refine WL.heavy rfl rfl rfl (OpH.box rfl rfl ?_)
 intro b0_1
 refine sp (OpV.assign rfl) ?_
 refine WL.nil (En.next (WC.seq (WC.seq (WC.region ?_))))
 refine sp (OpV.fieldAddr rfl fo_84_0) ?_
 refine sp (OpV.loadBox rfl pt_3 (.tail _ (.head _)) rfl) ?_
 refine sp (OpV.fieldAddr rfl fo_84_0) ?_
 refine sp (OpV.loadBox rfl pt_3 (.head _) rfl) ?_
 refine sp (OpV.neq rfl rfl) ?_
 refine WL.nil (En.next ?_)
 refine WC.cond rfl ?_ ?_
 ·
  intro hc_1
  replace h := ifO_t hc_1 h
  refine WC.seq (WC.region ?_)
  refine sp (OpV.assign rfl) ?_
  refine WL.nil (En.next (WC.ret (En.then_ret ?_)))
  refine En.ret1 rfl (Res.tmp rfl) ?_
  obtain rfl := Option.some.inj h
  intro w' hs
  exact ⟨rfl, hs.below⟩
 ·
  intro hc_1
  replace h := ifO_f hc_1 h
  refine WC.skip (En.next (WC.seq (WC.seq ?_)))
  obtain ⟨x3_4, e3_4, h⟩ := bnd h
  refine WC.region ?_
  refine sp (OpV.fieldAddr rfl fo_84_1) ?_
  refine sp (OpV.loadPart rfl (.tail _ (.head _)) ag_82 rfl rfl) ?_
  refine sp (OpV.fieldAddr rfl fo_84_1) ?_
  refine sp (OpV.loadPart rfl (.head _) ag_82 rfl rfl) ?_
  refine sp (OpV.call (evs.cons rfl (evs.cons rfl (evs.nil))) ca_62 (fun w hs => w_laws_eqPlane e3_4 (r0_0.ext hs.below) (r1_0.ext hs.below))) ?_
  refine sp (OpV.not rfl) ?_
  refine WL.nil (En.next ?_)
  refine WC.cond rfl ?_ ?_
  ·
   intro hc_2
   replace h := ifO_t hc_2 h
   refine WC.seq (WC.region ?_)
   refine sp (OpV.assign rfl) ?_
   refine WL.nil (En.next (WC.ret (En.then_ret ?_)))
   refine En.ret1 rfl (Res.tmp rfl) ?_
   obtain rfl := Option.some.inj h
   intro w' hs
   exact ⟨rfl, hs.below⟩
  ·
   intro hc_2
   replace h := ifO_f hc_2 h
   refine WC.skip (En.next (WC.seq (WC.seq ?_)))
   obtain ⟨x5_4, e5_4, h⟩ := bnd h
   refine WC.region ?_
   refine sp (OpV.fieldAddr rfl fo_84_2) ?_
   refine sp (OpV.loadPart rfl (.tail _ (.head _)) ag_31 rfl rfl) ?_
   refine sp (OpV.fieldAddr rfl fo_84_2) ?_
   refine sp (OpV.loadPart rfl (.head _) ag_31 rfl rfl) ?_
   refine sp (OpV.call (evs.cons rfl (evs.cons rfl (evs.nil))) ca_17 (fun w hs => w_laws_eqColorMap e5_4 (r0_1.ext hs.below) (r0_2.ext hs.below) (r1_1.ext hs.below) (r1_2.ext hs.below))) ?_
   refine sp (OpV.not rfl) ?_
   refine WL.nil (En.next ?_)
   refine WC.cond rfl ?_ ?_
   ·
    intro hc_3
    replace h := ifO_t hc_3 h
    refine WC.seq (WC.region ?_)
    refine sp (OpV.assign rfl) ?_
    refine WL.nil (En.next (WC.ret (En.then_ret ?_)))
    refine En.ret1 rfl (Res.tmp rfl) ?_
    obtain rfl := Option.some.inj h
    intro w' hs
    exact ⟨rfl, hs.below⟩
   ·
    intro hc_3
    replace h := ifO_f hc_3 h
    refine WC.skip (En.next (WC.seq (WC.region ?_)))
    refine sp (OpV.assign rfl) ?_
    refine WL.nil (En.next (WC.ret ?_))
    refine En.ret1 rfl (Res.tmp rfl) ?_
    obtain rfl := Option.some.inj h
    intro w' hs
    exact ⟨rfl, hs.below⟩

theorem w_laws_eqChangeS {a_p0 : List ChangeT} {b_p1 : List ChangeT} {r : Bool} {q0_0 : Option Addr} {n0_0 k0_0 : Nat} {q1_0 : Option Addr} {n1_0 k1_0 : Nat} (h : laws_eqChangeS a_p0 b_p1 = some r) {w : World} (r0_0 : Rd tChange w q0_0 n0_0 k0_0 a_p0) (r1_0 : Rd tChange w q1_0 n1_0 k1_0 b_p1)   :
    Calls Tryz.prog 29 #[.slice q0_0 n0_0 k0_0, .slice q1_0 n1_0 k1_0] w (fun en w' => en = .returned (.bool r) ∧ Ext w w') := by
 obtain rfl := r0_0.1
 obtain rfl := r1_0.1
 unfold laws_eqChangeS at h
 refine enter (vs := [_, _]) Tryz.func29 rfl rfl rfl rfl ?_
 refine WC.seq (WC.region ?_)
 refine sp (OpV.assign rfl) ?_
 refine WL.nil (En.next (WC.seq (WC.seq (WC.region ?_))))
 refine sp (OpV.move rfl) ?_
 refine sp (OpV.len rfl si_50 rfl) ?_
 refine sp (OpV.move rfl) ?_
 refine sp (OpV.len rfl si_50 rfl) ?_
 refine sp (OpV.neq rfl rfl) ?_
 refine WL.nil (En.next ?_)
 refine WC.cond rfl ?_ ?_
 ·
  intro hc_1
  replace h := ifO_t hc_1 h
  refine WC.seq (WC.region ?_)
  refine sp (OpV.assign rfl) ?_
  refine WL.nil (En.next (WC.ret (En.then_ret ?_)))
  refine En.ret1 rfl (Res.tmp rfl) ?_
  obtain rfl := Option.some.inj h
  intro w' hs
  exact ⟨rfl, hs.below⟩
 ·
  intro hc_1
  replace h := ifO_f hc_1 h
  refine WC.skip (En.next (WC.seq (WC.seq (WC.region ?_))))
  refine sp (OpV.assign rfl) ?_
  refine WL.nil (En.next (WC.block ?_))
  obtain ⟨zy0, ezy0, h⟩ := bnd h
  refine WC.cut (X := (Unit) × (Unit)) (.exit 0) (fun x => zy0 = .inl x.1) (fun x => match x with | ((), ()) => []) (fun x => match x with | ((), ()) => []) ?_ ?_
  ·
   rintro ⟨⟨⟩, ⟨⟩⟩ hx
   replace hx : .inl () = zy0 := hx.symm
   subst hx
   replace h := fork_l h
   show En _ _ _ _ [] []
   refine En.block_exit (En.next (WC.seq (WC.region ?_)))
   refine sp (OpV.assign rfl) ?_
   refine WL.nil (En.next (WC.ret ?_))
   refine En.ret1 rfl (Res.tmp rfl) ?_
   obtain rfl := Option.some.inj h
   intro w' hs
   exact ⟨rfl, hs.below⟩
  ·
   intro zK0_0
   refine WC.loopP (G := Unit) (fun s g => match s, g with | i_0, () => [(0, .slice q0_0 a_p0.length k0_0), (1, .slice q1_0 b_p1.length k1_0), (5, .int .i64 i_0)]) (fun s g => match s, g with | i_0, () => []) 0 () ezy0 (by exact Sub.cons rfl (Sub.cons rfl (Sub.cons rfl (Sub.nil _)))) (by exact (fun _ h => h)) ?_
   rintro zm0 i_0 ⟨⟩ zo0 zf0 zb0 ze0
   have zh0 : laws_eqChangeS_L0 a_p0 b_p1 i_0 = some zo0 := zf0
   unfold laws_eqChangeS_L0 at zh0
   show WC _ _ _ _ _ [(0, .slice q0_0 a_p0.length k0_0), (1, .slice q1_0 b_p1.length k1_0), (5, .int .i64 i_0)] []
   refine WC.seq (WC.seq (WC.region ?_))
   refine sp (OpV.move rfl) ?_
   refine sp (OpV.move rfl) ?_
   refine sp (OpV.len rfl si_50 rfl) ?_
   refine sp (OpV.lss rfl rfl) ?_
   refine WL.nil (En.next ?_)
   refine WC.cond rfl ?_ ?_
   ·
    intro hc_2
    replace zh0 := ifO_t hc_2 zh0
    refine WC.skip (En.next (WC.seq (WC.block (WC.seq ?_))))
    obtain ⟨x6_2, e6_2, zh0⟩ := bnd zh0
    obtain ⟨g6_2, o6_2, _, ha6_2, ⟨a6_2_1, c6_2_1, a6_2_2, c6_2_2, a6_2_3, c6_2_3, rfl, r6_2_1, r6_2_2, r6_2_3⟩, hd6_2⟩ := Rd.atIdx r0_0 e6_2
    replace hd6_2 : ∀ (j : Nat) v, ([.int .i64 x6_2.Plane, .bool x6_2.Value.On, .int .i64 x6_2.Value.X, .int .i64 x6_2.Value.Y, .int .i64 x6_2.Value.W, .int .i64 x6_2.Value.H, .int .i64 x6_2.Value.Layout, .slice a6_2_1 x6_2.Value.Words.length c6_2_1, .int .i64 x6_2.Value.Alpha, .int .i64 x6_2.Value.Orient, .int .i64 x6_2.Value.ToW, .int .i64 x6_2.Value.ToH, .slice a6_2_2 x6_2.Color.Matrix.length c6_2_2, .slice a6_2_3 x6_2.Color.Curve.length c6_2_3] : List Value)[j]? = some v → w.cell? ⟨g6_2, o6_2 + i_0.toNat * 14 + j, .none⟩ = some v := hd6_2
    obtain ⟨x6_6, e6_6, zh0⟩ := bnd zh0
    obtain ⟨g6_6, o6_6, _, ha6_6, ⟨a6_6_1, c6_6_1, a6_6_2, c6_6_2, a6_6_3, c6_6_3, rfl, r6_6_1, r6_6_2, r6_6_3⟩, hd6_6⟩ := Rd.atIdx r1_0 e6_6
    replace hd6_6 : ∀ (j : Nat) v, ([.int .i64 x6_6.Plane, .bool x6_6.Value.On, .int .i64 x6_6.Value.X, .int .i64 x6_6.Value.Y, .int .i64 x6_6.Value.W, .int .i64 x6_6.Value.H, .int .i64 x6_6.Value.Layout, .slice a6_6_1 x6_6.Value.Words.length c6_6_1, .int .i64 x6_6.Value.Alpha, .int .i64 x6_6.Value.Orient, .int .i64 x6_6.Value.ToW, .int .i64 x6_6.Value.ToH, .slice a6_6_2 x6_6.Color.Matrix.length c6_6_2, .slice a6_6_3 x6_6.Color.Curve.length c6_6_3] : List Value)[j]? = some v → w.cell? ⟨g6_6, o6_6 + i_0.toNat * 14 + j, .none⟩ = some v := hd6_6
    obtain ⟨x6_8, e6_8, zh0⟩ := bnd zh0
    refine WC.drawn [(0, ?r6v0), (1, ?r6v1), (5, ?r6v5), (26, ?r6v26)] (by kernel_rfl) (by kernel_rfl) ?dH6 ?dK6
    case dH6 =>
     intro W hW hk
     refine hW.step rfl rfl rfl (OpV.move rfl) ?_
     refine hW.step rfl rfl rfl (OpV.move rfl) ?_
     refine hW.step rfl rfl rfl (OpV.idxA rfl rfl se_50 ha6_2 ⟨(idx_some e6_2).1, (idx_some e6_2).2.1⟩) ?_
     refine hW.step rfl rfl rfl (OpV.loadN rfl ag_84 rfl (fun w hs => hs.cellsAt hd6_2)) ?_
     refine hW.step rfl rfl rfl (OpV.move rfl) ?_
     refine hW.step rfl rfl rfl (OpV.move rfl) ?_
     refine hW.step rfl rfl rfl (OpV.idxA rfl rfl se_50 ha6_6 ⟨(idx_some e6_6).1, (idx_some e6_6).2.1⟩) ?_
     refine hW.step rfl rfl rfl (OpV.loadN rfl ag_84 rfl (fun w hs => hs.cellsAt hd6_6)) ?_
     refine hW.step rfl rfl rfl (OpV.call (evs.cons rfl (evs.cons rfl (evs.nil))) ca_74 (fun w hs => w_laws_eqChange e6_8 (r6_2_1.ext hs.below) (r6_2_2.ext hs.below) (r6_2_3.ext hs.below) (r6_6_1.ext hs.below) (r6_6_2.ext hs.below) (r6_6_3.ext hs.below))) ?_
     refine hW.step rfl rfl rfl (OpV.not rfl) ?_
     refine hk _ ?_
     refine Sub.cons ?_ (Sub.cons ?_ (Sub.cons ?_ (Sub.cons ?_ (Sub.nil _))))
     all_goals exact rfl
    refine En.next ?_
    refine WC.cond rfl ?_ ?_
    ·
     intro hc_3
     replace zh0 := ifO_t hc_3 zh0
     refine WC.seq (WC.region ?_)
     refine sp (OpV.assign rfl) ?_
     refine WL.nil (En.next (WC.ret (En.block_ret (En.then_ret (En.then_ret (En.block_ret (En.then_ret ?_)))))))
     refine En.ret1 rfl (Res.tmp rfl) ?_
     have hx := exitP ze0 zh0
     subst hx
     replace h := fork_r h
     obtain rfl := Option.some.inj h
     intro w' hs
     exact ⟨rfl, hs.below⟩
    ·
     intro hc_3
     replace zh0 := ifO_f hc_3 zh0
     refine WC.skip (En.block_norm (En.next (WC.region ?_)))
     refine sp (OpV.move rfl) ?_
     refine sp (OpV.addR rfl rfl) ?_
     refine sp (OpV.assign rfl) ?_
     refine WL.nil ?_
     exact En.backP zb0 zh0 () (Sub.cons rfl (Sub.cons rfl (Sub.cons rfl (Sub.nil _)))) (fun _ h => h)
   ·
    intro hc_2
    replace zh0 := ifO_f hc_2 zh0
    refine WC.exit (En.then_exit (En.then_exit ?_))
    have hx := exitP ze0 zh0
    exact En.wk _ _ (Sub.nil _) (fun _ h => h) (zK0_0 ((), ()) hx.symm)

theorem w_laws_markIntS {a_p0 : List Int} {k_p1 : Int} {r : Int × (List Int)} {q0_0 : Option Addr} {n0_0 k0_0 : Nat} {f0_0 : List Nat} (h : laws_markIntS a_p0 k_p1 = some r) {w0 w : World} {C : List Chunk} (hs0 : St w0 (Chunk.own tInt f0_0 q0_0 n0_0 k0_0 a_p0 :: C) w)  :
    Calls Tryz.prog 20 #[.slice q0_0 n0_0 k0_0, .int .i64 k_p1] w (fun en w' => ∃ rv G, en = .returned rv ∧ (∃ (g0_0 : List Nat), rv = .int .i64 r.1 ∧ G = Chunk.own tInt g0_0 q0_0 n0_0 k0_0 r.2 :: C) ∧ St w0 G w') := by
 unfold laws_markIntS at h
 refine enterF hs0 (vs := [_, _]) Tryz.func20 rfl rfl rfl rfl ?_
 refine WC.seq (WC.region ?_)
 refine sp (OpV.assign rfl) ?_
 refine WL.nil (En.next (WC.seq (WC.seq (WC.region ?_))))
 refine sp (OpV.assign rfl) ?_
 refine WL.nil (En.next (WC.block ?_))
 obtain ⟨zy0, ezy0, h⟩ := bnd h
 refine WC.cut (X := (Int × (List Int)) × ((List Nat))) (.exit 0) (fun x => zy0 = x.1) (fun x => match x with | ((k_0e, p_0e), fp_0e) => [(1, .int .i64 k_0e)]) (fun x => match x with | ((k_0e, p_0e), fp_0e) => (Chunk.own tInt fp_0e q0_0 n0_0 k0_0 p_0e :: C)) ?_ ?_
 ·
  rintro ⟨⟨k_0e, p_0e⟩, fp_0e⟩ hx
  replace hx : (k_0e, p_0e) = zy0 := hx.symm
  subst hx
  show En _ _ _ _ [(1, .int .i64 k_0e)] (Chunk.own tInt fp_0e q0_0 n0_0 k0_0 p_0e :: C)
  refine En.block_exit (En.next (WC.seq (WC.region ?_)))
  refine sp (OpV.move rfl) ?_
  refine sp (OpV.assign rfl) ?_
  refine WL.nil (En.next (WC.ret ?_))
  refine En.ret1 rfl (Res.tmp rfl) ?_
  obtain rfl := Option.some.inj h
  intro w' hs
  have hs := hs
  exact ⟨_, _, rfl, ⟨fp_0e, rfl, rfl⟩, hs⟩
 ·
  intro zK0_0
  refine WC.loopP (G := (List Nat)) (fun s g => match s, g with | (a_0, k_0, i_0), fa_0 => [(0, .slice q0_0 n0_0 k0_0), (1, .int .i64 k_0), (5, .int .i64 i_0)]) (fun s g => match s, g with | (a_0, k_0, i_0), fa_0 => (Chunk.own tInt fa_0 q0_0 n0_0 k0_0 a_0 :: C)) (a_p0, k_p1, 0) f0_0 ezy0 (by exact Sub.cons rfl (Sub.cons rfl (Sub.cons rfl (Sub.nil _)))) (by exact (fun _ h => h)) ?_
  rintro zm0 ⟨a_0, k_0, i_0⟩ fa_0 zo0 zf0 zb0 ze0
  have zh0 : laws_markIntS_L0 a_0 k_0 i_0 = some zo0 := zf0
  unfold laws_markIntS_L0 at zh0
  show WC _ _ _ _ _ [(0, .slice q0_0 n0_0 k0_0), (1, .int .i64 k_0), (5, .int .i64 i_0)] (Chunk.own tInt fa_0 q0_0 n0_0 k0_0 a_0 :: C)
  refine WC.seq (WC.seq (WC.region ?_))
  refine sp (OpV.move rfl) ?_
  refine sp (OpV.move rfl) ?_
  refine sp (OpV.inhF fun hin => OpV.lenO (xs := a_0) rfl si_23 rfl (ownLen hin (.head _))) ?_
  refine sp (OpV.lss rfl rfl) ?_
  refine WL.nil (En.next ?_)
  refine WC.cond rfl ?_ ?_
  ·
   intro hc_1
   replace zh0 := ifO_t hc_1 zh0
   refine WC.skip (En.next (WC.seq (WC.block (WC.seq ?_))))
   refine WC.inh fun hin4 => ?_
   have hn4_3 := ownLen hin4 (.head _)
   obtain ⟨x4_4, e4_4, zh0⟩ := bnd zh0
   obtain ⟨g4_3, ha4_3⟩ := ownAddrU hin4 (.head _) e4_4
   refine WC.region ?_
   refine sp (OpV.move rfl) ?_
   refine sp (OpV.move rfl) ?_
   refine sp (OpV.move rfl) ?_
   refine sp (OpV.idxA rfl rfl se_23 ha4_3 ⟨(upd_some e4_4).1.1, by rw [hn4_3]; exact (upd_some e4_4).1.2⟩) ?_
   refine WL.wkF (fun _ h => St.elFlat tInt_flat k_0 h) ?_
   refine WL.heavy0 rfl rfl (OpH.setEl (A := tInt) ha4_3 rfl rfl rfl ts_3 e4_4 ?_)
   intro f4_4
   refine WL.nil (En.next (WC.region ?_))
   refine sp (OpV.move rfl) ?_
   refine sp (OpV.addR rfl rfl) ?_
   refine sp (OpV.assign rfl) ?_
   refine WL.nil (En.block_norm (En.next (WC.region ?_)))
   refine sp (OpV.move rfl) ?_
   refine sp (OpV.addR rfl rfl) ?_
   refine sp (OpV.assign rfl) ?_
   refine WL.nil ?_
   exact En.backP zb0 zh0 f4_4 (Sub.cons rfl (Sub.cons rfl (Sub.cons rfl (Sub.nil _)))) (fun _ h => h)
  ·
   intro hc_1
   replace zh0 := ifO_f hc_1 zh0
   refine WC.exit (En.then_exit (En.then_exit ?_))
   have hx := exitP ze0 zh0
   exact En.wk _ _ (Sub.cons rfl (Sub.nil _)) (fun _ h => h) (zK0_0 ((k_0, a_0), fa_0) hx.symm)

theorem w_laws_markPlaneS {a_p0 : List PlaneT} {a_p1 : Int} {r : Int × (List PlaneT)} {q0_0 : Option Addr} {n0_0 k0_0 : Nat} {f0_0 : List Nat} (h : laws_markPlaneS a_p0 a_p1 = some r) {w0 w : World} {C : List Chunk} (hs0 : St w0 (Chunk.own tPlane f0_0 q0_0 n0_0 k0_0 a_p0 :: C) w)  :
    Calls Tryz.prog 18 #[.slice q0_0 n0_0 k0_0, .int .i64 a_p1] w (fun en w' => ∃ rv G, en = .returned rv ∧ (∃ (g0_0 : List Nat), rv = .int .i64 r.1 ∧ G = Chunk.own tPlane g0_0 q0_0 n0_0 k0_0 r.2 :: C) ∧ St w0 G w') := by
 unfold laws_markPlaneS at h
 refine enterF hs0 (vs := [_, _]) Tryz.func18 rfl rfl rfl rfl ?_
 refine WC.seq (WC.region ?_)
 refine sp (OpV.assign rfl) ?_
 refine WL.nil (En.next (WC.seq (WC.seq (WC.region ?_))))
 refine sp (OpV.assign rfl) ?_
 refine WL.nil (En.next (WC.block ?_))
 obtain ⟨zy0, ezy0, h⟩ := bnd h
 refine WC.cut (X := (Int × (List PlaneT)) × ((List Nat))) (.exit 0) (fun x => zy0 = x.1) (fun x => match x with | ((v_0e, p_0e), fp_0e) => [(1, .int .i64 v_0e)]) (fun x => match x with | ((v_0e, p_0e), fp_0e) => (Chunk.own tPlane fp_0e q0_0 n0_0 k0_0 p_0e :: C)) ?_ ?_
 ·
  rintro ⟨⟨v_0e, p_0e⟩, fp_0e⟩ hx
  replace hx : (v_0e, p_0e) = zy0 := hx.symm
  subst hx
  show En _ _ _ _ [(1, .int .i64 v_0e)] (Chunk.own tPlane fp_0e q0_0 n0_0 k0_0 p_0e :: C)
  refine En.block_exit (En.next (WC.seq (WC.region ?_)))
  refine sp (OpV.move rfl) ?_
  refine sp (OpV.assign rfl) ?_
  refine WL.nil (En.next (WC.ret ?_))
  refine En.ret1 rfl (Res.tmp rfl) ?_
  obtain rfl := Option.some.inj h
  intro w' hs
  have hs := hs
  exact ⟨_, _, rfl, ⟨fp_0e, rfl, rfl⟩, hs⟩
 ·
  intro zK0_0
  refine WC.loopP (G := (List Nat)) (fun s g => match s, g with | (v_0, v1_0, v2_0), fv_0 => [(0, .slice q0_0 n0_0 k0_0), (1, .int .i64 v1_0), (5, .int .i64 v2_0)]) (fun s g => match s, g with | (v_0, v1_0, v2_0), fv_0 => (Chunk.own tPlane fv_0 q0_0 n0_0 k0_0 v_0 :: C)) (a_p0, a_p1, 0) f0_0 ezy0 (by exact Sub.cons rfl (Sub.cons rfl (Sub.cons rfl (Sub.nil _)))) (by exact (fun _ h => h)) ?_
  rintro zm0 ⟨v_0, v1_0, v2_0⟩ fv_0 zo0 zf0 zb0 ze0
  have zh0 : laws_markPlaneS_L0 v_0 v1_0 v2_0 = some zo0 := zf0
  unfold laws_markPlaneS_L0 at zh0
  show WC _ _ _ _ _ [(0, .slice q0_0 n0_0 k0_0), (1, .int .i64 v1_0), (5, .int .i64 v2_0)] (Chunk.own tPlane fv_0 q0_0 n0_0 k0_0 v_0 :: C)
  refine WC.seq (WC.seq (WC.region ?_))
  refine sp (OpV.move rfl) ?_
  refine sp (OpV.move rfl) ?_
  refine sp (OpV.inhF fun hin => OpV.lenO (xs := v_0) rfl si_29 rfl (ownLen hin (.head _))) ?_
  refine sp (OpV.lss rfl rfl) ?_
  refine WL.nil (En.next ?_)
  refine WC.cond rfl ?_ ?_
  ·
   intro hc_1
   replace zh0 := ifO_t hc_1 zh0
   refine WC.skip (En.next (WC.seq (WC.block (WC.seq ?_))))
   refine WC.inh fun hin4 => ?_
   obtain ⟨x4_5, e4_5, zh0⟩ := bnd zh0
   obtain ⟨g4_5, ha4_5⟩ := ownAddr hin4 (.head _) e4_5
   have hn4_5 := ownLen hin4 (.head _)
   obtain ⟨x4_7, e4_7, zh0⟩ := bnd zh0
   refine WC.region ?_
   refine sp (OpV.move rfl) ?_
   refine sp (OpV.move rfl) ?_
   refine sp (OpV.move rfl) ?_
   refine sp (OpV.remR rfl rfl rfl) ?_
   refine sp (OpV.eql rfl rfl) ?_
   refine sp (OpV.idxA rfl rfl se_29 ha4_5 ⟨(idx_some e4_5).1, by rw [hn4_5]; exact (idx_some e4_5).2.1⟩) ?_
   refine sp (OpV.fieldAddr rfl fo_82_0) ?_
   refine WL.heavy0 rfl rfl (OpH.setFld (F := []) (A := tPlane) (off := 0) (i := v2_0) (v' := (PlaneT.mk (decide ((Int.tmod v1_0 3) = 0)) x4_5.X x4_5.Y x4_5.W x4_5.H x4_5.Layout x4_5.Words x4_5.Alpha x4_5.Orient x4_5.ToW x4_5.ToH)) ha4_5 rfl rfl rfl ts_4 rfl rfl e4_5 (fun _ _ _ ⟨_, _, _, hp, he, h0⟩ => ⟨_, _, _, hp, by rw [he]; rfl, h0⟩) e4_7 ?_)
   refine WL.nil (En.next (WC.seq (WC.region ?_)))
   refine sp (OpV.move rfl) ?_
   refine sp (OpV.addR rfl rfl) ?_
   refine sp (OpV.assign rfl) ?_
   refine WL.nil (En.next (WC.seq ?_))
   refine WC.inh fun hin6 => ?_
   obtain ⟨x6_3, e6_3, zh0⟩ := bnd zh0
   obtain ⟨g6_3, ha6_3⟩ := ownAddr hin6 (.head _) e6_3
   have hn6_3 := ownLen hin6 (.head _)
   obtain ⟨x6_5, e6_5, zh0⟩ := bnd zh0
   refine WC.region ?_
   refine sp (OpV.move rfl) ?_
   refine sp (OpV.move rfl) ?_
   refine sp (OpV.move rfl) ?_
   refine sp (OpV.idxA rfl rfl se_29 ha6_3 ⟨(idx_some e6_3).1, by rw [hn6_3]; exact (idx_some e6_3).2.1⟩) ?_
   refine sp (OpV.fieldAddr rfl fo_82_1) ?_
   refine WL.heavy0 rfl rfl (OpH.setFld (F := []) (A := tPlane) (off := 1) (i := v2_0) (v' := (PlaneT.mk x6_3.On (wr (v1_0 + 1)) x6_3.Y x6_3.W x6_3.H x6_3.Layout x6_3.Words x6_3.Alpha x6_3.Orient x6_3.ToW x6_3.ToH)) ha6_3 rfl rfl rfl ts_3 rfl rfl e6_3 (fun _ _ _ ⟨_, _, _, hp, he, h0⟩ => ⟨_, _, _, hp, by rw [he]; rfl, h0⟩) e6_5 ?_)
   refine WL.nil (En.next (WC.seq (WC.region ?_)))
   refine sp (OpV.move rfl) ?_
   refine sp (OpV.addR rfl rfl) ?_
   refine sp (OpV.assign rfl) ?_
   refine WL.nil (En.next (WC.seq ?_))
   refine WC.inh fun hin8 => ?_
   obtain ⟨x8_3, e8_3, zh0⟩ := bnd zh0
   obtain ⟨g8_3, ha8_3⟩ := ownAddr hin8 (.head _) e8_3
   have hn8_3 := ownLen hin8 (.head _)
   obtain ⟨x8_5, e8_5, zh0⟩ := bnd zh0
   refine WC.region ?_
   refine sp (OpV.move rfl) ?_
   refine sp (OpV.move rfl) ?_
   refine sp (OpV.move rfl) ?_
   refine sp (OpV.idxA rfl rfl se_29 ha8_3 ⟨(idx_some e8_3).1, by rw [hn8_3]; exact (idx_some e8_3).2.1⟩) ?_
   refine sp (OpV.fieldAddr rfl fo_82_2) ?_
   refine WL.heavy0 rfl rfl (OpH.setFld (F := []) (A := tPlane) (off := 2) (i := v2_0) (v' := (PlaneT.mk x8_3.On x8_3.X (wr ((wr (v1_0 + 1)) + 1)) x8_3.W x8_3.H x8_3.Layout x8_3.Words x8_3.Alpha x8_3.Orient x8_3.ToW x8_3.ToH)) ha8_3 rfl rfl rfl ts_3 rfl rfl e8_3 (fun _ _ _ ⟨_, _, _, hp, he, h0⟩ => ⟨_, _, _, hp, by rw [he]; rfl, h0⟩) e8_5 ?_)
   refine WL.nil (En.next (WC.seq (WC.region ?_)))
   refine sp (OpV.move rfl) ?_
   refine sp (OpV.addR rfl rfl) ?_
   refine sp (OpV.assign rfl) ?_
   refine WL.nil (En.next (WC.seq ?_))
   refine WC.inh fun hin10 => ?_
   obtain ⟨x10_3, e10_3, zh0⟩ := bnd zh0
   obtain ⟨g10_3, ha10_3⟩ := ownAddr hin10 (.head _) e10_3
   have hn10_3 := ownLen hin10 (.head _)
   obtain ⟨x10_5, e10_5, zh0⟩ := bnd zh0
   refine WC.region ?_
   refine sp (OpV.move rfl) ?_
   refine sp (OpV.move rfl) ?_
   refine sp (OpV.move rfl) ?_
   refine sp (OpV.idxA rfl rfl se_29 ha10_3 ⟨(idx_some e10_3).1, by rw [hn10_3]; exact (idx_some e10_3).2.1⟩) ?_
   refine sp (OpV.fieldAddr rfl fo_82_3) ?_
   refine WL.heavy0 rfl rfl (OpH.setFld (F := []) (A := tPlane) (off := 3) (i := v2_0) (v' := (PlaneT.mk x10_3.On x10_3.X x10_3.Y (wr ((wr ((wr (v1_0 + 1)) + 1)) + 1)) x10_3.H x10_3.Layout x10_3.Words x10_3.Alpha x10_3.Orient x10_3.ToW x10_3.ToH)) ha10_3 rfl rfl rfl ts_3 rfl rfl e10_3 (fun _ _ _ ⟨_, _, _, hp, he, h0⟩ => ⟨_, _, _, hp, by rw [he]; rfl, h0⟩) e10_5 ?_)
   refine WL.nil (En.next (WC.seq (WC.region ?_)))
   refine sp (OpV.move rfl) ?_
   refine sp (OpV.addR rfl rfl) ?_
   refine sp (OpV.assign rfl) ?_
   refine WL.nil (En.next (WC.seq ?_))
   refine WC.inh fun hin12 => ?_
   obtain ⟨x12_3, e12_3, zh0⟩ := bnd zh0
   obtain ⟨g12_3, ha12_3⟩ := ownAddr hin12 (.head _) e12_3
   have hn12_3 := ownLen hin12 (.head _)
   obtain ⟨x12_5, e12_5, zh0⟩ := bnd zh0
   refine WC.region ?_
   refine sp (OpV.move rfl) ?_
   refine sp (OpV.move rfl) ?_
   refine sp (OpV.move rfl) ?_
   refine sp (OpV.idxA rfl rfl se_29 ha12_3 ⟨(idx_some e12_3).1, by rw [hn12_3]; exact (idx_some e12_3).2.1⟩) ?_
   refine sp (OpV.fieldAddr rfl fo_82_4) ?_
   refine WL.heavy0 rfl rfl (OpH.setFld (F := []) (A := tPlane) (off := 4) (i := v2_0) (v' := (PlaneT.mk x12_3.On x12_3.X x12_3.Y x12_3.W (wr ((wr ((wr ((wr (v1_0 + 1)) + 1)) + 1)) + 1)) x12_3.Layout x12_3.Words x12_3.Alpha x12_3.Orient x12_3.ToW x12_3.ToH)) ha12_3 rfl rfl rfl ts_3 rfl rfl e12_3 (fun _ _ _ ⟨_, _, _, hp, he, h0⟩ => ⟨_, _, _, hp, by rw [he]; rfl, h0⟩) e12_5 ?_)
   refine WL.nil (En.next (WC.seq (WC.region ?_)))
   refine sp (OpV.move rfl) ?_
   refine sp (OpV.addR rfl rfl) ?_
   refine sp (OpV.assign rfl) ?_
   refine WL.nil (En.next (WC.seq ?_))
   refine WC.inh fun hin14 => ?_
   obtain ⟨x14_3, e14_3, zh0⟩ := bnd zh0
   obtain ⟨g14_3, ha14_3⟩ := ownAddr hin14 (.head _) e14_3
   have hn14_3 := ownLen hin14 (.head _)
   obtain ⟨x14_5, e14_5, zh0⟩ := bnd zh0
   refine WC.region ?_
   refine sp (OpV.move rfl) ?_
   refine sp (OpV.move rfl) ?_
   refine sp (OpV.move rfl) ?_
   refine sp (OpV.idxA rfl rfl se_29 ha14_3 ⟨(idx_some e14_3).1, by rw [hn14_3]; exact (idx_some e14_3).2.1⟩) ?_
   refine sp (OpV.fieldAddr rfl fo_82_5) ?_
   refine WL.heavy0 rfl rfl (OpH.setFld (F := []) (A := tPlane) (off := 5) (i := v2_0) (v' := (PlaneT.mk x14_3.On x14_3.X x14_3.Y x14_3.W x14_3.H (wr ((wr ((wr ((wr ((wr (v1_0 + 1)) + 1)) + 1)) + 1)) + 1)) x14_3.Words x14_3.Alpha x14_3.Orient x14_3.ToW x14_3.ToH)) ha14_3 rfl rfl rfl ts_3 rfl rfl e14_3 (fun _ _ _ ⟨_, _, _, hp, he, h0⟩ => ⟨_, _, _, hp, by rw [he]; rfl, h0⟩) e14_5 ?_)
   refine WL.nil (En.next (WC.seq (WC.region ?_)))
   refine sp (OpV.move rfl) ?_
   refine sp (OpV.addR rfl rfl) ?_
   refine sp (OpV.assign rfl) ?_
   refine WL.nil (En.next (WC.seq ?_))
   refine WC.inh fun hin16 => ?_
   obtain ⟨x16_2, e16_2, zh0⟩ := bnd zh0
   obtain ⟨g16_2, ha16_2⟩ := ownAddr hin16 (.head _) e16_2
   have hn16_2 := ownLen hin16 (.head _)
   obtain ⟨⟨x16_6a, x16_6b⟩, e16_6, zh0⟩ := bnd zh0
   obtain ⟨x16_u, e16_u, zh0⟩ := bnd zh0
   refine WC.exF (fun w h => St.focus (F := []) e16_2 h) ?_
   rintro ⟨css16_2, fps16_2, cs16_2, fz16_2⟩ ⟨hcs16_2, hk16_2⟩
   refine WC.exF (X := (Option Addr) × Nat × (List Nat)) (Pre := fun x => match x with | (a16_2_0, c16_2_0, f16_2_0) => cs16_2 = [.bool x16_2.On, .int .i64 x16_2.X, .int .i64 x16_2.Y, .int .i64 x16_2.W, .int .i64 x16_2.H, .int .i64 x16_2.Layout, .slice a16_2_0 x16_2.Words.length c16_2_0, .int .i64 x16_2.Alpha, .int .i64 x16_2.Orient, .int .i64 x16_2.ToW, .int .i64 x16_2.ToH]) (F' := fun x => match x with | (a16_2_0, c16_2_0, f16_2_0) => (Chunk.own tInt f16_2_0 a16_2_0 x16_2.Words.length c16_2_0 x16_2.Words :: Chunk.row tPlane.T tPlane.k q0_0 x14_5.length k0_0 css16_2.flatten :: Chunk.inX tPlane css16_2 fps16_2 x14_5 v2_0.toNat :: C)) (fun w h => let ⟨a16_2_0, c16_2_0, f16_2_0, e, hs⟩ := tPlane_open (F := []) h; ⟨(a16_2_0, c16_2_0, f16_2_0), e, hs⟩) ?_
   rintro ⟨a16_2_0, c16_2_0, f16_2_0⟩ hz16_2
   replace hz16_2 : cs16_2 = [.bool x16_2.On, .int .i64 x16_2.X, .int .i64 x16_2.Y, .int .i64 x16_2.W, .int .i64 x16_2.H, .int .i64 x16_2.Layout, .slice a16_2_0 x16_2.Words.length c16_2_0, .int .i64 x16_2.Alpha, .int .i64 x16_2.Orient, .int .i64 x16_2.ToW, .int .i64 x16_2.ToH] := hz16_2
   subst hz16_2
   show WC _ _ _ _ _ _ (Chunk.own tInt f16_2_0 a16_2_0 x16_2.Words.length c16_2_0 x16_2.Words :: Chunk.row tPlane.T tPlane.k q0_0 x14_5.length k0_0 css16_2.flatten :: Chunk.inX tPlane css16_2 fps16_2 x14_5 v2_0.toNat :: C)
   refine WC.region ?_
   refine sp (OpV.move rfl) ?_
   refine sp (OpV.move rfl) ?_
   refine sp (OpV.idxA rfl rfl se_29 ha16_2 ⟨(idx_some e16_2).1, by rw [hn16_2]; exact (idx_some e16_2).2.1⟩) ?_
   refine sp (OpV.fieldAddr rfl fo_82_6) ?_
   refine sp (OpV.load1 rfl pt_23 (fun w hs => focCell (j := 6) (hs.mem (.tail _ (.head _))) hk16_2 hcs16_2 ha16_2 rfl)) ?_
   refine sp (OpV.move rfl) ?_
   refine WL.heavy rfl rfl rfl (OpH.callX (evs.cons rfl (evs.cons rfl (evs.nil))) ca_20 (fun w hs => w_laws_markIntS e16_6 hs) ?_)
   rintro _ _ ⟨g16_600, rfl, rfl⟩
   refine sp (OpV.assign rfl) ?_
   refine WL.nil ?_
   refine En.exF (fun w h => St.unfocus (F := []) hcs16_2 hn16_2 e16_u (tPlane_mk x16_2.On x16_2.X x16_2.Y x16_2.W x16_2.H x16_2.Layout x16_6b x16_2.Alpha x16_2.Orient x16_2.ToW x16_2.ToH h)) ?_
   rintro fp16_u _
   refine En.next (WC.seq ?_)
   refine WC.inh fun hin17 => ?_
   obtain ⟨x17_3, e17_3, zh0⟩ := bnd zh0
   obtain ⟨g17_3, ha17_3⟩ := ownAddr hin17 (.head _) e17_3
   have hn17_3 := ownLen hin17 (.head _)
   obtain ⟨x17_5, e17_5, zh0⟩ := bnd zh0
   refine WC.region ?_
   refine sp (OpV.move rfl) ?_
   refine sp (OpV.move rfl) ?_
   refine sp (OpV.move rfl) ?_
   refine sp (OpV.idxA rfl rfl se_29 ha17_3 ⟨(idx_some e17_3).1, by rw [hn17_3]; exact (idx_some e17_3).2.1⟩) ?_
   refine sp (OpV.fieldAddr rfl fo_82_7) ?_
   refine WL.heavy0 rfl rfl (OpH.setFld (F := []) (A := tPlane) (off := 7) (i := v2_0) (v' := (PlaneT.mk x17_3.On x17_3.X x17_3.Y x17_3.W x17_3.H x17_3.Layout x17_3.Words x16_6a x17_3.Orient x17_3.ToW x17_3.ToH)) ha17_3 rfl rfl rfl ts_3 rfl rfl e17_3 (fun _ _ _ ⟨_, _, _, hp, he, h0⟩ => ⟨_, _, _, hp, by rw [he]; rfl, h0⟩) e17_5 ?_)
   refine WL.nil (En.next (WC.seq (WC.region ?_)))
   refine sp (OpV.move rfl) ?_
   refine sp (OpV.addR rfl rfl) ?_
   refine sp (OpV.assign rfl) ?_
   refine WL.nil (En.next (WC.seq ?_))
   refine WC.inh fun hin19 => ?_
   obtain ⟨x19_3, e19_3, zh0⟩ := bnd zh0
   obtain ⟨g19_3, ha19_3⟩ := ownAddr hin19 (.head _) e19_3
   have hn19_3 := ownLen hin19 (.head _)
   obtain ⟨x19_5, e19_5, zh0⟩ := bnd zh0
   refine WC.region ?_
   refine sp (OpV.move rfl) ?_
   refine sp (OpV.move rfl) ?_
   refine sp (OpV.move rfl) ?_
   refine sp (OpV.idxA rfl rfl se_29 ha19_3 ⟨(idx_some e19_3).1, by rw [hn19_3]; exact (idx_some e19_3).2.1⟩) ?_
   refine sp (OpV.fieldAddr rfl fo_82_8) ?_
   refine WL.heavy0 rfl rfl (OpH.setFld (F := []) (A := tPlane) (off := 8) (i := v2_0) (v' := (PlaneT.mk x19_3.On x19_3.X x19_3.Y x19_3.W x19_3.H x19_3.Layout x19_3.Words x19_3.Alpha (wr (x16_6a + 1)) x19_3.ToW x19_3.ToH)) ha19_3 rfl rfl rfl ts_3 rfl rfl e19_3 (fun _ _ _ ⟨_, _, _, hp, he, h0⟩ => ⟨_, _, _, hp, by rw [he]; rfl, h0⟩) e19_5 ?_)
   refine WL.nil (En.next (WC.seq (WC.region ?_)))
   refine sp (OpV.move rfl) ?_
   refine sp (OpV.addR rfl rfl) ?_
   refine sp (OpV.assign rfl) ?_
   refine WL.nil (En.next (WC.seq ?_))
   refine WC.inh fun hin21 => ?_
   obtain ⟨x21_3, e21_3, zh0⟩ := bnd zh0
   obtain ⟨g21_3, ha21_3⟩ := ownAddr hin21 (.head _) e21_3
   have hn21_3 := ownLen hin21 (.head _)
   obtain ⟨x21_5, e21_5, zh0⟩ := bnd zh0
   refine WC.region ?_
   refine sp (OpV.move rfl) ?_
   refine sp (OpV.move rfl) ?_
   refine sp (OpV.move rfl) ?_
   refine sp (OpV.idxA rfl rfl se_29 ha21_3 ⟨(idx_some e21_3).1, by rw [hn21_3]; exact (idx_some e21_3).2.1⟩) ?_
   refine sp (OpV.fieldAddr rfl fo_82_9) ?_
   refine WL.heavy0 rfl rfl (OpH.setFld (F := []) (A := tPlane) (off := 9) (i := v2_0) (v' := (PlaneT.mk x21_3.On x21_3.X x21_3.Y x21_3.W x21_3.H x21_3.Layout x21_3.Words x21_3.Alpha x21_3.Orient (wr ((wr (x16_6a + 1)) + 1)) x21_3.ToH)) ha21_3 rfl rfl rfl ts_3 rfl rfl e21_3 (fun _ _ _ ⟨_, _, _, hp, he, h0⟩ => ⟨_, _, _, hp, by rw [he]; rfl, h0⟩) e21_5 ?_)
   refine WL.nil (En.next (WC.seq (WC.region ?_)))
   refine sp (OpV.move rfl) ?_
   refine sp (OpV.addR rfl rfl) ?_
   refine sp (OpV.assign rfl) ?_
   refine WL.nil (En.next (WC.seq ?_))
   refine WC.inh fun hin23 => ?_
   obtain ⟨x23_3, e23_3, zh0⟩ := bnd zh0
   obtain ⟨g23_3, ha23_3⟩ := ownAddr hin23 (.head _) e23_3
   have hn23_3 := ownLen hin23 (.head _)
   obtain ⟨x23_5, e23_5, zh0⟩ := bnd zh0
   refine WC.region ?_
   refine sp (OpV.move rfl) ?_
   refine sp (OpV.move rfl) ?_
   refine sp (OpV.move rfl) ?_
   refine sp (OpV.idxA rfl rfl se_29 ha23_3 ⟨(idx_some e23_3).1, by rw [hn23_3]; exact (idx_some e23_3).2.1⟩) ?_
   refine sp (OpV.fieldAddr rfl fo_82_10) ?_
   refine WL.heavy0 rfl rfl (OpH.setFld (F := []) (A := tPlane) (off := 10) (i := v2_0) (v' := (PlaneT.mk x23_3.On x23_3.X x23_3.Y x23_3.W x23_3.H x23_3.Layout x23_3.Words x23_3.Alpha x23_3.Orient x23_3.ToW (wr ((wr ((wr (x16_6a + 1)) + 1)) + 1)))) ha23_3 rfl rfl rfl ts_3 rfl rfl e23_3 (fun _ _ _ ⟨_, _, _, hp, he, h0⟩ => ⟨_, _, _, hp, by rw [he]; rfl, h0⟩) e23_5 ?_)
   refine WL.nil (En.next (WC.region ?_))
   refine sp (OpV.move rfl) ?_
   refine sp (OpV.addR rfl rfl) ?_
   refine sp (OpV.assign rfl) ?_
   refine WL.nil (En.block_norm (En.next (WC.region ?_)))
   refine sp (OpV.move rfl) ?_
   refine sp (OpV.addR rfl rfl) ?_
   refine sp (OpV.assign rfl) ?_
   refine WL.nil ?_
   exact En.backP zb0 zh0 fp16_u (Sub.cons rfl (Sub.cons rfl (Sub.cons rfl (Sub.nil _)))) (fun _ h => h)
  ·
   intro hc_1
   replace zh0 := ifO_f hc_1 zh0
   refine WC.exit (En.then_exit (En.then_exit ?_))
   have hx := exitP ze0 zh0
   exact En.wk _ _ (Sub.cons rfl (Sub.nil _)) (fun _ h => h) (zK0_0 ((v1_0, v_0), fv_0) hx.symm)

theorem w_laws_markColorMap {a_p0 : ColorMapT} {k_p1 : Int} {r : Int × (List Int) × (List Int)} {q0_0 : Option Addr} {n0_0 k0_0 : Nat} {f0_0 : List Nat} {q0_1 : Option Addr} {n0_1 k0_1 : Nat} {f0_1 : List Nat} (h : laws_markColorMap a_p0 k_p1 = some r) {w0 w : World} {C : List Chunk} (hs0 : St w0 (Chunk.own tInt f0_0 q0_0 n0_0 k0_0 a_p0.Matrix :: Chunk.own tInt f0_1 q0_1 n0_1 k0_1 a_p0.Curve :: C) w)  :
    Calls Tryz.prog 19 #[.agg #[.slice q0_0 n0_0 k0_0, .slice q0_1 n0_1 k0_1], .int .i64 k_p1] w (fun en w' => ∃ rv G, en = .returned rv ∧ (∃ (g0_0 : List Nat) (g0_1 : List Nat), rv = .int .i64 r.1 ∧ G = Chunk.own tInt g0_0 q0_0 n0_0 k0_0 r.2.1 :: Chunk.own tInt g0_1 q0_1 n0_1 k0_1 r.2.2 :: C) ∧ St w0 G w') := by
 unfold laws_markColorMap at h
 refine enterF hs0 (vs := [_, _]) Tryz.func19 rfl rfl rfl rfl ?_
 refine WC.seq (WC.region ?_)
 refine WL.heavy rfl rfl rfl (OpH.box rfl rfl ?_)
 intro b0_0
 refine sp (OpV.assign rfl) ?_
 refine WL.nil (En.next (WC.seq ?_))
 obtain ⟨⟨x1_3a, x1_3b⟩, e1_3, h⟩ := bnd h
 refine WC.region ?_
 refine sp (OpV.fieldAddr rfl fo_31_0) ?_
 refine sp (OpV.loadBox rfl pt_23 (.head _) rfl) ?_
 refine sp (OpV.move rfl) ?_
 refine WL.wkF (fun _ h => h.perm (List.perm_middle (l₁ := [_]))) ?_
 refine WL.heavy rfl rfl rfl (OpH.callX (evs.cons rfl (evs.cons rfl (evs.nil))) ca_20 (fun w hs => w_laws_markIntS e1_3 hs) ?_)
 rintro _ _ ⟨g1_300, rfl, rfl⟩
 refine sp (OpV.assign rfl) ?_
 refine WL.nil (En.next (WC.seq ?_))
 obtain ⟨⟨x2_3a, x2_3b⟩, e2_3, h⟩ := bnd h
 refine WC.region ?_
 refine sp (OpV.fieldAddr rfl fo_31_1) ?_
 refine sp (OpV.loadBox rfl pt_23 (.tail _ (.head _)) rfl) ?_
 refine sp (OpV.move rfl) ?_
 refine WL.wkF (fun _ h => h.perm (List.perm_middle (l₁ := [_, _]))) ?_
 refine WL.heavy rfl rfl rfl (OpH.callX (evs.cons rfl (evs.cons rfl (evs.nil))) ca_20 (fun w hs => w_laws_markIntS e2_3 hs) ?_)
 rintro _ _ ⟨g2_300, rfl, rfl⟩
 refine sp (OpV.assign rfl) ?_
 refine WL.nil (En.next (WC.seq (WC.region ?_)))
 refine sp (OpV.move rfl) ?_
 refine sp (OpV.assign rfl) ?_
 refine WL.nil (En.next (WC.ret ?_))
 refine En.ret1 rfl (Res.tmp rfl) ?_
 obtain rfl := Option.some.inj h
 intro w' hs
 have hs := ((hs).perm (List.perm_middle (l₁ := [_]))).sub (.cons_cons _ (.cons_cons _ (.cons _ (List.Sublist.refl _))))
 exact ⟨_, _, rfl, ⟨g1_300, g2_300, rfl, rfl⟩, hs⟩

theorem w_laws_markCrtc {a_p0 : CrtcT} {k_p1 : Int} {r : Int × (List PlaneT) × (List Int) × (List Int)} {q0_0 : Option Addr} {n0_0 k0_0 : Nat} {f0_0 : List Nat} {q0_1 : Option Addr} {n0_1 k0_1 : Nat} {f0_1 : List Nat} {q0_2 : Option Addr} {n0_2 k0_2 : Nat} {f0_2 : List Nat} (h : laws_markCrtc a_p0 k_p1 = some r) {w0 w : World} {C : List Chunk} (hs0 : St w0 (Chunk.own tPlane f0_0 q0_0 n0_0 k0_0 a_p0.Planes :: Chunk.own tInt f0_1 q0_1 n0_1 k0_1 a_p0.Color.Matrix :: Chunk.own tInt f0_2 q0_2 n0_2 k0_2 a_p0.Color.Curve :: C) w)  :
    Calls Tryz.prog 30 #[.agg #[.int .i64 a_p0.W, .int .i64 a_p0.H, .slice q0_0 n0_0 k0_0, .slice q0_1 n0_1 k0_1, .slice q0_2 n0_2 k0_2], .int .i64 k_p1] w (fun en w' => ∃ rv G, en = .returned rv ∧ (∃ (g0_0 : List Nat) (g0_1 : List Nat) (g0_2 : List Nat), rv = .int .i64 r.1 ∧ G = Chunk.own tPlane g0_0 q0_0 n0_0 k0_0 r.2.1 :: Chunk.own tInt g0_1 q0_1 n0_1 k0_1 r.2.2.1 :: Chunk.own tInt g0_2 q0_2 n0_2 k0_2 r.2.2.2 :: C) ∧ St w0 G w') := by
 unfold laws_markCrtc at h
 refine enterF hs0 (vs := [_, _]) Tryz.func30 rfl rfl rfl rfl ?_
 refine WC.seq (WC.region ?_)
 refine WL.heavy rfl rfl rfl (OpH.box rfl rfl ?_)
 intro b0_0
 refine sp (OpV.assign rfl) ?_
 refine WL.nil (En.next (WC.seq ?_))
 obtain ⟨⟨x1_3a, x1_3b⟩, e1_3, h⟩ := bnd h
 refine WC.region ?_
 refine sp (OpV.fieldAddr rfl fo_46_2) ?_
 refine sp (OpV.loadBox rfl pt_29 (.head _) rfl) ?_
 refine sp (OpV.move rfl) ?_
 refine WL.wkF (fun _ h => h.perm (List.perm_middle (l₁ := [_]))) ?_
 refine WL.heavy rfl rfl rfl (OpH.callX (evs.cons rfl (evs.cons rfl (evs.nil))) ca_18 (fun w hs => w_laws_markPlaneS e1_3 hs) ?_)
 rintro _ _ ⟨g1_300, rfl, rfl⟩
 refine sp (OpV.assign rfl) ?_
 refine WL.nil (En.next (WC.seq ?_))
 obtain ⟨⟨x2_3a, x2_3b, x2_3c⟩, e2_3, h⟩ := bnd h
 refine WC.region ?_
 refine sp (OpV.fieldAddr rfl fo_46_3) ?_
 refine sp (OpV.loadPart rfl (.tail _ (.head _)) ag_31 rfl rfl) ?_
 refine sp (OpV.move rfl) ?_
 refine WL.wkF (fun _ h => h.perm (List.perm_middle (l₁ := [_, _, _]))) ?_
 refine WL.wkF (fun _ h => h.perm (List.perm_middle (l₁ := [_, _, _]))) ?_
 refine WL.heavy rfl rfl rfl (OpH.callX (evs.cons rfl (evs.cons rfl (evs.nil))) ca_19 (fun w hs => w_laws_markColorMap e2_3 hs) ?_)
 rintro _ _ ⟨g2_300, g2_301, rfl, rfl⟩
 refine sp (OpV.assign rfl) ?_
 refine WL.nil (En.next (WC.seq (WC.region ?_)))
 refine sp (OpV.move rfl) ?_
 refine sp (OpV.assign rfl) ?_
 refine WL.nil (En.next (WC.ret ?_))
 refine En.ret1 rfl (Res.tmp rfl) ?_
 obtain rfl := Option.some.inj h
 intro w' hs
 have hs := ((((hs).perm (List.perm_middle (l₁ := [_]))).perm (List.perm_middle (l₁ := [_]))).perm (List.perm_middle (l₁ := [_, _]))).sub (.cons_cons _ (.cons_cons _ (.cons_cons _ (.cons _ (List.Sublist.refl _)))))
 exact ⟨_, _, rfl, ⟨g1_300, g2_300, g2_301, rfl, rfl⟩, hs⟩

theorem w_laws_markChangeS {a_p0 : List ChangeT} {a_p1 : Int} {r : Int × (List ChangeT)} {q0_0 : Option Addr} {n0_0 k0_0 : Nat} {f0_0 : List Nat} (h : laws_markChangeS a_p0 a_p1 = some r) {w0 w : World} {C : List Chunk} (hs0 : St w0 (Chunk.own tChange f0_0 q0_0 n0_0 k0_0 a_p0 :: C) w)  :
    Calls Tryz.prog 31 #[.slice q0_0 n0_0 k0_0, .int .i64 a_p1] w (fun en w' => ∃ rv G, en = .returned rv ∧ (∃ (g0_0 : List Nat), rv = .int .i64 r.1 ∧ G = Chunk.own tChange g0_0 q0_0 n0_0 k0_0 r.2 :: C) ∧ St w0 G w') := by
 unfold laws_markChangeS at h
 refine enterF hs0 (vs := [_, _]) Tryz.func31 rfl rfl rfl rfl ?_
 refine WC.seq (WC.region ?_)
 refine sp (OpV.assign rfl) ?_
 refine WL.nil (En.next (WC.seq (WC.seq (WC.region ?_))))
 refine sp (OpV.assign rfl) ?_
 refine WL.nil (En.next (WC.block ?_))
 obtain ⟨zy0, ezy0, h⟩ := bnd h
 refine WC.cut (X := (Int × (List ChangeT)) × ((List Nat))) (.exit 0) (fun x => zy0 = x.1) (fun x => match x with | ((v_0e, p_0e), fp_0e) => [(1, .int .i64 v_0e)]) (fun x => match x with | ((v_0e, p_0e), fp_0e) => (Chunk.own tChange fp_0e q0_0 n0_0 k0_0 p_0e :: C)) ?_ ?_
 ·
  rintro ⟨⟨v_0e, p_0e⟩, fp_0e⟩ hx
  replace hx : (v_0e, p_0e) = zy0 := hx.symm
  subst hx
  show En _ _ _ _ [(1, .int .i64 v_0e)] (Chunk.own tChange fp_0e q0_0 n0_0 k0_0 p_0e :: C)
  refine En.block_exit (En.next (WC.seq (WC.region ?_)))
  refine sp (OpV.move rfl) ?_
  refine sp (OpV.assign rfl) ?_
  refine WL.nil (En.next (WC.ret ?_))
  refine En.ret1 rfl (Res.tmp rfl) ?_
  obtain rfl := Option.some.inj h
  intro w' hs
  have hs := hs
  exact ⟨_, _, rfl, ⟨fp_0e, rfl, rfl⟩, hs⟩
 ·
  intro zK0_0
  refine WC.loopP (G := (List Nat)) (fun s g => match s, g with | (v_0, v1_0, v2_0), fv_0 => [(0, .slice q0_0 n0_0 k0_0), (1, .int .i64 v1_0), (5, .int .i64 v2_0)]) (fun s g => match s, g with | (v_0, v1_0, v2_0), fv_0 => (Chunk.own tChange fv_0 q0_0 n0_0 k0_0 v_0 :: C)) (a_p0, a_p1, 0) f0_0 ezy0 (by exact Sub.cons rfl (Sub.cons rfl (Sub.cons rfl (Sub.nil _)))) (by exact (fun _ h => h)) ?_
  rintro zm0 ⟨v_0, v1_0, v2_0⟩ fv_0 zo0 zf0 zb0 ze0
  have zh0 : laws_markChangeS_L0 v_0 v1_0 v2_0 = some zo0 := zf0
  unfold laws_markChangeS_L0 at zh0
  show WC _ _ _ _ _ [(0, .slice q0_0 n0_0 k0_0), (1, .int .i64 v1_0), (5, .int .i64 v2_0)] (Chunk.own tChange fv_0 q0_0 n0_0 k0_0 v_0 :: C)
  refine WC.seq (WC.seq (WC.region ?_))
  refine sp (OpV.move rfl) ?_
  refine sp (OpV.move rfl) ?_
  refine sp (OpV.inhF fun hin => OpV.lenO (xs := v_0) rfl si_50 rfl (ownLen hin (.head _))) ?_
  refine sp (OpV.lss rfl rfl) ?_
  refine WL.nil (En.next ?_)
  refine WC.cond rfl ?_ ?_
  ·
   intro hc_1
   replace zh0 := ifO_t hc_1 zh0
   refine WC.skip (En.next (WC.seq (WC.block (WC.seq ?_))))
   refine WC.inh fun hin4 => ?_
   obtain ⟨x4_3, e4_3, zh0⟩ := bnd zh0
   obtain ⟨g4_3, ha4_3⟩ := ownAddr hin4 (.head _) e4_3
   have hn4_3 := ownLen hin4 (.head _)
   obtain ⟨x4_5, e4_5, zh0⟩ := bnd zh0
   refine WC.region ?_
   refine sp (OpV.move rfl) ?_
   refine sp (OpV.move rfl) ?_
   refine sp (OpV.move rfl) ?_
   refine sp (OpV.idxA rfl rfl se_50 ha4_3 ⟨(idx_some e4_3).1, by rw [hn4_3]; exact (idx_some e4_3).2.1⟩) ?_
   refine sp (OpV.fieldAddr rfl fo_84_0) ?_
   refine WL.heavy0 rfl rfl (OpH.setFld (F := []) (A := tChange) (off := 0) (i := v2_0) (v' := (ChangeT.mk v1_0 x4_3.Value x4_3.Color)) ha4_3 rfl rfl rfl ts_3 rfl rfl e4_3 (fun _ _ _ ⟨_, _, _, _, _, _, _, _, _, hp, he, h0, h1, h2⟩ => ⟨_, _, _, _, _, _, _, _, _, hp, by rw [he]; rfl, h0, h1, h2⟩) e4_5 ?_)
   refine WL.nil (En.next (WC.seq (WC.region ?_)))
   refine sp (OpV.move rfl) ?_
   refine sp (OpV.addR rfl rfl) ?_
   refine sp (OpV.assign rfl) ?_
   refine WL.nil (En.next (WC.seq ?_))
   refine WC.inh fun hin6 => ?_
   obtain ⟨x6_5, e6_5, zh0⟩ := bnd zh0
   obtain ⟨g6_5, ha6_5⟩ := ownAddr hin6 (.head _) e6_5
   have hn6_5 := ownLen hin6 (.head _)
   obtain ⟨x6_8, e6_8, zh0⟩ := bnd zh0
   refine WC.region ?_
   refine sp (OpV.move rfl) ?_
   refine sp (OpV.move rfl) ?_
   refine sp (OpV.move rfl) ?_
   refine sp (OpV.remR rfl rfl rfl) ?_
   refine sp (OpV.eql rfl rfl) ?_
   refine sp (OpV.idxA rfl rfl se_50 ha6_5 ⟨(idx_some e6_5).1, by rw [hn6_5]; exact (idx_some e6_5).2.1⟩) ?_
   refine sp (OpV.fieldAddr rfl fo_84_1) ?_
   refine sp (OpV.fieldAddr rfl fo_82_0) ?_
   refine WL.heavy0 rfl rfl (OpH.setFld (F := []) (A := tChange) (off := 1) (i := v2_0) (v' := (ChangeT.mk x6_5.Plane (PlaneT.mk (decide ((Int.tmod (wr (v1_0 + 1)) 3) = 0)) x6_5.Value.X x6_5.Value.Y x6_5.Value.W x6_5.Value.H x6_5.Value.Layout x6_5.Value.Words x6_5.Value.Alpha x6_5.Value.Orient x6_5.Value.ToW x6_5.Value.ToH) x6_5.Color)) ha6_5 rfl rfl rfl ts_4 rfl rfl e6_5 (fun _ _ _ ⟨_, _, _, _, _, _, _, _, _, hp, he, h0, h1, h2⟩ => ⟨_, _, _, _, _, _, _, _, _, hp, by rw [he]; rfl, h0, h1, h2⟩) e6_8 ?_)
   refine WL.nil (En.next (WC.seq (WC.region ?_)))
   refine sp (OpV.move rfl) ?_
   refine sp (OpV.addR rfl rfl) ?_
   refine sp (OpV.assign rfl) ?_
   refine WL.nil (En.next (WC.seq ?_))
   refine WC.inh fun hin8 => ?_
   obtain ⟨x8_3, e8_3, zh0⟩ := bnd zh0
   obtain ⟨g8_3, ha8_3⟩ := ownAddr hin8 (.head _) e8_3
   have hn8_3 := ownLen hin8 (.head _)
   obtain ⟨x8_6, e8_6, zh0⟩ := bnd zh0
   refine WC.region ?_
   refine sp (OpV.move rfl) ?_
   refine sp (OpV.move rfl) ?_
   refine sp (OpV.move rfl) ?_
   refine sp (OpV.idxA rfl rfl se_50 ha8_3 ⟨(idx_some e8_3).1, by rw [hn8_3]; exact (idx_some e8_3).2.1⟩) ?_
   refine sp (OpV.fieldAddr rfl fo_84_1) ?_
   refine sp (OpV.fieldAddr rfl fo_82_1) ?_
   refine WL.heavy0 rfl rfl (OpH.setFld (F := []) (A := tChange) (off := 2) (i := v2_0) (v' := (ChangeT.mk x8_3.Plane (PlaneT.mk x8_3.Value.On (wr ((wr (v1_0 + 1)) + 1)) x8_3.Value.Y x8_3.Value.W x8_3.Value.H x8_3.Value.Layout x8_3.Value.Words x8_3.Value.Alpha x8_3.Value.Orient x8_3.Value.ToW x8_3.Value.ToH) x8_3.Color)) ha8_3 rfl rfl rfl ts_3 rfl rfl e8_3 (fun _ _ _ ⟨_, _, _, _, _, _, _, _, _, hp, he, h0, h1, h2⟩ => ⟨_, _, _, _, _, _, _, _, _, hp, by rw [he]; rfl, h0, h1, h2⟩) e8_6 ?_)
   refine WL.nil (En.next (WC.seq (WC.region ?_)))
   refine sp (OpV.move rfl) ?_
   refine sp (OpV.addR rfl rfl) ?_
   refine sp (OpV.assign rfl) ?_
   refine WL.nil (En.next (WC.seq ?_))
   refine WC.inh fun hin10 => ?_
   obtain ⟨x10_3, e10_3, zh0⟩ := bnd zh0
   obtain ⟨g10_3, ha10_3⟩ := ownAddr hin10 (.head _) e10_3
   have hn10_3 := ownLen hin10 (.head _)
   obtain ⟨x10_6, e10_6, zh0⟩ := bnd zh0
   refine WC.region ?_
   refine sp (OpV.move rfl) ?_
   refine sp (OpV.move rfl) ?_
   refine sp (OpV.move rfl) ?_
   refine sp (OpV.idxA rfl rfl se_50 ha10_3 ⟨(idx_some e10_3).1, by rw [hn10_3]; exact (idx_some e10_3).2.1⟩) ?_
   refine sp (OpV.fieldAddr rfl fo_84_1) ?_
   refine sp (OpV.fieldAddr rfl fo_82_2) ?_
   refine WL.heavy0 rfl rfl (OpH.setFld (F := []) (A := tChange) (off := 3) (i := v2_0) (v' := (ChangeT.mk x10_3.Plane (PlaneT.mk x10_3.Value.On x10_3.Value.X (wr ((wr ((wr (v1_0 + 1)) + 1)) + 1)) x10_3.Value.W x10_3.Value.H x10_3.Value.Layout x10_3.Value.Words x10_3.Value.Alpha x10_3.Value.Orient x10_3.Value.ToW x10_3.Value.ToH) x10_3.Color)) ha10_3 rfl rfl rfl ts_3 rfl rfl e10_3 (fun _ _ _ ⟨_, _, _, _, _, _, _, _, _, hp, he, h0, h1, h2⟩ => ⟨_, _, _, _, _, _, _, _, _, hp, by rw [he]; rfl, h0, h1, h2⟩) e10_6 ?_)
   refine WL.nil (En.next (WC.seq (WC.region ?_)))
   refine sp (OpV.move rfl) ?_
   refine sp (OpV.addR rfl rfl) ?_
   refine sp (OpV.assign rfl) ?_
   refine WL.nil (En.next (WC.seq ?_))
   refine WC.inh fun hin12 => ?_
   obtain ⟨x12_3, e12_3, zh0⟩ := bnd zh0
   obtain ⟨g12_3, ha12_3⟩ := ownAddr hin12 (.head _) e12_3
   have hn12_3 := ownLen hin12 (.head _)
   obtain ⟨x12_6, e12_6, zh0⟩ := bnd zh0
   refine WC.region ?_
   refine sp (OpV.move rfl) ?_
   refine sp (OpV.move rfl) ?_
   refine sp (OpV.move rfl) ?_
   refine sp (OpV.idxA rfl rfl se_50 ha12_3 ⟨(idx_some e12_3).1, by rw [hn12_3]; exact (idx_some e12_3).2.1⟩) ?_
   refine sp (OpV.fieldAddr rfl fo_84_1) ?_
   refine sp (OpV.fieldAddr rfl fo_82_3) ?_
   refine WL.heavy0 rfl rfl (OpH.setFld (F := []) (A := tChange) (off := 4) (i := v2_0) (v' := (ChangeT.mk x12_3.Plane (PlaneT.mk x12_3.Value.On x12_3.Value.X x12_3.Value.Y (wr ((wr ((wr ((wr (v1_0 + 1)) + 1)) + 1)) + 1)) x12_3.Value.H x12_3.Value.Layout x12_3.Value.Words x12_3.Value.Alpha x12_3.Value.Orient x12_3.Value.ToW x12_3.Value.ToH) x12_3.Color)) ha12_3 rfl rfl rfl ts_3 rfl rfl e12_3 (fun _ _ _ ⟨_, _, _, _, _, _, _, _, _, hp, he, h0, h1, h2⟩ => ⟨_, _, _, _, _, _, _, _, _, hp, by rw [he]; rfl, h0, h1, h2⟩) e12_6 ?_)
   refine WL.nil (En.next (WC.seq (WC.region ?_)))
   refine sp (OpV.move rfl) ?_
   refine sp (OpV.addR rfl rfl) ?_
   refine sp (OpV.assign rfl) ?_
   refine WL.nil (En.next (WC.seq ?_))
   refine WC.inh fun hin14 => ?_
   obtain ⟨x14_3, e14_3, zh0⟩ := bnd zh0
   obtain ⟨g14_3, ha14_3⟩ := ownAddr hin14 (.head _) e14_3
   have hn14_3 := ownLen hin14 (.head _)
   obtain ⟨x14_6, e14_6, zh0⟩ := bnd zh0
   refine WC.region ?_
   refine sp (OpV.move rfl) ?_
   refine sp (OpV.move rfl) ?_
   refine sp (OpV.move rfl) ?_
   refine sp (OpV.idxA rfl rfl se_50 ha14_3 ⟨(idx_some e14_3).1, by rw [hn14_3]; exact (idx_some e14_3).2.1⟩) ?_
   refine sp (OpV.fieldAddr rfl fo_84_1) ?_
   refine sp (OpV.fieldAddr rfl fo_82_4) ?_
   refine WL.heavy0 rfl rfl (OpH.setFld (F := []) (A := tChange) (off := 5) (i := v2_0) (v' := (ChangeT.mk x14_3.Plane (PlaneT.mk x14_3.Value.On x14_3.Value.X x14_3.Value.Y x14_3.Value.W (wr ((wr ((wr ((wr ((wr (v1_0 + 1)) + 1)) + 1)) + 1)) + 1)) x14_3.Value.Layout x14_3.Value.Words x14_3.Value.Alpha x14_3.Value.Orient x14_3.Value.ToW x14_3.Value.ToH) x14_3.Color)) ha14_3 rfl rfl rfl ts_3 rfl rfl e14_3 (fun _ _ _ ⟨_, _, _, _, _, _, _, _, _, hp, he, h0, h1, h2⟩ => ⟨_, _, _, _, _, _, _, _, _, hp, by rw [he]; rfl, h0, h1, h2⟩) e14_6 ?_)
   refine WL.nil (En.next (WC.seq (WC.region ?_)))
   refine sp (OpV.move rfl) ?_
   refine sp (OpV.addR rfl rfl) ?_
   refine sp (OpV.assign rfl) ?_
   refine WL.nil (En.next (WC.seq ?_))
   refine WC.inh fun hin16 => ?_
   obtain ⟨x16_3, e16_3, zh0⟩ := bnd zh0
   obtain ⟨g16_3, ha16_3⟩ := ownAddr hin16 (.head _) e16_3
   have hn16_3 := ownLen hin16 (.head _)
   obtain ⟨x16_6, e16_6, zh0⟩ := bnd zh0
   refine WC.region ?_
   refine sp (OpV.move rfl) ?_
   refine sp (OpV.move rfl) ?_
   refine sp (OpV.move rfl) ?_
   refine sp (OpV.idxA rfl rfl se_50 ha16_3 ⟨(idx_some e16_3).1, by rw [hn16_3]; exact (idx_some e16_3).2.1⟩) ?_
   refine sp (OpV.fieldAddr rfl fo_84_1) ?_
   refine sp (OpV.fieldAddr rfl fo_82_5) ?_
   refine WL.heavy0 rfl rfl (OpH.setFld (F := []) (A := tChange) (off := 6) (i := v2_0) (v' := (ChangeT.mk x16_3.Plane (PlaneT.mk x16_3.Value.On x16_3.Value.X x16_3.Value.Y x16_3.Value.W x16_3.Value.H (wr ((wr ((wr ((wr ((wr ((wr (v1_0 + 1)) + 1)) + 1)) + 1)) + 1)) + 1)) x16_3.Value.Words x16_3.Value.Alpha x16_3.Value.Orient x16_3.Value.ToW x16_3.Value.ToH) x16_3.Color)) ha16_3 rfl rfl rfl ts_3 rfl rfl e16_3 (fun _ _ _ ⟨_, _, _, _, _, _, _, _, _, hp, he, h0, h1, h2⟩ => ⟨_, _, _, _, _, _, _, _, _, hp, by rw [he]; rfl, h0, h1, h2⟩) e16_6 ?_)
   refine WL.nil (En.next (WC.seq (WC.region ?_)))
   refine sp (OpV.move rfl) ?_
   refine sp (OpV.addR rfl rfl) ?_
   refine sp (OpV.assign rfl) ?_
   refine WL.nil (En.next (WC.seq ?_))
   refine WC.inh fun hin18 => ?_
   obtain ⟨x18_2, e18_2, zh0⟩ := bnd zh0
   obtain ⟨g18_2, ha18_2⟩ := ownAddr hin18 (.head _) e18_2
   have hn18_2 := ownLen hin18 (.head _)
   obtain ⟨⟨x18_7a, x18_7b⟩, e18_7, zh0⟩ := bnd zh0
   obtain ⟨x18_u, e18_u, zh0⟩ := bnd zh0
   refine WC.exF (fun w h => St.focus (F := []) e18_2 h) ?_
   rintro ⟨css18_2, fps18_2, cs18_2, fz18_2⟩ ⟨hcs18_2, hk18_2⟩
   refine WC.exF (X := (Option Addr) × Nat × (List Nat) × (Option Addr) × Nat × (List Nat) × (Option Addr) × Nat × (List Nat)) (Pre := fun x => match x with | (a18_2_0, c18_2_0, f18_2_0, a18_2_1, c18_2_1, f18_2_1, a18_2_2, c18_2_2, f18_2_2) => cs18_2 = [.int .i64 x18_2.Plane, .bool x18_2.Value.On, .int .i64 x18_2.Value.X, .int .i64 x18_2.Value.Y, .int .i64 x18_2.Value.W, .int .i64 x18_2.Value.H, .int .i64 x18_2.Value.Layout, .slice a18_2_0 x18_2.Value.Words.length c18_2_0, .int .i64 x18_2.Value.Alpha, .int .i64 x18_2.Value.Orient, .int .i64 x18_2.Value.ToW, .int .i64 x18_2.Value.ToH, .slice a18_2_1 x18_2.Color.Matrix.length c18_2_1, .slice a18_2_2 x18_2.Color.Curve.length c18_2_2]) (F' := fun x => match x with | (a18_2_0, c18_2_0, f18_2_0, a18_2_1, c18_2_1, f18_2_1, a18_2_2, c18_2_2, f18_2_2) => (Chunk.own tInt f18_2_0 a18_2_0 x18_2.Value.Words.length c18_2_0 x18_2.Value.Words :: Chunk.own tInt f18_2_1 a18_2_1 x18_2.Color.Matrix.length c18_2_1 x18_2.Color.Matrix :: Chunk.own tInt f18_2_2 a18_2_2 x18_2.Color.Curve.length c18_2_2 x18_2.Color.Curve :: Chunk.row tChange.T tChange.k q0_0 x16_6.length k0_0 css18_2.flatten :: Chunk.inX tChange css18_2 fps18_2 x16_6 v2_0.toNat :: C)) (fun w h => let ⟨a18_2_0, c18_2_0, f18_2_0, a18_2_1, c18_2_1, f18_2_1, a18_2_2, c18_2_2, f18_2_2, e, hs⟩ := tChange_open (F := []) h; ⟨(a18_2_0, c18_2_0, f18_2_0, a18_2_1, c18_2_1, f18_2_1, a18_2_2, c18_2_2, f18_2_2), e, hs⟩) ?_
   rintro ⟨a18_2_0, c18_2_0, f18_2_0, a18_2_1, c18_2_1, f18_2_1, a18_2_2, c18_2_2, f18_2_2⟩ hz18_2
   replace hz18_2 : cs18_2 = [.int .i64 x18_2.Plane, .bool x18_2.Value.On, .int .i64 x18_2.Value.X, .int .i64 x18_2.Value.Y, .int .i64 x18_2.Value.W, .int .i64 x18_2.Value.H, .int .i64 x18_2.Value.Layout, .slice a18_2_0 x18_2.Value.Words.length c18_2_0, .int .i64 x18_2.Value.Alpha, .int .i64 x18_2.Value.Orient, .int .i64 x18_2.Value.ToW, .int .i64 x18_2.Value.ToH, .slice a18_2_1 x18_2.Color.Matrix.length c18_2_1, .slice a18_2_2 x18_2.Color.Curve.length c18_2_2] := hz18_2
   subst hz18_2
   show WC _ _ _ _ _ _ (Chunk.own tInt f18_2_0 a18_2_0 x18_2.Value.Words.length c18_2_0 x18_2.Value.Words :: Chunk.own tInt f18_2_1 a18_2_1 x18_2.Color.Matrix.length c18_2_1 x18_2.Color.Matrix :: Chunk.own tInt f18_2_2 a18_2_2 x18_2.Color.Curve.length c18_2_2 x18_2.Color.Curve :: Chunk.row tChange.T tChange.k q0_0 x16_6.length k0_0 css18_2.flatten :: Chunk.inX tChange css18_2 fps18_2 x16_6 v2_0.toNat :: C)
   refine WC.region ?_
   refine sp (OpV.move rfl) ?_
   refine sp (OpV.move rfl) ?_
   refine sp (OpV.idxA rfl rfl se_50 ha18_2 ⟨(idx_some e18_2).1, by rw [hn18_2]; exact (idx_some e18_2).2.1⟩) ?_
   refine sp (OpV.fieldAddr rfl fo_84_1) ?_
   refine sp (OpV.fieldAddr rfl fo_82_6) ?_
   refine sp (OpV.load1 rfl pt_23 (fun w hs => focCell (j := 7) (hs.mem (.tail _ (.tail _ (.tail _ (.head _))))) hk18_2 hcs18_2 ha18_2 rfl)) ?_
   refine sp (OpV.move rfl) ?_
   refine WL.heavy rfl rfl rfl (OpH.callX (evs.cons rfl (evs.cons rfl (evs.nil))) ca_20 (fun w hs => w_laws_markIntS e18_7 hs) ?_)
   rintro _ _ ⟨g18_700, rfl, rfl⟩
   refine sp (OpV.assign rfl) ?_
   refine WL.nil ?_
   refine En.exF (fun w h => St.unfocus (F := []) hcs18_2 hn18_2 e18_u (tChange_mk x18_2.Plane (PlaneT.mk x18_2.Value.On x18_2.Value.X x18_2.Value.Y x18_2.Value.W x18_2.Value.H x18_2.Value.Layout x18_7b x18_2.Value.Alpha x18_2.Value.Orient x18_2.Value.ToW x18_2.Value.ToH) x18_2.Color h)) ?_
   rintro fp18_u _
   refine En.next (WC.seq ?_)
   refine WC.inh fun hin19 => ?_
   obtain ⟨x19_3, e19_3, zh0⟩ := bnd zh0
   obtain ⟨g19_3, ha19_3⟩ := ownAddr hin19 (.head _) e19_3
   have hn19_3 := ownLen hin19 (.head _)
   obtain ⟨x19_6, e19_6, zh0⟩ := bnd zh0
   refine WC.region ?_
   refine sp (OpV.move rfl) ?_
   refine sp (OpV.move rfl) ?_
   refine sp (OpV.move rfl) ?_
   refine sp (OpV.idxA rfl rfl se_50 ha19_3 ⟨(idx_some e19_3).1, by rw [hn19_3]; exact (idx_some e19_3).2.1⟩) ?_
   refine sp (OpV.fieldAddr rfl fo_84_1) ?_
   refine sp (OpV.fieldAddr rfl fo_82_7) ?_
   refine WL.heavy0 rfl rfl (OpH.setFld (F := []) (A := tChange) (off := 8) (i := v2_0) (v' := (ChangeT.mk x19_3.Plane (PlaneT.mk x19_3.Value.On x19_3.Value.X x19_3.Value.Y x19_3.Value.W x19_3.Value.H x19_3.Value.Layout x19_3.Value.Words x18_7a x19_3.Value.Orient x19_3.Value.ToW x19_3.Value.ToH) x19_3.Color)) ha19_3 rfl rfl rfl ts_3 rfl rfl e19_3 (fun _ _ _ ⟨_, _, _, _, _, _, _, _, _, hp, he, h0, h1, h2⟩ => ⟨_, _, _, _, _, _, _, _, _, hp, by rw [he]; rfl, h0, h1, h2⟩) e19_6 ?_)
   refine WL.nil (En.next (WC.seq (WC.region ?_)))
   refine sp (OpV.move rfl) ?_
   refine sp (OpV.addR rfl rfl) ?_
   refine sp (OpV.assign rfl) ?_
   refine WL.nil (En.next (WC.seq ?_))
   refine WC.inh fun hin21 => ?_
   obtain ⟨x21_3, e21_3, zh0⟩ := bnd zh0
   obtain ⟨g21_3, ha21_3⟩ := ownAddr hin21 (.head _) e21_3
   have hn21_3 := ownLen hin21 (.head _)
   obtain ⟨x21_6, e21_6, zh0⟩ := bnd zh0
   refine WC.region ?_
   refine sp (OpV.move rfl) ?_
   refine sp (OpV.move rfl) ?_
   refine sp (OpV.move rfl) ?_
   refine sp (OpV.idxA rfl rfl se_50 ha21_3 ⟨(idx_some e21_3).1, by rw [hn21_3]; exact (idx_some e21_3).2.1⟩) ?_
   refine sp (OpV.fieldAddr rfl fo_84_1) ?_
   refine sp (OpV.fieldAddr rfl fo_82_8) ?_
   refine WL.heavy0 rfl rfl (OpH.setFld (F := []) (A := tChange) (off := 9) (i := v2_0) (v' := (ChangeT.mk x21_3.Plane (PlaneT.mk x21_3.Value.On x21_3.Value.X x21_3.Value.Y x21_3.Value.W x21_3.Value.H x21_3.Value.Layout x21_3.Value.Words x21_3.Value.Alpha (wr (x18_7a + 1)) x21_3.Value.ToW x21_3.Value.ToH) x21_3.Color)) ha21_3 rfl rfl rfl ts_3 rfl rfl e21_3 (fun _ _ _ ⟨_, _, _, _, _, _, _, _, _, hp, he, h0, h1, h2⟩ => ⟨_, _, _, _, _, _, _, _, _, hp, by rw [he]; rfl, h0, h1, h2⟩) e21_6 ?_)
   refine WL.nil (En.next (WC.seq (WC.region ?_)))
   refine sp (OpV.move rfl) ?_
   refine sp (OpV.addR rfl rfl) ?_
   refine sp (OpV.assign rfl) ?_
   refine WL.nil (En.next (WC.seq ?_))
   refine WC.inh fun hin23 => ?_
   obtain ⟨x23_3, e23_3, zh0⟩ := bnd zh0
   obtain ⟨g23_3, ha23_3⟩ := ownAddr hin23 (.head _) e23_3
   have hn23_3 := ownLen hin23 (.head _)
   obtain ⟨x23_6, e23_6, zh0⟩ := bnd zh0
   refine WC.region ?_
   refine sp (OpV.move rfl) ?_
   refine sp (OpV.move rfl) ?_
   refine sp (OpV.move rfl) ?_
   refine sp (OpV.idxA rfl rfl se_50 ha23_3 ⟨(idx_some e23_3).1, by rw [hn23_3]; exact (idx_some e23_3).2.1⟩) ?_
   refine sp (OpV.fieldAddr rfl fo_84_1) ?_
   refine sp (OpV.fieldAddr rfl fo_82_9) ?_
   refine WL.heavy0 rfl rfl (OpH.setFld (F := []) (A := tChange) (off := 10) (i := v2_0) (v' := (ChangeT.mk x23_3.Plane (PlaneT.mk x23_3.Value.On x23_3.Value.X x23_3.Value.Y x23_3.Value.W x23_3.Value.H x23_3.Value.Layout x23_3.Value.Words x23_3.Value.Alpha x23_3.Value.Orient (wr ((wr (x18_7a + 1)) + 1)) x23_3.Value.ToH) x23_3.Color)) ha23_3 rfl rfl rfl ts_3 rfl rfl e23_3 (fun _ _ _ ⟨_, _, _, _, _, _, _, _, _, hp, he, h0, h1, h2⟩ => ⟨_, _, _, _, _, _, _, _, _, hp, by rw [he]; rfl, h0, h1, h2⟩) e23_6 ?_)
   refine WL.nil (En.next (WC.seq (WC.region ?_)))
   refine sp (OpV.move rfl) ?_
   refine sp (OpV.addR rfl rfl) ?_
   refine sp (OpV.assign rfl) ?_
   refine WL.nil (En.next (WC.seq ?_))
   refine WC.inh fun hin25 => ?_
   obtain ⟨x25_3, e25_3, zh0⟩ := bnd zh0
   obtain ⟨g25_3, ha25_3⟩ := ownAddr hin25 (.head _) e25_3
   have hn25_3 := ownLen hin25 (.head _)
   obtain ⟨x25_6, e25_6, zh0⟩ := bnd zh0
   refine WC.region ?_
   refine sp (OpV.move rfl) ?_
   refine sp (OpV.move rfl) ?_
   refine sp (OpV.move rfl) ?_
   refine sp (OpV.idxA rfl rfl se_50 ha25_3 ⟨(idx_some e25_3).1, by rw [hn25_3]; exact (idx_some e25_3).2.1⟩) ?_
   refine sp (OpV.fieldAddr rfl fo_84_1) ?_
   refine sp (OpV.fieldAddr rfl fo_82_10) ?_
   refine WL.heavy0 rfl rfl (OpH.setFld (F := []) (A := tChange) (off := 11) (i := v2_0) (v' := (ChangeT.mk x25_3.Plane (PlaneT.mk x25_3.Value.On x25_3.Value.X x25_3.Value.Y x25_3.Value.W x25_3.Value.H x25_3.Value.Layout x25_3.Value.Words x25_3.Value.Alpha x25_3.Value.Orient x25_3.Value.ToW (wr ((wr ((wr (x18_7a + 1)) + 1)) + 1))) x25_3.Color)) ha25_3 rfl rfl rfl ts_3 rfl rfl e25_3 (fun _ _ _ ⟨_, _, _, _, _, _, _, _, _, hp, he, h0, h1, h2⟩ => ⟨_, _, _, _, _, _, _, _, _, hp, by rw [he]; rfl, h0, h1, h2⟩) e25_6 ?_)
   refine WL.nil (En.next (WC.seq (WC.region ?_)))
   refine sp (OpV.move rfl) ?_
   refine sp (OpV.addR rfl rfl) ?_
   refine sp (OpV.assign rfl) ?_
   refine WL.nil (En.next (WC.seq ?_))
   refine WC.inh fun hin27 => ?_
   obtain ⟨x27_2, e27_2, zh0⟩ := bnd zh0
   obtain ⟨g27_2, ha27_2⟩ := ownAddr hin27 (.head _) e27_2
   have hn27_2 := ownLen hin27 (.head _)
   obtain ⟨⟨x27_7a, x27_7b⟩, e27_7, zh0⟩ := bnd zh0
   obtain ⟨x27_u, e27_u, zh0⟩ := bnd zh0
   refine WC.exF (fun w h => St.focus (F := []) e27_2 h) ?_
   rintro ⟨css27_2, fps27_2, cs27_2, fz27_2⟩ ⟨hcs27_2, hk27_2⟩
   refine WC.exF (X := (Option Addr) × Nat × (List Nat) × (Option Addr) × Nat × (List Nat) × (Option Addr) × Nat × (List Nat)) (Pre := fun x => match x with | (a27_2_0, c27_2_0, f27_2_0, a27_2_1, c27_2_1, f27_2_1, a27_2_2, c27_2_2, f27_2_2) => cs27_2 = [.int .i64 x27_2.Plane, .bool x27_2.Value.On, .int .i64 x27_2.Value.X, .int .i64 x27_2.Value.Y, .int .i64 x27_2.Value.W, .int .i64 x27_2.Value.H, .int .i64 x27_2.Value.Layout, .slice a27_2_0 x27_2.Value.Words.length c27_2_0, .int .i64 x27_2.Value.Alpha, .int .i64 x27_2.Value.Orient, .int .i64 x27_2.Value.ToW, .int .i64 x27_2.Value.ToH, .slice a27_2_1 x27_2.Color.Matrix.length c27_2_1, .slice a27_2_2 x27_2.Color.Curve.length c27_2_2]) (F' := fun x => match x with | (a27_2_0, c27_2_0, f27_2_0, a27_2_1, c27_2_1, f27_2_1, a27_2_2, c27_2_2, f27_2_2) => (Chunk.own tInt f27_2_0 a27_2_0 x27_2.Value.Words.length c27_2_0 x27_2.Value.Words :: Chunk.own tInt f27_2_1 a27_2_1 x27_2.Color.Matrix.length c27_2_1 x27_2.Color.Matrix :: Chunk.own tInt f27_2_2 a27_2_2 x27_2.Color.Curve.length c27_2_2 x27_2.Color.Curve :: Chunk.row tChange.T tChange.k q0_0 x25_6.length k0_0 css27_2.flatten :: Chunk.inX tChange css27_2 fps27_2 x25_6 v2_0.toNat :: C)) (fun w h => let ⟨a27_2_0, c27_2_0, f27_2_0, a27_2_1, c27_2_1, f27_2_1, a27_2_2, c27_2_2, f27_2_2, e, hs⟩ := tChange_open (F := []) h; ⟨(a27_2_0, c27_2_0, f27_2_0, a27_2_1, c27_2_1, f27_2_1, a27_2_2, c27_2_2, f27_2_2), e, hs⟩) ?_
   rintro ⟨a27_2_0, c27_2_0, f27_2_0, a27_2_1, c27_2_1, f27_2_1, a27_2_2, c27_2_2, f27_2_2⟩ hz27_2
   replace hz27_2 : cs27_2 = [.int .i64 x27_2.Plane, .bool x27_2.Value.On, .int .i64 x27_2.Value.X, .int .i64 x27_2.Value.Y, .int .i64 x27_2.Value.W, .int .i64 x27_2.Value.H, .int .i64 x27_2.Value.Layout, .slice a27_2_0 x27_2.Value.Words.length c27_2_0, .int .i64 x27_2.Value.Alpha, .int .i64 x27_2.Value.Orient, .int .i64 x27_2.Value.ToW, .int .i64 x27_2.Value.ToH, .slice a27_2_1 x27_2.Color.Matrix.length c27_2_1, .slice a27_2_2 x27_2.Color.Curve.length c27_2_2] := hz27_2
   subst hz27_2
   show WC _ _ _ _ _ _ (Chunk.own tInt f27_2_0 a27_2_0 x27_2.Value.Words.length c27_2_0 x27_2.Value.Words :: Chunk.own tInt f27_2_1 a27_2_1 x27_2.Color.Matrix.length c27_2_1 x27_2.Color.Matrix :: Chunk.own tInt f27_2_2 a27_2_2 x27_2.Color.Curve.length c27_2_2 x27_2.Color.Curve :: Chunk.row tChange.T tChange.k q0_0 x25_6.length k0_0 css27_2.flatten :: Chunk.inX tChange css27_2 fps27_2 x25_6 v2_0.toNat :: C)
   refine WC.region ?_
   refine sp (OpV.move rfl) ?_
   refine sp (OpV.move rfl) ?_
   refine sp (OpV.idxA rfl rfl se_50 ha27_2 ⟨(idx_some e27_2).1, by rw [hn27_2]; exact (idx_some e27_2).2.1⟩) ?_
   refine sp (OpV.fieldAddr rfl fo_84_2) ?_
   refine sp (OpV.fieldAddr rfl fo_31_0) ?_
   refine sp (OpV.load1 rfl pt_23 (fun w hs => focCell (j := 12) (hs.mem (.tail _ (.tail _ (.tail _ (.head _))))) hk27_2 hcs27_2 ha27_2 rfl)) ?_
   refine sp (OpV.move rfl) ?_
   refine WL.wkF (fun _ h => h.perm (List.perm_middle (l₁ := [_]))) ?_
   refine WL.heavy rfl rfl rfl (OpH.callX (evs.cons rfl (evs.cons rfl (evs.nil))) ca_20 (fun w hs => w_laws_markIntS e27_7 hs) ?_)
   rintro _ _ ⟨g27_700, rfl, rfl⟩
   refine sp (OpV.assign rfl) ?_
   refine WL.nil ?_
   refine En.wk _ _ (Sub.refl _) (fun _ h => (((((h).perm (List.perm_middle (l₁ := [_, _, _, _]))).perm (List.perm_middle (l₁ := [_, _, _, _]))).perm (List.perm_middle (l₁ := [_, _, _, _]))).perm (List.perm_middle (l₁ := [_, _, _]))).perm (List.perm_middle (l₁ := [_, _, _, _]))) ?_
   refine En.exF (fun w h => St.unfocus (F := []) hcs27_2 hn27_2 e27_u (tChange_mk x27_2.Plane x27_2.Value (ColorMapT.mk x27_7b x27_2.Color.Curve) h)) ?_
   rintro fp27_u _
   refine En.next ?_
   refine WC.inh fun hin28 => ?_
   obtain ⟨x28_2, e28_2, zh0⟩ := bnd zh0
   obtain ⟨g28_2, ha28_2⟩ := ownAddr hin28 (.head _) e28_2
   have hn28_2 := ownLen hin28 (.head _)
   obtain ⟨⟨x28_7a, x28_7b⟩, e28_7, zh0⟩ := bnd zh0
   obtain ⟨x28_u, e28_u, zh0⟩ := bnd zh0
   refine WC.exF (fun w h => St.focus (F := []) e28_2 h) ?_
   rintro ⟨css28_2, fps28_2, cs28_2, fz28_2⟩ ⟨hcs28_2, hk28_2⟩
   refine WC.exF (X := (Option Addr) × Nat × (List Nat) × (Option Addr) × Nat × (List Nat) × (Option Addr) × Nat × (List Nat)) (Pre := fun x => match x with | (a28_2_0, c28_2_0, f28_2_0, a28_2_1, c28_2_1, f28_2_1, a28_2_2, c28_2_2, f28_2_2) => cs28_2 = [.int .i64 x28_2.Plane, .bool x28_2.Value.On, .int .i64 x28_2.Value.X, .int .i64 x28_2.Value.Y, .int .i64 x28_2.Value.W, .int .i64 x28_2.Value.H, .int .i64 x28_2.Value.Layout, .slice a28_2_0 x28_2.Value.Words.length c28_2_0, .int .i64 x28_2.Value.Alpha, .int .i64 x28_2.Value.Orient, .int .i64 x28_2.Value.ToW, .int .i64 x28_2.Value.ToH, .slice a28_2_1 x28_2.Color.Matrix.length c28_2_1, .slice a28_2_2 x28_2.Color.Curve.length c28_2_2]) (F' := fun x => match x with | (a28_2_0, c28_2_0, f28_2_0, a28_2_1, c28_2_1, f28_2_1, a28_2_2, c28_2_2, f28_2_2) => (Chunk.own tInt f28_2_0 a28_2_0 x28_2.Value.Words.length c28_2_0 x28_2.Value.Words :: Chunk.own tInt f28_2_1 a28_2_1 x28_2.Color.Matrix.length c28_2_1 x28_2.Color.Matrix :: Chunk.own tInt f28_2_2 a28_2_2 x28_2.Color.Curve.length c28_2_2 x28_2.Color.Curve :: Chunk.row tChange.T tChange.k q0_0 x27_u.length k0_0 css28_2.flatten :: Chunk.inX tChange css28_2 fps28_2 x27_u v2_0.toNat :: C)) (fun w h => let ⟨a28_2_0, c28_2_0, f28_2_0, a28_2_1, c28_2_1, f28_2_1, a28_2_2, c28_2_2, f28_2_2, e, hs⟩ := tChange_open (F := []) h; ⟨(a28_2_0, c28_2_0, f28_2_0, a28_2_1, c28_2_1, f28_2_1, a28_2_2, c28_2_2, f28_2_2), e, hs⟩) ?_
   rintro ⟨a28_2_0, c28_2_0, f28_2_0, a28_2_1, c28_2_1, f28_2_1, a28_2_2, c28_2_2, f28_2_2⟩ hz28_2
   replace hz28_2 : cs28_2 = [.int .i64 x28_2.Plane, .bool x28_2.Value.On, .int .i64 x28_2.Value.X, .int .i64 x28_2.Value.Y, .int .i64 x28_2.Value.W, .int .i64 x28_2.Value.H, .int .i64 x28_2.Value.Layout, .slice a28_2_0 x28_2.Value.Words.length c28_2_0, .int .i64 x28_2.Value.Alpha, .int .i64 x28_2.Value.Orient, .int .i64 x28_2.Value.ToW, .int .i64 x28_2.Value.ToH, .slice a28_2_1 x28_2.Color.Matrix.length c28_2_1, .slice a28_2_2 x28_2.Color.Curve.length c28_2_2] := hz28_2
   subst hz28_2
   show WC _ _ _ _ _ _ (Chunk.own tInt f28_2_0 a28_2_0 x28_2.Value.Words.length c28_2_0 x28_2.Value.Words :: Chunk.own tInt f28_2_1 a28_2_1 x28_2.Color.Matrix.length c28_2_1 x28_2.Color.Matrix :: Chunk.own tInt f28_2_2 a28_2_2 x28_2.Color.Curve.length c28_2_2 x28_2.Color.Curve :: Chunk.row tChange.T tChange.k q0_0 x27_u.length k0_0 css28_2.flatten :: Chunk.inX tChange css28_2 fps28_2 x27_u v2_0.toNat :: C)
   refine WC.region ?_
   refine sp (OpV.move rfl) ?_
   refine sp (OpV.move rfl) ?_
   refine sp (OpV.idxA rfl rfl se_50 ha28_2 ⟨(idx_some e28_2).1, by rw [hn28_2]; exact (idx_some e28_2).2.1⟩) ?_
   refine sp (OpV.fieldAddr rfl fo_84_2) ?_
   refine sp (OpV.fieldAddr rfl fo_31_1) ?_
   refine sp (OpV.load1 rfl pt_23 (fun w hs => focCell (j := 13) (hs.mem (.tail _ (.tail _ (.tail _ (.head _))))) hk28_2 hcs28_2 ha28_2 rfl)) ?_
   refine sp (OpV.move rfl) ?_
   refine WL.wkF (fun _ h => h.perm (List.perm_middle (l₁ := [_, _]))) ?_
   refine WL.heavy rfl rfl rfl (OpH.callX (evs.cons rfl (evs.cons rfl (evs.nil))) ca_20 (fun w hs => w_laws_markIntS e28_7 hs) ?_)
   rintro _ _ ⟨g28_700, rfl, rfl⟩
   refine sp (OpV.assign rfl) ?_
   refine WL.nil ?_
   refine En.wk _ _ (Sub.refl _) (fun _ h => (((((h).perm (List.perm_middle (l₁ := [_, _, _, _]))).perm (List.perm_middle (l₁ := [_, _, _, _]))).perm (List.perm_middle (l₁ := [_, _]))).perm (List.perm_middle (l₁ := [_, _, _, _]))).perm (List.perm_middle (l₁ := [_, _, _, _]))) ?_
   refine En.exF (fun w h => St.unfocus (F := []) hcs28_2 hn28_2 e28_u (tChange_mk x28_2.Plane x28_2.Value (ColorMapT.mk x28_2.Color.Matrix x28_7b) h)) ?_
   rintro fp28_u _
   refine En.block_norm (En.next (WC.region ?_))
   refine sp (OpV.move rfl) ?_
   refine sp (OpV.addR rfl rfl) ?_
   refine sp (OpV.assign rfl) ?_
   refine WL.nil ?_
   exact En.backP zb0 zh0 fp28_u (Sub.cons rfl (Sub.cons rfl (Sub.cons rfl (Sub.nil _)))) (fun _ h => h)
  ·
   intro hc_1
   replace zh0 := ifO_f hc_1 zh0
   refine WC.exit (En.then_exit (En.then_exit ?_))
   have hx := exitP ze0 zh0
   exact En.wk _ _ (Sub.cons rfl (Sub.nil _)) (fun _ h => h) (zK0_0 ((v1_0, v_0), fv_0) hx.symm)

end Go.Proofs.YtdbnoiiacpmbpaaGreat
