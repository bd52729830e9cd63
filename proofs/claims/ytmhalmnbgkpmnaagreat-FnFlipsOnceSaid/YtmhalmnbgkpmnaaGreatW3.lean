/- Walks: the program computes the pure functions. -/
import Derived.Test.YtmhalmnbgkpmnaaGreatW2
namespace Go.Proofs.YtmhalmnbgkpmnaaGreat
open Go.RowKit K
set_option maxRecDepth 100000
set_option maxHeartbeats 4000000

theorem w_impl_FlipsOk {a_p0 : FlipsT} {r : Bool} {q0_0 : Option Addr} {l0_0 k0_0 : Nat} {q0_1 : Option Addr} {l0_1 k0_1 : Nat} {q0_2 : Option Addr} {l0_2 k0_2 : Nat} (h : impl_FlipsOk a_p0 = some r) {w : World} (r0_0 : Rd tFlip w q0_0 l0_0 k0_0 a_p0.Pending) (r0_1 : Rd tInt w q0_1 l0_1 k0_1 a_p0.Signalled) (r0_2 : Rd tInt w q0_2 l0_2 k0_2 a_p0.Events)   :
    Calls Tryz.prog 37 #[.agg #[.slice q0_0 l0_0 k0_0, .slice q0_1 l0_1 k0_1, .int .i64 a_p0.Next, .slice q0_2 l0_2 k0_2]] w (fun en w' => en = .returned (.bool r) ∧ Ext w w') := by
 obtain rfl := r0_0.1
 obtain rfl := r0_1.1
 obtain rfl := r0_2.1
 unfold impl_FlipsOk at h
 refine enter (vs := [_]) Tryz.func37 rfl rfl rfl rfl ?_
 refine WC.sr ?_
 refine WL.heavy rfl rfl rfl (OpH.box rfl rfl ?_)
 intro b0_0
 refine ag ?_
 refine WL.nil (En.next (WC.sr ?_))
 refine sp (OpV.fieldAddr rfl fo_35_0) ?_
 refine sp (OpV.loadBox rfl pt_33 mq0 rfl) ?_
 refine sp (OpV.len rfl si_33 rfl) ?_
 refine ag ?_
 refine WL.nil (En.next (WC.seq (WC.seq ?_)))
 obtain ⟨q2_7, e2_7, h⟩ := bnd h
 refine WC.region ?_
 refine mv ?_
 refine sp (OpV.gtr rfl rfl) ?_
 refine mv ?_
 refine Lt.ofWL.orQ 11 16 15 (p := ?pz1) (rest := ?qz1) (B := q2_7) rfl (fun hz => orO_t e2_7 hz) ?Tz1 ?Fz1 ?az1 ?bz1 ?cz1 ?dz1 ?ez1
 case Tz1 =>
  intro hcz1 hkz1
  refine sk ?_
  refine sk ?_
  refine sk ?_
  refine sk ?_
  refine hkz1 _ ?_
  repeat (first | exact Sub.refl _ | refine Sub.skip rfl ?_)
 case Fz1 =>
  intro hcz1 hkz1
  have hqz1 := orO_f e2_7 hcz1
  obtain ⟨x2_5, e2_5, hqz1⟩ := bnd hqz1
  obtain rfl := Option.some.inj hqz1
  refine sp (OpV.fieldAddr rfl fo_35_2) ?_
  refine sp (OpV.loadBox rfl pt_3 mq0 rfl) ?_
  refine sp (OpV.call (ec rfl (ec rfl (ec rfl e0))) ca_67 (fun w hs => w_impl_within e2_5)) ?_
  refine sp (OpV.not rfl) ?_
  refine hkz1 _ ?_ ?_
  exact rfl
  repeat (first | exact Sub.refl _ | refine Sub.skip rfl ?_)
 case az1 => exact rfl
 case bz1 => exact rfl
 case cz1 => exact rfl
 case dz1 => exact rfl
 refine mv ?_
 refine Lt.ofWL.or 17 22 21 (p := ?pz2) (rest := ?qz2) (B := ?Bz2) rfl ?Tz2 ?Fz2 ?az2 ?bz2 ?cz2 ?dz2 ?ez2
 case Tz2 =>
  intro hcz2 hkz2
  refine sk ?_
  refine sk ?_
  refine sk ?_
  refine sk ?_
  refine hkz2 _ ?_
  repeat (first | exact Sub.refl _ | refine Sub.skip rfl ?_)
 case Fz2 =>
  intro hcz2 hkz2
  refine sp (OpV.fieldAddr rfl fo_35_2) ?_
  refine sp (OpV.loadBox rfl pt_3 mq0 rfl) ?_
  refine mv ?_
  refine sp (OpV.lss rfl rfl) ?_
  refine hkz2 _ ?_ ?_
  exact rfl
  repeat (first | exact Sub.refl _ | refine Sub.skip rfl ?_)
 case az2 => exact rfl
 case bz2 => exact rfl
 case cz2 => exact rfl
 case dz2 => exact rfl
 refine WL.nil (En.next ?_)
 refine WC.cond rfl ?_ ?_
 ·
  intro hc_1
  replace h := ifO_t hc_1 h
  refine WC.sr ?_
  refine ag ?_
  refine WL.nil (En.next (WC.ret (En.then_ret ?_)))
  refine En.ret1 rfl (Res.tmp rfl) ?_
  obtain rfl := Option.some.inj h
  intro w' hs
  exact ⟨rfl, hs.below⟩
 ·
  intro hc_1
  replace h := ifO_f hc_1 h
  refine WC.skip (En.next (WC.seq (WC.sr ?_)))
  refine sp (OpV.fieldAddr rfl fo_35_0) ?_
  refine sp (OpV.loadBox rfl pt_33 mq0 rfl) ?_
  refine sp (OpV.len rfl si_33 rfl) ?_
  refine mv ?_
  refine WL.nil (En.next (WC.block ?_))
  obtain ⟨zy0, ezy0, h⟩ := bnd h
  refine WC.cut (X := (Unit) × (Unit)) (.exit 0) (fun x => zy0 = .inl x.1) (fun x => match x with | ((), ()) => [(1, .pointer (some ⟨b0_0, 0, .none⟩)), (3, .int .i64 (a_p0.Pending.length : Int))]) (fun x => match x with | ((), ()) => [Chunk.box b0_0 35 [.slice q0_0 a_p0.Pending.length k0_0, .slice q0_1 a_p0.Signalled.length k0_1, .int .i64 a_p0.Next, .slice q0_2 a_p0.Events.length k0_2]]) ?_ ?_
  ·
   rintro ⟨⟨⟩, ⟨⟩⟩ hx
   replace hx : .inl () = zy0 := hx.symm
   subst hx
   replace h := fork_l h
   show En _ _ _ _ [(1, .pointer (some ⟨b0_0, 0, .none⟩)), (3, .int .i64 (a_p0.Pending.length : Int))] [Chunk.box b0_0 35 [.slice q0_0 a_p0.Pending.length k0_0, .slice q0_1 a_p0.Signalled.length k0_1, .int .i64 a_p0.Next, .slice q0_2 a_p0.Events.length k0_2]]
   refine En.block_exit (En.next (WC.seq ?_))
   obtain ⟨x10_2, e10_2, h⟩ := bnd h
   obtain ⟨q10_12, e10_12, h⟩ := bnd h
   refine WC.region ?_
   refine sp (OpV.fieldAddr rfl fo_35_1) ?_
   refine sp (OpV.loadBox rfl pt_23 mq0 rfl) ?_
   refine sp (OpV.call (ec rfl (ec rfl (ec rfl e0))) ca_91 (fun w hs => w_impl_ascendingWithin e10_2 (r0_1.ext hs.below))) ?_
   refine mv ?_
   refine Lt.ofWL.andQ 56 65 64 (p := ?pz3) (rest := ?qz3) (B := q10_12) rfl (fun hz => andO_f e10_12 hz) ?Tz3 ?Fz3 ?az3 ?bz3 ?cz3 ?dz3 ?ez3
   case Tz3 =>
    intro hcz3 hkz3
    have hqz3 := andO_t e10_12 hcz3
    obtain ⟨x10_11, e10_11, hqz3⟩ := bnd hqz3
    obtain rfl := Option.some.inj hqz3
    refine sp (OpV.fieldAddr rfl fo_35_3) ?_
    refine sp (OpV.loadBox rfl pt_23 mq0 rfl) ?_
    refine sp (OpV.fieldAddr rfl fo_35_2) ?_
    refine sp (OpV.loadBox rfl pt_3 mq0 rfl) ?_
    refine mv ?_
    refine sp (OpV.subR rfl rfl) ?_
    refine sp (OpV.subR rfl rfl) ?_
    refine sp (OpV.call (ec rfl (ec rfl (ec rfl e0))) ca_91 (fun w hs => w_impl_ascendingWithin e10_11 (r0_2.ext hs.below))) ?_
    refine hkz3 _ ?_ ?_
    exact rfl
    repeat (first | exact Sub.refl _ | refine Sub.skip rfl ?_)
   case Fz3 =>
    intro hcz3 hkz3
    refine sk ?_
    refine sk ?_
    refine sk ?_
    refine sk ?_
    refine sk ?_
    refine sk ?_
    refine sk ?_
    refine sk ?_
    refine hkz3 _ ?_
    repeat (first | exact Sub.refl _ | refine Sub.skip rfl ?_)
   case az3 => exact rfl
   case bz3 => exact rfl
   case cz3 => exact rfl
   case dz3 => exact rfl
   refine ag ?_
   refine WL.nil (En.next (WC.ret ?_))
   refine En.ret1 rfl (Res.tmp rfl) ?_
   obtain rfl := Option.some.inj h
   intro w' hs
   exact ⟨rfl, hs.below⟩
  ·
   intro zK0_0
   refine WC.loopP (G := Unit) (fun s g => match s, g with | v_0, () => [(1, .pointer (some ⟨b0_0, 0, .none⟩)), (3, .int .i64 (a_p0.Pending.length : Int)), (24, .slice q0_0 a_p0.Pending.length k0_0), (25, .int .i64 (a_p0.Pending.length : Int)), (26, .int .i64 v_0)]) (fun s g => match s, g with | v_0, () => [Chunk.box b0_0 35 [.slice q0_0 a_p0.Pending.length k0_0, .slice q0_1 a_p0.Signalled.length k0_1, .int .i64 a_p0.Next, .slice q0_2 a_p0.Events.length k0_2]]) 0 () ezy0 (by exact sc (sc (sc (sc (sc sn))))) (by exact (fun _ h => h)) ?_
   rintro zm0 v_0 ⟨⟩ zo0 zf0 zb0 ze0
   have zh0 : impl_FlipsOk_L0 a_p0 v_0 = some zo0 := zf0
   unfold impl_FlipsOk_L0 at zh0
   show WC _ _ _ _ _ [(1, .pointer (some ⟨b0_0, 0, .none⟩)), (3, .int .i64 (a_p0.Pending.length : Int)), (24, .slice q0_0 a_p0.Pending.length k0_0), (25, .int .i64 (a_p0.Pending.length : Int)), (26, .int .i64 v_0)] [Chunk.box b0_0 35 [.slice q0_0 a_p0.Pending.length k0_0, .slice q0_1 a_p0.Signalled.length k0_1, .int .i64 a_p0.Next, .slice q0_2 a_p0.Events.length k0_2]]
   refine WC.sr ?_
   refine sp (OpV.lss rfl rfl) ?_
   refine WL.nil (En.next (WC.seq ?_))
   refine WC.cond rfl ?_ ?_
   ·
    intro hc_2
    replace zh0 := ifO_t hc_2 zh0
    refine WC.skip (En.next (WC.seq (WC.block (WC.seq ?_))))
    obtain ⟨x6_1, e6_1, zh0⟩ := bnd zh0
    obtain ⟨g6_1, o6_1, _, ha6_1, ⟨a6_1_1, c6_1_1, a6_1_2, c6_1_2, a6_1_3, c6_1_3, rfl, r6_1_1, r6_1_2, r6_1_3⟩, hd6_1⟩ := Rd.atIdx r0_0 e6_1
    replace hd6_1 : ∀ (j : Nat) v, ([.int .i64 x6_1.Seq, .int .i64 x6_1.Fence, .int .i64 x6_1.State.W, .int .i64 x6_1.State.H, .slice a6_1_1 x6_1.State.Planes.length c6_1_1, .slice a6_1_2 x6_1.State.Color.Matrix.length c6_1_2, .slice a6_1_3 x6_1.State.Color.Curve.length c6_1_3] : List Value)[j]? = some v → w.cell? ⟨g6_1, o6_1 + v_0.toNat * 7 + j, .none⟩ = some v := hd6_1
    refine WC.region ?_
    refine mv ?_
    refine sp (OpV.idxA rfl rfl se_33 ha6_1 ⟨(idx_some e6_1).1, (idx_some e6_1).2.1⟩) ?_
    refine sp (OpV.loadN rfl ag_79 rfl (fun w hs => hs.cellsAt hd6_1)) ?_
    refine WL.heavy rfl rfl rfl (OpH.alloc zc_79 ?_)
    intro b6_3
    refine ag ?_
    refine WL.heavy0 rfl rfl (OpH.storeTo (A := []) [_, _, _, _, _, _, _] rfl rfl rfl ts_79 rfl rfl rfl ?_)
    refine WL.nil (En.next (WC.seq ?_))
    obtain ⟨q7_14, e7_14, zh0⟩ := bnd zh0
    obtain ⟨q7_20, e7_20, zh0⟩ := bnd zh0
    refine WC.region ?_
    refine sp (OpV.fieldAddr rfl fo_79_0) ?_
    refine sp (OpV.loadBox rfl pt_3 mq0 rfl) ?_
    refine sp (OpV.fieldAddr rfl fo_35_2) ?_
    refine sp (OpV.loadBox rfl pt_3 mq1 rfl) ?_
    refine mv ?_
    refine sp (OpV.subR rfl rfl) ?_
    refine mv ?_
    refine sp (OpV.addR rfl rfl) ?_
    refine sp (OpV.neq rfl rfl) ?_
    refine mv ?_
    refine Lt.ofWL.orQ 40 45 44 (p := ?pz4) (rest := ?qz4) (B := q7_14) rfl (fun hz => orO_t e7_14 hz) ?Tz4 ?Fz4 ?az4 ?bz4 ?cz4 ?dz4 ?ez4
    case Tz4 =>
     intro hcz4 hkz4
     refine sk ?_
     refine sk ?_
     refine sk ?_
     refine sk ?_
     refine hkz4 _ ?_
     repeat (first | exact Sub.refl _ | refine Sub.skip rfl ?_)
    case Fz4 =>
     intro hcz4 hkz4
     have hqz4 := orO_f e7_14 hcz4
     obtain ⟨x7_12, e7_12, hqz4⟩ := bnd hqz4
     obtain rfl := Option.some.inj hqz4
     refine sp (OpV.fieldAddr rfl fo_79_1) ?_
     refine sp (OpV.loadBox rfl pt_3 mq0 rfl) ?_
     refine sp (OpV.call (ec rfl (ec rfl (ec rfl e0))) ca_67 (fun w hs => w_impl_within e7_12)) ?_
     refine sp (OpV.not rfl) ?_
     refine hkz4 _ ?_ ?_
     exact rfl
     repeat (first | exact Sub.refl _ | refine Sub.skip rfl ?_)
    case az4 => exact rfl
    case bz4 => exact rfl
    case cz4 => exact rfl
    case dz4 => exact rfl
    refine mv ?_
    refine Lt.ofWL.orQ 46 51 50 (p := ?pz5) (rest := ?qz5) (B := q7_20) rfl (fun hz => orO_t e7_20 hz) ?Tz5 ?Fz5 ?az5 ?bz5 ?cz5 ?dz5 ?ez5
    case Tz5 =>
     intro hcz5 hkz5
     refine sk ?_
     refine sk ?_
     refine sk ?_
     refine sk ?_
     refine hkz5 _ ?_
     repeat (first | exact Sub.refl _ | refine Sub.skip rfl ?_)
    case Fz5 =>
     intro hcz5 hkz5
     have hqz5 := orO_f e7_20 hcz5
     obtain ⟨x7_18, e7_18, hqz5⟩ := bnd hqz5
     obtain rfl := Option.some.inj hqz5
     refine sp (OpV.fieldAddr rfl fo_79_2) ?_
     refine sp (OpV.loadPart rfl mq0 ag_39 rfl rfl) ?_
     refine sp (OpV.call (ec rfl e0) ca_80 (fun w hs => w_impl_CrtcOk e7_18 (r6_1_1.ext hs.below) (r6_1_2.ext hs.below) (r6_1_3.ext hs.below))) ?_
     refine sp (OpV.not rfl) ?_
     refine hkz5 _ ?_ ?_
     exact rfl
     repeat (first | exact Sub.refl _ | refine Sub.skip rfl ?_)
    case az5 => exact rfl
    case bz5 => exact rfl
    case cz5 => exact rfl
    case dz5 => exact rfl
    refine WL.nil (En.next ?_)
    refine WC.cond rfl ?_ ?_
    ·
     intro hc_3
     replace zh0 := ifO_t hc_3 zh0
     refine WC.sr ?_
     refine ag ?_
     refine WL.nil (En.next (WC.ret (En.block_ret (En.then_ret (En.then_ret (En.block_ret (En.then_ret ?_)))))))
     refine En.ret1 rfl (Res.tmp rfl) ?_
     have hx := exitP ze0 zh0
     subst hx
     replace h := fork_r h
     obtain rfl := Option.some.inj h
     intro w' hs
     exact ⟨rfl, hs.below⟩
    ·
     intro hc_3
     replace zh0 := ifO_f hc_3 zh0
     refine WC.skip (En.block_norm (En.next (WC.region ?_)))
     refine sp (OpV.addR rfl rfl) ?_
     refine mv ?_
     refine WL.nil ?_
     exact En.backP zb0 zh0 () (sc (sc (sc (sc (sc sn))))) (fun _ h => ((h).pm 1).sub (.cons_cons _ (.cons _ (.slnil))))
   ·
    intro hc_2
    replace zh0 := ifO_f hc_2 zh0
    refine WC.exit (En.then_exit (En.then_exit ?_))
    have hx := exitP ze0 zh0
    exact En.wk _ _ (sc (sc sn)) (fun _ h => h) (zK0_0 ((), ()) hx.symm)


theorem w_impl_SignalFence {f_p0 : FlipsT} {fence_p1 : Int} {r : FlipsT} {q0_0 : Option Addr} {l0_0 k0_0 : Nat} {q0_1 : Option Addr} {l0_1 k0_1 : Nat} {q0_2 : Option Addr} {l0_2 k0_2 : Nat} (h : impl_SignalFence f_p0 fence_p1 = some r) {w : World} (r0_0 : Rd tFlip w q0_0 l0_0 k0_0 f_p0.Pending) (r0_1 : Rd tInt w q0_1 l0_1 k0_1 f_p0.Signalled) (r0_2 : Rd tInt w q0_2 l0_2 k0_2 f_p0.Events)   :
    Calls Tryz.prog 20 #[.agg #[.slice q0_0 l0_0 k0_0, .slice q0_1 l0_1 k0_1, .int .i64 f_p0.Next, .slice q0_2 l0_2 k0_2], .int .i64 fence_p1] w (fun en w' => ∃ rv G, en = .returned rv ∧ (∃ (a0_0 : Option Addr) (n0_0 : Nat) (c0_0 : Nat) (f0_0 : List Nat) (a0_1 : Option Addr) (n0_1 : Nat) (c0_1 : Nat) (f0_1 : List Nat) (a0_2 : Option Addr) (n0_2 : Nat) (c0_2 : Nat) (f0_2 : List Nat), rv = .agg #[.slice a0_0 n0_0 c0_0, .slice a0_1 n0_1 c0_1, .int .i64 r.Next, .slice a0_2 n0_2 c0_2] ∧ G = [Chunk.own tFlip f0_0 a0_0 n0_0 c0_0 r.Pending, Chunk.own tInt f0_1 a0_1 n0_1 c0_1 r.Signalled, Chunk.own tInt f0_2 a0_2 n0_2 c0_2 r.Events]) ∧ St w G w') := by
 obtain rfl := r0_0.1
 obtain rfl := r0_1.1
 obtain rfl := r0_2.1
 unfold impl_SignalFence at h
 refine enter (vs := [_, _]) Tryz.func20 rfl rfl rfl rfl ?_
 refine WC.sr ?_
 refine WL.heavy rfl rfl rfl (OpH.box rfl rfl ?_)
 intro b0_0
 refine WL.heavy rfl rfl rfl (OpH.alloc zc_35 ?_)
 intro b0_1
 refine WL.nil (En.next (WC.seq ?_))
 obtain ⟨x1_1, e1_1, h⟩ := bnd h
 refine WC.region ?_
 refine sp (OpV.loadAll rfl mq1 ag_35) ?_
 refine WL.heavy rfl rfl rfl (OpH.callR (ec rfl e0) ca_49 (fun w hs => w_impl_copyFlips e1_1 (r0_0.ext hs.below) (r0_1.ext hs.below) (r0_2.ext hs.below)) ?_)
 rintro _ _ ⟨a1_100, n1_100, c1_100, f1_100, a1_101, n1_101, c1_101, f1_101, a1_102, n1_102, c1_102, f1_102, rfl, rfl⟩
 refine WL.heavy rfl rfl rfl (OpH.alloc zc_35 ?_)
 intro b1_2
 refine WL.heavy0 rfl rfl (OpH.storeTo (A := []) [_, _, _, _] rfl rfl rfl ts_35 rfl rfl rfl ?_)
 refine WL.nil (En.next (WC.seq ?_))
 obtain ⟨⟨x2_3a, x2_3b⟩, e2_3, h⟩ := bnd h
 refine WC.region ?_
 refine sp (OpV.fieldAddr rfl fo_35_1) ?_
 refine sp (OpV.loadBox rfl pt_23 mq5 rfl) ?_
 refine mv ?_
 refine sp (OpV.call (ec rfl (ec rfl e0)) ca_66 (fun w hs => w_slices_BinarySearch_S_int_int e2_3 (r0_1.ext hs.below))) ?_
 refine mv ?_
 refine sp (OpV.extract rfl rfl) ?_
 refine sp (OpV.extract rfl rfl) ?_
 refine ag ?_
 refine ag ?_
 refine WL.nil (En.next (WC.seq (WC.seq ?_)))
 obtain ⟨x3_1, e3_1, h⟩ := bnd h
 obtain ⟨q3_7, e3_7, h⟩ := bnd h
 refine WC.region ?_
 refine sp (OpV.loadAll rfl mq5 ag_35) ?_
 refine sp (OpV.call (ec rfl e0) ca_37 (fun w hs => w_impl_FlipsOk e3_1 (r0_0.ext hs.below) (r0_1.ext hs.below) (r0_2.ext hs.below))) ?_
 refine sp (OpV.not rfl) ?_
 refine mv ?_
 refine Lt.ofWL.orQ 20 24 23 (p := ?pz1) (rest := ?qz1) (B := q3_7) rfl (fun hz => orO_t e3_7 hz) ?Tz1 ?Fz1 ?az1 ?bz1 ?cz1 ?dz1 ?ez1
 case Tz1 =>
  intro hcz1 hkz1
  refine sk ?_
  refine sk ?_
  refine sk ?_
  refine hkz1 _ ?_
  repeat (first | exact Sub.refl _ | refine Sub.skip rfl ?_)
 case Fz1 =>
  intro hcz1 hkz1
  have hqz1 := orO_f e3_7 hcz1
  obtain ⟨x3_5, e3_5, hqz1⟩ := bnd hqz1
  obtain rfl := Option.some.inj hqz1
  refine mv ?_
  refine sp (OpV.call (ec rfl (ec rfl (ec rfl e0))) ca_67 (fun w hs => w_impl_within e3_5)) ?_
  refine sp (OpV.not rfl) ?_
  refine hkz1 _ ?_ ?_
  exact rfl
  repeat (first | exact Sub.refl _ | refine Sub.skip rfl ?_)
 case az1 => exact rfl
 case bz1 => exact rfl
 case cz1 => exact rfl
 case dz1 => exact rfl
 refine mv ?_
 refine Lt.ofWL.or 25 27 26 (p := ?pz2) (rest := ?qz2) (B := ?Bz2) rfl ?Tz2 ?Fz2 ?az2 ?bz2 ?cz2 ?dz2 ?ez2
 case Tz2 =>
  intro hcz2 hkz2
  refine sk ?_
  refine hkz2 _ ?_
  repeat (first | exact Sub.refl _ | refine Sub.skip rfl ?_)
 case Fz2 =>
  intro hcz2 hkz2
  refine mv ?_
  refine hkz2 _ ?_ ?_
  exact rfl
  repeat (first | exact Sub.refl _ | refine Sub.skip rfl ?_)
 case az2 => exact rfl
 case bz2 => exact rfl
 case cz2 => exact rfl
 case dz2 => exact rfl
 refine WL.nil (En.next ?_)
 refine WC.cond rfl ?_ ?_
 ·
  intro hc_1
  replace h := ifO_t hc_1 h
  refine WC.sr ?_
  refine sp (OpV.loadAll rfl mq0 ag_35) ?_
  refine WL.heavy0 rfl rfl (OpH.storeTo (A := [_, _, _, _]) [_, _, _, _] rfl rfl rfl ts_35 rfl rfl rfl ?_)
  refine WL.nil (En.next (WC.ret (En.then_ret ?_)))
  refine En.ret1 rfl (Res.cell rfl mq4 ag_35) ?_
  obtain rfl := Option.some.inj h
  intro w' hs
  have hs := ((((hs).pm 3).pm 3).pm 3).sub (.cons_cons _ (.cons_cons _ (.cons_cons _ (.cons _ (.cons _ (.cons _ (.slnil)))))))
  exact ⟨_, _, rfl, ⟨a1_100, n1_100, c1_100, f1_100, a1_101, n1_101, c1_101, f1_101, a1_102, n1_102, c1_102, f1_102, rfl, rfl⟩, hs⟩
 ·
  intro hc_1
  replace h := ifO_f hc_1 h
  refine WC.skip (En.next (WC.seq ?_))
  obtain ⟨x5_5, e5_5, h⟩ := bnd h
  refine WC.region ?_
  refine sp (OpV.fieldAddr rfl fo_35_1) ?_
  refine sp (OpV.loadBox rfl pt_23 mq0 rfl) ?_
  refine mv ?_
  refine mv ?_
  refine WL.heavy rfl rfl rfl (OpH.litF (A := tInt) (xs := [fence_p1]) tInt_flat (evps.cons rfl (evps.nil)) (bs_23_1_0 _) rfl rfl (Nat.le_of_ble_eq_true rfl) ?_)
  intro b5_4
  refine WL.wkF (fun _ h => h.pm 3) ?_
  refine WL.heavy rfl rfl rfl (OpH.callX (ec rfl (ec rfl (ec rfl e0))) ca_68 (fun w hs => w_Insert e5_5 hs) ?_)
  rintro _ _ ⟨a5_5, c5_5, f5_5, rfl, rfl⟩
  refine sp (OpV.fieldAddr rfl fo_35_1) ?_
  refine WL.heavy0 rfl rfl (OpH.storeTo (A := [_, _]) [_, _, _, _] rfl rfl rfl ts_23 rfl rfl rfl ?_)
  refine WL.nil (En.next (WC.sr ?_))
  refine sp (OpV.loadAll rfl mq2 ag_35) ?_
  refine WL.heavy0 rfl rfl (OpH.storeTo (A := [_, _, _, _, _]) [_, _, _, _] rfl rfl rfl ts_35 rfl rfl rfl ?_)
  refine WL.nil (En.next (WC.ret ?_))
  refine En.ret1 rfl (Res.cell rfl mq5 ag_35) ?_
  obtain rfl := Option.some.inj h
  intro w' hs
  have hs := ((((hs).pm 4).pm 1).pm 4).sub (.cons_cons _ (.cons_cons _ (.cons_cons _ (.cons _ (.cons _ (.cons _ (.cons _ (.slnil))))))))
  exact ⟨_, _, rfl, ⟨a1_100, n1_100, c1_100, f1_100, a5_5, x5_5.length, c5_5, f5_5, a1_102, n1_102, c1_102, f1_102, rfl, rfl⟩, hs⟩

theorem w_impl_QueueFlip {f_p0 : FlipsT} {c_p1 : CrtcT} {fence_p2 : Int} {r : FlipsT × Bool} {q0_0 : Option Addr} {l0_0 k0_0 : Nat} {q0_1 : Option Addr} {l0_1 k0_1 : Nat} {q0_2 : Option Addr} {l0_2 k0_2 : Nat} {q1_0 : Option Addr} {l1_0 k1_0 : Nat} {q1_1 : Option Addr} {l1_1 k1_1 : Nat} {q1_2 : Option Addr} {l1_2 k1_2 : Nat} (h : impl_QueueFlip f_p0 c_p1 fence_p2 = some r) {w : World} (r0_0 : Rd tFlip w q0_0 l0_0 k0_0 f_p0.Pending) (r0_1 : Rd tInt w q0_1 l0_1 k0_1 f_p0.Signalled) (r0_2 : Rd tInt w q0_2 l0_2 k0_2 f_p0.Events) (r1_0 : Rd tPlane w q1_0 l1_0 k1_0 c_p1.Planes) (r1_1 : Rd tInt w q1_1 l1_1 k1_1 c_p1.Color.Matrix) (r1_2 : Rd tInt w q1_2 l1_2 k1_2 c_p1.Color.Curve)   :
    Calls Tryz.prog 30 #[.agg #[.slice q0_0 l0_0 k0_0, .slice q0_1 l0_1 k0_1, .int .i64 f_p0.Next, .slice q0_2 l0_2 k0_2], .agg #[.int .i64 c_p1.W, .int .i64 c_p1.H, .slice q1_0 l1_0 k1_0, .slice q1_1 l1_1 k1_1, .slice q1_2 l1_2 k1_2], .int .i64 fence_p2] w (fun en w' => ∃ rv G, en = .returned rv ∧ (∃ (a0_0 : Option Addr) (n0_0 : Nat) (c0_0 : Nat) (f0_0 : List Nat) (a0_1 : Option Addr) (n0_1 : Nat) (c0_1 : Nat) (f0_1 : List Nat) (a0_2 : Option Addr) (n0_2 : Nat) (c0_2 : Nat) (f0_2 : List Nat), rv = .tuple #[.agg #[.slice a0_0 n0_0 c0_0, .slice a0_1 n0_1 c0_1, .int .i64 r.1.Next, .slice a0_2 n0_2 c0_2], .bool r.2] ∧ G = [Chunk.own tFlip f0_0 a0_0 n0_0 c0_0 r.1.Pending, Chunk.own tInt f0_1 a0_1 n0_1 c0_1 r.1.Signalled, Chunk.own tInt f0_2 a0_2 n0_2 c0_2 r.1.Events]) ∧ St w G w') := by
 obtain rfl := r0_0.1
 obtain rfl := r0_1.1
 obtain rfl := r0_2.1
 obtain rfl := r1_0.1
 obtain rfl := r1_1.1
 obtain rfl := r1_2.1
 unfold impl_QueueFlip at h
 refine enter (vs := [_, _, _]) Tryz.func30 rfl rfl rfl rfl ?_
 refine WC.sr ?_
 refine WL.heavy rfl rfl rfl (OpH.box rfl rfl ?_)
 intro b0_0
 refine WL.heavy rfl rfl rfl (OpH.box rfl rfl ?_)
 intro b0_1
 refine WL.heavy rfl rfl rfl (OpH.alloc zc_35 ?_)
 intro b0_2
 refine ag ?_
 refine WL.nil (En.next (WC.seq ?_))
 obtain ⟨x1_1, e1_1, h⟩ := bnd h
 refine WC.region ?_
 refine sp (OpV.loadAll rfl mq2 ag_35) ?_
 refine WL.heavy rfl rfl rfl (OpH.callR (ec rfl e0) ca_49 (fun w hs => w_impl_copyFlips e1_1 (r0_0.ext hs.below) (r0_1.ext hs.below) (r0_2.ext hs.below)) ?_)
 rintro _ _ ⟨a1_100, n1_100, c1_100, f1_100, a1_101, n1_101, c1_101, f1_101, a1_102, n1_102, c1_102, f1_102, rfl, rfl⟩
 refine WL.heavy rfl rfl rfl (OpH.alloc zc_35 ?_)
 intro b1_2
 refine WL.heavy0 rfl rfl (OpH.storeTo (A := []) [_, _, _, _] rfl rfl rfl ts_35 rfl rfl rfl ?_)
 refine WL.nil (En.next (WC.seq (WC.seq ?_)))
 obtain ⟨x2_1, e2_1, h⟩ := bnd h
 refine WC.region ?_
 refine sp (OpV.loadAll rfl mq6 ag_35) ?_
 refine sp (OpV.call (ec rfl e0) ca_37 (fun w hs => w_impl_FlipsOk e2_1 (r0_0.ext hs.below) (r0_1.ext hs.below) (r0_2.ext hs.below))) ?_
 refine sp (OpV.not rfl) ?_
 refine WL.nil (En.next ?_)
 refine WC.cond rfl ?_ ?_
 ·
  intro hc_1
  replace h := ifO_t hc_1 h
  refine WC.sr ?_
  refine sp (OpV.loadAll rfl mq0 ag_35) ?_
  refine WL.heavy0 rfl rfl (OpH.storeTo (A := [_, _, _, _]) [_, _, _, _] rfl rfl rfl ts_35 rfl rfl rfl ?_)
  refine ag ?_
  refine WL.nil (En.next (WC.ret (En.then_ret ?_)))
  refine En.ret2 rfl (Res.cell rfl mq4 ag_35) (Res.tmp rfl) ?_
  obtain rfl := Option.some.inj h
  intro w' hs
  have hs := ((((hs).pm 3).pm 3).pm 3).sub (.cons_cons _ (.cons_cons _ (.cons_cons _ (.cons _ (.cons _ (.cons _ (.cons _ (.slnil))))))))
  exact ⟨_, _, rfl, ⟨a1_100, n1_100, c1_100, f1_100, a1_101, n1_101, c1_101, f1_101, a1_102, n1_102, c1_102, f1_102, rfl, rfl⟩, hs⟩
 ·
  intro hc_1
  replace h := ifO_f hc_1 h
  refine WC.skip (En.next (WC.seq ?_))
  obtain ⟨x4_6, e4_6, h⟩ := bnd h
  obtain ⟨x4_9, e4_9, h⟩ := bnd h
  refine WC.drawnH [_, _] ([_, _, _, _, _]) (fun _ h => h) (by kernel_rfl) ?_
  refine tk 0 rfl (OpV.fieldAddr rfl fo_35_0) ?_
  refine tk 2 rfl (OpV.fieldAddr rfl fo_35_2) ?_
  refine tk 3 rfl (OpV.loadBox rfl pt_3 mq4 rfl) ?_
  refine tk 4 rfl (OpV.move rfl) ?_
  refine tk 5 rfl (OpV.loadAll rfl mq3 ag_39) ?_
  refine WAE.all (rs := [1, 6]) (by kernel_rfl) rfl (AllR.cons rfl rfl rfl rfl ?_ (AllR.cons rfl rfl rfl rfl ?_ AllR.nil))
  ·
   refine OpH.light (OpV.loadBox rfl pt_33 mq0 rfl) ?_
   refine ⟨[_, _], rfl, ?_⟩
   refine al1 6 rfl ?_
   refine OpH.callR (ec rfl e0) ca_50 (fun w hs => w_impl_copyCrtc e4_6 (r1_0.ext hs.below) (r1_1.ext hs.below) (r1_2.ext hs.below)) ?_
   rintro _ _ ⟨a4_600, n4_600, c4_600, f4_600, a4_601, n4_601, c4_601, f4_601, a4_602, n4_602, c4_602, f4_602, rfl, rfl⟩
   refine ⟨[_, _, _, _, _], rfl, ?_⟩
   refine tk 7 rfl (OpV.build (evps.cons rfl (evps.cons rfl (evps.cons rfl (evps.nil)))) (bd_79_0_1_2 _ _ _ _ _ _ _ _ _ _ _ _ _)) ?_
   refine al1 8 rfl ?_
   refine OpH.buildSlice (evps.cons rfl (evps.nil)) (bs_33_1_0 _ _ _ _ _ _ _ _ _ _ _ _ _) ?_
   intro b4_8
   refine ⟨[_, _, _, _, _, _], rfl, ?_⟩
   refine al1 9 rfl ?_
   refine OpH.wkF (fun _ h => h.pm 3) ?_
   refine OpH.wkF (fun _ h => h.pm 3) ?_
   refine OpH.wkF (fun _ h => h.pm 3) ?_
   refine OpH.wkF (fun _ h => tFlip_mk f_p0.Next fence_p2 x4_6 h) ?_
   refine OpH.wkF (fun _ h => h.pm 3) ?_
   refine OpH.wkF (fun _ h => h.pm 1) ?_
   refine OpH.push (A := tFlip) rfl rfl rfl mi_33 rfl (by decide) mq0 e4_9 ?_
   intro f4_9 a4_9 c4_9
   refine ⟨[_, _, _], rfl, ?_⟩
   refine tk 10 rfl (OpV.fieldAddr rfl fo_35_0) ?_
   refine al0 11 rfl ?_
   refine OpH.storeTo (A := [_, _]) [_, _, _, _] rfl rfl rfl ts_33 rfl rfl rfl ?_
   refine ⟨[_, _, _], rfl, ?_⟩
   refine WAE.rebase (H := []) ?_
   refine WAE.done (by kernel_rfl) ?_ _
   refine En.next (WC.sr ?_)
   refine sp (OpV.fieldAddr rfl fo_35_2) ?_
   refine sp (OpV.loadBox rfl pt_3 mq2 rfl) ?_
   refine sp (OpV.addR rfl rfl) ?_
   refine sp (OpV.fieldAddr rfl fo_35_2) ?_
   refine WL.heavy0 rfl rfl (OpH.storeTo (A := [_, _]) [_, _, _, _] rfl rfl rfl ts_3 rfl rfl rfl ?_)
   refine WL.nil (En.next (WC.seq (WC.seq ?_)))
   obtain ⟨x6_1, e6_1, h⟩ := bnd h
   refine WC.region ?_
   refine sp (OpV.loadAll rfl mq2 ag_35) ?_
   refine sp (OpV.call (ec rfl e0) ca_37 (fun w hs => w_impl_FlipsOk e6_1 (Ow.rd (hs.mem mq0)) (Ow.rd (hs.mem mq3)) (Ow.rd (hs.mem mq4)))) ?_
   refine sp (OpV.not rfl) ?_
   refine WL.nil (En.next ?_)
   refine WC.cond rfl ?_ ?_
   ·
    intro hc_2
    replace h := ifO_t hc_2 h
    refine WC.seq ?_
    obtain ⟨x7_1, e7_1, h⟩ := bnd h
    refine WC.region ?_
    refine sp (OpV.loadAll rfl mq7 ag_35) ?_
    refine WL.heavy rfl rfl rfl (OpH.callR (ec rfl e0) ca_49 (fun w hs => w_impl_copyFlips e7_1 (r0_0.ext hs.below) (r0_1.ext hs.below) (r0_2.ext hs.below)) ?_)
    rintro _ _ ⟨a7_100, n7_100, c7_100, f7_100, a7_101, n7_101, c7_101, f7_101, a7_102, n7_102, c7_102, f7_102, rfl, rfl⟩
    refine WL.heavy0 rfl rfl (OpH.storeTo (A := [_, _, _, _, _, _, _, _]) [_, _, _, _] rfl rfl rfl ts_35 rfl rfl rfl ?_)
    refine ag ?_
    refine WL.nil (En.next (WC.ret (En.then_ret ?_)))
    refine En.ret2 rfl (Res.cell rfl mq8 ag_35) (Res.tmp rfl) ?_
    obtain rfl := Option.some.inj h
    intro w' hs
    have hs := (hs).sub (.cons_cons _ (.cons_cons _ (.cons_cons _ (.cons _ (.cons _ (.cons _ (.cons _ (.cons _ (.cons _ (.cons _ (.cons _ (.slnil))))))))))))
    exact ⟨_, _, rfl, ⟨a7_100, n7_100, c7_100, f7_100, a7_101, n7_101, c7_101, f7_101, a7_102, n7_102, c7_102, f7_102, rfl, rfl⟩, hs⟩
   ·
    intro hc_2
    replace h := ifO_f hc_2 h
    refine WC.skip (En.next (WC.sr ?_))
    refine sp (OpV.loadAll rfl mq2 ag_35) ?_
    refine WL.heavy0 rfl rfl (OpH.storeTo (A := [_, _, _, _, _]) [_, _, _, _] rfl rfl rfl ts_35 rfl rfl rfl ?_)
    refine ag ?_
    refine WL.nil (En.next (WC.ret ?_))
    refine En.ret2 rfl (Res.cell rfl mq5 ag_35) (Res.tmp rfl) ?_
    obtain rfl := Option.some.inj h
    intro w' hs
    have hs := ((((hs).pm 4).pm 4).pm 2).sub (.cons_cons _ (.cons_cons _ (.cons_cons _ (.cons _ (.cons _ (.cons _ (.cons _ (.cons _ (.slnil)))))))))
    exact ⟨_, _, rfl, ⟨a4_9, x4_9.length, c4_9, f4_9, a1_101, n1_101, c1_101, f1_101, a1_102, n1_102, c1_102, f1_102, rfl, rfl⟩, hs⟩
  ·
   refine OpH.callR (ec rfl e0) ca_50 (fun w hs => w_impl_copyCrtc e4_6 (r1_0.ext hs.below) (r1_1.ext hs.below) (r1_2.ext hs.below)) ?_
   rintro _ _ ⟨a4_600, n4_600, c4_600, f4_600, a4_601, n4_601, c4_601, f4_601, a4_602, n4_602, c4_602, f4_602, rfl, rfl⟩
   refine ⟨[_, _, _, _, _], rfl, ?_⟩
   refine tk 7 rfl (OpV.build (evps.cons rfl (evps.cons rfl (evps.cons rfl (evps.nil)))) (bd_79_0_1_2 _ _ _ _ _ _ _ _ _ _ _ _ _)) ?_
   refine WAE.all (rs := [1, 8]) (by kernel_rfl) rfl (AllR.cons rfl rfl rfl rfl ?_ (AllR.cons rfl rfl rfl rfl ?_ AllR.nil))
   ·
    refine OpH.light (OpV.loadBox rfl pt_33 mq3 rfl) ?_
    refine ⟨[_, _, _, _, _], rfl, ?_⟩
    refine al1 8 rfl ?_
    refine OpH.buildSlice (evps.cons rfl (evps.nil)) (bs_33_1_0 _ _ _ _ _ _ _ _ _ _ _ _ _) ?_
    intro b4_8
    refine ⟨[_, _, _, _, _, _], rfl, ?_⟩
    refine al1 9 rfl ?_
    refine OpH.wkF (fun _ h => h.pm 3) ?_
    refine OpH.wkF (fun _ h => h.pm 3) ?_
    refine OpH.wkF (fun _ h => h.pm 3) ?_
    refine OpH.wkF (fun _ h => tFlip_mk f_p0.Next fence_p2 x4_6 h) ?_
    refine OpH.wkF (fun _ h => h.pm 3) ?_
    refine OpH.wkF (fun _ h => h.pm 1) ?_
    refine OpH.push (A := tFlip) rfl rfl rfl mi_33 rfl (by decide) mq0 e4_9 ?_
    intro f4_9 a4_9 c4_9
    refine ⟨[_, _, _], rfl, ?_⟩
    refine tk 10 rfl (OpV.fieldAddr rfl fo_35_0) ?_
    refine al0 11 rfl ?_
    refine OpH.storeTo (A := [_, _]) [_, _, _, _] rfl rfl rfl ts_33 rfl rfl rfl ?_
    refine ⟨[_, _, _], rfl, ?_⟩
    refine WAE.rebase (H := []) ?_
    refine WAE.done (by kernel_rfl) ?_ _
    refine En.next (WC.sr ?_)
    refine sp (OpV.fieldAddr rfl fo_35_2) ?_
    refine sp (OpV.loadBox rfl pt_3 mq2 rfl) ?_
    refine sp (OpV.addR rfl rfl) ?_
    refine sp (OpV.fieldAddr rfl fo_35_2) ?_
    refine WL.heavy0 rfl rfl (OpH.storeTo (A := [_, _]) [_, _, _, _] rfl rfl rfl ts_3 rfl rfl rfl ?_)
    refine WL.nil (En.next (WC.seq (WC.seq ?_)))
    obtain ⟨x6_1, e6_1, h⟩ := bnd h
    refine WC.region ?_
    refine sp (OpV.loadAll rfl mq2 ag_35) ?_
    refine sp (OpV.call (ec rfl e0) ca_37 (fun w hs => w_impl_FlipsOk e6_1 (Ow.rd (hs.mem mq0)) (Ow.rd (hs.mem mq3)) (Ow.rd (hs.mem mq4)))) ?_
    refine sp (OpV.not rfl) ?_
    refine WL.nil (En.next ?_)
    refine WC.cond rfl ?_ ?_
    ·
     intro hc_3
     replace h := ifO_t hc_3 h
     refine WC.seq ?_
     obtain ⟨x7_1, e7_1, h⟩ := bnd h
     refine WC.region ?_
     refine sp (OpV.loadAll rfl mq7 ag_35) ?_
     refine WL.heavy rfl rfl rfl (OpH.callR (ec rfl e0) ca_49 (fun w hs => w_impl_copyFlips e7_1 (r0_0.ext hs.below) (r0_1.ext hs.below) (r0_2.ext hs.below)) ?_)
     rintro _ _ ⟨a7_100, n7_100, c7_100, f7_100, a7_101, n7_101, c7_101, f7_101, a7_102, n7_102, c7_102, f7_102, rfl, rfl⟩
     refine WL.heavy0 rfl rfl (OpH.storeTo (A := [_, _, _, _, _, _, _, _]) [_, _, _, _] rfl rfl rfl ts_35 rfl rfl rfl ?_)
     refine ag ?_
     refine WL.nil (En.next (WC.ret (En.then_ret ?_)))
     refine En.ret2 rfl (Res.cell rfl mq8 ag_35) (Res.tmp rfl) ?_
     obtain rfl := Option.some.inj h
     intro w' hs
     have hs := (hs).sub (.cons_cons _ (.cons_cons _ (.cons_cons _ (.cons _ (.cons _ (.cons _ (.cons _ (.cons _ (.cons _ (.cons _ (.cons _ (.slnil))))))))))))
     exact ⟨_, _, rfl, ⟨a7_100, n7_100, c7_100, f7_100, a7_101, n7_101, c7_101, f7_101, a7_102, n7_102, c7_102, f7_102, rfl, rfl⟩, hs⟩
    ·
     intro hc_3
     replace h := ifO_f hc_3 h
     refine WC.skip (En.next (WC.sr ?_))
     refine sp (OpV.loadAll rfl mq2 ag_35) ?_
     refine WL.heavy0 rfl rfl (OpH.storeTo (A := [_, _, _, _, _]) [_, _, _, _] rfl rfl rfl ts_35 rfl rfl rfl ?_)
     refine ag ?_
     refine WL.nil (En.next (WC.ret ?_))
     refine En.ret2 rfl (Res.cell rfl mq5 ag_35) (Res.tmp rfl) ?_
     obtain rfl := Option.some.inj h
     intro w' hs
     have hs := ((((hs).pm 4).pm 4).pm 2).sub (.cons_cons _ (.cons_cons _ (.cons_cons _ (.cons _ (.cons _ (.cons _ (.cons _ (.cons _ (.slnil)))))))))
     exact ⟨_, _, rfl, ⟨a4_9, x4_9.length, c4_9, f4_9, a1_101, n1_101, c1_101, f1_101, a1_102, n1_102, c1_102, f1_102, rfl, rfl⟩, hs⟩
   ·
    refine OpH.buildSlice (evps.cons rfl (evps.nil)) (bs_33_1_0 _ _ _ _ _ _ _ _ _ _ _ _ _) ?_
    intro b4_8
    refine ⟨[_, _, _, _, _, _], rfl, ?_⟩
    refine al1 1 rfl ?_
    refine OpH.light (OpV.loadBox rfl pt_33 mq4 rfl) ?_
    refine ⟨[_, _, _, _, _, _], rfl, ?_⟩
    refine al1 9 rfl ?_
    refine OpH.wkF (fun _ h => h.pm 3) ?_
    refine OpH.wkF (fun _ h => h.pm 3) ?_
    refine OpH.wkF (fun _ h => h.pm 3) ?_
    refine OpH.wkF (fun _ h => tFlip_mk f_p0.Next fence_p2 x4_6 h) ?_
    refine OpH.wkF (fun _ h => h.pm 3) ?_
    refine OpH.wkF (fun _ h => h.pm 1) ?_
    refine OpH.push (A := tFlip) rfl rfl rfl mi_33 rfl (by decide) mq0 e4_9 ?_
    intro f4_9 a4_9 c4_9
    refine ⟨[_, _, _], rfl, ?_⟩
    refine tk 10 rfl (OpV.fieldAddr rfl fo_35_0) ?_
    refine al0 11 rfl ?_
    refine OpH.storeTo (A := [_, _]) [_, _, _, _] rfl rfl rfl ts_33 rfl rfl rfl ?_
    refine ⟨[_, _, _], rfl, ?_⟩
    refine WAE.rebase (H := []) ?_
    refine WAE.done (by kernel_rfl) ?_ _
    refine En.next (WC.sr ?_)
    refine sp (OpV.fieldAddr rfl fo_35_2) ?_
    refine sp (OpV.loadBox rfl pt_3 mq2 rfl) ?_
    refine sp (OpV.addR rfl rfl) ?_
    refine sp (OpV.fieldAddr rfl fo_35_2) ?_
    refine WL.heavy0 rfl rfl (OpH.storeTo (A := [_, _]) [_, _, _, _] rfl rfl rfl ts_3 rfl rfl rfl ?_)
    refine WL.nil (En.next (WC.seq (WC.seq ?_)))
    obtain ⟨x6_1, e6_1, h⟩ := bnd h
    refine WC.region ?_
    refine sp (OpV.loadAll rfl mq2 ag_35) ?_
    refine sp (OpV.call (ec rfl e0) ca_37 (fun w hs => w_impl_FlipsOk e6_1 (Ow.rd (hs.mem mq0)) (Ow.rd (hs.mem mq3)) (Ow.rd (hs.mem mq4)))) ?_
    refine sp (OpV.not rfl) ?_
    refine WL.nil (En.next ?_)
    refine WC.cond rfl ?_ ?_
    ·
     intro hc_4
     replace h := ifO_t hc_4 h
     refine WC.seq ?_
     obtain ⟨x7_1, e7_1, h⟩ := bnd h
     refine WC.region ?_
     refine sp (OpV.loadAll rfl mq7 ag_35) ?_
     refine WL.heavy rfl rfl rfl (OpH.callR (ec rfl e0) ca_49 (fun w hs => w_impl_copyFlips e7_1 (r0_0.ext hs.below) (r0_1.ext hs.below) (r0_2.ext hs.below)) ?_)
     rintro _ _ ⟨a7_100, n7_100, c7_100, f7_100, a7_101, n7_101, c7_101, f7_101, a7_102, n7_102, c7_102, f7_102, rfl, rfl⟩
     refine WL.heavy0 rfl rfl (OpH.storeTo (A := [_, _, _, _, _, _, _, _]) [_, _, _, _] rfl rfl rfl ts_35 rfl rfl rfl ?_)
     refine ag ?_
     refine WL.nil (En.next (WC.ret (En.then_ret ?_)))
     refine En.ret2 rfl (Res.cell rfl mq8 ag_35) (Res.tmp rfl) ?_
     obtain rfl := Option.some.inj h
     intro w' hs
     have hs := (hs).sub (.cons_cons _ (.cons_cons _ (.cons_cons _ (.cons _ (.cons _ (.cons _ (.cons _ (.cons _ (.cons _ (.cons _ (.cons _ (.slnil))))))))))))
     exact ⟨_, _, rfl, ⟨a7_100, n7_100, c7_100, f7_100, a7_101, n7_101, c7_101, f7_101, a7_102, n7_102, c7_102, f7_102, rfl, rfl⟩, hs⟩
    ·
     intro hc_4
     replace h := ifO_f hc_4 h
     refine WC.skip (En.next (WC.sr ?_))
     refine sp (OpV.loadAll rfl mq2 ag_35) ?_
     refine WL.heavy0 rfl rfl (OpH.storeTo (A := [_, _, _, _, _]) [_, _, _, _] rfl rfl rfl ts_35 rfl rfl rfl ?_)
     refine ag ?_
     refine WL.nil (En.next (WC.ret ?_))
     refine En.ret2 rfl (Res.cell rfl mq5 ag_35) (Res.tmp rfl) ?_
     obtain rfl := Option.some.inj h
     intro w' hs
     have hs := ((((hs).pm 4).pm 4).pm 2).sub (.cons_cons _ (.cons_cons _ (.cons_cons _ (.cons _ (.cons _ (.cons _ (.cons _ (.cons _ (.slnil)))))))))
     exact ⟨_, _, rfl, ⟨a4_9, x4_9.length, c4_9, f4_9, a1_101, n1_101, c1_101, f1_101, a1_102, n1_102, c1_102, f1_102, rfl, rfl⟩, hs⟩

theorem w_laws_has {list_p0 : List Int} {k_p1 : Int} {r : Bool} {q0_0 : Option Addr} {l0_0 k0_0 : Nat} (h : laws_has list_p0 k_p1 = some r) {w : World} (r0_0 : Rd tInt w q0_0 l0_0 k0_0 list_p0)   :
    Calls Tryz.prog 31 #[.slice q0_0 l0_0 k0_0, .int .i64 k_p1] w (fun en w' => en = .returned (.bool r) ∧ Ext w w') := by
 obtain rfl := r0_0.1
 unfold laws_has at h
 refine enter (vs := [_, _]) Tryz.func31 rfl rfl rfl rfl ?_
 refine WC.sr ?_
 refine ag ?_
 refine WL.nil (En.next (WC.seq (WC.sr ?_)))
 refine ag ?_
 refine WL.nil (En.next (WC.block ?_))
 obtain ⟨zy0, ezy0, h⟩ := bnd h
 refine WC.cut (X := (Unit) × (Unit)) (.exit 0) (fun x => zy0 = .inl x.1) (fun x => match x with | ((), ()) => []) (fun x => match x with | ((), ()) => []) ?_ ?_
 ·
  rintro ⟨⟨⟩, ⟨⟩⟩ hx
  replace hx : .inl () = zy0 := hx.symm
  subst hx
  replace h := fork_l h
  show En _ _ _ _ [] []
  refine En.block_exit (En.next (WC.sr ?_))
  refine ag ?_
  refine WL.nil (En.next (WC.ret ?_))
  refine En.ret1 rfl (Res.tmp rfl) ?_
  obtain rfl := Option.some.inj h
  intro w' hs
  exact ⟨rfl, hs.below⟩
 ·
  intro zK0_0
  refine WC.loopP (G := Unit) (fun s g => match s, g with | i_0, () => [(0, .slice q0_0 list_p0.length k0_0), (1, .int .i64 k_p1), (5, .int .i64 i_0)]) (fun s g => match s, g with | i_0, () => []) 0 () ezy0 (by exact sc (sc (sc sn))) (by exact (fun _ h => h)) ?_
  rintro zm0 i_0 ⟨⟩ zo0 zf0 zb0 ze0
  have zh0 : laws_has_L0 list_p0 k_p1 i_0 = some zo0 := zf0
  unfold laws_has_L0 at zh0
  show WC _ _ _ _ _ [(0, .slice q0_0 list_p0.length k0_0), (1, .int .i64 k_p1), (5, .int .i64 i_0)] []
  refine WC.seq (WC.sr ?_)
  refine mv ?_
  refine mv ?_
  refine sp (OpV.len rfl si_23 rfl) ?_
  refine sp (OpV.lss rfl rfl) ?_
  refine WL.nil (En.next ?_)
  refine WC.cond rfl ?_ ?_
  ·
   intro hc_1
   replace zh0 := ifO_t hc_1 zh0
   refine WC.skip (En.next (WC.seq (WC.block (WC.seq ?_))))
   obtain ⟨x4_2, e4_2, zh0⟩ := bnd zh0
   obtain ⟨g4_2, o4_2, _, ha4_2, rfl, hd4_2⟩ := Rd.atIdx r0_0 e4_2
   replace hd4_2 : ∀ (j : Nat) v, ([.int .i64 x4_2] : List Value)[j]? = some v → w.cell? ⟨g4_2, o4_2 + i_0.toNat * 1 + j, .none⟩ = some v := hd4_2
   refine WC.region ?_
   refine mv ?_
   refine mv ?_
   refine sp (OpV.idxA rfl rfl se_23 ha4_2 ⟨(idx_some e4_2).1, (idx_some e4_2).2.1⟩) ?_
   refine sp (OpV.load1 rfl pt_3 (fun w hs => hs.cell (hd4_2 0 _ rfl))) ?_
   refine mv ?_
   refine sp (OpV.eql rfl rfl) ?_
   refine WL.nil (En.next ?_)
   refine WC.cond rfl ?_ ?_
   ·
    intro hc_2
    replace zh0 := ifO_t hc_2 zh0
    refine WC.sr ?_
    refine ag ?_
    refine WL.nil (En.next (WC.ret (En.block_ret (En.then_ret (En.then_ret (En.block_ret (En.then_ret ?_)))))))
    refine En.ret1 rfl (Res.tmp rfl) ?_
    have hx := exitP ze0 zh0
    subst hx
    replace h := fork_r h
    obtain rfl := Option.some.inj h
    intro w' hs
    exact ⟨rfl, hs.below⟩
   ·
    intro hc_2
    replace zh0 := ifO_f hc_2 zh0
    refine WC.skip (En.block_norm (En.next (WC.region ?_)))
    refine mv ?_
    refine sp (OpV.addR rfl rfl) ?_
    refine ag ?_
    refine WL.nil ?_
    exact En.backP zb0 zh0 () (sc (sc (sc sn))) (fun _ h => h)
  ·
   intro hc_1
   replace zh0 := ifO_f hc_1 zh0
   refine WC.exit (En.then_exit (En.then_exit ?_))
   have hx := exitP ze0 zh0
   exact En.wk _ _ sn (fun _ h => h) (zK0_0 ((), ()) hx.symm)

theorem w_slices_Index_S_int_int {s_p0 : List Int} {v_p1 : Int} {r : Int} {q0_0 : Option Addr} {l0_0 k0_0 : Nat} (h : slices_Index_S_int_int s_p0 v_p1 = some r) {w : World} (r0_0 : Rd tInt w q0_0 l0_0 k0_0 s_p0)   :
    Calls Tryz.prog 119 #[.slice q0_0 l0_0 k0_0, .int .i64 v_p1] w (fun en w' => en = .returned (.int .i64 r) ∧ Ext w w') := by
 obtain rfl := r0_0.1
 unfold slices_Index_S_int_int at h
 refine enter (vs := [_, _]) Tryz.func119 rfl rfl rfl rfl ?_
 refine WC.sr ?_
 refine ag ?_
 refine WL.nil (En.next (WC.seq (WC.sr ?_)))
 refine mv ?_
 refine sp (OpV.len rfl si_23 rfl) ?_
 refine mv ?_
 refine WL.nil (En.next (WC.block ?_))
 obtain ⟨zy0, ezy0, h⟩ := bnd h
 refine WC.cut (X := (Unit) × (Unit)) (.exit 0) (fun x => zy0 = .inl x.1) (fun x => match x with | ((), ()) => []) (fun x => match x with | ((), ()) => []) ?_ ?_
 ·
  rintro ⟨⟨⟩, ⟨⟩⟩ hx
  replace hx : .inl () = zy0 := hx.symm
  subst hx
  replace h := fork_l h
  show En _ _ _ _ [] []
  refine En.block_exit (En.next (WC.sr ?_))
  refine ag ?_
  refine WL.nil (En.next (WC.ret ?_))
  refine En.ret1 rfl (Res.tmp rfl) ?_
  obtain rfl := Option.some.inj h
  intro w' hs
  exact ⟨rfl, hs.below⟩
 ·
  intro zK0_0
  refine WC.loopP (G := Unit) (fun s g => match s, g with | v_0, () => [(0, .slice q0_0 s_p0.length k0_0), (1, .int .i64 v_p1), (7, .int .i64 (s_p0.length : Int)), (8, .int .i64 v_0)]) (fun s g => match s, g with | v_0, () => []) 0 () ezy0 (by exact sc (sc (sc (sc sn)))) (by exact (fun _ h => h)) ?_
  rintro zm0 v_0 ⟨⟩ zo0 zf0 zb0 ze0
  have zh0 : slices_Index_S_int_int_L0 s_p0 v_p1 v_0 = some zo0 := zf0
  unfold slices_Index_S_int_int_L0 at zh0
  show WC _ _ _ _ _ [(0, .slice q0_0 s_p0.length k0_0), (1, .int .i64 v_p1), (7, .int .i64 (s_p0.length : Int)), (8, .int .i64 v_0)] []
  refine WC.sr ?_
  refine sp (OpV.lss rfl rfl) ?_
  refine WL.nil (En.next (WC.seq ?_))
  refine WC.cond rfl ?_ ?_
  ·
   intro hc_1
   replace zh0 := ifO_t hc_1 zh0
   refine WC.skip (En.next (WC.seq (WC.block (WC.sr ?_))))
   refine mv ?_
   refine ag ?_
   refine WL.nil (En.next (WC.seq ?_))
   obtain ⟨x4_3, e4_3, zh0⟩ := bnd zh0
   obtain ⟨g4_3, o4_3, _, ha4_3, rfl, hd4_3⟩ := Rd.atIdx r0_0 e4_3
   replace hd4_3 : ∀ (j : Nat) v, ([.int .i64 x4_3] : List Value)[j]? = some v → w.cell? ⟨g4_3, o4_3 + v_0.toNat * 1 + j, .none⟩ = some v := hd4_3
   refine WC.region ?_
   refine mv ?_
   refine mv ?_
   refine mv ?_
   refine sp (OpV.idxA rfl rfl se_23 ha4_3 ⟨(idx_some e4_3).1, (idx_some e4_3).2.1⟩) ?_
   refine sp (OpV.load1 rfl pt_3 (fun w hs => hs.cell (hd4_3 0 _ rfl))) ?_
   refine sp (OpV.eql rfl rfl) ?_
   refine WL.nil (En.next ?_)
   refine WC.cond rfl ?_ ?_
   ·
    intro hc_2
    replace zh0 := ifO_t hc_2 zh0
    refine WC.sr ?_
    refine mv ?_
    refine ag ?_
    refine WL.nil (En.next (WC.ret (En.block_ret (En.then_ret (En.then_ret (En.block_ret (En.then_ret ?_)))))))
    refine En.ret1 rfl (Res.tmp rfl) ?_
    have hx := exitP ze0 zh0
    subst hx
    replace h := fork_r h
    obtain rfl := Option.some.inj h
    intro w' hs
    exact ⟨rfl, hs.below⟩
   ·
    intro hc_2
    replace zh0 := ifO_f hc_2 zh0
    refine WC.skip (En.block_norm (En.next (WC.region ?_)))
    refine sp (OpV.addR rfl rfl) ?_
    refine mv ?_
    refine WL.nil ?_
    exact En.backP zb0 zh0 () (sc (sc (sc (sc sn)))) (fun _ h => h)
  ·
   intro hc_1
   replace zh0 := ifO_f hc_1 zh0
   refine WC.exit (En.then_exit (En.then_exit ?_))
   have hx := exitP ze0 zh0
   exact En.wk _ _ sn (fun _ h => h) (zK0_0 ((), ()) hx.symm)

theorem w_slices_Contains_S_int_int {s_p0 : List Int} {v_p1 : Int} {r : Bool} {q0_0 : Option Addr} {l0_0 k0_0 : Nat} (h : slices_Contains_S_int_int s_p0 v_p1 = some r) {w : World} (r0_0 : Rd tInt w q0_0 l0_0 k0_0 s_p0)   :
    Calls Tryz.prog 85 #[.slice q0_0 l0_0 k0_0, .int .i64 v_p1] w (fun en w' => en = .returned (.bool r) ∧ Ext w w') := by
 obtain rfl := r0_0.1
 unfold slices_Contains_S_int_int at h
 refine enter (vs := [_, _]) Tryz.func85 rfl rfl rfl rfl ?_
 refine WC.sr ?_
 refine ag ?_
 refine WL.nil (En.next (WC.seq ?_))
 obtain ⟨x1_2, e1_2, h⟩ := bnd h
 refine WC.region ?_
 refine mv ?_
 refine mv ?_
 refine sp (OpV.call (ec rfl (ec rfl e0)) ca_119 (fun w hs => w_slices_Index_S_int_int e1_2 (r0_0.ext hs.below))) ?_
 refine sp (OpV.geq rfl rfl) ?_
 refine ag ?_
 refine WL.nil (En.next (WC.ret ?_))
 refine En.ret1 rfl (Res.tmp rfl) ?_
 obtain rfl := Option.some.inj h
 intro w' hs
 exact ⟨rfl, hs.below⟩

theorem w_impl_FlipReady {f_p0 : FlipsT} {r : Bool} {q0_0 : Option Addr} {l0_0 k0_0 : Nat} {q0_1 : Option Addr} {l0_1 k0_1 : Nat} {q0_2 : Option Addr} {l0_2 k0_2 : Nat} (h : impl_FlipReady f_p0 = some r) {w : World} (r0_0 : Rd tFlip w q0_0 l0_0 k0_0 f_p0.Pending) (r0_1 : Rd tInt w q0_1 l0_1 k0_1 f_p0.Signalled) (r0_2 : Rd tInt w q0_2 l0_2 k0_2 f_p0.Events)   :
    Calls Tryz.prog 32 #[.agg #[.slice q0_0 l0_0 k0_0, .slice q0_1 l0_1 k0_1, .int .i64 f_p0.Next, .slice q0_2 l0_2 k0_2]] w (fun en w' => en = .returned (.bool r) ∧ Ext w w') := by
 obtain rfl := r0_0.1
 obtain rfl := r0_1.1
 obtain rfl := r0_2.1
 unfold impl_FlipReady at h
 refine enter (vs := [_]) Tryz.func32 rfl rfl rfl rfl ?_
 refine WC.sr ?_
 refine WL.heavy rfl rfl rfl (OpH.box rfl rfl ?_)
 intro b0_0
 refine ag ?_
 refine WL.nil (En.next (WC.seq ?_))
 obtain ⟨x1_1, e1_1, h⟩ := bnd h
 obtain ⟨q1_25, e1_25, h⟩ := bnd h
 refine WC.drawn [(2, ?r1v2)] (by kernel_rfl) (by kernel_rfl) ?dH1 ?dK1
 case dH1 =>
  intro W hW hk
  refine hW.sp (OpV.loadAll rfl mq0 ag_35) ?_
  refine hW.sp (OpV.call (ec rfl e0) ca_37 (fun w hs => w_impl_FlipsOk e1_1 (r0_0.ext hs.below) (r0_1.ext hs.below) (r0_2.ext hs.below))) ?_
  refine hW.mv ?_
  refine hW.and 5 10 9 (p := ?pz1) (rest := ?qz1) (B := ?Bz1) rfl ?Tz1 ?Fz1 ?az1 ?bz1 ?cz1 ?dz1 ?ez1
  case Tz1 =>
   intro hcz1 hkz1
   refine hW.sp (OpV.fieldAddr rfl fo_35_0) ?_
   refine hW.sp (OpV.loadBox rfl pt_33 mq0 rfl) ?_
   refine hW.sp (OpV.len rfl si_33 rfl) ?_
   refine hW.sp (OpV.gtr rfl rfl) ?_
   refine hkz1 _ ?_ ?_
   exact rfl
   repeat (first | exact Sub.refl _ | refine Sub.skip rfl ?_)
  case Fz1 =>
   intro hcz1 hkz1
   refine hW.sk ?_
   refine hW.sk ?_
   refine hW.sk ?_
   refine hW.sk ?_
   refine hkz1 _ ?_
   repeat (first | exact Sub.refl _ | refine Sub.skip rfl ?_)
  case az1 => exact rfl
  case bz1 => exact rfl
  case cz1 => exact rfl
  case dz1 => exact rfl
  refine hW.mv ?_
  refine hW.andQ 11 28 27 (p := ?pz2) (rest := ?qz2) (B := q1_25) rfl (fun hz => andO_f e1_25 hz) ?Tz2 ?Fz2 ?az2 ?bz2 ?cz2 ?dz2 ?ez2
  case Tz2 =>
   intro hcz2 hkz2
   have hqz2 := andO_t e1_25 hcz2
   obtain ⟨x1_11, e1_11, hqz2⟩ := bnd hqz2
   obtain ⟨g1_11, o1_11, _, ha1_11, ⟨a1_11_1, c1_11_1, a1_11_2, c1_11_2, a1_11_3, c1_11_3, rfl, r1_11_1, r1_11_2, r1_11_3⟩, hd1_11⟩ := Rd.atIdx r0_0 e1_11
   replace hd1_11 : ∀ (j : Nat) v, ([.int .i64 x1_11.Seq, .int .i64 x1_11.Fence, .int .i64 x1_11.State.W, .int .i64 x1_11.State.H, .slice a1_11_1 x1_11.State.Planes.length c1_11_1, .slice a1_11_2 x1_11.State.Color.Matrix.length c1_11_2, .slice a1_11_3 x1_11.State.Color.Curve.length c1_11_3] : List Value)[j]? = some v → w.cell? ⟨g1_11, o1_11 + (Int.toNat 0) * 7 + j, .none⟩ = some v := hd1_11
   obtain ⟨q1_24, e1_24, hqz2⟩ := bnd hqz2
   obtain rfl := Option.some.inj hqz2
   refine hW.sp (OpV.fieldAddr rfl fo_35_0) ?_
   refine hW.sp (OpV.loadBox rfl pt_33 mq0 rfl) ?_
   refine hW.sp (OpV.idxA rfl rfl se_33 ha1_11 ⟨(idx_some e1_11).1, (idx_some e1_11).2.1⟩) ?_
   refine hW.sp (OpV.fieldAddr rfl fo_79_1) ?_
   refine hW.sp (OpV.load1 rfl pt_3 (fun w hs => hs.cell (hd1_11 1 _ rfl))) ?_
   refine hW.sp (OpV.eql rfl rfl) ?_
   refine hW.mv ?_
   refine hW.orQ 18 27 26 (p := ?pz3) (rest := ?qz3) (B := q1_24) rfl (fun hz => orO_t e1_24 hz) ?Tz3 ?Fz3 ?az3 ?bz3 ?cz3 ?dz3 ?ez3
   case Tz3 =>
    intro hcz3 hkz3
    refine hW.sk ?_
    refine hW.sk ?_
    refine hW.sk ?_
    refine hW.sk ?_
    refine hW.sk ?_
    refine hW.sk ?_
    refine hW.sk ?_
    refine hW.sk ?_
    refine hkz3 _ ?_
    repeat (first | exact Sub.refl _ | refine Sub.skip rfl ?_)
   case Fz3 =>
    intro hcz3 hkz3
    have hqz3 := orO_f e1_24 hcz3
    obtain ⟨x1_20, e1_20, hqz3⟩ := bnd hqz3
    obtain ⟨g1_20, o1_20, _, ha1_20, ⟨a1_20_1, c1_20_1, a1_20_2, c1_20_2, a1_20_3, c1_20_3, rfl, r1_20_1, r1_20_2, r1_20_3⟩, hd1_20⟩ := Rd.atIdx r0_0 e1_20
    replace hd1_20 : ∀ (j : Nat) v, ([.int .i64 x1_20.Seq, .int .i64 x1_20.Fence, .int .i64 x1_20.State.W, .int .i64 x1_20.State.H, .slice a1_20_1 x1_20.State.Planes.length c1_20_1, .slice a1_20_2 x1_20.State.Color.Matrix.length c1_20_2, .slice a1_20_3 x1_20.State.Color.Curve.length c1_20_3] : List Value)[j]? = some v → w.cell? ⟨g1_20, o1_20 + (Int.toNat 0) * 7 + j, .none⟩ = some v := hd1_20
    obtain ⟨x1_23, e1_23, hqz3⟩ := bnd hqz3
    obtain rfl := Option.some.inj hqz3
    refine hW.sp (OpV.fieldAddr rfl fo_35_1) ?_
    refine hW.sp (OpV.loadBox rfl pt_23 mq0 rfl) ?_
    refine hW.sp (OpV.fieldAddr rfl fo_35_0) ?_
    refine hW.sp (OpV.loadBox rfl pt_33 mq0 rfl) ?_
    refine hW.sp (OpV.idxA rfl rfl se_33 ha1_20 ⟨(idx_some e1_20).1, (idx_some e1_20).2.1⟩) ?_
    refine hW.sp (OpV.fieldAddr rfl fo_79_1) ?_
    refine hW.sp (OpV.load1 rfl pt_3 (fun w hs => hs.cell (hd1_20 1 _ rfl))) ?_
    refine hW.sp (OpV.call (ec rfl (ec rfl e0)) ca_85 (fun w hs => w_slices_Contains_S_int_int e1_23 (r0_1.ext hs.below))) ?_
    refine hkz3 _ ?_ ?_
    exact rfl
    repeat (first | exact Sub.refl _ | refine Sub.skip rfl ?_)
   case az3 => exact rfl
   case bz3 => exact rfl
   case cz3 => exact rfl
   case dz3 => exact rfl
   refine hkz2 _ ?_ ?_
   exact rfl
   repeat (first | exact Sub.refl _ | refine Sub.skip rfl ?_)
  case Fz2 =>
   intro hcz2 hkz2
   refine hW.sk ?_
   refine hW.sk ?_
   refine hW.sk ?_
   refine hW.sk ?_
   refine hW.sk ?_
   refine hW.sk ?_
   refine hW.sk ?_
   refine hW.sk ?_
   refine hW.sk ?_
   refine hW.sk ?_
   refine hW.sk ?_
   refine hW.sk ?_
   refine hW.sk ?_
   refine hW.sk ?_
   refine hW.sk ?_
   refine hW.sk ?_
   refine hkz2 _ ?_
   repeat (first | exact Sub.refl _ | refine Sub.skip rfl ?_)
  case az2 => exact rfl
  case bz2 => exact rfl
  case cz2 => exact rfl
  case dz2 => exact rfl
  refine hW.sp (OpV.assign rfl) ?_
  refine hk _ ?_
  refine Sub.cons ?_ sn
  all_goals exact rfl
 refine En.next (WC.ret ?_)
 refine En.ret1 rfl (Res.tmp rfl) ?_
 obtain rfl := Option.some.inj h
 intro w' hs
 exact ⟨rfl, hs.below⟩

theorem w_impl_TakeFlip {f_p0 : FlipsT} {c_p1 : CrtcT} {r : FlipsT × CrtcT × Bool} {q0_0 : Option Addr} {l0_0 k0_0 : Nat} {q0_1 : Option Addr} {l0_1 k0_1 : Nat} {q0_2 : Option Addr} {l0_2 k0_2 : Nat} {q1_0 : Option Addr} {l1_0 k1_0 : Nat} {q1_1 : Option Addr} {l1_1 k1_1 : Nat} {q1_2 : Option Addr} {l1_2 k1_2 : Nat} (h : impl_TakeFlip f_p0 c_p1 = some r) {w : World} (r0_0 : Rd tFlip w q0_0 l0_0 k0_0 f_p0.Pending) (r0_1 : Rd tInt w q0_1 l0_1 k0_1 f_p0.Signalled) (r0_2 : Rd tInt w q0_2 l0_2 k0_2 f_p0.Events) (r1_0 : Rd tPlane w q1_0 l1_0 k1_0 c_p1.Planes) (r1_1 : Rd tInt w q1_1 l1_1 k1_1 c_p1.Color.Matrix) (r1_2 : Rd tInt w q1_2 l1_2 k1_2 c_p1.Color.Curve)   :
    Calls Tryz.prog 12 #[.agg #[.slice q0_0 l0_0 k0_0, .slice q0_1 l0_1 k0_1, .int .i64 f_p0.Next, .slice q0_2 l0_2 k0_2], .agg #[.int .i64 c_p1.W, .int .i64 c_p1.H, .slice q1_0 l1_0 k1_0, .slice q1_1 l1_1 k1_1, .slice q1_2 l1_2 k1_2]] w (fun en w' => ∃ rv G, en = .returned rv ∧ (∃ (a0_0 : Option Addr) (n0_0 : Nat) (c0_0 : Nat) (f0_0 : List Nat) (a0_1 : Option Addr) (n0_1 : Nat) (c0_1 : Nat) (f0_1 : List Nat) (a0_2 : Option Addr) (n0_2 : Nat) (c0_2 : Nat) (f0_2 : List Nat) (a1_0 : Option Addr) (n1_0 : Nat) (c1_0 : Nat) (f1_0 : List Nat) (a1_1 : Option Addr) (n1_1 : Nat) (c1_1 : Nat) (f1_1 : List Nat) (a1_2 : Option Addr) (n1_2 : Nat) (c1_2 : Nat) (f1_2 : List Nat), rv = .tuple #[.agg #[.slice a0_0 n0_0 c0_0, .slice a0_1 n0_1 c0_1, .int .i64 r.1.Next, .slice a0_2 n0_2 c0_2], .agg #[.int .i64 r.2.1.W, .int .i64 r.2.1.H, .slice a1_0 n1_0 c1_0, .slice a1_1 n1_1 c1_1, .slice a1_2 n1_2 c1_2], .bool r.2.2] ∧ G = [Chunk.own tFlip f0_0 a0_0 n0_0 c0_0 r.1.Pending, Chunk.own tInt f0_1 a0_1 n0_1 c0_1 r.1.Signalled, Chunk.own tInt f0_2 a0_2 n0_2 c0_2 r.1.Events, Chunk.own tPlane f1_0 a1_0 n1_0 c1_0 r.2.1.Planes, Chunk.own tInt f1_1 a1_1 n1_1 c1_1 r.2.1.Color.Matrix, Chunk.own tInt f1_2 a1_2 n1_2 c1_2 r.2.1.Color.Curve]) ∧ St w G w') := by
 obtain rfl := r0_0.1
 obtain rfl := r0_1.1
 obtain rfl := r0_2.1
 obtain rfl := r1_0.1
 obtain rfl := r1_1.1
 obtain rfl := r1_2.1
 unfold impl_TakeFlip at h
 refine enter (vs := [_, _]) Tryz.func12 rfl rfl rfl rfl ?_
 refine WC.sr ?_
 refine WL.heavy rfl rfl rfl (OpH.box rfl rfl ?_)
 intro b0_0
 refine WL.heavy rfl rfl rfl (OpH.box rfl rfl ?_)
 intro b0_1
 refine WL.heavy rfl rfl rfl (OpH.alloc zc_35 ?_)
 intro b0_2
 refine WL.heavy rfl rfl rfl (OpH.alloc zc_39 ?_)
 intro b0_3
 refine ag ?_
 refine WL.nil (En.next (WC.seq ?_))
 obtain ⟨x1_1, e1_1, h⟩ := bnd h
 refine WC.region ?_
 refine sp (OpV.loadAll rfl mq3 ag_35) ?_
 refine WL.heavy rfl rfl rfl (OpH.callR (ec rfl e0) ca_49 (fun w hs => w_impl_copyFlips e1_1 (r0_0.ext hs.below) (r0_1.ext hs.below) (r0_2.ext hs.below)) ?_)
 rintro _ _ ⟨a1_100, n1_100, c1_100, f1_100, a1_101, n1_101, c1_101, f1_101, a1_102, n1_102, c1_102, f1_102, rfl, rfl⟩
 refine WL.heavy rfl rfl rfl (OpH.alloc zc_35 ?_)
 intro b1_2
 refine WL.heavy0 rfl rfl (OpH.storeTo (A := []) [_, _, _, _] rfl rfl rfl ts_35 rfl rfl rfl ?_)
 refine WL.nil (En.next (WC.seq (WC.seq ?_)))
 obtain ⟨x2_1, e2_1, h⟩ := bnd h
 refine WC.region ?_
 refine sp (OpV.loadAll rfl mq7 ag_35) ?_
 refine sp (OpV.call (ec rfl e0) ca_32 (fun w hs => w_impl_FlipReady e2_1 (r0_0.ext hs.below) (r0_1.ext hs.below) (r0_2.ext hs.below))) ?_
 refine sp (OpV.not rfl) ?_
 refine WL.nil (En.next ?_)
 refine WC.cond rfl ?_ ?_
 ·
  intro hc_1
  replace h := ifO_t hc_1 h
  refine WC.seq ?_
  obtain ⟨x3_2, e3_2, h⟩ := bnd h
  refine WC.wkF (fun _ h => h.pm 5) ?_
  refine WC.wkF (fun _ h => h.pm 5) ?_
  refine WC.drawnH [_, _] ([_, _, _, _, _, _]) (fun _ h => h) (by kernel_rfl) ?_
  refine tk 0 rfl (OpV.loadAll rfl mq0 ag_35) ?_
  refine tk 1 rfl (OpV.loadAll rfl mq4 ag_39) ?_
  refine al1 2 rfl ?_
  refine OpH.callR (ec rfl e0) ca_50 (fun w hs => w_impl_copyCrtc e3_2 (r1_0.ext hs.below) (r1_1.ext hs.below) (r1_2.ext hs.below)) ?_
  rintro _ _ ⟨a3_200, n3_200, c3_200, f3_200, a3_201, n3_201, c3_201, f3_201, a3_202, n3_202, c3_202, f3_202, rfl, rfl⟩
  refine ⟨[_, _, _, _, _], rfl, ?_⟩
  refine al0 3 rfl ?_
  refine OpH.storeTo (A := [_, _, _, _]) [_, _, _, _] rfl rfl rfl ts_35 rfl rfl rfl ?_
  refine ⟨[_, _, _, _, _], rfl, ?_⟩
  refine al0 4 rfl ?_
  refine OpH.storeTo (A := [_, _, _]) [_, _, _, _, _] rfl rfl rfl ts_39 rfl rfl rfl ?_
  refine ⟨[_, _, _, _, _], rfl, ?_⟩
  refine WAE.rebase (H := []) ?_
  refine tk 5 rfl (OpV.assign rfl) ?_
  refine WAE.done (by kernel_rfl) ?_ _
  refine En.next (WC.ret (En.then_ret ?_))
  refine En.ret3 rfl (Res.cell rfl mq4 ag_35) (Res.cell rfl mq3 ag_39) (Res.tmp rfl) ?_
  obtain rfl := Option.some.inj h
  intro w' hs
  have hs := (((((((hs).pm 2).pm 2).pm 2).pm 8).pm 8).pm 8).sub (.cons_cons _ (.cons_cons _ (.cons_cons _ (.cons_cons _ (.cons_cons _ (.cons_cons _ (.cons _ (.cons _ (.cons _ (.cons _ (.cons _ (.slnil))))))))))))
  exact ⟨_, _, rfl, ⟨a1_100, n1_100, c1_100, f1_100, a1_101, n1_101, c1_101, f1_101, a1_102, n1_102, c1_102, f1_102, a3_200, n3_200, c3_200, f3_200, a3_201, n3_201, c3_201, f3_201, a3_202, n3_202, c3_202, f3_202, rfl, rfl⟩, hs⟩
 ·
  intro hc_1
  replace h := ifO_f hc_1 h
  refine WC.skip (En.next (WC.seq ?_))
  refine WC.inh fun hin4 => ?_
  obtain ⟨x4_2, e4_2, h⟩ := bnd h
  obtain ⟨g4_2, o4_2, ha4_2⟩ := ownAddr hin4 mq1 e4_2
  have hn4_2 := ownLen hin4 mq1
  refine WC.region ?_
  refine sp (OpV.fieldAddr rfl fo_35_0) ?_
  refine sp (OpV.loadBox rfl pt_33 mq0 rfl) ?_
  refine sp (OpV.idxA rfl rfl se_33 ha4_2 ⟨(idx_some e4_2).1, by rw [hn4_2]; exact (idx_some e4_2).2.1⟩) ?_
  refine WL.exF (fun w h => St.focus (F := [_]) e4_2 h) ?_
  rintro ⟨css4_2, fps4_2, cs4_2, fz4_2⟩ ⟨hcs4_2, hk4_2⟩
  refine WL.exF (X := (Option Addr) × Nat × (List Nat) × (Option Addr) × Nat × (List Nat) × (Option Addr) × Nat × (List Nat)) (Pre := fun x => match x with | (a4_2_0, c4_2_0, f4_2_0, a4_2_1, c4_2_1, f4_2_1, a4_2_2, c4_2_2, f4_2_2) => cs4_2 = [.int .i64 x4_2.Seq, .int .i64 x4_2.Fence, .int .i64 x4_2.State.W, .int .i64 x4_2.State.H, .slice a4_2_0 x4_2.State.Planes.length c4_2_0, .slice a4_2_1 x4_2.State.Color.Matrix.length c4_2_1, .slice a4_2_2 x4_2.State.Color.Curve.length c4_2_2]) (F' := fun x => match x with | (a4_2_0, c4_2_0, f4_2_0, a4_2_1, c4_2_1, f4_2_1, a4_2_2, c4_2_2, f4_2_2) => [Chunk.box b1_2 35 [.slice a1_100 n1_100 c1_100, .slice a1_101 n1_101 c1_101, .int .i64 x1_1.Next, .slice a1_102 n1_102 c1_102], Chunk.own tPlane f4_2_0 a4_2_0 x4_2.State.Planes.length c4_2_0 x4_2.State.Planes, Chunk.own tInt f4_2_1 a4_2_1 x4_2.State.Color.Matrix.length c4_2_1 x4_2.State.Color.Matrix, Chunk.own tInt f4_2_2 a4_2_2 x4_2.State.Color.Curve.length c4_2_2 x4_2.State.Color.Curve, Chunk.row tFlip.T tFlip.k a1_100 x1_1.Pending.length c1_100 css4_2.flatten, Chunk.inX tFlip css4_2 fps4_2 x1_1.Pending (Int.toNat 0), Chunk.own tInt f1_101 a1_101 n1_101 c1_101 x1_1.Signalled, Chunk.own tInt f1_102 a1_102 n1_102 c1_102 x1_1.Events, Chunk.box b0_3 39 [.int .i64 0, .int .i64 0, .slice .none 0 0, .slice .none 0 0, .slice .none 0 0], Chunk.box b0_2 35 [.slice .none 0 0, .slice .none 0 0, .int .i64 0, .slice .none 0 0], Chunk.box b0_1 39 [.int .i64 c_p1.W, .int .i64 c_p1.H, .slice q1_0 c_p1.Planes.length k1_0, .slice q1_1 c_p1.Color.Matrix.length k1_1, .slice q1_2 c_p1.Color.Curve.length k1_2], Chunk.box b0_0 35 [.slice q0_0 f_p0.Pending.length k0_0, .slice q0_1 f_p0.Signalled.length k0_1, .int .i64 f_p0.Next, .slice q0_2 f_p0.Events.length k0_2]]) (fun w h => let ⟨a4_2_0, c4_2_0, f4_2_0, a4_2_1, c4_2_1, f4_2_1, a4_2_2, c4_2_2, f4_2_2, e, hs⟩ := tFlip_open (F := [_]) h; ⟨(a4_2_0, c4_2_0, f4_2_0, a4_2_1, c4_2_1, f4_2_1, a4_2_2, c4_2_2, f4_2_2), e, hs⟩) ?_
  rintro ⟨a4_2_0, c4_2_0, f4_2_0, a4_2_1, c4_2_1, f4_2_1, a4_2_2, c4_2_2, f4_2_2⟩ hz4_2
  replace hz4_2 : cs4_2 = [.int .i64 x4_2.Seq, .int .i64 x4_2.Fence, .int .i64 x4_2.State.W, .int .i64 x4_2.State.H, .slice a4_2_0 x4_2.State.Planes.length c4_2_0, .slice a4_2_1 x4_2.State.Color.Matrix.length c4_2_1, .slice a4_2_2 x4_2.State.Color.Curve.length c4_2_2] := hz4_2
  subst hz4_2
  show WL _ _ _ _ _ _ _ [Chunk.box b1_2 35 [.slice a1_100 n1_100 c1_100, .slice a1_101 n1_101 c1_101, .int .i64 x1_1.Next, .slice a1_102 n1_102 c1_102], Chunk.own tPlane f4_2_0 a4_2_0 x4_2.State.Planes.length c4_2_0 x4_2.State.Planes, Chunk.own tInt f4_2_1 a4_2_1 x4_2.State.Color.Matrix.length c4_2_1 x4_2.State.Color.Matrix, Chunk.own tInt f4_2_2 a4_2_2 x4_2.State.Color.Curve.length c4_2_2 x4_2.State.Color.Curve, Chunk.row tFlip.T tFlip.k a1_100 x1_1.Pending.length c1_100 css4_2.flatten, Chunk.inX tFlip css4_2 fps4_2 x1_1.Pending (Int.toNat 0), Chunk.own tInt f1_101 a1_101 n1_101 c1_101 x1_1.Signalled, Chunk.own tInt f1_102 a1_102 n1_102 c1_102 x1_1.Events, Chunk.box b0_3 39 [.int .i64 0, .int .i64 0, .slice .none 0 0, .slice .none 0 0, .slice .none 0 0], Chunk.box b0_2 35 [.slice .none 0 0, .slice .none 0 0, .int .i64 0, .slice .none 0 0], Chunk.box b0_1 39 [.int .i64 c_p1.W, .int .i64 c_p1.H, .slice q1_0 c_p1.Planes.length k1_0, .slice q1_1 c_p1.Color.Matrix.length k1_1, .slice q1_2 c_p1.Color.Curve.length k1_2], Chunk.box b0_0 35 [.slice q0_0 f_p0.Pending.length k0_0, .slice q0_1 f_p0.Signalled.length k0_1, .int .i64 f_p0.Next, .slice q0_2 f_p0.Events.length k0_2]]
  refine sp (OpV.loadN (l := [.int .i64 x4_2.Seq, .int .i64 x4_2.Fence, .int .i64 x4_2.State.W, .int .i64 x4_2.State.H, .slice a4_2_0 x4_2.State.Planes.length c4_2_0, .slice a4_2_1 x4_2.State.Color.Matrix.length c4_2_1, .slice a4_2_2 x4_2.State.Color.Curve.length c4_2_2]) rfl ag_79 rfl (fun w hs j v hj => by rw [Addr.add_lit]; exact focCell (hs.mem mq4) hk4_2 hcs4_2 ha4_2 hj)) ?_
  refine WL.heavy rfl rfl rfl (OpH.alloc zc_79 ?_)
  intro b4_4
  refine WL.heavy0 rfl rfl (OpH.storeTo (A := []) [_, _, _, _, _, _, _] rfl rfl rfl ts_79 rfl rfl rfl ?_)
  refine WL.nil (En.next (WC.seq ?_))
  obtain ⟨x5_2, e5_2, h⟩ := bnd h
  refine WC.region ?_
  refine sp (OpV.fieldAddr rfl fo_35_0) ?_
  refine sp (OpV.loadBox rfl pt_33 mq1 rfl) ?_
  refine WL.wkF (fun _ h => h.pm 6) ?_
  refine WL.wkF (fun _ h => h.pm 6) ?_
  refine sp (OpV.subL hn4_2 rfl rfl se_33 e5_2) ?_
  refine WL.exF (fun w h => St.ownTailX (F := []) hk4_2 (by decide) e5_2 h) ?_
  rintro f5_2 _
  refine sp (OpV.fieldAddr rfl fo_35_0) ?_
  refine WL.heavy0 rfl rfl (OpH.storeTo (A := [_, _]) [_, _, _, _] rfl rfl rfl ts_33 rfl rfl rfl ?_)
  refine WL.nil (En.next (WC.seq ?_))
  obtain ⟨x6_5, e6_5, h⟩ := bnd h
  refine WC.region ?_
  refine sp (OpV.fieldAddr rfl fo_35_3) ?_
  refine sp (OpV.loadBox rfl pt_23 mq2 rfl) ?_
  refine sp (OpV.fieldAddr rfl fo_79_0) ?_
  refine sp (OpV.loadBox rfl pt_3 mq1 rfl) ?_
  refine WL.heavy rfl rfl rfl (OpH.litF (A := tInt) (xs := [x4_2.Seq]) tInt_flat (evps.cons rfl (evps.nil)) (bs_23_1_0 _) rfl rfl (Nat.le_of_ble_eq_true rfl) ?_)
  intro b6_4
  refine WL.heavy rfl rfl rfl (OpH.appS (F := [_, _, _, _, _, _, _, _]) (A := tInt) tInt_flat rfl rfl rfl mi_23 rfl (by decide) (fun w hs => (Ow.rd (hs.mem mq0))) e6_5 ?_)
  intro f6_5 a6_5 c6_5
  refine sp (OpV.fieldAddr rfl fo_35_3) ?_
  refine WL.heavy0 rfl rfl (OpH.storeTo (A := [_, _, _]) [_, _, _, _] rfl rfl rfl ts_23 rfl rfl rfl ?_)
  refine WL.nil (En.next (WC.seq ?_))
  refine WC.wkF (fun _ h => h.pm 10) ?_
  refine WC.wkF (fun _ h => h.pm 10) ?_
  refine WC.drawnH [_, _] ([_, _, _, _, _, _, _, _, _, _, _]) (fun _ h => h) (by kernel_rfl) ?_
  refine tk 0 rfl (OpV.loadAll rfl mq3 ag_35) ?_
  refine tk 1 rfl (OpV.fieldAddr rfl fo_79_2) ?_
  refine tk 2 rfl (OpV.loadPart rfl mq2 ag_39 rfl rfl) ?_
  refine al0 3 rfl ?_
  refine OpH.storeTo (A := [_]) [_, _, _, _] rfl rfl rfl ts_35 rfl rfl rfl ?_
  refine ⟨[_, _], rfl, ?_⟩
  refine al0 4 rfl ?_
  refine OpH.storeTo (A := []) [_, _, _, _, _] rfl rfl rfl ts_39 rfl rfl rfl ?_
  refine ⟨[_, _], rfl, ?_⟩
  refine WAE.rebase (H := []) ?_
  refine tk 5 rfl (OpV.assign rfl) ?_
  refine WAE.done (by kernel_rfl) ?_ _
  refine En.next (WC.ret ?_)
  refine En.ret3 rfl (Res.cell rfl mq1 ag_35) (Res.cell rfl mq0 ag_39) (Res.tmp rfl) ?_
  obtain rfl := Option.some.inj h
  intro w' hs
  have hs := (((((((hs).pm 8).pm 8).pm 8).pm 10).pm 10).pm 8).sub (.cons_cons _ (.cons_cons _ (.cons_cons _ (.cons_cons _ (.cons_cons _ (.cons_cons _ (.cons _ (.cons _ (.cons _ (.cons _ (.cons _ (.cons _ (.cons _ (.slnil))))))))))))))
  exact ⟨_, _, rfl, ⟨(subA a1_100 c1_100 (Int.toNat 1) 7), x5_2.length, (c1_100 - (Int.toNat 1)), f5_2, a1_101, n1_101, c1_101, f1_101, a6_5, x6_5.length, c6_5, f6_5, a4_2_0, x4_2.State.Planes.length, c4_2_0, f4_2_0, a4_2_1, x4_2.State.Color.Matrix.length, c4_2_1, f4_2_1, a4_2_2, x4_2.State.Color.Curve.length, c4_2_2, f4_2_2, rfl, rfl⟩, hs⟩

theorem w_spec_l05At {i_p0 : ImageT} {x_p1 : Int} {y_p2 : Int} {r : Int} {q0_0 : Option Addr} {l0_0 k0_0 : Nat} (h : spec_l05At i_p0 x_p1 y_p2 = some r) {w : World} (r0_0 : Rd tInt w q0_0 l0_0 k0_0 i_p0.Data)   :
    Calls Tryz.prog 87 #[.agg #[.int .i64 i_p0.W, .int .i64 i_p0.H, .slice q0_0 l0_0 k0_0], .int .i64 x_p1, .int .i64 y_p2] w (fun en w' => en = .returned (.int .i64 r) ∧ Ext w w') := by
 obtain rfl := r0_0.1
 unfold spec_l05At at h
 refine enter (vs := [_, _, _]) Tryz.func87 rfl rfl rfl rfl ?_
 refine WC.sr ?_
 refine WL.heavy rfl rfl rfl (OpH.box rfl rfl ?_)
 intro b0_0
 refine ag ?_
 refine WL.nil (En.next (WC.seq (WC.sr ?_)))
 refine mv ?_
 refine sp (OpV.lss rfl rfl) ?_
 refine mv ?_
 refine Lt.ofWL.or 9 14 13 (p := ?pz1) (rest := ?qz1) (B := ?Bz1) rfl ?Tz1 ?Fz1 ?az1 ?bz1 ?cz1 ?dz1 ?ez1
 case Tz1 =>
  intro hcz1 hkz1
  refine sk ?_
  refine sk ?_
  refine sk ?_
  refine sk ?_
  refine hkz1 _ ?_
  repeat (first | exact Sub.refl _ | refine Sub.skip rfl ?_)
 case Fz1 =>
  intro hcz1 hkz1
  refine mv ?_
  refine sp (OpV.fieldAddr rfl fo_107_0) ?_
  refine sp (OpV.loadBox rfl pt_3 mq0 rfl) ?_
  refine sp (OpV.geq rfl rfl) ?_
  refine hkz1 _ ?_ ?_
  exact rfl
  repeat (first | exact Sub.refl _ | refine Sub.skip rfl ?_)
 case az1 => exact rfl
 case bz1 => exact rfl
 case cz1 => exact rfl
 case dz1 => exact rfl
 refine mv ?_
 refine Lt.ofWL.or 15 18 17 (p := ?pz2) (rest := ?qz2) (B := ?Bz2) rfl ?Tz2 ?Fz2 ?az2 ?bz2 ?cz2 ?dz2 ?ez2
 case Tz2 =>
  intro hcz2 hkz2
  refine sk ?_
  refine sk ?_
  refine hkz2 _ ?_
  repeat (first | exact Sub.refl _ | refine Sub.skip rfl ?_)
 case Fz2 =>
  intro hcz2 hkz2
  refine mv ?_
  refine sp (OpV.lss rfl rfl) ?_
  refine hkz2 _ ?_ ?_
  exact rfl
  repeat (first | exact Sub.refl _ | refine Sub.skip rfl ?_)
 case az2 => exact rfl
 case bz2 => exact rfl
 case cz2 => exact rfl
 case dz2 => exact rfl
 refine mv ?_
 refine Lt.ofWL.or 19 24 23 (p := ?pz3) (rest := ?qz3) (B := ?Bz3) rfl ?Tz3 ?Fz3 ?az3 ?bz3 ?cz3 ?dz3 ?ez3
 case Tz3 =>
  intro hcz3 hkz3
  refine sk ?_
  refine sk ?_
  refine sk ?_
  refine sk ?_
  refine hkz3 _ ?_
  repeat (first | exact Sub.refl _ | refine Sub.skip rfl ?_)
 case Fz3 =>
  intro hcz3 hkz3
  refine mv ?_
  refine sp (OpV.fieldAddr rfl fo_107_1) ?_
  refine sp (OpV.loadBox rfl pt_3 mq0 rfl) ?_
  refine sp (OpV.geq rfl rfl) ?_
  refine hkz3 _ ?_ ?_
  exact rfl
  repeat (first | exact Sub.refl _ | refine Sub.skip rfl ?_)
 case az3 => exact rfl
 case bz3 => exact rfl
 case cz3 => exact rfl
 case dz3 => exact rfl
 refine WL.nil (En.next ?_)
 refine WC.cond rfl ?_ ?_
 ·
  intro hc_1
  replace h := ifO_t hc_1 h
  refine WC.sr ?_
  refine ag ?_
  refine WL.nil (En.next (WC.ret (En.then_ret ?_)))
  refine En.ret1 rfl (Res.tmp rfl) ?_
  obtain rfl := Option.some.inj h
  intro w' hs
  exact ⟨rfl, hs.below⟩
 ·
  intro hc_1
  replace h := ifO_f hc_1 h
  refine WC.skip (En.next (WC.seq ?_))
  obtain ⟨x3_8, e3_8, h⟩ := bnd h
  obtain ⟨g3_8, o3_8, _, ha3_8, rfl, hd3_8⟩ := Rd.atIdx r0_0 e3_8
  replace hd3_8 : ∀ (j : Nat) v, ([.int .i64 x3_8] : List Value)[j]? = some v → w.cell? ⟨g3_8, o3_8 + (wr ((wr (y_p2 * i_p0.W)) + x_p1)).toNat * 1 + j, .none⟩ = some v := hd3_8
  refine WC.region ?_
  refine sp (OpV.fieldAddr rfl fo_107_2) ?_
  refine sp (OpV.loadBox rfl pt_23 mq0 rfl) ?_
  refine mv ?_
  refine sp (OpV.fieldAddr rfl fo_107_0) ?_
  refine sp (OpV.loadBox rfl pt_3 mq0 rfl) ?_
  refine sp (OpV.mulR rfl rfl) ?_
  refine mv ?_
  refine sp (OpV.addR rfl rfl) ?_
  refine sp (OpV.idxA rfl rfl se_23 ha3_8 ⟨(idx_some e3_8).1, (idx_some e3_8).2.1⟩) ?_
  refine sp (OpV.load1 rfl pt_3 (fun w hs => hs.cell (hd3_8 0 _ rfl))) ?_
  refine ag ?_
  refine WL.nil (En.next (WC.ret ?_))
  refine En.ret1 rfl (Res.tmp rfl) ?_
  obtain rfl := Option.some.inj h
  intro w' hs
  exact ⟨rfl, hs.below⟩

theorem w_spec_Over {top_p0 : Int} {bottom_p1 : Int} {r : Int}  (h : spec_Over top_p0 bottom_p1 = some r) {w : World}    :
    Calls Tryz.prog 122 #[.int .i64 top_p0, .int .i64 bottom_p1] w (fun en w' => en = .returned (.int .i64 r) ∧ Ext w w') := by
 unfold spec_Over at h
 refine enter (vs := [_, _]) Tryz.func122 rfl rfl rfl rfl ?_
 refine WC.sr ?_
 refine ag ?_
 refine WL.nil (En.next (WC.seq (WC.seq ?_)))
 obtain ⟨x1_1, e1_1, h⟩ := bnd h
 obtain ⟨q1_7, e1_7, h⟩ := bnd h
 refine WC.region ?_
 refine mv ?_
 refine sp (OpV.call (ec rfl e0) ca_118 (fun w hs => w_spec_l04Pixel e1_1)) ?_
 refine sp (OpV.not rfl) ?_
 refine mv ?_
 refine Lt.ofWL.orQ 11 15 14 (p := ?pz1) (rest := ?qz1) (B := q1_7) rfl (fun hz => orO_t e1_7 hz) ?Tz1 ?Fz1 ?az1 ?bz1 ?cz1 ?dz1 ?ez1
 case Tz1 =>
  intro hcz1 hkz1
  refine sk ?_
  refine sk ?_
  refine sk ?_
  refine hkz1 _ ?_
  repeat (first | exact Sub.refl _ | refine Sub.skip rfl ?_)
 case Fz1 =>
  intro hcz1 hkz1
  have hqz1 := orO_f e1_7 hcz1
  obtain ⟨x1_5, e1_5, hqz1⟩ := bnd hqz1
  obtain rfl := Option.some.inj hqz1
  refine mv ?_
  refine sp (OpV.call (ec rfl e0) ca_118 (fun w hs => w_spec_l04Pixel e1_5)) ?_
  refine sp (OpV.not rfl) ?_
  refine hkz1 _ ?_ ?_
  exact rfl
  repeat (first | exact Sub.refl _ | refine Sub.skip rfl ?_)
 case az1 => exact rfl
 case bz1 => exact rfl
 case cz1 => exact rfl
 case dz1 => exact rfl
 refine WL.nil (En.next ?_)
 refine WC.cond rfl ?_ ?_
 ·
  intro hc_1
  replace h := ifO_t hc_1 h
  refine WC.sr ?_
  refine ag ?_
  refine WL.nil (En.next (WC.ret (En.then_ret ?_)))
  refine En.ret1 rfl (Res.tmp rfl) ?_
  obtain rfl := Option.some.inj h
  intro w' hs
  exact ⟨rfl, hs.below⟩
 ·
  intro hc_1
  replace h := ifO_f hc_1 h
  refine WC.skip (En.next (WC.seq ?_))
  obtain ⟨x3_1, e3_1, h⟩ := bnd h
  refine WC.region ?_
  refine mv ?_
  refine sp (OpV.call (ec rfl (ec rfl e0)) ca_141 (fun w hs => w_spec_ChannelOf e3_1)) ?_
  refine ag ?_
  refine WL.nil (En.next (WC.sr ?_))
  refine ag ?_
  refine WL.nil (En.next (WC.seq (WC.sr ?_)))
  refine ag ?_
  refine WL.nil (En.next (WC.block ?_))
  obtain ⟨zy0, ezy0, h⟩ := bnd h
  refine WC.cut (X := (Int) × (Unit)) (.exit 0) (fun x => zy0 = x.1) (fun x => match x with | (out_0e, ()) => [(6, .int .i64 out_0e)]) (fun x => match x with | (out_0e, ()) => []) ?_ ?_
  ·
   rintro ⟨out_0e, ⟨⟩⟩ hx
   replace hx : out_0e = zy0 := hx.symm
   subst hx
   show En _ _ _ _ [(6, .int .i64 out_0e)] []
   refine En.block_exit (En.next (WC.sr ?_))
   refine mv ?_
   refine ag ?_
   refine WL.nil (En.next (WC.ret ?_))
   refine En.ret1 rfl (Res.tmp rfl) ?_
   obtain rfl := Option.some.inj h
   intro w' hs
   exact ⟨rfl, hs.below⟩
  ·
   intro zK0_0
   refine WC.loopP (G := Unit) (fun s g => match s, g with | (out_0, k_0), () => [(0, .int .i64 top_p0), (1, .int .i64 bottom_p1), (5, .int .i64 x3_1), (6, .int .i64 out_0), (7, .int .i64 k_0)]) (fun s g => match s, g with | (out_0, k_0), () => []) (255, 1) () ezy0 (by exact sc (sc (sc (sc (sc sn))))) (by exact (fun _ h => h)) ?_
   rintro zm0 ⟨out_0, k_0⟩ ⟨⟩ zo0 zf0 zb0 ze0
   have zh0 : spec_Over_L0 top_p0 bottom_p1 x3_1 out_0 k_0 = some zo0 := zf0
   unfold spec_Over_L0 at zh0
   show WC _ _ _ _ _ [(0, .int .i64 top_p0), (1, .int .i64 bottom_p1), (5, .int .i64 x3_1), (6, .int .i64 out_0), (7, .int .i64 k_0)] []
   refine WC.seq (WC.sr ?_)
   refine mv ?_
   refine sp (OpV.leq rfl rfl) ?_
   refine WL.nil (En.next ?_)
   refine WC.cond rfl ?_ ?_
   ·
    intro hc_2
    replace zh0 := ifO_t hc_2 zh0
    refine WC.skip (En.next (WC.seq (WC.block ?_)))
    obtain ⟨x8_4, e8_4, zh0⟩ := bnd zh0
    obtain ⟨x8_6, e8_6, zh0⟩ := bnd zh0
    obtain ⟨x8_10, e8_10, zh0⟩ := bnd zh0
    obtain ⟨x8_13, e8_13, zh0⟩ := bnd zh0
    refine WC.region ?_
    refine mv ?_
    refine sp (OpV.shlR rfl rfl rfl) ?_
    refine mv ?_
    refine mv ?_
    refine sp (OpV.call (ec rfl (ec rfl e0)) ca_141 (fun w hs => w_spec_ChannelOf e8_4)) ?_
    refine mv ?_
    refine sp (OpV.call (ec rfl (ec rfl e0)) ca_142 (fun w hs => w_spec_Part e8_6)) ?_
    refine sp (OpV.addR rfl rfl) ?_
    refine mv ?_
    refine mv ?_
    refine sp (OpV.call (ec rfl (ec rfl e0)) ca_141 (fun w hs => w_spec_ChannelOf e8_10)) ?_
    refine mv ?_
    refine sp (OpV.subR rfl rfl) ?_
    refine sp (OpV.call (ec rfl (ec rfl e0)) ca_142 (fun w hs => w_spec_Part e8_13)) ?_
    refine sp (OpV.addR rfl rfl) ?_
    refine ag ?_
    refine WL.nil (En.block_norm (En.next (WC.region ?_)))
    refine mv ?_
    refine sp (OpV.addR rfl rfl) ?_
    refine ag ?_
    refine WL.nil ?_
    exact En.backP zb0 zh0 () (sc (sc (sc (sc (sc sn))))) (fun _ h => h)
   ·
    intro hc_2
    replace zh0 := ifO_f hc_2 zh0
    refine WC.exit (En.then_exit (En.then_exit ?_))
    have hx := exitP ze0 zh0
    exact En.wk _ _ (sc sn) (fun _ h => h) (zK0_0 (out_0, ()) hx.symm)

theorem w_spec_l20Out {a_p0 : List PlaneT} {a_p1 : Int} {a_p2 : Int} {r : ImageT} {q0_0 : Option Addr} {l0_0 k0_0 : Nat} (h : spec_l20Out a_p0 a_p1 a_p2 = some r) {w : World} (r0_0 : Rd tPlane w q0_0 l0_0 k0_0 a_p0)   :
    Calls Tryz.prog 88 #[.slice q0_0 l0_0 k0_0, .int .i64 a_p1, .int .i64 a_p2] w (fun en w' => ∃ rv G, en = .returned rv ∧ (∃ (a0_0 : Option Addr) (n0_0 : Nat) (c0_0 : Nat) (f0_0 : List Nat), rv = .agg #[.int .i64 r.W, .int .i64 r.H, .slice a0_0 n0_0 c0_0] ∧ G = [Chunk.own tInt f0_0 a0_0 n0_0 c0_0 r.Data]) ∧ St w G w') := by
 obtain rfl := r0_0.1
 unfold spec_l20Out at h
 refine enter (vs := [_, _, _]) Tryz.func88 rfl rfl rfl rfl ?_
 refine WC.sr ?_
 refine WL.heavy rfl rfl rfl (OpH.alloc zc_107 ?_)
 intro b0_0
 refine WL.nil (En.next (WC.seq ?_))
 obtain ⟨x1_1, e1_1, h⟩ := bnd h
 obtain ⟨g1_1, o1_1, _, ha1_1, ⟨a1_1_1, c1_1_1, rfl, r1_1_1⟩, hd1_1⟩ := Rd.atIdx r0_0 e1_1
 replace hd1_1 : ∀ (j : Nat) v, ([.bool x1_1.On, .int .i64 x1_1.X, .int .i64 x1_1.Y, .int .i64 x1_1.W, .int .i64 x1_1.H, .int .i64 x1_1.Layout, .slice a1_1_1 x1_1.Words.length c1_1_1, .int .i64 x1_1.Alpha, .int .i64 x1_1.Orient, .int .i64 x1_1.ToW, .int .i64 x1_1.ToH] : List Value)[j]? = some v → w.cell? ⟨g1_1, o1_1 + (Int.toNat 0) * 11 + j, .none⟩ = some v := hd1_1
 obtain ⟨⟨x1_3a, x1_3b⟩, e1_3, h⟩ := bnd h
 refine WC.region ?_
 refine mv ?_
 refine sp (OpV.idxA rfl rfl se_36 ha1_1 ⟨(idx_some e1_1).1, (idx_some e1_1).2.1⟩) ?_
 refine sp (OpV.loadN rfl ag_61 rfl (fun w hs => hs.cellsAt hd1_1)) ?_
 refine WL.heavy rfl rfl rfl (OpH.callR (ec rfl e0) ca_121 (fun w hs => w_spec_PlaneImage e1_3 (r1_1_1.ext hs.below)) ?_)
 rintro _ _ ⟨a1_300, n1_300, c1_300, f1_300, rfl, rfl⟩
 refine mv ?_
 refine sp (OpV.extract rfl rfl) ?_
 refine sp (OpV.extract rfl rfl) ?_
 refine WL.heavy rfl rfl rfl (OpH.alloc zc_107 ?_)
 intro b1_7
 refine WL.heavy0 rfl rfl (OpH.storeTo (A := []) [_, _, _] rfl rfl rfl ts_107 rfl rfl rfl ?_)
 refine ag ?_
 refine WL.nil (En.next (WC.seq (WC.sr ?_)))
 refine ag ?_
 refine WL.nil (En.next (WC.block ?_))
 obtain ⟨zy0, ezy0, h⟩ := bnd h
 refine WC.cut (X := ((List Int)) × ((List Nat))) (.exit 0) (fun x => zy0 = x.1) (fun x => match x with | (x_0e, fx_0e) => [(6, .pointer (some ⟨b0_0, 0, .none⟩)), (7, .pointer (some ⟨b1_7, 0, .none⟩))]) (fun x => match x with | (x_0e, fx_0e) => [Chunk.box b0_0 107 [.int .i64 0, .int .i64 0, .slice .none 0 0], Chunk.box b1_7 107 [.int .i64 x1_3a.W, .int .i64 x1_3a.H, .slice a1_300 n1_300 c1_300], Chunk.own tInt fx_0e a1_300 n1_300 c1_300 x_0e]) ?_ ?_
 ·
  rintro ⟨x_0e, fx_0e⟩ hx
  replace hx : x_0e = zy0 := hx.symm
  subst hx
  show En _ _ _ _ [(6, .pointer (some ⟨b0_0, 0, .none⟩)), (7, .pointer (some ⟨b1_7, 0, .none⟩))] [Chunk.box b0_0 107 [.int .i64 0, .int .i64 0, .slice .none 0 0], Chunk.box b1_7 107 [.int .i64 x1_3a.W, .int .i64 x1_3a.H, .slice a1_300 n1_300 c1_300], Chunk.own tInt fx_0e a1_300 n1_300 c1_300 x_0e]
  refine En.block_exit (En.next (WC.sr ?_))
  refine sp (OpV.loadAll rfl mq1 ag_107) ?_
  refine WL.heavy0 rfl rfl (OpH.storeTo (A := []) [_, _, _] rfl rfl rfl ts_107 rfl rfl rfl ?_)
  refine WL.nil (En.next (WC.ret ?_))
  refine En.ret1 rfl (Res.cell rfl mq0 ag_107) ?_
  obtain rfl := Option.some.inj h
  intro w' hs
  have hs := ((hs).pm 2).sub (.cons_cons _ (.cons _ (.cons _ (.slnil))))
  exact ⟨_, _, rfl, ⟨a1_300, n1_300, c1_300, fx_0e, rfl, rfl⟩, hs⟩
 ·
  intro zK0_0
  refine WC.loopP (G := (List Nat)) (fun s g => match s, g with | (x_0, v_0), fx_0 => [(0, .slice q0_0 a_p0.length k0_0), (1, .int .i64 a_p1), (2, .int .i64 a_p2), (6, .pointer (some ⟨b0_0, 0, .none⟩)), (7, .pointer (some ⟨b1_7, 0, .none⟩)), (9, .int .i64 v_0)]) (fun s g => match s, g with | (x_0, v_0), fx_0 => [Chunk.box b0_0 107 [.int .i64 0, .int .i64 0, .slice .none 0 0], Chunk.box b1_7 107 [.int .i64 x1_3a.W, .int .i64 x1_3a.H, .slice a1_300 n1_300 c1_300], Chunk.own tInt fx_0 a1_300 n1_300 c1_300 x_0]) (x1_3a.Data, 1) f1_300 ezy0 (by exact sc (sc (sc (sc (sc (sc sn)))))) (by exact (fun _ h => (((h).pm 1).pm 1).pm 2)) ?_
  rintro zm0 ⟨x_0, v_0⟩ fx_0 zo0 zf0 zb0 ze0
  have zh0 : spec_l20Out_L0 a_p0 a_p1 a_p2 x_0 v_0 = some zo0 := zf0
  unfold spec_l20Out_L0 at zh0
  show WC _ _ _ _ _ [(0, .slice q0_0 a_p0.length k0_0), (1, .int .i64 a_p1), (2, .int .i64 a_p2), (6, .pointer (some ⟨b0_0, 0, .none⟩)), (7, .pointer (some ⟨b1_7, 0, .none⟩)), (9, .int .i64 v_0)] [Chunk.box b0_0 107 [.int .i64 0, .int .i64 0, .slice .none 0 0], Chunk.box b1_7 107 [.int .i64 x1_3a.W, .int .i64 x1_3a.H, .slice a1_300 n1_300 c1_300], Chunk.own tInt fx_0 a1_300 n1_300 c1_300 x_0]
  refine WC.seq (WC.sr ?_)
  refine mv ?_
  refine mv ?_
  refine sp (OpV.len rfl si_36 rfl) ?_
  refine sp (OpV.lss rfl rfl) ?_
  refine WL.nil (En.next ?_)
  refine WC.cond rfl ?_ ?_
  ·
   intro hc_1
   replace zh0 := ifO_t hc_1 zh0
   refine WC.skip (En.next (WC.seq ?_))
   obtain ⟨zy1, ej1, zh0⟩ := bnd zh0
   refine WC.cut (X := ((List Int)) × ((List Nat))) .normal (fun x => zy1 = x.1) (fun x => match x with | (x_1j, fx_1j) => [(0, .slice q0_0 a_p0.length k0_0), (1, .int .i64 a_p1), (2, .int .i64 a_p2), (6, .pointer (some ⟨b0_0, 0, .none⟩)), (7, .pointer (some ⟨b1_7, 0, .none⟩)), (9, .int .i64 v_0)]) (fun x => match x with | (x_1j, fx_1j) => [Chunk.box b0_0 107 [.int .i64 0, .int .i64 0, .slice .none 0 0], Chunk.box b1_7 107 [.int .i64 x1_3a.W, .int .i64 x1_3a.H, .slice a1_300 n1_300 c1_300], Chunk.own tInt fx_1j a1_300 n1_300 c1_300 x_1j]) ?_ ?_
   ·
    rintro ⟨x_1j, fx_1j⟩ hx
    replace hx : x_1j = zy1 := hx.symm
    subst hx
    show En _ _ _ _ [(0, .slice q0_0 a_p0.length k0_0), (1, .int .i64 a_p1), (2, .int .i64 a_p2), (6, .pointer (some ⟨b0_0, 0, .none⟩)), (7, .pointer (some ⟨b1_7, 0, .none⟩)), (9, .int .i64 v_0)] [Chunk.box b0_0 107 [.int .i64 0, .int .i64 0, .slice .none 0 0], Chunk.box b1_7 107 [.int .i64 x1_3a.W, .int .i64 x1_3a.H, .slice a1_300 n1_300 c1_300], Chunk.own tInt fx_1j a1_300 n1_300 c1_300 x_1j]
    refine En.next (WC.region ?_)
    refine mv ?_
    refine sp (OpV.addR rfl rfl) ?_
    refine ag ?_
    refine WL.nil ?_
    exact En.backP zb0 zh0 fx_1j (sc (sc (sc (sc (sc (sc sn)))))) (fun _ h => h)
   ·
    intro zK1
    refine WC.block (WC.seq ?_)
    obtain ⟨x5_2, e5_2, ej1⟩ := bnd ej1
    obtain ⟨g5_2, o5_2, _, ha5_2, ⟨a5_2_1, c5_2_1, rfl, r5_2_1⟩, hd5_2⟩ := Rd.atIdx r0_0 e5_2
    replace hd5_2 : ∀ (j : Nat) v, ([.bool x5_2.On, .int .i64 x5_2.X, .int .i64 x5_2.Y, .int .i64 x5_2.W, .int .i64 x5_2.H, .int .i64 x5_2.Layout, .slice a5_2_1 x5_2.Words.length c5_2_1, .int .i64 x5_2.Alpha, .int .i64 x5_2.Orient, .int .i64 x5_2.ToW, .int .i64 x5_2.ToH] : List Value)[j]? = some v → w.cell? ⟨g5_2, o5_2 + v_0.toNat * 11 + j, .none⟩ = some v := hd5_2
    obtain ⟨⟨x5_4a, x5_4b⟩, e5_4, ej1⟩ := bnd ej1
    refine WC.region ?_
    refine mv ?_
    refine mv ?_
    refine sp (OpV.idxA rfl rfl se_36 ha5_2 ⟨(idx_some e5_2).1, (idx_some e5_2).2.1⟩) ?_
    refine sp (OpV.loadN rfl ag_61 rfl (fun w hs => hs.cellsAt hd5_2)) ?_
    refine WL.heavy rfl rfl rfl (OpH.callR (ec rfl e0) ca_121 (fun w hs => w_spec_PlaneImage e5_4 (r5_2_1.ext hs.below)) ?_)
    rintro _ _ ⟨a5_400, n5_400, c5_400, f5_400, rfl, rfl⟩
    refine mv ?_
    refine sp (OpV.extract rfl rfl) ?_
    refine sp (OpV.extract rfl rfl) ?_
    refine WL.heavy rfl rfl rfl (OpH.alloc zc_107 ?_)
    intro b5_8
    refine WL.heavy0 rfl rfl (OpH.storeTo (A := []) [_, _, _] rfl rfl rfl ts_107 rfl rfl rfl ?_)
    refine ag ?_
    refine WL.nil (En.next (WC.seq (WC.sr ?_)))
    refine mv ?_
    refine sp (OpV.not rfl) ?_
    refine WL.nil (En.next ?_)
    refine WC.cond rfl ?_ ?_
    ·
     intro hc_2
     replace ej1 := ifO_t hc_2 ej1
     refine WC.exit (En.then_exit (En.block_exit ?_))
     exact En.wk _ _ (sc (sc (sc (sc (sc (sc sn)))))) (fun _ h => ((((h).pm 4).pm 4).pm 4).sub (.cons_cons _ (.cons_cons _ (.cons_cons _ (.cons _ (.cons _ (.slnil))))))) (zK1 (x_0, fx_0) (Option.some.inj ej1).symm)
    ·
     intro hc_2
     replace ej1 := ifO_f hc_2 ej1
     refine WC.skip (En.next (WC.sr ?_))
     refine ag ?_
     refine WL.nil (En.next (WC.block ?_))
     obtain ⟨zy2, ezy2, ej1⟩ := bnd ej1
     refine WC.cut (X := ((List Int)) × ((List Nat))) (.exit 2) (fun x => zy2 = x.1) (fun x => match x with | (x_2e, fx_2e) => [(0, .slice q0_0 a_p0.length k0_0), (1, .int .i64 a_p1), (2, .int .i64 a_p2), (6, .pointer (some ⟨b0_0, 0, .none⟩)), (7, .pointer (some ⟨b1_7, 0, .none⟩)), (9, .int .i64 v_0)]) (fun x => match x with | (x_2e, fx_2e) => [Chunk.box b0_0 107 [.int .i64 0, .int .i64 0, .slice .none 0 0], Chunk.box b1_7 107 [.int .i64 x1_3a.W, .int .i64 x1_3a.H, .slice a1_300 n1_300 c1_300], Chunk.own tInt fx_2e a1_300 n1_300 c1_300 x_2e]) ?_ ?_
     ·
      rintro ⟨x_2e, fx_2e⟩ hx
      replace hx : x_2e = zy2 := hx.symm
      subst hx
      show En _ _ _ _ [(0, .slice q0_0 a_p0.length k0_0), (1, .int .i64 a_p1), (2, .int .i64 a_p2), (6, .pointer (some ⟨b0_0, 0, .none⟩)), (7, .pointer (some ⟨b1_7, 0, .none⟩)), (9, .int .i64 v_0)] [Chunk.box b0_0 107 [.int .i64 0, .int .i64 0, .slice .none 0 0], Chunk.box b1_7 107 [.int .i64 x1_3a.W, .int .i64 x1_3a.H, .slice a1_300 n1_300 c1_300], Chunk.own tInt fx_2e a1_300 n1_300 c1_300 x_2e]
      refine En.block_exit (En.block_norm ?_)
      exact En.wk _ _ (sc (sc (sc (sc (sc (sc sn)))))) (fun _ h => h) (zK1 (x_2e, fx_2e) (Option.some.inj ej1).symm)
     ·
      intro zK2_0
      refine WC.loopP (G := (List Nat)) (fun s g => match s, g with | (x_2, v_2), fx_2 => [(0, .slice q0_0 a_p0.length k0_0), (1, .int .i64 a_p1), (2, .int .i64 a_p2), (6, .pointer (some ⟨b0_0, 0, .none⟩)), (7, .pointer (some ⟨b1_7, 0, .none⟩)), (9, .int .i64 v_0), (10, .pointer (some ⟨b5_8, 0, .none⟩)), (12, .int .i64 v_2)]) (fun s g => match s, g with | (x_2, v_2), fx_2 => [Chunk.box b0_0 107 [.int .i64 0, .int .i64 0, .slice .none 0 0], Chunk.box b1_7 107 [.int .i64 x1_3a.W, .int .i64 x1_3a.H, .slice a1_300 n1_300 c1_300], Chunk.own tInt fx_2 a1_300 n1_300 c1_300 x_2, Chunk.box b5_8 107 [.int .i64 x5_4a.W, .int .i64 x5_4a.H, .slice a5_400 n5_400 c5_400], Chunk.own tInt f5_400 a5_400 n5_400 c5_400 x5_4a.Data]) (x_0, 0) fx_0 ezy2 (by exact sc (sc (sc (sc (sc (sc (sc (sc sn)))))))) (by exact (fun _ h => (((((h).pm 1).pm 1).pm 4).pm 4).pm 4)) ?_
      rintro zm2 ⟨x_2, v_2⟩ fx_2 zo2 zf2 zb2 ze2
      have zh2 : spec_l20Out_L2 a_p0 a_p1 a_p2 v_0 x5_4a x_2 v_2 = some zo2 := zf2
      unfold spec_l20Out_L2 at zh2
      show WC _ _ _ _ _ [(0, .slice q0_0 a_p0.length k0_0), (1, .int .i64 a_p1), (2, .int .i64 a_p2), (6, .pointer (some ⟨b0_0, 0, .none⟩)), (7, .pointer (some ⟨b1_7, 0, .none⟩)), (9, .int .i64 v_0), (10, .pointer (some ⟨b5_8, 0, .none⟩)), (12, .int .i64 v_2)] [Chunk.box b0_0 107 [.int .i64 0, .int .i64 0, .slice .none 0 0], Chunk.box b1_7 107 [.int .i64 x1_3a.W, .int .i64 x1_3a.H, .slice a1_300 n1_300 c1_300], Chunk.own tInt fx_2 a1_300 n1_300 c1_300 x_2, Chunk.box b5_8 107 [.int .i64 x5_4a.W, .int .i64 x5_4a.H, .slice a5_400 n5_400 c5_400], Chunk.own tInt f5_400 a5_400 n5_400 c5_400 x5_4a.Data]
      refine WC.seq (WC.sr ?_)
      refine mv ?_
      refine mv ?_
      refine sp (OpV.lss rfl rfl) ?_
      refine WL.nil (En.next ?_)
      refine WC.cond rfl ?_ ?_
      ·
       intro hc_3
       replace zh2 := ifO_t hc_3 zh2
       refine WC.skip (En.next (WC.seq (WC.block (WC.sr ?_))))
       refine ag ?_
       refine WL.nil (En.next (WC.block ?_))
       obtain ⟨zy3, ezy3, zh2⟩ := bnd zh2
       refine WC.cut (X := ((List Int)) × ((List Nat))) (.exit 4) (fun x => zy3 = x.1) (fun x => match x with | (x_3e, fx_3e) => [(0, .slice q0_0 a_p0.length k0_0), (1, .int .i64 a_p1), (2, .int .i64 a_p2), (6, .pointer (some ⟨b0_0, 0, .none⟩)), (7, .pointer (some ⟨b1_7, 0, .none⟩)), (9, .int .i64 v_0), (10, .pointer (some ⟨b5_8, 0, .none⟩)), (12, .int .i64 v_2)]) (fun x => match x with | (x_3e, fx_3e) => [Chunk.box b0_0 107 [.int .i64 0, .int .i64 0, .slice .none 0 0], Chunk.box b1_7 107 [.int .i64 x1_3a.W, .int .i64 x1_3a.H, .slice a1_300 n1_300 c1_300], Chunk.own tInt fx_3e a1_300 n1_300 c1_300 x_3e, Chunk.box b5_8 107 [.int .i64 x5_4a.W, .int .i64 x5_4a.H, .slice a5_400 n5_400 c5_400], Chunk.own tInt f5_400 a5_400 n5_400 c5_400 x5_4a.Data]) ?_ ?_
       ·
        rintro ⟨x_3e, fx_3e⟩ hx
        replace hx : x_3e = zy3 := hx.symm
        subst hx
        show En _ _ _ _ [(0, .slice q0_0 a_p0.length k0_0), (1, .int .i64 a_p1), (2, .int .i64 a_p2), (6, .pointer (some ⟨b0_0, 0, .none⟩)), (7, .pointer (some ⟨b1_7, 0, .none⟩)), (9, .int .i64 v_0), (10, .pointer (some ⟨b5_8, 0, .none⟩)), (12, .int .i64 v_2)] [Chunk.box b0_0 107 [.int .i64 0, .int .i64 0, .slice .none 0 0], Chunk.box b1_7 107 [.int .i64 x1_3a.W, .int .i64 x1_3a.H, .slice a1_300 n1_300 c1_300], Chunk.own tInt fx_3e a1_300 n1_300 c1_300 x_3e, Chunk.box b5_8 107 [.int .i64 x5_4a.W, .int .i64 x5_4a.H, .slice a5_400 n5_400 c5_400], Chunk.own tInt f5_400 a5_400 n5_400 c5_400 x5_4a.Data]
        refine En.block_exit (En.block_norm (En.next (WC.region ?_)))
        refine mv ?_
        refine sp (OpV.addR rfl rfl) ?_
        refine ag ?_
        refine WL.nil ?_
        exact En.backP zb2 zh2 fx_3e (sc (sc (sc (sc (sc (sc (sc (sc sn)))))))) (fun _ h => h)
       ·
        intro zK3_0
        refine WC.loopP (G := (List Nat)) (fun s g => match s, g with | (x_3, v_3), fx_3 => [(0, .slice q0_0 a_p0.length k0_0), (1, .int .i64 a_p1), (2, .int .i64 a_p2), (6, .pointer (some ⟨b0_0, 0, .none⟩)), (7, .pointer (some ⟨b1_7, 0, .none⟩)), (9, .int .i64 v_0), (10, .pointer (some ⟨b5_8, 0, .none⟩)), (12, .int .i64 v_2), (13, .int .i64 v_3)]) (fun s g => match s, g with | (x_3, v_3), fx_3 => [Chunk.box b0_0 107 [.int .i64 0, .int .i64 0, .slice .none 0 0], Chunk.box b1_7 107 [.int .i64 x1_3a.W, .int .i64 x1_3a.H, .slice a1_300 n1_300 c1_300], Chunk.own tInt fx_3 a1_300 n1_300 c1_300 x_3, Chunk.box b5_8 107 [.int .i64 x5_4a.W, .int .i64 x5_4a.H, .slice a5_400 n5_400 c5_400], Chunk.own tInt f5_400 a5_400 n5_400 c5_400 x5_4a.Data]) (x_2, 0) fx_2 ezy3 (by exact sc (sc (sc (sc (sc (sc (sc (sc (sc sn))))))))) (by exact (fun _ h => h)) ?_
        rintro zm3 ⟨x_3, v_3⟩ fx_3 zo3 zf3 zb3 ze3
        have zh3 : spec_l20Out_L3 a_p0 a_p1 v_0 x5_4a v_2 x_3 v_3 = some zo3 := zf3
        unfold spec_l20Out_L3 at zh3
        show WC _ _ _ _ _ [(0, .slice q0_0 a_p0.length k0_0), (1, .int .i64 a_p1), (2, .int .i64 a_p2), (6, .pointer (some ⟨b0_0, 0, .none⟩)), (7, .pointer (some ⟨b1_7, 0, .none⟩)), (9, .int .i64 v_0), (10, .pointer (some ⟨b5_8, 0, .none⟩)), (12, .int .i64 v_2), (13, .int .i64 v_3)] [Chunk.box b0_0 107 [.int .i64 0, .int .i64 0, .slice .none 0 0], Chunk.box b1_7 107 [.int .i64 x1_3a.W, .int .i64 x1_3a.H, .slice a1_300 n1_300 c1_300], Chunk.own tInt fx_3 a1_300 n1_300 c1_300 x_3, Chunk.box b5_8 107 [.int .i64 x5_4a.W, .int .i64 x5_4a.H, .slice a5_400 n5_400 c5_400], Chunk.own tInt f5_400 a5_400 n5_400 c5_400 x5_4a.Data]
        refine WC.seq (WC.sr ?_)
        refine mv ?_
        refine mv ?_
        refine sp (OpV.lss rfl rfl) ?_
        refine WL.nil (En.next ?_)
        refine WC.cond rfl ?_ ?_
        ·
         intro hc_4
         replace zh3 := ifO_t hc_4 zh3
         refine WC.skip (En.next (WC.seq ?_))
         obtain ⟨zy4, ej4, zh3⟩ := bnd zh3
         refine WC.cut (X := ((List Int)) × ((List Nat))) .normal (fun x => zy4 = x.1) (fun x => match x with | (x_4j, fx_4j) => [(0, .slice q0_0 a_p0.length k0_0), (1, .int .i64 a_p1), (2, .int .i64 a_p2), (6, .pointer (some ⟨b0_0, 0, .none⟩)), (7, .pointer (some ⟨b1_7, 0, .none⟩)), (9, .int .i64 v_0), (10, .pointer (some ⟨b5_8, 0, .none⟩)), (12, .int .i64 v_2), (13, .int .i64 v_3)]) (fun x => match x with | (x_4j, fx_4j) => [Chunk.box b0_0 107 [.int .i64 0, .int .i64 0, .slice .none 0 0], Chunk.box b1_7 107 [.int .i64 x1_3a.W, .int .i64 x1_3a.H, .slice a1_300 n1_300 c1_300], Chunk.own tInt fx_4j a1_300 n1_300 c1_300 x_4j, Chunk.box b5_8 107 [.int .i64 x5_4a.W, .int .i64 x5_4a.H, .slice a5_400 n5_400 c5_400], Chunk.own tInt f5_400 a5_400 n5_400 c5_400 x5_4a.Data]) ?_ ?_
         ·
          rintro ⟨x_4j, fx_4j⟩ hx
          replace hx : x_4j = zy4 := hx.symm
          subst hx
          show En _ _ _ _ [(0, .slice q0_0 a_p0.length k0_0), (1, .int .i64 a_p1), (2, .int .i64 a_p2), (6, .pointer (some ⟨b0_0, 0, .none⟩)), (7, .pointer (some ⟨b1_7, 0, .none⟩)), (9, .int .i64 v_0), (10, .pointer (some ⟨b5_8, 0, .none⟩)), (12, .int .i64 v_2), (13, .int .i64 v_3)] [Chunk.box b0_0 107 [.int .i64 0, .int .i64 0, .slice .none 0 0], Chunk.box b1_7 107 [.int .i64 x1_3a.W, .int .i64 x1_3a.H, .slice a1_300 n1_300 c1_300], Chunk.own tInt fx_4j a1_300 n1_300 c1_300 x_4j, Chunk.box b5_8 107 [.int .i64 x5_4a.W, .int .i64 x5_4a.H, .slice a5_400 n5_400 c5_400], Chunk.own tInt f5_400 a5_400 n5_400 c5_400 x5_4a.Data]
          refine En.next (WC.region ?_)
          refine mv ?_
          refine sp (OpV.addR rfl rfl) ?_
          refine ag ?_
          refine WL.nil ?_
          exact En.backP zb3 zh3 fx_4j (sc (sc (sc (sc (sc (sc (sc (sc (sc sn))))))))) (fun _ h => h)
         ·
          intro zK4
          refine WC.block (WC.seq ?_)
          obtain ⟨x13_4, e13_4, ej4⟩ := bnd ej4
          obtain ⟨g13_4, o13_4, _, ha13_4, ⟨a13_4_1, c13_4_1, rfl, r13_4_1⟩, hd13_4⟩ := Rd.atIdx r0_0 e13_4
          replace hd13_4 : ∀ (j : Nat) v, ([.bool x13_4.On, .int .i64 x13_4.X, .int .i64 x13_4.Y, .int .i64 x13_4.W, .int .i64 x13_4.H, .int .i64 x13_4.Layout, .slice a13_4_1 x13_4.Words.length c13_4_1, .int .i64 x13_4.Alpha, .int .i64 x13_4.Orient, .int .i64 x13_4.ToW, .int .i64 x13_4.ToH] : List Value)[j]? = some v → w.cell? ⟨g13_4, o13_4 + v_0.toNat * 11 + j, .none⟩ = some v := hd13_4
          obtain ⟨x13_11, e13_11, ej4⟩ := bnd ej4
          obtain ⟨g13_11, o13_11, _, ha13_11, ⟨a13_11_1, c13_11_1, rfl, r13_11_1⟩, hd13_11⟩ := Rd.atIdx r0_0 e13_11
          replace hd13_11 : ∀ (j : Nat) v, ([.bool x13_11.On, .int .i64 x13_11.X, .int .i64 x13_11.Y, .int .i64 x13_11.W, .int .i64 x13_11.H, .int .i64 x13_11.Layout, .slice a13_11_1 x13_11.Words.length c13_11_1, .int .i64 x13_11.Alpha, .int .i64 x13_11.Orient, .int .i64 x13_11.ToW, .int .i64 x13_11.ToH] : List Value)[j]? = some v → w.cell? ⟨g13_11, o13_11 + v_0.toNat * 11 + j, .none⟩ = some v := hd13_11
          obtain ⟨x13_15, e13_15, ej4⟩ := bnd ej4
          refine WC.drawn [(0, ?r13q108v0), (1, ?r13q108v1), (2, ?r13q108v2), (6, ?r13q108v6), (7, ?r13q108v7), (9, ?r13q108v9), (10, ?r13q108v10), (12, ?r13q108v12), (13, ?r13q108v13), (14, ?r13q108v14)] (by kernel_rfl) (by kernel_rfl) ?dH13q108 ?dK13q108
          case dH13q108 =>
           intro W hW hk
           refine hW.sp (OpV.loadAll rfl mq3 ag_107) ?_
           refine hW.mv ?_
           refine hW.mv ?_
           refine hW.mv ?_
           refine hW.sp (OpV.idxA rfl rfl se_36 ha13_4 ⟨(idx_some e13_4).1, (idx_some e13_4).2.1⟩) ?_
           refine hW.sp (OpV.fieldAddr rfl fo_61_1) ?_
           refine hW.sp (OpV.load1 rfl pt_3 (fun w hs => hs.cell (hd13_4 1 _ rfl))) ?_
           refine hW.sp (OpV.subR rfl rfl) ?_
           refine hW.mv ?_
           refine hW.mv ?_
           refine hW.mv ?_
           refine hW.sp (OpV.idxA rfl rfl se_36 ha13_11 ⟨(idx_some e13_11).1, (idx_some e13_11).2.1⟩) ?_
           refine hW.sp (OpV.fieldAddr rfl fo_61_2) ?_
           refine hW.sp (OpV.load1 rfl pt_3 (fun w hs => hs.cell (hd13_11 2 _ rfl))) ?_
           refine hW.sp (OpV.subR rfl rfl) ?_
           refine hW.sp (OpV.call (ec rfl (ec rfl (ec rfl e0))) ca_87 (fun w hs => w_spec_l05At e13_15 (Ow.rd (hs.mem mq4)))) ?_
           refine hW.sp (OpV.assign rfl) ?_
           refine hk _ ?_
           refine Sub.cons ?_ (Sub.cons ?_ (Sub.cons ?_ (Sub.cons ?_ (Sub.cons ?_ (Sub.cons ?_ (Sub.cons ?_ (Sub.cons ?_ (Sub.cons ?_ (Sub.cons ?_ sn)))))))))
           all_goals exact rfl
          refine En.next (WC.sr ?_)
          refine mv ?_
          refine sp (OpV.geq rfl rfl) ?_
          refine WL.nil (En.next ?_)
          refine WC.cond rfl ?_ ?_
          ·
           intro hc_5
           replace ej4 := ifO_t hc_5 ej4
           refine WC.inh fun hin15 => ?_
           obtain ⟨x15_15, e15_15, ej4⟩ := bnd ej4
           obtain ⟨g15_15, o15_15, ha15_15⟩ := ownAddr hin15 mq2 e15_15
           have hn15_15 := ownLen hin15 mq2
           obtain ⟨x15_17, e15_17, ej4⟩ := bnd ej4
           have hn15_18 := ownLen hin15 mq2
           obtain ⟨x15_19, e15_19, ej4⟩ := bnd ej4
           obtain ⟨g15_18, o15_18, ha15_18⟩ := ownAddrU hin15 mq2 e15_19
           refine WC.wkF (fun _ h => h.pm 2) ?_
           refine WC.drawnH [_] ([_, _, _, _]) (fun _ h => h) (by kernel_rfl) ?_
           refine tk 0 rfl (OpV.fieldAddr rfl fo_107_2) ?_
           refine tk 1 rfl (OpV.loadBox rfl pt_23 mq1 rfl) ?_
           refine tk 2 rfl (OpV.move rfl) ?_
           refine tk 3 rfl (OpV.move rfl) ?_
           refine tk 4 rfl (OpV.mulR rfl rfl) ?_
           refine tk 5 rfl (OpV.move rfl) ?_
           refine tk 6 rfl (OpV.addR rfl rfl) ?_
           refine tk 7 rfl (OpV.move rfl) ?_
           refine tk 8 rfl (OpV.fieldAddr rfl fo_107_2) ?_
           refine tk 9 rfl (OpV.loadBox rfl pt_23 mq1 rfl) ?_
           refine tk 10 rfl (OpV.move rfl) ?_
           refine tk 11 rfl (OpV.move rfl) ?_
           refine tk 12 rfl (OpV.mulR rfl rfl) ?_
           refine tk 13 rfl (OpV.move rfl) ?_
           refine tk 14 rfl (OpV.addR rfl rfl) ?_
           refine tk 15 rfl (OpV.idxA rfl rfl se_23 ha15_15 ⟨(idx_some e15_15).1, by rw [hn15_15]; exact (idx_some e15_15).2.1⟩) ?_
           refine al1 16 rfl ?_
           refine OpH.light (OpV.load1 rfl pt_3 (fun w hs => Rd.cell1 tInt_flat (Ow.rd (hs.mem mq0)) e15_15 ha15_15 rfl)) ?_
           refine ⟨[_], rfl, ?_⟩
           refine tk 17 rfl (OpV.call (ec rfl (ec rfl e0)) ca_122 (fun w hs => w_spec_Over e15_17)) ?_
           refine tk 18 rfl (OpV.idxA rfl rfl se_23 ha15_18 ⟨(upd_some e15_19).1.1, by rw [hn15_18]; exact (upd_some e15_19).1.2⟩) ?_
           refine al0 19 rfl ?_
           refine OpH.wkF (fun _ h => St.elFlat tInt_flat x15_17 h) ?_
           refine OpH.setEl (A := tInt) ha15_18 rfl rfl rfl ts_3 e15_19 ?_
           intro f15_19
           refine ⟨[_], rfl, ?_⟩
           refine WAE.rebase (H := []) ?_
           refine WAE.done (by kernel_rfl) ?_ _
           refine En.block_norm ?_
           exact En.wk _ _ (sc (sc (sc (sc (sc (sc (sc (sc (sc sn))))))))) (fun _ h => (((((h).pm 4).pm 4).pm 2).pm 4).pm 4) (zK4 (x15_19, f15_19) (Option.some.inj ej4).symm)
          ·
           intro hc_5
           replace ej4 := ifO_f hc_5 ej4
           refine WC.skip (En.block_norm ?_)
           exact En.wk _ _ (sc (sc (sc (sc (sc (sc (sc (sc (sc sn))))))))) (fun _ h => h) (zK4 (x_3, fx_3) (Option.some.inj ej4).symm)
        ·
         intro hc_4
         replace zh3 := ifO_f hc_4 zh3
         refine WC.exit (En.then_exit (En.then_exit ?_))
         have hx := exitP ze3 zh3
         exact En.wk _ _ (sc (sc (sc (sc (sc (sc (sc (sc sn)))))))) (fun _ h => h) (zK3_0 (x_3, fx_3) hx.symm)
      ·
       intro hc_3
       replace zh2 := ifO_f hc_3 zh2
       refine WC.exit (En.then_exit (En.then_exit ?_))
       have hx := exitP ze2 zh2
       exact En.wk _ _ (sc (sc (sc (sc (sc (sc sn)))))) (fun _ h => (h).sub (.cons_cons _ (.cons_cons _ (.cons_cons _ (.cons _ (.cons _ (.slnil))))))) (zK2_0 (x_2, fx_2) hx.symm)
  ·
   intro hc_1
   replace zh0 := ifO_f hc_1 zh0
   refine WC.exit (En.then_exit (En.then_exit ?_))
   have hx := exitP ze0 zh0
   exact En.wk _ _ (sc (sc sn)) (fun _ h => h) (zK0_0 (x_0, fx_0) hx.symm)

theorem w_spec_ScanPixel {list_p0 : List PlaneT} {w_p1 : Int} {h_p2 : Int} {x_p3 : Int} {y_p4 : Int} {r : Int} {q0_0 : Option Addr} {l0_0 k0_0 : Nat} (h : spec_ScanPixel list_p0 w_p1 h_p2 x_p3 y_p4 = some r) {w : World} (r0_0 : Rd tPlane w q0_0 l0_0 k0_0 list_p0)   :
    Calls Tryz.prog 33 #[.slice q0_0 l0_0 k0_0, .int .i64 w_p1, .int .i64 h_p2, .int .i64 x_p3, .int .i64 y_p4] w (fun en w' => en = .returned (.int .i64 r) ∧ Ext w w') := by
 obtain rfl := r0_0.1
 unfold spec_ScanPixel at h
 refine enter (vs := [_, _, _, _, _]) Tryz.func33 rfl rfl rfl rfl ?_
 refine WC.sr ?_
 refine ag ?_
 refine WL.nil (En.next (WC.seq (WC.seq ?_)))
 obtain ⟨x1_3, e1_3, h⟩ := bnd h
 refine WC.region ?_
 refine mv ?_
 refine mv ?_
 refine mv ?_
 refine sp (OpV.call (ec rfl (ec rfl (ec rfl e0))) ca_86 (fun w hs => w_spec_PlanesOk e1_3 (r0_0.ext hs.below))) ?_
 refine sp (OpV.not rfl) ?_
 refine WL.nil (En.next ?_)
 refine WC.cond rfl ?_ ?_
 ·
  intro hc_1
  replace h := ifO_t hc_1 h
  refine WC.sr ?_
  refine ag ?_
  refine WL.nil (En.next (WC.ret (En.then_ret ?_)))
  refine En.ret1 rfl (Res.tmp rfl) ?_
  obtain rfl := Option.some.inj h
  intro w' hs
  exact ⟨rfl, hs.below⟩
 ·
  intro hc_1
  replace h := ifO_f hc_1 h
  refine WC.skip (En.next (WC.seq ?_))
  obtain ⟨x3_3, e3_3, h⟩ := bnd h
  obtain ⟨x3_6, e3_6, h⟩ := bnd h
  refine WC.region ?_
  refine mv ?_
  refine mv ?_
  refine mv ?_
  refine WL.heavy rfl rfl rfl (OpH.callR (ec rfl (ec rfl (ec rfl e0))) ca_88 (fun w hs => w_spec_l20Out e3_3 (r0_0.ext hs.below)) ?_)
  rintro _ _ ⟨a3_300, n3_300, c3_300, f3_300, rfl, rfl⟩
  refine mv ?_
  refine mv ?_
  refine sp (OpV.call (ec rfl (ec rfl (ec rfl e0))) ca_87 (fun w hs => w_spec_l05At e3_6 (Ow.rd (hs.mem mq0)))) ?_
  refine ag ?_
  refine WL.nil (En.next (WC.ret ?_))
  refine En.ret1 rfl (Res.tmp rfl) ?_
  obtain rfl := Option.some.inj h
  intro w' hs
  exact ⟨rfl, hs.below⟩

theorem w_spec_l22SameColor {a_p0 : ColorMapT} {b_p1 : ColorMapT} {r : Bool} {q0_0 : Option Addr} {l0_0 k0_0 : Nat} {q0_1 : Option Addr} {l0_1 k0_1 : Nat} {q1_0 : Option Addr} {l1_0 k1_0 : Nat} {q1_1 : Option Addr} {l1_1 k1_1 : Nat} (h : spec_l22SameColor a_p0 b_p1 = some r) {w : World} (r0_0 : Rd tInt w q0_0 l0_0 k0_0 a_p0.Matrix) (r0_1 : Rd tInt w q0_1 l0_1 k0_1 a_p0.Curve) (r1_0 : Rd tInt w q1_0 l1_0 k1_0 b_p1.Matrix) (r1_1 : Rd tInt w q1_1 l1_1 k1_1 b_p1.Curve)   :
    Calls Tryz.prog 89 #[.agg #[.slice q0_0 l0_0 k0_0, .slice q0_1 l0_1 k0_1], .agg #[.slice q1_0 l1_0 k1_0, .slice q1_1 l1_1 k1_1]] w (fun en w' => en = .returned (.bool r) ∧ Ext w w') := by
 obtain rfl := r0_0.1
 obtain rfl := r0_1.1
 obtain rfl := r1_0.1
 obtain rfl := r1_1.1
 unfold spec_l22SameColor at h
 refine enter (vs := [_, _]) Tryz.func89 rfl rfl rfl rfl ?_
 refine WC.sr ?_
 refine WL.heavy rfl rfl rfl (OpH.box rfl rfl ?_)
 intro b0_0
 refine WL.heavy rfl rfl rfl (OpH.box rfl rfl ?_)
 intro b0_1
 refine ag ?_
 refine WL.nil (En.next (WC.seq ?_))
 obtain ⟨x1_4, e1_4, h⟩ := bnd h
 obtain ⟨q1_11, e1_11, h⟩ := bnd h
 refine WC.region ?_
 refine sp (OpV.fieldAddr rfl fo_37_0) ?_
 refine sp (OpV.loadBox rfl pt_23 mq1 rfl) ?_
 refine sp (OpV.fieldAddr rfl fo_37_0) ?_
 refine sp (OpV.loadBox rfl pt_23 mq0 rfl) ?_
 refine sp (OpV.call (ec rfl (ec rfl e0)) ca_123 (fun w hs => w_spec_l05Ints e1_4 (r0_0.ext hs.below) (r1_0.ext hs.below))) ?_
 refine mv ?_
 refine Lt.ofWL.andQ 10 16 15 (p := ?pz1) (rest := ?qz1) (B := q1_11) rfl (fun hz => andO_f e1_11 hz) ?Tz1 ?Fz1 ?az1 ?bz1 ?cz1 ?dz1 ?ez1
 case Tz1 =>
  intro hcz1 hkz1
  have hqz1 := andO_t e1_11 hcz1
  obtain ⟨x1_10, e1_10, hqz1⟩ := bnd hqz1
  obtain rfl := Option.some.inj hqz1
  refine sp (OpV.fieldAddr rfl fo_37_1) ?_
  refine sp (OpV.loadBox rfl pt_23 mq1 rfl) ?_
  refine sp (OpV.fieldAddr rfl fo_37_1) ?_
  refine sp (OpV.loadBox rfl pt_23 mq0 rfl) ?_
  refine sp (OpV.call (ec rfl (ec rfl e0)) ca_123 (fun w hs => w_spec_l05Ints e1_10 (r0_1.ext hs.below) (r1_1.ext hs.below))) ?_
  refine hkz1 _ ?_ ?_
  exact rfl
  repeat (first | exact Sub.refl _ | refine Sub.skip rfl ?_)
 case Fz1 =>
  intro hcz1 hkz1
  refine sk ?_
  refine sk ?_
  refine sk ?_
  refine sk ?_
  refine sk ?_
  refine hkz1 _ ?_
  repeat (first | exact Sub.refl _ | refine Sub.skip rfl ?_)
 case az1 => exact rfl
 case bz1 => exact rfl
 case cz1 => exact rfl
 case dz1 => exact rfl
 refine ag ?_
 refine WL.nil (En.next (WC.ret ?_))
 refine En.ret1 rfl (Res.tmp rfl) ?_
 obtain rfl := Option.some.inj h
 intro w' hs
 exact ⟨rfl, hs.below⟩

theorem w_spec_l22SamePlane {a_p0 : PlaneT} {a_p1 : PlaneT} {r : Bool} {q0_0 : Option Addr} {l0_0 k0_0 : Nat} {q1_0 : Option Addr} {l1_0 k1_0 : Nat} (h : spec_l22SamePlane a_p0 a_p1 = some r) {w : World} (r0_0 : Rd tInt w q0_0 l0_0 k0_0 a_p0.Words) (r1_0 : Rd tInt w q1_0 l1_0 k1_0 a_p1.Words)   :
    Calls Tryz.prog 90 #[.agg #[.bool a_p0.On, .int .i64 a_p0.X, .int .i64 a_p0.Y, .int .i64 a_p0.W, .int .i64 a_p0.H, .int .i64 a_p0.Layout, .slice q0_0 l0_0 k0_0, .int .i64 a_p0.Alpha, .int .i64 a_p0.Orient, .int .i64 a_p0.ToW, .int .i64 a_p0.ToH], .agg #[.bool a_p1.On, .int .i64 a_p1.X, .int .i64 a_p1.Y, .int .i64 a_p1.W, .int .i64 a_p1.H, .int .i64 a_p1.Layout, .slice q1_0 l1_0 k1_0, .int .i64 a_p1.Alpha, .int .i64 a_p1.Orient, .int .i64 a_p1.ToW, .int .i64 a_p1.ToH]] w (fun en w' => en = .returned (.bool r) ∧ Ext w w') := by
 obtain rfl := r0_0.1
 obtain rfl := r1_0.1
 unfold spec_l22SamePlane at h
 refine enter (vs := [_, _]) Tryz.func90 rfl rfl rfl rfl ?_
 refine WC.sr ?_
 refine WL.heavy rfl rfl rfl (OpH.box rfl rfl ?_)
 intro b0_0
 refine WL.heavy rfl rfl rfl (OpH.box rfl rfl ?_)
 intro b0_1
 refine ag ?_
 refine WL.nil (En.next (WC.seq ?_))
 obtain ⟨q1_74, e1_74, h⟩ := bnd h
 refine WC.region ?_
 refine sp (OpV.fieldAddr rfl fo_61_0) ?_
 refine sp (OpV.loadBox rfl pt_4 mq1 rfl) ?_
 refine sp (OpV.fieldAddr rfl fo_61_0) ?_
 refine sp (OpV.loadBox rfl pt_4 mq0 rfl) ?_
 refine sp (OpV.beql rfl rfl ub_4) ?_
 refine mv ?_
 refine Lt.ofWL.and 10 16 15 (p := ?pz1) (rest := ?qz1) (B := ?Bz1) rfl ?Tz1 ?Fz1 ?az1 ?bz1 ?cz1 ?dz1 ?ez1
 case Tz1 =>
  intro hcz1 hkz1
  refine sp (OpV.fieldAddr rfl fo_61_1) ?_
  refine sp (OpV.loadBox rfl pt_3 mq1 rfl) ?_
  refine sp (OpV.fieldAddr rfl fo_61_1) ?_
  refine sp (OpV.loadBox rfl pt_3 mq0 rfl) ?_
  refine sp (OpV.eql rfl rfl) ?_
  refine hkz1 _ ?_ ?_
  exact rfl
  repeat (first | exact Sub.refl _ | refine Sub.skip rfl ?_)
 case Fz1 =>
  intro hcz1 hkz1
  refine sk ?_
  refine sk ?_
  refine sk ?_
  refine sk ?_
  refine sk ?_
  refine hkz1 _ ?_
  repeat (first | exact Sub.refl _ | refine Sub.skip rfl ?_)
 case az1 => exact rfl
 case bz1 => exact rfl
 case cz1 => exact rfl
 case dz1 => exact rfl
 refine mv ?_
 refine Lt.ofWL.and 17 23 22 (p := ?pz2) (rest := ?qz2) (B := ?Bz2) rfl ?Tz2 ?Fz2 ?az2 ?bz2 ?cz2 ?dz2 ?ez2
 case Tz2 =>
  intro hcz2 hkz2
  refine sp (OpV.fieldAddr rfl fo_61_2) ?_
  refine sp (OpV.loadBox rfl pt_3 mq1 rfl) ?_
  refine sp (OpV.fieldAddr rfl fo_61_2) ?_
  refine sp (OpV.loadBox rfl pt_3 mq0 rfl) ?_
  refine sp (OpV.eql rfl rfl) ?_
  refine hkz2 _ ?_ ?_
  exact rfl
  repeat (first | exact Sub.refl _ | refine Sub.skip rfl ?_)
 case Fz2 =>
  intro hcz2 hkz2
  refine sk ?_
  refine sk ?_
  refine sk ?_
  refine sk ?_
  refine sk ?_
  refine hkz2 _ ?_
  repeat (first | exact Sub.refl _ | refine Sub.skip rfl ?_)
 case az2 => exact rfl
 case bz2 => exact rfl
 case cz2 => exact rfl
 case dz2 => exact rfl
 refine mv ?_
 refine Lt.ofWL.and 24 30 29 (p := ?pz3) (rest := ?qz3) (B := ?Bz3) rfl ?Tz3 ?Fz3 ?az3 ?bz3 ?cz3 ?dz3 ?ez3
 case Tz3 =>
  intro hcz3 hkz3
  refine sp (OpV.fieldAddr rfl fo_61_3) ?_
  refine sp (OpV.loadBox rfl pt_3 mq1 rfl) ?_
  refine sp (OpV.fieldAddr rfl fo_61_3) ?_
  refine sp (OpV.loadBox rfl pt_3 mq0 rfl) ?_
  refine sp (OpV.eql rfl rfl) ?_
  refine hkz3 _ ?_ ?_
  exact rfl
  repeat (first | exact Sub.refl _ | refine Sub.skip rfl ?_)
 case Fz3 =>
  intro hcz3 hkz3
  refine sk ?_
  refine sk ?_
  refine sk ?_
  refine sk ?_
  refine sk ?_
  refine hkz3 _ ?_
  repeat (first | exact Sub.refl _ | refine Sub.skip rfl ?_)
 case az3 => exact rfl
 case bz3 => exact rfl
 case cz3 => exact rfl
 case dz3 => exact rfl
 refine mv ?_
 refine Lt.ofWL.and 31 37 36 (p := ?pz4) (rest := ?qz4) (B := ?Bz4) rfl ?Tz4 ?Fz4 ?az4 ?bz4 ?cz4 ?dz4 ?ez4
 case Tz4 =>
  intro hcz4 hkz4
  refine sp (OpV.fieldAddr rfl fo_61_4) ?_
  refine sp (OpV.loadBox rfl pt_3 mq1 rfl) ?_
  refine sp (OpV.fieldAddr rfl fo_61_4) ?_
  refine sp (OpV.loadBox rfl pt_3 mq0 rfl) ?_
  refine sp (OpV.eql rfl rfl) ?_
  refine hkz4 _ ?_ ?_
  exact rfl
  repeat (first | exact Sub.refl _ | refine Sub.skip rfl ?_)
 case Fz4 =>
  intro hcz4 hkz4
  refine sk ?_
  refine sk ?_
  refine sk ?_
  refine sk ?_
  refine sk ?_
  refine hkz4 _ ?_
  repeat (first | exact Sub.refl _ | refine Sub.skip rfl ?_)
 case az4 => exact rfl
 case bz4 => exact rfl
 case cz4 => exact rfl
 case dz4 => exact rfl
 refine mv ?_
 refine Lt.ofWL.and 38 44 43 (p := ?pz5) (rest := ?qz5) (B := ?Bz5) rfl ?Tz5 ?Fz5 ?az5 ?bz5 ?cz5 ?dz5 ?ez5
 case Tz5 =>
  intro hcz5 hkz5
  refine sp (OpV.fieldAddr rfl fo_61_5) ?_
  refine sp (OpV.loadBox rfl pt_3 mq1 rfl) ?_
  refine sp (OpV.fieldAddr rfl fo_61_5) ?_
  refine sp (OpV.loadBox rfl pt_3 mq0 rfl) ?_
  refine sp (OpV.eql rfl rfl) ?_
  refine hkz5 _ ?_ ?_
  exact rfl
  repeat (first | exact Sub.refl _ | refine Sub.skip rfl ?_)
 case Fz5 =>
  intro hcz5 hkz5
  refine sk ?_
  refine sk ?_
  refine sk ?_
  refine sk ?_
  refine sk ?_
  refine hkz5 _ ?_
  repeat (first | exact Sub.refl _ | refine Sub.skip rfl ?_)
 case az5 => exact rfl
 case bz5 => exact rfl
 case cz5 => exact rfl
 case dz5 => exact rfl
 refine mv ?_
 refine Lt.ofWL.and 45 51 50 (p := ?pz6) (rest := ?qz6) (B := ?Bz6) rfl ?Tz6 ?Fz6 ?az6 ?bz6 ?cz6 ?dz6 ?ez6
 case Tz6 =>
  intro hcz6 hkz6
  refine sp (OpV.fieldAddr rfl fo_61_7) ?_
  refine sp (OpV.loadBox rfl pt_3 mq1 rfl) ?_
  refine sp (OpV.fieldAddr rfl fo_61_7) ?_
  refine sp (OpV.loadBox rfl pt_3 mq0 rfl) ?_
  refine sp (OpV.eql rfl rfl) ?_
  refine hkz6 _ ?_ ?_
  exact rfl
  repeat (first | exact Sub.refl _ | refine Sub.skip rfl ?_)
 case Fz6 =>
  intro hcz6 hkz6
  refine sk ?_
  refine sk ?_
  refine sk ?_
  refine sk ?_
  refine sk ?_
  refine hkz6 _ ?_
  repeat (first | exact Sub.refl _ | refine Sub.skip rfl ?_)
 case az6 => exact rfl
 case bz6 => exact rfl
 case cz6 => exact rfl
 case dz6 => exact rfl
 refine mv ?_
 refine Lt.ofWL.and 52 58 57 (p := ?pz7) (rest := ?qz7) (B := ?Bz7) rfl ?Tz7 ?Fz7 ?az7 ?bz7 ?cz7 ?dz7 ?ez7
 case Tz7 =>
  intro hcz7 hkz7
  refine sp (OpV.fieldAddr rfl fo_61_8) ?_
  refine sp (OpV.loadBox rfl pt_3 mq1 rfl) ?_
  refine sp (OpV.fieldAddr rfl fo_61_8) ?_
  refine sp (OpV.loadBox rfl pt_3 mq0 rfl) ?_
  refine sp (OpV.eql rfl rfl) ?_
  refine hkz7 _ ?_ ?_
  exact rfl
  repeat (first | exact Sub.refl _ | refine Sub.skip rfl ?_)
 case Fz7 =>
  intro hcz7 hkz7
  refine sk ?_
  refine sk ?_
  refine sk ?_
  refine sk ?_
  refine sk ?_
  refine hkz7 _ ?_
  repeat (first | exact Sub.refl _ | refine Sub.skip rfl ?_)
 case az7 => exact rfl
 case bz7 => exact rfl
 case cz7 => exact rfl
 case dz7 => exact rfl
 refine mv ?_
 refine Lt.ofWL.and 59 65 64 (p := ?pz8) (rest := ?qz8) (B := ?Bz8) rfl ?Tz8 ?Fz8 ?az8 ?bz8 ?cz8 ?dz8 ?ez8
 case Tz8 =>
  intro hcz8 hkz8
  refine sp (OpV.fieldAddr rfl fo_61_9) ?_
  refine sp (OpV.loadBox rfl pt_3 mq1 rfl) ?_
  refine sp (OpV.fieldAddr rfl fo_61_9) ?_
  refine sp (OpV.loadBox rfl pt_3 mq0 rfl) ?_
  refine sp (OpV.eql rfl rfl) ?_
  refine hkz8 _ ?_ ?_
  exact rfl
  repeat (first | exact Sub.refl _ | refine Sub.skip rfl ?_)
 case Fz8 =>
  intro hcz8 hkz8
  refine sk ?_
  refine sk ?_
  refine sk ?_
  refine sk ?_
  refine sk ?_
  refine hkz8 _ ?_
  repeat (first | exact Sub.refl _ | refine Sub.skip rfl ?_)
 case az8 => exact rfl
 case bz8 => exact rfl
 case cz8 => exact rfl
 case dz8 => exact rfl
 refine mv ?_
 refine Lt.ofWL.and 66 72 71 (p := ?pz9) (rest := ?qz9) (B := ?Bz9) rfl ?Tz9 ?Fz9 ?az9 ?bz9 ?cz9 ?dz9 ?ez9
 case Tz9 =>
  intro hcz9 hkz9
  refine sp (OpV.fieldAddr rfl fo_61_10) ?_
  refine sp (OpV.loadBox rfl pt_3 mq1 rfl) ?_
  refine sp (OpV.fieldAddr rfl fo_61_10) ?_
  refine sp (OpV.loadBox rfl pt_3 mq0 rfl) ?_
  refine sp (OpV.eql rfl rfl) ?_
  refine hkz9 _ ?_ ?_
  exact rfl
  repeat (first | exact Sub.refl _ | refine Sub.skip rfl ?_)
 case Fz9 =>
  intro hcz9 hkz9
  refine sk ?_
  refine sk ?_
  refine sk ?_
  refine sk ?_
  refine sk ?_
  refine hkz9 _ ?_
  repeat (first | exact Sub.refl _ | refine Sub.skip rfl ?_)
 case az9 => exact rfl
 case bz9 => exact rfl
 case cz9 => exact rfl
 case dz9 => exact rfl
 refine mv ?_
 refine Lt.ofWL.andQ 73 79 78 (p := ?pz10) (rest := ?qz10) (B := q1_74) rfl (fun hz => andO_f e1_74 hz) ?Tz10 ?Fz10 ?az10 ?bz10 ?cz10 ?dz10 ?ez10
 case Tz10 =>
  intro hcz10 hkz10
  have hqz10 := andO_t e1_74 hcz10
  obtain ⟨x1_73, e1_73, hqz10⟩ := bnd hqz10
  obtain rfl := Option.some.inj hqz10
  refine sp (OpV.fieldAddr rfl fo_61_6) ?_
  refine sp (OpV.loadBox rfl pt_23 mq1 rfl) ?_
  refine sp (OpV.fieldAddr rfl fo_61_6) ?_
  refine sp (OpV.loadBox rfl pt_23 mq0 rfl) ?_
  refine sp (OpV.call (ec rfl (ec rfl e0)) ca_123 (fun w hs => w_spec_l05Ints e1_73 (r0_0.ext hs.below) (r1_0.ext hs.below))) ?_
  refine hkz10 _ ?_ ?_
  exact rfl
  repeat (first | exact Sub.refl _ | refine Sub.skip rfl ?_)
 case Fz10 =>
  intro hcz10 hkz10
  refine sk ?_
  refine sk ?_
  refine sk ?_
  refine sk ?_
  refine sk ?_
  refine hkz10 _ ?_
  repeat (first | exact Sub.refl _ | refine Sub.skip rfl ?_)
 case az10 => exact rfl
 case bz10 => exact rfl
 case cz10 => exact rfl
 case dz10 => exact rfl
 refine ag ?_
 refine WL.nil (En.next (WC.ret ?_))
 refine En.ret1 rfl (Res.tmp rfl) ?_
 obtain rfl := Option.some.inj h
 intro w' hs
 exact ⟨rfl, hs.below⟩

theorem w_spec_SameCrtc {a_p0 : CrtcT} {b_p1 : CrtcT} {r : Bool} {q0_0 : Option Addr} {l0_0 k0_0 : Nat} {q0_1 : Option Addr} {l0_1 k0_1 : Nat} {q0_2 : Option Addr} {l0_2 k0_2 : Nat} {q1_0 : Option Addr} {l1_0 k1_0 : Nat} {q1_1 : Option Addr} {l1_1 k1_1 : Nat} {q1_2 : Option Addr} {l1_2 k1_2 : Nat} (h : spec_SameCrtc a_p0 b_p1 = some r) {w : World} (r0_0 : Rd tPlane w q0_0 l0_0 k0_0 a_p0.Planes) (r0_1 : Rd tInt w q0_1 l0_1 k0_1 a_p0.Color.Matrix) (r0_2 : Rd tInt w q0_2 l0_2 k0_2 a_p0.Color.Curve) (r1_0 : Rd tPlane w q1_0 l1_0 k1_0 b_p1.Planes) (r1_1 : Rd tInt w q1_1 l1_1 k1_1 b_p1.Color.Matrix) (r1_2 : Rd tInt w q1_2 l1_2 k1_2 b_p1.Color.Curve)   :
    Calls Tryz.prog 34 #[.agg #[.int .i64 a_p0.W, .int .i64 a_p0.H, .slice q0_0 l0_0 k0_0, .slice q0_1 l0_1 k0_1, .slice q0_2 l0_2 k0_2], .agg #[.int .i64 b_p1.W, .int .i64 b_p1.H, .slice q1_0 l1_0 k1_0, .slice q1_1 l1_1 k1_1, .slice q1_2 l1_2 k1_2]] w (fun en w' => en = .returned (.bool r) ∧ Ext w w') := by
 obtain rfl := r0_0.1
 obtain rfl := r0_1.1
 obtain rfl := r0_2.1
 obtain rfl := r1_0.1
 obtain rfl := r1_1.1
 obtain rfl := r1_2.1
 unfold spec_SameCrtc at h
 refine enter (vs := [_, _]) Tryz.func34 rfl rfl rfl rfl ?_
 refine WC.sr ?_
 refine WL.heavy rfl rfl rfl (OpH.box rfl rfl ?_)
 intro b0_0
 refine WL.heavy rfl rfl rfl (OpH.box rfl rfl ?_)
 intro b0_1
 refine ag ?_
 refine WL.nil (En.next (WC.seq (WC.seq ?_)))
 obtain ⟨q1_28, e1_28, h⟩ := bnd h
 refine WC.region ?_
 refine sp (OpV.fieldAddr rfl fo_39_0) ?_
 refine sp (OpV.loadBox rfl pt_3 mq1 rfl) ?_
 refine sp (OpV.fieldAddr rfl fo_39_0) ?_
 refine sp (OpV.loadBox rfl pt_3 mq0 rfl) ?_
 refine sp (OpV.neq rfl rfl) ?_
 refine mv ?_
 refine Lt.ofWL.or 11 17 16 (p := ?pz1) (rest := ?qz1) (B := ?Bz1) rfl ?Tz1 ?Fz1 ?az1 ?bz1 ?cz1 ?dz1 ?ez1
 case Tz1 =>
  intro hcz1 hkz1
  refine sk ?_
  refine sk ?_
  refine sk ?_
  refine sk ?_
  refine sk ?_
  refine hkz1 _ ?_
  repeat (first | exact Sub.refl _ | refine Sub.skip rfl ?_)
 case Fz1 =>
  intro hcz1 hkz1
  refine sp (OpV.fieldAddr rfl fo_39_1) ?_
  refine sp (OpV.loadBox rfl pt_3 mq1 rfl) ?_
  refine sp (OpV.fieldAddr rfl fo_39_1) ?_
  refine sp (OpV.loadBox rfl pt_3 mq0 rfl) ?_
  refine sp (OpV.neq rfl rfl) ?_
  refine hkz1 _ ?_ ?_
  exact rfl
  repeat (first | exact Sub.refl _ | refine Sub.skip rfl ?_)
 case az1 => exact rfl
 case bz1 => exact rfl
 case cz1 => exact rfl
 case dz1 => exact rfl
 refine mv ?_
 refine Lt.ofWL.or 18 26 25 (p := ?pz2) (rest := ?qz2) (B := ?Bz2) rfl ?Tz2 ?Fz2 ?az2 ?bz2 ?cz2 ?dz2 ?ez2
 case Tz2 =>
  intro hcz2 hkz2
  refine sk ?_
  refine sk ?_
  refine sk ?_
  refine sk ?_
  refine sk ?_
  refine sk ?_
  refine sk ?_
  refine hkz2 _ ?_
  repeat (first | exact Sub.refl _ | refine Sub.skip rfl ?_)
 case Fz2 =>
  intro hcz2 hkz2
  refine sp (OpV.fieldAddr rfl fo_39_2) ?_
  refine sp (OpV.loadBox rfl pt_36 mq1 rfl) ?_
  refine sp (OpV.len rfl si_36 rfl) ?_
  refine sp (OpV.fieldAddr rfl fo_39_2) ?_
  refine sp (OpV.loadBox rfl pt_36 mq0 rfl) ?_
  refine sp (OpV.len rfl si_36 rfl) ?_
  refine sp (OpV.neq rfl rfl) ?_
  refine hkz2 _ ?_ ?_
  exact rfl
  repeat (first | exact Sub.refl _ | refine Sub.skip rfl ?_)
 case az2 => exact rfl
 case bz2 => exact rfl
 case cz2 => exact rfl
 case dz2 => exact rfl
 refine mv ?_
 refine Lt.ofWL.orQ 27 34 33 (p := ?pz3) (rest := ?qz3) (B := q1_28) rfl (fun hz => orO_t e1_28 hz) ?Tz3 ?Fz3 ?az3 ?bz3 ?cz3 ?dz3 ?ez3
 case Tz3 =>
  intro hcz3 hkz3
  refine sk ?_
  refine sk ?_
  refine sk ?_
  refine sk ?_
  refine sk ?_
  refine sk ?_
  refine hkz3 _ ?_
  repeat (first | exact Sub.refl _ | refine Sub.skip rfl ?_)
 case Fz3 =>
  intro hcz3 hkz3
  have hqz3 := orO_f e1_28 hcz3
  obtain ⟨x1_26, e1_26, hqz3⟩ := bnd hqz3
  obtain rfl := Option.some.inj hqz3
  refine sp (OpV.fieldAddr rfl fo_39_3) ?_
  refine sp (OpV.loadPart rfl mq1 ag_37 rfl rfl) ?_
  refine sp (OpV.fieldAddr rfl fo_39_3) ?_
  refine sp (OpV.loadPart rfl mq0 ag_37 rfl rfl) ?_
  refine sp (OpV.call (ec rfl (ec rfl e0)) ca_89 (fun w hs => w_spec_l22SameColor e1_26 (r0_1.ext hs.below) (r0_2.ext hs.below) (r1_1.ext hs.below) (r1_2.ext hs.below))) ?_
  refine sp (OpV.not rfl) ?_
  refine hkz3 _ ?_ ?_
  exact rfl
  repeat (first | exact Sub.refl _ | refine Sub.skip rfl ?_)
 case az3 => exact rfl
 case bz3 => exact rfl
 case cz3 => exact rfl
 case dz3 => exact rfl
 refine WL.nil (En.next ?_)
 refine WC.cond rfl ?_ ?_
 ·
  intro hc_1
  replace h := ifO_t hc_1 h
  refine WC.sr ?_
  refine ag ?_
  refine WL.nil (En.next (WC.ret (En.then_ret ?_)))
  refine En.ret1 rfl (Res.tmp rfl) ?_
  obtain rfl := Option.some.inj h
  intro w' hs
  exact ⟨rfl, hs.below⟩
 ·
  intro hc_1
  replace h := ifO_f hc_1 h
  refine WC.skip (En.next (WC.seq (WC.sr ?_)))
  refine ag ?_
  refine WL.nil (En.next (WC.block ?_))
  obtain ⟨zy0, ezy0, h⟩ := bnd h
  refine WC.cut (X := (Unit) × (Unit)) (.exit 0) (fun x => zy0 = .inl x.1) (fun x => match x with | ((), ()) => []) (fun x => match x with | ((), ()) => []) ?_ ?_
  ·
   rintro ⟨⟨⟩, ⟨⟩⟩ hx
   replace hx : .inl () = zy0 := hx.symm
   subst hx
   replace h := fork_l h
   show En _ _ _ _ [] []
   refine En.block_exit (En.next (WC.sr ?_))
   refine ag ?_
   refine WL.nil (En.next (WC.ret ?_))
   refine En.ret1 rfl (Res.tmp rfl) ?_
   obtain rfl := Option.some.inj h
   intro w' hs
   exact ⟨rfl, hs.below⟩
  ·
   intro zK0_0
   refine WC.loopP (G := Unit) (fun s g => match s, g with | k_0, () => [(2, .pointer (some ⟨b0_0, 0, .none⟩)), (3, .pointer (some ⟨b0_1, 0, .none⟩)), (5, .int .i64 k_0)]) (fun s g => match s, g with | k_0, () => [Chunk.box b0_0 39 [.int .i64 a_p0.W, .int .i64 a_p0.H, .slice q0_0 a_p0.Planes.length k0_0, .slice q0_1 a_p0.Color.Matrix.length k0_1, .slice q0_2 a_p0.Color.Curve.length k0_2], Chunk.box b0_1 39 [.int .i64 b_p1.W, .int .i64 b_p1.H, .slice q1_0 b_p1.Planes.length k1_0, .slice q1_1 b_p1.Color.Matrix.length k1_1, .slice q1_2 b_p1.Color.Curve.length k1_2]]) 0 () ezy0 (by exact sc (sc (sc sn))) (by exact (fun _ h => (h).pm 1)) ?_
   rintro zm0 k_0 ⟨⟩ zo0 zf0 zb0 ze0
   have zh0 : spec_SameCrtc_L0 a_p0 b_p1 k_0 = some zo0 := zf0
   unfold spec_SameCrtc_L0 at zh0
   show WC _ _ _ _ _ [(2, .pointer (some ⟨b0_0, 0, .none⟩)), (3, .pointer (some ⟨b0_1, 0, .none⟩)), (5, .int .i64 k_0)] [Chunk.box b0_0 39 [.int .i64 a_p0.W, .int .i64 a_p0.H, .slice q0_0 a_p0.Planes.length k0_0, .slice q0_1 a_p0.Color.Matrix.length k0_1, .slice q0_2 a_p0.Color.Curve.length k0_2], Chunk.box b0_1 39 [.int .i64 b_p1.W, .int .i64 b_p1.H, .slice q1_0 b_p1.Planes.length k1_0, .slice q1_1 b_p1.Color.Matrix.length k1_1, .slice q1_2 b_p1.Color.Curve.length k1_2]]
   refine WC.seq (WC.sr ?_)
   refine mv ?_
   refine sp (OpV.fieldAddr rfl fo_39_2) ?_
   refine sp (OpV.loadBox rfl pt_36 mq0 rfl) ?_
   refine sp (OpV.len rfl si_36 rfl) ?_
   refine sp (OpV.lss rfl rfl) ?_
   refine WL.nil (En.next ?_)
   refine WC.cond rfl ?_ ?_
   ·
    intro hc_2
    replace zh0 := ifO_t hc_2 zh0
    refine WC.skip (En.next (WC.seq (WC.block (WC.seq ?_))))
    obtain ⟨x6_3, e6_3, zh0⟩ := bnd zh0
    obtain ⟨g6_3, o6_3, _, ha6_3, ⟨a6_3_1, c6_3_1, rfl, r6_3_1⟩, hd6_3⟩ := Rd.atIdx r0_0 e6_3
    replace hd6_3 : ∀ (j : Nat) v, ([.bool x6_3.On, .int .i64 x6_3.X, .int .i64 x6_3.Y, .int .i64 x6_3.W, .int .i64 x6_3.H, .int .i64 x6_3.Layout, .slice a6_3_1 x6_3.Words.length c6_3_1, .int .i64 x6_3.Alpha, .int .i64 x6_3.Orient, .int .i64 x6_3.ToW, .int .i64 x6_3.ToH] : List Value)[j]? = some v → w.cell? ⟨g6_3, o6_3 + k_0.toNat * 11 + j, .none⟩ = some v := hd6_3
    obtain ⟨x6_8, e6_8, zh0⟩ := bnd zh0
    obtain ⟨g6_8, o6_8, _, ha6_8, ⟨a6_8_1, c6_8_1, rfl, r6_8_1⟩, hd6_8⟩ := Rd.atIdx r1_0 e6_8
    replace hd6_8 : ∀ (j : Nat) v, ([.bool x6_8.On, .int .i64 x6_8.X, .int .i64 x6_8.Y, .int .i64 x6_8.W, .int .i64 x6_8.H, .int .i64 x6_8.Layout, .slice a6_8_1 x6_8.Words.length c6_8_1, .int .i64 x6_8.Alpha, .int .i64 x6_8.Orient, .int .i64 x6_8.ToW, .int .i64 x6_8.ToH] : List Value)[j]? = some v → w.cell? ⟨g6_8, o6_8 + k_0.toNat * 11 + j, .none⟩ = some v := hd6_8
    obtain ⟨x6_10, e6_10, zh0⟩ := bnd zh0
    refine WC.drawn [(2, ?r6q3v2), (3, ?r6q3v3), (5, ?r6q3v5), (53, ?r6q3v53)] (by kernel_rfl) (by kernel_rfl) ?dH6q3 ?dK6q3
    case dH6q3 =>
     intro W hW hk
     refine hW.sp (OpV.fieldAddr rfl fo_39_2) ?_
     refine hW.sp (OpV.loadBox rfl pt_36 mq0 rfl) ?_
     refine hW.mv ?_
     refine hW.sp (OpV.idxA rfl rfl se_36 ha6_3 ⟨(idx_some e6_3).1, (idx_some e6_3).2.1⟩) ?_
     refine hW.sp (OpV.loadN rfl ag_61 rfl (fun w hs => hs.cellsAt hd6_3)) ?_
     refine hW.sp (OpV.fieldAddr rfl fo_39_2) ?_
     refine hW.sp (OpV.loadBox rfl pt_36 mq1 rfl) ?_
     refine hW.mv ?_
     refine hW.sp (OpV.idxA rfl rfl se_36 ha6_8 ⟨(idx_some e6_8).1, (idx_some e6_8).2.1⟩) ?_
     refine hW.sp (OpV.loadN rfl ag_61 rfl (fun w hs => hs.cellsAt hd6_8)) ?_
     refine hW.sp (OpV.call (ec rfl (ec rfl e0)) ca_90 (fun w hs => w_spec_l22SamePlane e6_10 (r6_3_1.ext hs.below) (r6_8_1.ext hs.below))) ?_
     refine hW.sp (OpV.not rfl) ?_
     refine hk _ ?_
     refine Sub.cons ?_ (Sub.cons ?_ (Sub.cons ?_ (Sub.cons ?_ sn)))
     all_goals exact rfl
    refine En.next ?_
    refine WC.cond rfl ?_ ?_
    ·
     intro hc_3
     replace zh0 := ifO_t hc_3 zh0
     refine WC.sr ?_
     refine ag ?_
     refine WL.nil (En.next (WC.ret (En.block_ret (En.then_ret (En.then_ret (En.block_ret (En.then_ret ?_)))))))
     refine En.ret1 rfl (Res.tmp rfl) ?_
     have hx := exitP ze0 zh0
     subst hx
     replace h := fork_r h
     obtain rfl := Option.some.inj h
     intro w' hs
     exact ⟨rfl, hs.below⟩
    ·
     intro hc_3
     replace zh0 := ifO_f hc_3 zh0
     refine WC.skip (En.block_norm (En.next (WC.region ?_)))
     refine mv ?_
     refine sp (OpV.addR rfl rfl) ?_
     refine ag ?_
     refine WL.nil ?_
     exact En.backP zb0 zh0 () (sc (sc (sc sn))) (fun _ h => h)
   ·
    intro hc_2
    replace zh0 := ifO_f hc_2 zh0
    refine WC.exit (En.then_exit (En.then_exit ?_))
    have hx := exitP ze0 zh0
    exact En.wk _ _ sn (fun _ h => (h).sub (.cons _ (.cons _ (.slnil)))) (zK0_0 ((), ()) hx.symm)

theorem w_laws_btoi {b_p0 : Bool} {r : Int}  (h : laws_btoi b_p0 = some r) {w : World}    :
    Calls Tryz.prog 35 #[.bool b_p0] w (fun en w' => en = .returned (.int .i64 r) ∧ Ext w w') := by
 unfold laws_btoi at h
 refine enter (vs := [_]) Tryz.func35 rfl rfl rfl rfl ?_
 refine WC.sr ?_
 refine ag ?_
 refine WL.nil (En.next (WC.seq (WC.sr ?_)))
 refine mv ?_
 refine WL.nil (En.next ?_)
 refine WC.cond rfl ?_ ?_
 ·
  intro hc_1
  replace h := ifO_t hc_1 h
  refine WC.sr ?_
  refine ag ?_
  refine WL.nil (En.next (WC.ret (En.then_ret ?_)))
  refine En.ret1 rfl (Res.tmp rfl) ?_
  obtain rfl := Option.some.inj h
  intro w' hs
  exact ⟨rfl, hs.below⟩
 ·
  intro hc_1
  replace h := ifO_f hc_1 h
  refine WC.skip (En.next (WC.sr ?_))
  refine ag ?_
  refine WL.nil (En.next (WC.ret ?_))
  refine En.ret1 rfl (Res.tmp rfl) ?_
  obtain rfl := Option.some.inj h
  intro w' hs
  exact ⟨rfl, hs.below⟩

theorem w_laws_get {list_p0 : List Int} {i_p1 : Int} {r : Int} {q0_0 : Option Addr} {l0_0 k0_0 : Nat} (h : laws_get list_p0 i_p1 = some r) {w : World} (r0_0 : Rd tInt w q0_0 l0_0 k0_0 list_p0)   :
    Calls Tryz.prog 36 #[.slice q0_0 l0_0 k0_0, .int .i64 i_p1] w (fun en w' => en = .returned (.int .i64 r) ∧ Ext w w') := by
 obtain rfl := r0_0.1
 unfold laws_get at h
 refine enter (vs := [_, _]) Tryz.func36 rfl rfl rfl rfl ?_
 refine WC.sr ?_
 refine ag ?_
 refine WL.nil (En.next (WC.seq (WC.sr ?_)))
 refine mv ?_
 refine sp (OpV.lss rfl rfl) ?_
 refine mv ?_
 refine Lt.ofWL.or 7 12 11 (p := ?pz1) (rest := ?qz1) (B := ?Bz1) rfl ?Tz1 ?Fz1 ?az1 ?bz1 ?cz1 ?dz1 ?ez1
 case Tz1 =>
  intro hcz1 hkz1
  refine sk ?_
  refine sk ?_
  refine sk ?_
  refine sk ?_
  refine hkz1 _ ?_
  repeat (first | exact Sub.refl _ | refine Sub.skip rfl ?_)
 case Fz1 =>
  intro hcz1 hkz1
  refine mv ?_
  refine mv ?_
  refine sp (OpV.len rfl si_23 rfl) ?_
  refine sp (OpV.geq rfl rfl) ?_
  refine hkz1 _ ?_ ?_
  exact rfl
  repeat (first | exact Sub.refl _ | refine Sub.skip rfl ?_)
 case az1 => exact rfl
 case bz1 => exact rfl
 case cz1 => exact rfl
 case dz1 => exact rfl
 refine WL.nil (En.next ?_)
 refine WC.cond rfl ?_ ?_
 ·
  intro hc_1
  replace h := ifO_t hc_1 h
  refine WC.sr ?_
  refine ag ?_
  refine WL.nil (En.next (WC.ret (En.then_ret ?_)))
  refine En.ret1 rfl (Res.tmp rfl) ?_
  obtain rfl := Option.some.inj h
  intro w' hs
  exact ⟨rfl, hs.below⟩
 ·
  intro hc_1
  replace h := ifO_f hc_1 h
  refine WC.skip (En.next (WC.seq ?_))
  obtain ⟨x3_2, e3_2, h⟩ := bnd h
  obtain ⟨g3_2, o3_2, _, ha3_2, rfl, hd3_2⟩ := Rd.atIdx r0_0 e3_2
  replace hd3_2 : ∀ (j : Nat) v, ([.int .i64 x3_2] : List Value)[j]? = some v → w.cell? ⟨g3_2, o3_2 + i_p1.toNat * 1 + j, .none⟩ = some v := hd3_2
  refine WC.region ?_
  refine mv ?_
  refine mv ?_
  refine sp (OpV.idxA rfl rfl se_23 ha3_2 ⟨(idx_some e3_2).1, (idx_some e3_2).2.1⟩) ?_
  refine sp (OpV.load1 rfl pt_3 (fun w hs => hs.cell (hd3_2 0 _ rfl))) ?_
  refine ag ?_
  refine WL.nil (En.next (WC.ret ?_))
  refine En.ret1 rfl (Res.tmp rfl) ?_
  obtain rfl := Option.some.inj h
  intro w' hs
  exact ⟨rfl, hs.below⟩

theorem w_laws_FnFlipsOnce {a_p0 : List Int} {r : Bool} {q0_0 : Option Addr} {l0_0 k0_0 : Nat} (h : laws_FnFlipsOnce a_p0 = some r) {w : World} (r0_0 : Rd tU8 w q0_0 l0_0 k0_0 a_p0)   :
    Calls Tryz.prog 6 #[.slice q0_0 l0_0 k0_0] w (fun en w' => en = .returned (.bool r) ∧ Ext w w') := by
 obtain rfl := r0_0.1
 unfold laws_FnFlipsOnce at h
 refine enter (vs := [_]) Tryz.func6 rfl rfl rfl rfl ?_
 refine WC.sr ?_
 refine ag ?_
 refine WL.nil (En.next (WC.seq (WC.seq ?_)))
 obtain ⟨x1_1, e1_1, h⟩ := bnd h
 refine WC.region ?_
 refine mv ?_
 refine sp (OpV.call (ec rfl e0) ca_21 (fun w hs => w_laws_big e1_1 (r0_0.ext hs.below))) ?_
 refine WL.nil (En.next ?_)
 refine WC.cond rfl ?_ ?_
 ·
  intro hc_1
  replace h := ifO_t hc_1 h
  refine WC.sr ?_
  refine ag ?_
  refine WL.nil (En.next (WC.ret (En.then_ret ?_)))
  refine En.ret1 rfl (Res.tmp rfl) ?_
  obtain rfl := Option.some.inj h
  intro w' hs
  exact ⟨rfl, hs.below⟩
 ·
  intro hc_1
  replace h := ifO_f hc_1 h
  refine WC.skip (En.next (WC.sr ?_))
  refine sp (OpV.build (evps.nil) bd_35_) ?_
  refine WL.heavy rfl rfl rfl (OpH.alloc zc_35 ?_)
  intro b3_1
  refine WL.heavy0 rfl rfl (OpH.storeTo (A := []) [_, _, _, _] rfl rfl rfl ts_35 rfl rfl rfl ?_)
  refine WL.nil (En.next (WC.seq ?_))
  obtain ⟨⟨x4_0a, x4_0b⟩, e4_0, h⟩ := bnd h
  refine WC.region ?_
  refine WL.heavy rfl rfl rfl (OpH.callR (ec rfl (ec rfl (ec rfl e0))) ca_28 (fun w hs => w_spec_BlankCrtc e4_0) ?_)
  rintro _ _ ⟨a4_000, n4_000, c4_000, f4_000, a4_001, n4_001, c4_001, f4_001, a4_002, n4_002, c4_002, f4_002, rfl, rfl⟩
  refine mv ?_
  refine sp (OpV.extract rfl rfl) ?_
  refine sp (OpV.extract rfl rfl) ?_
  refine WL.heavy rfl rfl rfl (OpH.alloc zc_39 ?_)
  intro b4_4
  refine WL.heavy0 rfl rfl (OpH.storeTo (A := []) [_, _, _, _, _] rfl rfl rfl ts_39 rfl rfl rfl ?_)
  refine ag ?_
  refine WL.nil (En.next (WC.sr ?_))
  refine WL.heavy rfl rfl rfl (OpH.lit0 (A := tInt) (evps.nil) bs_23_0_ ?_)
  intro b5_0
  refine ag ?_
  refine WL.nil (En.next (WC.sr ?_))
  refine ag ?_
  refine WL.nil (En.next (WC.seq (WC.sr ?_)))
  refine ag ?_
  refine WL.nil (En.next (WC.block ?_))
  obtain ⟨zy0, ezy0, h⟩ := bnd h
  refine WC.cut (X := ((List FlipT) × (List Int) × Int × (List Int) × (List Int) × Int) × ((Option Addr) × Nat × Nat × (List Nat) × (Option Addr) × Nat × Nat × (List Nat) × (Option Addr) × Nat × Nat × (List Nat) × (Option Addr) × Nat × Nat × (List Nat))) (.exit 0) (fun x => zy0 = .inl x.1) (fun x => match x with | ((x_0e, x1_0e, x2_0e, x3_0e, v_0e, v1_0e), (ax_0e, nx_0e, cx_0e, fx_0e, ax1_0e, nx1_0e, cx1_0e, fx1_0e, ax2_0e, nx2_0e, cx2_0e, fx2_0e, av_0e, nv_0e, cv_0e, fv_0e)) => [(3, .pointer (some ⟨b3_1, 0, .none⟩)), (6, .slice av_0e nv_0e cv_0e), (7, .int .i64 v1_0e)]) (fun x => match x with | ((x_0e, x1_0e, x2_0e, x3_0e, v_0e, v1_0e), (ax_0e, nx_0e, cx_0e, fx_0e, ax1_0e, nx1_0e, cx1_0e, fx1_0e, ax2_0e, nx2_0e, cx2_0e, fx2_0e, av_0e, nv_0e, cv_0e, fv_0e)) => [Chunk.box b3_1 35 [.slice ax_0e nx_0e cx_0e, .slice ax1_0e nx1_0e cx1_0e, .int .i64 x2_0e, .slice ax2_0e nx2_0e cx2_0e], Chunk.own tFlip fx_0e ax_0e nx_0e cx_0e x_0e, Chunk.own tInt fx1_0e ax1_0e nx1_0e cx1_0e x1_0e, Chunk.own tInt fx2_0e ax2_0e nx2_0e cx2_0e x3_0e, Chunk.own tInt fv_0e av_0e nv_0e cv_0e v_0e]) ?_ ?_
  ·
   rintro ⟨⟨x_0e, x1_0e, x2_0e, x3_0e, v_0e, v1_0e⟩, ⟨ax_0e, nx_0e, cx_0e, fx_0e, ax1_0e, nx1_0e, cx1_0e, fx1_0e, ax2_0e, nx2_0e, cx2_0e, fx2_0e, av_0e, nv_0e, cv_0e, fv_0e⟩⟩ hx
   replace hx : .inl (x_0e, x1_0e, x2_0e, x3_0e, v_0e, v1_0e) = zy0 := hx.symm
   subst hx
   replace h := fork_l h
   show En _ _ _ _ [(3, .pointer (some ⟨b3_1, 0, .none⟩)), (6, .slice av_0e nv_0e cv_0e), (7, .int .i64 v1_0e)] [Chunk.box b3_1 35 [.slice ax_0e nx_0e cx_0e, .slice ax1_0e nx1_0e cx1_0e, .int .i64 x2_0e, .slice ax2_0e nx2_0e cx2_0e], Chunk.own tFlip fx_0e ax_0e nx_0e cx_0e x_0e, Chunk.own tInt fx1_0e ax1_0e nx1_0e cx1_0e x1_0e, Chunk.own tInt fx2_0e ax2_0e nx2_0e cx2_0e x3_0e, Chunk.own tInt fv_0e av_0e nv_0e cv_0e v_0e]
   refine En.block_exit (En.next (WC.seq (WC.sr ?_)))
   refine ag ?_
   refine WL.nil (En.next (WC.block ?_))
   obtain ⟨zy1, ezy1, h⟩ := bnd h
   refine WC.cut (X := (Unit) × (Unit)) (.exit 3) (fun x => zy1 = .inl x.1) (fun x => match x with | ((), ()) => [(3, .pointer (some ⟨b3_1, 0, .none⟩)), (6, .slice av_0e nv_0e cv_0e), (7, .int .i64 v1_0e)]) (fun x => match x with | ((), ()) => [Chunk.box b3_1 35 [.slice ax_0e nx_0e cx_0e, .slice ax1_0e nx1_0e cx1_0e, .int .i64 x2_0e, .slice ax2_0e nx2_0e cx2_0e], Chunk.own tFlip fx_0e ax_0e nx_0e cx_0e x_0e, Chunk.own tInt fx1_0e ax1_0e nx1_0e cx1_0e x1_0e, Chunk.own tInt fx2_0e ax2_0e nx2_0e cx2_0e x3_0e, Chunk.own tInt fv_0e av_0e nv_0e cv_0e v_0e]) ?_ ?_
   ·
    rintro ⟨⟨⟩, ⟨⟩⟩ hx
    replace hx : .inl () = zy1 := hx.symm
    subst hx
    replace h := fork_l h
    show En _ _ _ _ [(3, .pointer (some ⟨b3_1, 0, .none⟩)), (6, .slice av_0e nv_0e cv_0e), (7, .int .i64 v1_0e)] [Chunk.box b3_1 35 [.slice ax_0e nx_0e cx_0e, .slice ax1_0e nx1_0e cx1_0e, .int .i64 x2_0e, .slice ax2_0e nx2_0e cx2_0e], Chunk.own tFlip fx_0e ax_0e nx_0e cx_0e x_0e, Chunk.own tInt fx1_0e ax1_0e nx1_0e cx1_0e x1_0e, Chunk.own tInt fx2_0e ax2_0e nx2_0e cx2_0e x3_0e, Chunk.own tInt fv_0e av_0e nv_0e cv_0e v_0e]
    refine En.block_exit (En.next (WC.seq ?_))
    obtain ⟨q36_8, e36_8, h⟩ := bnd h
    refine WC.region ?_
    refine sp (OpV.fieldAddr rfl fo_35_3) ?_
    refine sp (OpV.loadBox rfl pt_23 mq0 rfl) ?_
    refine sp (OpV.inhF fun hin => OpV.lenO (xs := x3_0e) rfl si_23 rfl (ownLen hin mq3)) ?_
    refine mv ?_
    refine sp (OpV.eql rfl rfl) ?_
    refine mv ?_
    refine Lt.ofWL.andQ 159 162 161 (p := ?pz1) (rest := ?qz1) (B := q36_8) rfl (fun hz => andO_f e36_8 hz) ?Tz1 ?Fz1 ?az1 ?bz1 ?cz1 ?dz1 ?ez1
    case Tz1 =>
     intro hcz1 hkz1
     have hqz1 := andO_t e36_8 hcz1
     obtain ⟨x36_7, e36_7, hqz1⟩ := bnd hqz1
     obtain rfl := Option.some.inj hqz1
     refine sp (OpV.loadAll rfl mq0 ag_35) ?_
     refine sp (OpV.call (ec rfl e0) ca_37 (fun w hs => w_impl_FlipsOk e36_7 (Ow.rd (hs.mem mq1)) (Ow.rd (hs.mem mq2)) (Ow.rd (hs.mem mq3)))) ?_
     refine hkz1 _ ?_ ?_
     exact rfl
     repeat (first | exact Sub.refl _ | refine Sub.skip rfl ?_)
    case Fz1 =>
     intro hcz1 hkz1
     refine sk ?_
     refine sk ?_
     refine hkz1 _ ?_
     repeat (first | exact Sub.refl _ | refine Sub.skip rfl ?_)
    case az1 => exact rfl
    case bz1 => exact rfl
    case cz1 => exact rfl
    case dz1 => exact rfl
    refine mv ?_
    refine Lt.ofWL.and 163 169 168 (p := ?pz2) (rest := ?qz2) (B := ?Bz2) rfl ?Tz2 ?Fz2 ?az2 ?bz2 ?cz2 ?dz2 ?ez2
    case Tz2 =>
     intro hcz2 hkz2
     refine sp (OpV.fieldAddr rfl fo_35_2) ?_
     refine sp (OpV.loadBox rfl pt_3 mq0 rfl) ?_
     refine mv ?_
     refine sp (OpV.inhF fun hin => OpV.lenO (xs := v_0e) rfl si_23 rfl (ownLen hin mq4)) ?_
     refine sp (OpV.eql rfl rfl) ?_
     refine hkz2 _ ?_ ?_
     exact rfl
     repeat (first | exact Sub.refl _ | refine Sub.skip rfl ?_)
    case Fz2 =>
     intro hcz2 hkz2
     refine sk ?_
     refine sk ?_
     refine sk ?_
     refine sk ?_
     refine sk ?_
     refine hkz2 _ ?_
     repeat (first | exact Sub.refl _ | refine Sub.skip rfl ?_)
    case az2 => exact rfl
    case bz2 => exact rfl
    case cz2 => exact rfl
    case dz2 => exact rfl
    refine ag ?_
    refine WL.nil (En.next (WC.ret ?_))
    refine En.ret1 rfl (Res.tmp rfl) ?_
    obtain rfl := Option.some.inj h
    intro w' hs
    exact ⟨rfl, hs.below⟩
   ·
    intro zK1_0
    refine WC.loopP (G := Unit) (fun s g => match s, g with | v_1, () => [(3, .pointer (some ⟨b3_1, 0, .none⟩)), (6, .slice av_0e nv_0e cv_0e), (7, .int .i64 v1_0e), (19, .int .i64 v_1)]) (fun s g => match s, g with | v_1, () => [Chunk.box b3_1 35 [.slice ax_0e nx_0e cx_0e, .slice ax1_0e nx1_0e cx1_0e, .int .i64 x2_0e, .slice ax2_0e nx2_0e cx2_0e], Chunk.own tFlip fx_0e ax_0e nx_0e cx_0e x_0e, Chunk.own tInt fx1_0e ax1_0e nx1_0e cx1_0e x1_0e, Chunk.own tInt fx2_0e ax2_0e nx2_0e cx2_0e x3_0e, Chunk.own tInt fv_0e av_0e nv_0e cv_0e v_0e]) 0 () ezy1 (by exact sc (sc (sc (sc sn)))) (by exact (fun _ h => h)) ?_
    rintro zm1 v_1 ⟨⟩ zo1 zf1 zb1 ze1
    have zh1 : laws_FnFlipsOnce_L1 x3_0e v1_0e v_1 = some zo1 := zf1
    unfold laws_FnFlipsOnce_L1 at zh1
    show WC _ _ _ _ _ [(3, .pointer (some ⟨b3_1, 0, .none⟩)), (6, .slice av_0e nv_0e cv_0e), (7, .int .i64 v1_0e), (19, .int .i64 v_1)] [Chunk.box b3_1 35 [.slice ax_0e nx_0e cx_0e, .slice ax1_0e nx1_0e cx1_0e, .int .i64 x2_0e, .slice ax2_0e nx2_0e cx2_0e], Chunk.own tFlip fx_0e ax_0e nx_0e cx_0e x_0e, Chunk.own tInt fx1_0e ax1_0e nx1_0e cx1_0e x1_0e, Chunk.own tInt fx2_0e ax2_0e nx2_0e cx2_0e x3_0e, Chunk.own tInt fv_0e av_0e nv_0e cv_0e v_0e]
    refine WC.seq (WC.sr ?_)
    refine mv ?_
    refine mv ?_
    refine sp (OpV.lss rfl rfl) ?_
    refine WL.nil (En.next ?_)
    refine WC.cond rfl ?_ ?_
    ·
     intro hc_2
     replace zh1 := ifO_t hc_2 zh1
     refine WC.skip (En.next (WC.seq (WC.block (WC.seq ?_))))
     obtain ⟨x34_3, e34_3, zh1⟩ := bnd zh1
     refine WC.region ?_
     refine sp (OpV.fieldAddr rfl fo_35_3) ?_
     refine sp (OpV.loadBox rfl pt_23 mq0 rfl) ?_
     refine mv ?_
     refine sp (OpV.call (ec rfl (ec rfl e0)) ca_36 (fun w hs => w_laws_get e34_3 (Ow.rd (hs.mem mq3)))) ?_
     refine mv ?_
     refine sp (OpV.neq rfl rfl) ?_
     refine WL.nil (En.next ?_)
     refine WC.cond rfl ?_ ?_
     ·
      intro hc_3
      replace zh1 := ifO_t hc_3 zh1
      refine WC.sr ?_
      refine ag ?_
      refine WL.nil (En.next (WC.ret (En.block_ret (En.then_ret (En.then_ret (En.block_ret (En.then_ret ?_)))))))
      refine En.ret1 rfl (Res.tmp rfl) ?_
      have hx := exitP ze1 zh1
      subst hx
      replace h := fork_r h
      obtain rfl := Option.some.inj h
      intro w' hs
      exact ⟨rfl, hs.below⟩
     ·
      intro hc_3
      replace zh1 := ifO_f hc_3 zh1
      refine WC.skip (En.block_norm (En.next (WC.region ?_)))
      refine mv ?_
      refine sp (OpV.addR rfl rfl) ?_
      refine ag ?_
      refine WL.nil ?_
      exact En.backP zb1 zh1 () (sc (sc (sc (sc sn)))) (fun _ h => h)
    ·
     intro hc_2
     replace zh1 := ifO_f hc_2 zh1
     refine WC.exit (En.then_exit (En.then_exit ?_))
     have hx := exitP ze1 zh1
     exact En.wk _ _ (sc (sc (sc sn))) (fun _ h => h) (zK1_0 ((), ()) hx.symm)
  ·
   intro zK0_0
   refine WC.loopP (G := (Option Addr) × Nat × Nat × (List Nat) × (Option Addr) × Nat × Nat × (List Nat) × (Option Addr) × Nat × Nat × (List Nat) × (Option Addr) × Nat × Nat × (List Nat) × (Option Addr) × Nat × Nat × (List Nat) × (Option Addr) × Nat × Nat × (List Nat) × (Option Addr) × Nat × Nat × (List Nat)) (fun s g => match s, g with | (x_0, x1_0, x2_0, x3_0, x4_0, x5_0, x6_0, x7_0, x8_0, v_0, v1_0, v2_0), (ax_0, nx_0, cx_0, fx_0, ax1_0, nx1_0, cx1_0, fx1_0, ax2_0, nx2_0, cx2_0, fx2_0, ax3_0, nx3_0, cx3_0, fx3_0, ax4_0, nx4_0, cx4_0, fx4_0, ax5_0, nx5_0, cx5_0, fx5_0, av_0, nv_0, cv_0, fv_0) => [(0, .slice q0_0 a_p0.length k0_0), (3, .pointer (some ⟨b3_1, 0, .none⟩)), (4, .pointer (some ⟨b4_4, 0, .none⟩)), (6, .slice av_0 nv_0 cv_0), (7, .int .i64 v1_0), (8, .int .i64 v2_0)]) (fun s g => match s, g with | (x_0, x1_0, x2_0, x3_0, x4_0, x5_0, x6_0, x7_0, x8_0, v_0, v1_0, v2_0), (ax_0, nx_0, cx_0, fx_0, ax1_0, nx1_0, cx1_0, fx1_0, ax2_0, nx2_0, cx2_0, fx2_0, ax3_0, nx3_0, cx3_0, fx3_0, ax4_0, nx4_0, cx4_0, fx4_0, ax5_0, nx5_0, cx5_0, fx5_0, av_0, nv_0, cv_0, fv_0) => [Chunk.box b3_1 35 [.slice ax_0 nx_0 cx_0, .slice ax1_0 nx1_0 cx1_0, .int .i64 x2_0, .slice ax2_0 nx2_0 cx2_0], Chunk.own tFlip fx_0 ax_0 nx_0 cx_0 x_0, Chunk.own tInt fx1_0 ax1_0 nx1_0 cx1_0 x1_0, Chunk.own tInt fx2_0 ax2_0 nx2_0 cx2_0 x3_0, Chunk.box b4_4 39 [.int .i64 x4_0, .int .i64 x5_0, .slice ax3_0 nx3_0 cx3_0, .slice ax4_0 nx4_0 cx4_0, .slice ax5_0 nx5_0 cx5_0], Chunk.own tPlane fx3_0 ax3_0 nx3_0 cx3_0 x6_0, Chunk.own tInt fx4_0 ax4_0 nx4_0 cx4_0 x7_0, Chunk.own tInt fx5_0 ax5_0 nx5_0 cx5_0 x8_0, Chunk.own tInt fv_0 av_0 nv_0 cv_0 v_0]) ([], [], 0, [], x4_0a.W, x4_0a.H, x4_0a.Planes, x4_0a.Color.Matrix, x4_0a.Color.Curve, ([] : List Int), 0, 0) (.none, 0, 0, [], .none, 0, 0, [], .none, 0, 0, [], a4_000, n4_000, c4_000, f4_000, a4_001, n4_001, c4_001, f4_001, a4_002, n4_002, c4_002, f4_002, (some ⟨b5_0, 0, .none⟩), 0, 0, [b5_0]) ezy0 (by exact sc (sc (sc (sc (sc (sc sn)))))) (by exact (fun _ h => ((((((((((((h).ownNil (A := tFlip)).ownNil (A := tInt)).ownNil (A := tInt)).pm 3).pm 7).pm 7).pm 7).pm 7).pm 5).pm 6).pm 7).pm 8)) ?_
   rintro zm0 ⟨x_0, x1_0, x2_0, x3_0, x4_0, x5_0, x6_0, x7_0, x8_0, v_0, v1_0, v2_0⟩ ⟨ax_0, nx_0, cx_0, fx_0, ax1_0, nx1_0, cx1_0, fx1_0, ax2_0, nx2_0, cx2_0, fx2_0, ax3_0, nx3_0, cx3_0, fx3_0, ax4_0, nx4_0, cx4_0, fx4_0, ax5_0, nx5_0, cx5_0, fx5_0, av_0, nv_0, cv_0, fv_0⟩ zo0 zf0 zb0 ze0
   have zh0 : laws_FnFlipsOnce_L0 a_p0 x_0 x1_0 x2_0 x3_0 x4_0 x5_0 x6_0 x7_0 x8_0 v_0 v1_0 v2_0 = some zo0 := zf0
   unfold laws_FnFlipsOnce_L0 at zh0
   show WC _ _ _ _ _ [(0, .slice q0_0 a_p0.length k0_0), (3, .pointer (some ⟨b3_1, 0, .none⟩)), (4, .pointer (some ⟨b4_4, 0, .none⟩)), (6, .slice av_0 nv_0 cv_0), (7, .int .i64 v1_0), (8, .int .i64 v2_0)] [Chunk.box b3_1 35 [.slice ax_0 nx_0 cx_0, .slice ax1_0 nx1_0 cx1_0, .int .i64 x2_0, .slice ax2_0 nx2_0 cx2_0], Chunk.own tFlip fx_0 ax_0 nx_0 cx_0 x_0, Chunk.own tInt fx1_0 ax1_0 nx1_0 cx1_0 x1_0, Chunk.own tInt fx2_0 ax2_0 nx2_0 cx2_0 x3_0, Chunk.box b4_4 39 [.int .i64 x4_0, .int .i64 x5_0, .slice ax3_0 nx3_0 cx3_0, .slice ax4_0 nx4_0 cx4_0, .slice ax5_0 nx5_0 cx5_0], Chunk.own tPlane fx3_0 ax3_0 nx3_0 cx3_0 x6_0, Chunk.own tInt fx4_0 ax4_0 nx4_0 cx4_0 x7_0, Chunk.own tInt fx5_0 ax5_0 nx5_0 cx5_0 x8_0, Chunk.own tInt fv_0 av_0 nv_0 cv_0 v_0]
   refine WC.seq (WC.sr ?_)
   refine mv ?_
   refine sp (OpV.lss rfl rfl) ?_
   refine WL.nil (En.next ?_)
   refine WC.cond rfl ?_ ?_
   ·
    intro hc_4
    replace zh0 := ifO_t hc_4 zh0
    refine WC.skip (En.next (WC.seq (WC.block (WC.seq ?_))))
    obtain ⟨x10_2, e10_2, zh0⟩ := bnd zh0
    refine WC.region ?_
    refine mv ?_
    refine mv ?_
    refine sp (OpV.call (ec rfl (ec rfl e0)) ca_29 (fun w hs => w_laws_at e10_2 (r0_0.ext hs.below))) ?_
    refine ag ?_
    refine WL.nil (En.next (WC.sr ?_))
    refine mv ?_
    refine sp (OpV.remR rfl rfl rfl) ?_
    refine WL.nil (En.next (WC.block (WC.sr ?_)))
    refine sp (OpV.eql rfl rfl) ?_
    refine ag ?_
    refine WL.nil (En.next ?_)
    refine WC.cond rfl ?_ ?_
    ·
     intro hc_5
     replace zh0 := ifO_t hc_5 zh0
     obtain ⟨x21_5, e21_5, zh0⟩ := bnd zh0
     refine WC.region ?_
     refine sp (OpV.loadAll rfl mq0 ag_35) ?_
     refine mv ?_
     refine sp (OpV.quoR rfl rfl rfl) ?_
     refine sp (OpV.remR rfl rfl rfl) ?_
     refine sp (OpV.addR rfl rfl) ?_
     refine WL.heavy rfl rfl rfl (OpH.callR (ec rfl (ec rfl e0)) ca_20 (fun w hs => w_impl_SignalFence e21_5 (Ow.rd (hs.mem mq1)) (Ow.rd (hs.mem mq2)) (Ow.rd (hs.mem mq3))) ?_)
     rintro _ _ ⟨a21_500, n21_500, c21_500, f21_500, a21_501, n21_501, c21_501, f21_501, a21_502, n21_502, c21_502, f21_502, rfl, rfl⟩
     refine WL.heavy0 rfl rfl (OpH.storeTo (A := [_, _, _]) [_, _, _, _] rfl rfl rfl ts_35 rfl rfl rfl ?_)
     refine WL.nil (En.block_norm (En.block_norm (En.next (WC.region ?_))))
     refine mv ?_
     refine sp (OpV.addR rfl rfl) ?_
     refine ag ?_
     refine WL.nil ?_
     exact En.backP zb0 zh0 (a21_500, n21_500, c21_500, f21_500, a21_501, n21_501, c21_501, f21_501, a21_502, n21_502, c21_502, f21_502, ax3_0, nx3_0, cx3_0, fx3_0, ax4_0, nx4_0, cx4_0, fx4_0, ax5_0, nx5_0, cx5_0, fx5_0, av_0, nv_0, cv_0, fv_0) (sc (sc (sc (sc (sc (sc sn)))))) (fun _ h => ((((((((((h).pm 11).pm 11).pm 11).pm 11).pm 11).pm 7).pm 7).pm 7).pm 8).sub (.cons_cons _ (.cons_cons _ (.cons_cons _ (.cons_cons _ (.cons_cons _ (.cons_cons _ (.cons_cons _ (.cons_cons _ (.cons_cons _ (.cons _ (.cons _ (.cons _ (.slnil))))))))))))))
    ·
     intro hc_5
     replace zh0 := ifO_f hc_5 zh0
     refine WC.seq (WC.sr ?_)
     refine sp (OpV.eql rfl rfl) ?_
     refine ag ?_
     refine WL.nil (En.next ?_)
     refine WC.cond rfl ?_ ?_
     ·
      intro hc_6
      replace zh0 := ifO_t hc_6 zh0
      refine WC.skip (En.next ?_)
      refine WC.cond rfl ?_ ?_
      ·
       intro hc_7
       replace zh0 := ifO_t hc_7 zh0
       refine WC.seq ?_
       obtain ⟨⟨x24_3a, x24_3b⟩, e24_3, zh0⟩ := bnd zh0
       refine WC.region ?_
       refine mv ?_
       refine sp (OpV.inhF fun hin => OpV.lenO (xs := v_0) rfl si_23 rfl (ownLen hin mq8)) ?_
       refine sp (OpV.addR rfl rfl) ?_
       refine WL.heavy rfl rfl rfl (OpH.callR (ec rfl (ec rfl (ec rfl e0))) ca_28 (fun w hs => w_spec_BlankCrtc e24_3) ?_)
       rintro _ _ ⟨a24_300, n24_300, c24_300, f24_300, a24_301, n24_301, c24_301, f24_301, a24_302, n24_302, c24_302, f24_302, rfl, rfl⟩
       refine mv ?_
       refine sp (OpV.extract rfl rfl) ?_
       refine sp (OpV.extract rfl rfl) ?_
       refine WL.heavy rfl rfl rfl (OpH.alloc zc_39 ?_)
       intro b24_7
       refine WL.heavy0 rfl rfl (OpH.storeTo (A := []) [_, _, _, _, _] rfl rfl rfl ts_39 rfl rfl rfl ?_)
       refine ag ?_
       refine WL.nil (En.next (WC.seq ?_))
       obtain ⟨⟨x25_5a, x25_5b⟩, e25_5, zh0⟩ := bnd zh0
       refine WC.region ?_
       refine sp (OpV.loadAll rfl mq4 ag_35) ?_
       refine sp (OpV.loadAll rfl mq0 ag_39) ?_
       refine mv ?_
       refine sp (OpV.quoR rfl rfl rfl) ?_
       refine sp (OpV.remR rfl rfl rfl) ?_
       refine WL.heavy rfl rfl rfl (OpH.callR (ec rfl (ec rfl (ec rfl e0))) ca_30 (fun w hs => w_impl_QueueFlip e25_5 (Ow.rd (hs.mem mq5)) (Ow.rd (hs.mem mq6)) (Ow.rd (hs.mem mq7)) (Ow.rd (hs.mem mq1)) (Ow.rd (hs.mem mq2)) (Ow.rd (hs.mem mq3))) ?_)
       rintro _ _ ⟨a25_500, n25_500, c25_500, f25_500, a25_501, n25_501, c25_501, f25_501, a25_502, n25_502, c25_502, f25_502, rfl, rfl⟩
       refine mv ?_
       refine sp (OpV.extract rfl rfl) ?_
       refine sp (OpV.extract rfl rfl) ?_
       refine WL.heavy rfl rfl rfl (OpH.alloc zc_35 ?_)
       intro b25_9
       refine WL.heavy0 rfl rfl (OpH.storeTo (A := []) [_, _, _, _] rfl rfl rfl ts_35 rfl rfl rfl ?_)
       refine ag ?_
       refine WL.nil (En.next (WC.seq (WC.sr ?_)))
       refine mv ?_
       refine mv ?_
       refine sp (OpV.inhF fun hin => OpV.lenO (xs := v_0) rfl si_23 rfl (ownLen hin (u10 mq6))) ?_
       refine mv ?_
       refine sp (OpV.subR rfl rfl) ?_
       refine sp (OpV.lss rfl rfl) ?_
       refine sp (OpV.bneq rfl rfl ub_4) ?_
       refine WL.nil (En.next ?_)
       refine WC.cond rfl ?_ ?_
       ·
        intro hc_8
        replace zh0 := ifO_t hc_8 zh0
        refine WC.sr ?_
        refine ag ?_
        refine WL.nil (En.next (WC.ret (En.then_ret (En.block_ret (En.block_ret (En.then_ret (En.then_ret (En.block_ret (En.then_ret ?_)))))))))
        refine En.ret1 rfl (Res.tmp rfl) ?_
        have hx := exitP ze0 zh0
        subst hx
        replace h := fork_r h
        obtain rfl := Option.some.inj h
        intro w' hs
        exact ⟨rfl, hs.below⟩
       ·
        intro hc_8
        replace zh0 := ifO_f hc_8 zh0
        refine WC.skip (En.next (WC.seq (WC.sr ?_)))
        refine mv ?_
        refine WL.nil (En.next ?_)
        refine WC.cond rfl ?_ ?_
        ·
         intro hc_9
         replace zh0 := ifO_t hc_9 zh0
         obtain ⟨x29_5, e29_5, zh0⟩ := bnd zh0
         refine WC.region ?_
         refine mv ?_
         refine mv ?_
         refine sp (OpV.quoR rfl rfl rfl) ?_
         refine sp (OpV.remR rfl rfl rfl) ?_
         refine WL.heavy rfl rfl rfl (OpH.litF (A := tInt) (xs := [(Int.tmod (wr (Int.tdiv x10_2 4)) 4)]) tInt_flat (evps.cons rfl (evps.nil)) (bs_23_1_0 _) rfl rfl (Nat.le_of_ble_eq_true rfl) ?_)
         intro b29_4
         refine WL.heavy rfl rfl rfl (OpH.appS (F := [_, _, _, _, _, _, _, _, _, _, _, _, _, _, _, _, _]) (A := tInt) tInt_flat rfl rfl rfl mi_23 rfl (by decide) (fun w hs => (Ow.rd (hs.mem mq0))) e29_5 ?_)
         intro f29_5 a29_5 c29_5
         refine ag ?_
         refine WL.nil (En.next (WC.region ?_))
         refine sp (OpV.loadAll rfl mq1 ag_35) ?_
         refine WL.heavy0 rfl rfl (OpH.storeTo (A := [_, _, _, _, _, _, _, _, _]) [_, _, _, _] rfl rfl rfl ts_35 rfl rfl rfl ?_)
         refine WL.nil (En.block_norm (En.block_norm (En.next (WC.region ?_))))
         refine mv ?_
         refine sp (OpV.addR rfl rfl) ?_
         refine ag ?_
         refine WL.nil ?_
         exact En.backP zb0 zh0 (a25_500, n25_500, c25_500, f25_500, a25_501, n25_501, c25_501, f25_501, a25_502, n25_502, c25_502, f25_502, ax3_0, nx3_0, cx3_0, fx3_0, ax4_0, nx4_0, cx4_0, fx4_0, ax5_0, nx5_0, cx5_0, fx5_0, a29_5, x29_5.length, c29_5, f29_5) (sc (sc (sc (sc (sc (sc sn)))))) (fun _ h => ((((((((((h).pm 17).pm 17).pm 17).pm 17).pm 17).pm 9).pm 9).pm 9).pm 14).sub (.cons_cons _ (.cons_cons _ (.cons_cons _ (.cons_cons _ (.cons_cons _ (.cons_cons _ (.cons_cons _ (.cons_cons _ (.cons_cons _ (.cons _ (.cons _ (.cons _ (.cons _ (.cons _ (.cons _ (.cons _ (.cons _ (.cons _ (.slnil))))))))))))))))))))
        ·
         intro hc_9
         replace zh0 := ifO_f hc_9 zh0
         refine WC.skip (En.next (WC.region ?_))
         refine sp (OpV.loadAll rfl mq0 ag_35) ?_
         refine WL.heavy0 rfl rfl (OpH.storeTo (A := [_, _, _, _, _, _, _, _]) [_, _, _, _] rfl rfl rfl ts_35 rfl rfl rfl ?_)
         refine WL.nil (En.block_norm (En.block_norm (En.next (WC.region ?_))))
         refine mv ?_
         refine sp (OpV.addR rfl rfl) ?_
         refine ag ?_
         refine WL.nil ?_
         exact En.backP zb0 zh0 (a25_500, n25_500, c25_500, f25_500, a25_501, n25_501, c25_501, f25_501, a25_502, n25_502, c25_502, f25_502, ax3_0, nx3_0, cx3_0, fx3_0, ax4_0, nx4_0, cx4_0, fx4_0, ax5_0, nx5_0, cx5_0, fx5_0, av_0, nv_0, cv_0, fv_0) (sc (sc (sc (sc (sc (sc sn)))))) (fun _ h => ((((((((((h).pm 16).pm 16).pm 16).pm 16).pm 16).pm 8).pm 8).pm 8).pm 13).sub (.cons_cons _ (.cons_cons _ (.cons_cons _ (.cons_cons _ (.cons_cons _ (.cons_cons _ (.cons_cons _ (.cons_cons _ (.cons_cons _ (.cons _ (.cons _ (.cons _ (.cons _ (.cons _ (.cons _ (.cons _ (.cons _ (.slnil)))))))))))))))))))
      ·
       intro hc_7
       replace zh0 := ifO_f hc_7 zh0
       refine WC.seq ?_
       refine WC.inh fun hin12 => ?_
       obtain ⟨q12_19, e12_19, zh0⟩ := bnd zh0
       refine WC.drawn [(0, ?r12q5v0), (3, ?r12q5v3), (4, ?r12q5v4), (6, ?r12q5v6), (7, ?r12q5v7), (8, ?r12q5v8), (14, ?r12q5v14)] (by kernel_rfl) (by kernel_rfl) ?dH12q5 ?dK12q5
       case dH12q5 =>
        intro W hW hk
        refine hW.mv ?_
        refine hW.mv ?_
        refine hW.sp (OpV.inhF fun hin => OpV.lenO (xs := v_0) rfl si_23 rfl (ownLen hin mq8)) ?_
        refine hW.sp (OpV.lss rfl rfl) ?_
        refine hW.mv ?_
        refine hW.andQ 41 56 55 (p := ?pz3) (rest := ?qz3) (B := q12_19) rfl (fun hz => andO_f e12_19 hz) ?Tz3 ?Fz3 ?az3 ?bz3 ?cz3 ?dz3 ?ez3
        case Tz3 =>
         intro hcz3 hkz3
         have hqz3 := andO_t e12_19 hcz3
         obtain ⟨x12_7, e12_7, hqz3⟩ := bnd hqz3
         obtain ⟨g12_7, o12_7, ha12_7⟩ := ownAddr hin12 mq8 e12_7
         have hn12_7 := ownLen hin12 mq8
         obtain ⟨q12_18, e12_18, hqz3⟩ := bnd hqz3
         obtain rfl := Option.some.inj hqz3
         refine hW.mv ?_
         refine hW.mv ?_
         refine hW.sp (OpV.idxA rfl rfl se_23 ha12_7 ⟨(idx_some e12_7).1, by rw [hn12_7]; exact (idx_some e12_7).2.1⟩) ?_
         refine hW.sp (OpV.load1 rfl pt_3 (fun w hs => Rd.cell1 tInt_flat (Ow.rd (hs.mem mq8)) e12_7 ha12_7 rfl)) ?_
         refine hW.sp (OpV.eql rfl rfl) ?_
         refine hW.mv ?_
         refine hW.orQ 47 55 54 (p := ?pz4) (rest := ?qz4) (B := q12_18) rfl (fun hz => orO_t e12_18 hz) ?Tz4 ?Fz4 ?az4 ?bz4 ?cz4 ?dz4 ?ez4
         case Tz4 =>
          intro hcz4 hkz4
          refine hW.sk ?_
          refine hW.sk ?_
          refine hW.sk ?_
          refine hW.sk ?_
          refine hW.sk ?_
          refine hW.sk ?_
          refine hW.sk ?_
          refine hkz4 _ ?_
          repeat (first | exact Sub.refl _ | refine Sub.skip rfl ?_)
         case Fz4 =>
          intro hcz4 hkz4
          have hqz4 := orO_f e12_18 hcz4
          obtain ⟨x12_15, e12_15, hqz4⟩ := bnd hqz4
          obtain ⟨g12_15, o12_15, ha12_15⟩ := ownAddr hin12 mq8 e12_15
          have hn12_15 := ownLen hin12 mq8
          obtain ⟨x12_17, e12_17, hqz4⟩ := bnd hqz4
          obtain rfl := Option.some.inj hqz4
          refine hW.sp (OpV.fieldAddr rfl fo_35_1) ?_
          refine hW.sp (OpV.loadBox rfl pt_23 mq0 rfl) ?_
          refine hW.mv ?_
          refine hW.mv ?_
          refine hW.sp (OpV.idxA rfl rfl se_23 ha12_15 ⟨(idx_some e12_15).1, by rw [hn12_15]; exact (idx_some e12_15).2.1⟩) ?_
          refine hW.sp (OpV.load1 rfl pt_3 (fun w hs => Rd.cell1 tInt_flat (Ow.rd (hs.mem mq8)) e12_15 ha12_15 rfl)) ?_
          refine hW.sp (OpV.call (ec rfl (ec rfl e0)) ca_31 (fun w hs => w_laws_has e12_17 (Ow.rd (hs.mem mq2)))) ?_
          refine hkz4 _ ?_ ?_
          exact rfl
          repeat (first | exact Sub.refl _ | refine Sub.skip rfl ?_)
         case az4 => exact rfl
         case bz4 => exact rfl
         case cz4 => exact rfl
         case dz4 => exact rfl
         refine hkz3 _ ?_ ?_
         exact rfl
         repeat (first | exact Sub.refl _ | refine Sub.skip rfl ?_)
        case Fz3 =>
         intro hcz3 hkz3
         refine hW.sk ?_
         refine hW.sk ?_
         refine hW.sk ?_
         refine hW.sk ?_
         refine hW.sk ?_
         refine hW.sk ?_
         refine hW.sk ?_
         refine hW.sk ?_
         refine hW.sk ?_
         refine hW.sk ?_
         refine hW.sk ?_
         refine hW.sk ?_
         refine hW.sk ?_
         refine hW.sk ?_
         refine hkz3 _ ?_
         repeat (first | exact Sub.refl _ | refine Sub.skip rfl ?_)
        case az3 => exact rfl
        case bz3 => exact rfl
        case cz3 => exact rfl
        case dz3 => exact rfl
        refine hW.sp (OpV.assign rfl) ?_
        refine hk _ ?_
        refine Sub.cons ?_ (Sub.cons ?_ (Sub.cons ?_ (Sub.cons ?_ (Sub.cons ?_ (Sub.cons ?_ (Sub.cons ?_ sn))))))
        all_goals exact rfl
       refine En.next (WC.seq ?_)
       obtain ⟨x13_1, e13_1, zh0⟩ := bnd zh0
       refine WC.region ?_
       refine sp (OpV.loadAll rfl mq0 ag_35) ?_
       refine sp (OpV.call (ec rfl e0) ca_32 (fun w hs => w_impl_FlipReady e13_1 (Ow.rd (hs.mem mq1)) (Ow.rd (hs.mem mq2)) (Ow.rd (hs.mem mq3)))) ?_
       refine ag ?_
       refine WL.nil (En.next (WC.seq ?_))
       obtain ⟨⟨x14_2a, x14_2b, x14_2c⟩, e14_2, zh0⟩ := bnd zh0
       refine WC.region ?_
       refine sp (OpV.loadAll rfl mq0 ag_35) ?_
       refine sp (OpV.loadAll rfl mq4 ag_39) ?_
       refine WL.heavy rfl rfl rfl (OpH.callR (ec rfl (ec rfl e0)) ca_12 (fun w hs => w_impl_TakeFlip e14_2 (Ow.rd (hs.mem mq1)) (Ow.rd (hs.mem mq2)) (Ow.rd (hs.mem mq3)) (Ow.rd (hs.mem mq5)) (Ow.rd (hs.mem mq6)) (Ow.rd (hs.mem mq7))) ?_)
       rintro _ _ ⟨a14_200, n14_200, c14_200, f14_200, a14_201, n14_201, c14_201, f14_201, a14_202, n14_202, c14_202, f14_202, a14_210, n14_210, c14_210, f14_210, a14_211, n14_211, c14_211, f14_211, a14_212, n14_212, c14_212, f14_212, rfl, rfl⟩
       refine mv ?_
       refine sp (OpV.extract rfl rfl) ?_
       refine sp (OpV.extract rfl rfl) ?_
       refine sp (OpV.extract rfl rfl) ?_
       refine WL.heavy rfl rfl rfl (OpH.alloc zc_35 ?_)
       intro b14_7
       refine WL.heavy rfl rfl rfl (OpH.alloc zc_39 ?_)
       intro b14_8
       refine WL.heavy0 rfl rfl (OpH.storeTo (A := [_]) [_, _, _, _] rfl rfl rfl ts_35 rfl rfl rfl ?_)
       refine WL.heavy0 rfl rfl (OpH.storeTo (A := []) [_, _, _, _, _] rfl rfl rfl ts_39 rfl rfl rfl ?_)
       refine ag ?_
       refine WL.nil (En.next (WC.seq (WC.seq ?_)))
       obtain ⟨q15_18, e15_18, zh0⟩ := bnd zh0
       obtain ⟨q15_28, e15_28, zh0⟩ := bnd zh0
       refine WC.region ?_
       refine mv ?_
       refine mv ?_
       refine sp (OpV.bneq rfl rfl ub_4) ?_
       refine mv ?_
       refine Lt.ofWL.or 69 73 72 (p := ?pz5) (rest := ?qz5) (B := ?Bz5) rfl ?Tz5 ?Fz5 ?az5 ?bz5 ?cz5 ?dz5 ?ez5
       case Tz5 =>
        intro hcz5 hkz5
        refine sk ?_
        refine sk ?_
        refine sk ?_
        refine hkz5 _ ?_
        repeat (first | exact Sub.refl _ | refine Sub.skip rfl ?_)
       case Fz5 =>
        intro hcz5 hkz5
        refine mv ?_
        refine mv ?_
        refine sp (OpV.bneq rfl rfl ub_4) ?_
        refine hkz5 _ ?_ ?_
        exact rfl
        repeat (first | exact Sub.refl _ | refine Sub.skip rfl ?_)
       case az5 => exact rfl
       case bz5 => exact rfl
       case cz5 => exact rfl
       case dz5 => exact rfl
       refine mv ?_
       refine Lt.ofWL.orQ 74 84 83 (p := ?pz6) (rest := ?qz6) (B := q15_18) rfl (fun hz => orO_t e15_18 hz) ?Tz6 ?Fz6 ?az6 ?bz6 ?cz6 ?dz6 ?ez6
       case Tz6 =>
        intro hcz6 hkz6
        refine sk ?_
        refine sk ?_
        refine sk ?_
        refine sk ?_
        refine sk ?_
        refine sk ?_
        refine sk ?_
        refine sk ?_
        refine sk ?_
        refine hkz6 _ ?_
        repeat (first | exact Sub.refl _ | refine Sub.skip rfl ?_)
       case Fz6 =>
        intro hcz6 hkz6
        have hqz6 := orO_f e15_18 hcz6
        obtain ⟨q15_17, e15_17, hqz6⟩ := bnd hqz6
        obtain rfl := Option.some.inj hqz6
        refine mv ?_
        refine mv ?_
        refine Lt.ofWL.andQ 76 83 82 (p := ?pz7) (rest := ?qz7) (B := q15_17) rfl (fun hz => andO_f e15_17 hz) ?Tz7 ?Fz7 ?az7 ?bz7 ?cz7 ?dz7 ?ez7
        case Tz7 =>
         intro hcz7 hkz7
         have hqz7 := andO_t e15_17 hcz7
         obtain ⟨x15_13, e15_13, hqz7⟩ := bnd hqz7
         obtain rfl := Option.some.inj hqz7
         refine sp (OpV.fieldAddr rfl fo_39_2) ?_
         refine sp (OpV.loadBox rfl pt_36 mq0 rfl) ?_
         refine sp (OpV.call (ec rfl (ec rfl (ec rfl (ec rfl (ec rfl e0))))) ca_33 (fun w hs => w_spec_ScanPixel e15_13 (Ow.rd (hs.mem mq5)))) ?_
         refine mv ?_
         refine sp (OpV.addR rfl rfl) ?_
         refine sp (OpV.neq rfl rfl) ?_
         refine hkz7 _ ?_ ?_
         exact rfl
         repeat (first | exact Sub.refl _ | refine Sub.skip rfl ?_)
        case Fz7 =>
         intro hcz7 hkz7
         refine sk ?_
         refine sk ?_
         refine sk ?_
         refine sk ?_
         refine sk ?_
         refine sk ?_
         refine hkz7 _ ?_
         repeat (first | exact Sub.refl _ | refine Sub.skip rfl ?_)
        case az7 => exact rfl
        case bz7 => exact rfl
        case cz7 => exact rfl
        case dz7 => exact rfl
        refine hkz6 _ ?_ ?_
        exact rfl
        repeat (first | exact Sub.refl _ | refine Sub.skip rfl ?_)
       case az6 => exact rfl
       case bz6 => exact rfl
       case cz6 => exact rfl
       case dz6 => exact rfl
       refine mv ?_
       refine Lt.ofWL.orQ 85 94 93 (p := ?pz8) (rest := ?qz8) (B := q15_28) rfl (fun hz => orO_t e15_28 hz) ?Tz8 ?Fz8 ?az8 ?bz8 ?cz8 ?dz8 ?ez8
       case Tz8 =>
        intro hcz8 hkz8
        refine sk ?_
        refine sk ?_
        refine sk ?_
        refine sk ?_
        refine sk ?_
        refine sk ?_
        refine sk ?_
        refine sk ?_
        refine hkz8 _ ?_
        repeat (first | exact Sub.refl _ | refine Sub.skip rfl ?_)
       case Fz8 =>
        intro hcz8 hkz8
        have hqz8 := orO_f e15_28 hcz8
        obtain ⟨q15_27, e15_27, hqz8⟩ := bnd hqz8
        obtain rfl := Option.some.inj hqz8
        refine mv ?_
        refine sp (OpV.not rfl) ?_
        refine mv ?_
        refine Lt.ofWL.andQ 88 93 92 (p := ?pz9) (rest := ?qz9) (B := q15_27) rfl (fun hz => andO_f e15_27 hz) ?Tz9 ?Fz9 ?az9 ?bz9 ?cz9 ?dz9 ?ez9
        case Tz9 =>
         intro hcz9 hkz9
         have hqz9 := andO_t e15_27 hcz9
         obtain ⟨x15_25, e15_25, hqz9⟩ := bnd hqz9
         obtain rfl := Option.some.inj hqz9
         refine sp (OpV.loadAll rfl mq0 ag_39) ?_
         refine sp (OpV.loadAll rfl (u10 mq2) ag_39) ?_
         refine sp (OpV.call (ec rfl (ec rfl e0)) ca_34 (fun w hs => w_spec_SameCrtc e15_25 (Ow.rd (hs.mem mq5)) (Ow.rd (hs.mem mq6)) (Ow.rd (hs.mem mq7)) (Ow.rd (hs.mem (u10 mq3))) (Ow.rd (hs.mem (u10 mq4))) (Ow.rd (hs.mem (u10 mq5))))) ?_
         refine sp (OpV.not rfl) ?_
         refine hkz9 _ ?_ ?_
         exact rfl
         repeat (first | exact Sub.refl _ | refine Sub.skip rfl ?_)
        case Fz9 =>
         intro hcz9 hkz9
         refine sk ?_
         refine sk ?_
         refine sk ?_
         refine sk ?_
         refine hkz9 _ ?_
         repeat (first | exact Sub.refl _ | refine Sub.skip rfl ?_)
        case az9 => exact rfl
        case bz9 => exact rfl
        case cz9 => exact rfl
        case dz9 => exact rfl
        refine hkz8 _ ?_ ?_
        exact rfl
        repeat (first | exact Sub.refl _ | refine Sub.skip rfl ?_)
       case az8 => exact rfl
       case bz8 => exact rfl
       case cz8 => exact rfl
       case dz8 => exact rfl
       refine WL.nil (En.next ?_)
       refine WC.cond rfl ?_ ?_
       ·
        intro hc_10
        replace zh0 := ifO_t hc_10 zh0
        refine WC.sr ?_
        refine ag ?_
        refine WL.nil (En.next (WC.ret (En.then_ret (En.block_ret (En.block_ret (En.then_ret (En.then_ret (En.block_ret (En.then_ret ?_)))))))))
        refine En.ret1 rfl (Res.tmp rfl) ?_
        have hx := exitP ze0 zh0
        subst hx
        replace h := fork_r h
        obtain rfl := Option.some.inj h
        intro w' hs
        exact ⟨rfl, hs.below⟩
       ·
        intro hc_10
        replace zh0 := ifO_f hc_10 zh0
        refine WC.skip (En.next (WC.seq ?_))
        obtain ⟨x17_2, e17_2, zh0⟩ := bnd zh0
        refine WC.region ?_
        refine mv ?_
        refine mv ?_
        refine sp (OpV.call (ec rfl e0) ca_35 (fun w hs => w_laws_btoi e17_2)) ?_
        refine sp (OpV.addR rfl rfl) ?_
        refine ag ?_
        refine WL.nil (En.next (WC.sr ?_))
        refine sp (OpV.loadAll rfl mq1 ag_35) ?_
        refine WL.heavy0 rfl rfl (OpH.storeTo (A := [_, _, _, _, _, _, _, _]) [_, _, _, _] rfl rfl rfl ts_35 rfl rfl rfl ?_)
        refine WL.nil (En.next (WC.region ?_))
        refine sp (OpV.loadAll rfl mq0 ag_39) ?_
        refine WL.heavy0 rfl rfl (OpH.storeTo (A := [_, _, _, _, _, _, _, _, _, _, _, _]) [_, _, _, _, _] rfl rfl rfl ts_39 rfl rfl rfl ?_)
        refine WL.nil (En.block_norm (En.block_norm (En.next (WC.region ?_))))
        refine mv ?_
        refine sp (OpV.addR rfl rfl) ?_
        refine ag ?_
        refine WL.nil ?_
        exact En.backP zb0 zh0 (a14_200, n14_200, c14_200, f14_200, a14_201, n14_201, c14_201, f14_201, a14_202, n14_202, c14_202, f14_202, a14_210, n14_210, c14_210, f14_210, a14_211, n14_211, c14_211, f14_211, a14_212, n14_212, c14_212, f14_212, av_0, nv_0, cv_0, fv_0) (sc (sc (sc (sc (sc (sc sn)))))) (fun _ h => ((((((((((h).pm 16).pm 8).pm 8).pm 8).pm 13).pm 9).pm 9).pm 9).pm 10).sub (.cons_cons _ (.cons_cons _ (.cons_cons _ (.cons_cons _ (.cons_cons _ (.cons_cons _ (.cons_cons _ (.cons_cons _ (.cons_cons _ (.cons _ (.cons _ (.cons _ (.cons _ (.cons _ (.cons _ (.cons _ (.cons _ (.slnil)))))))))))))))))))
     ·
      intro hc_6
      replace zh0 := ifO_f hc_6 zh0
      refine WC.region ?_
      refine sp (OpV.eql rfl rfl) ?_
      refine ag ?_
      refine WL.nil (En.next ?_)
      refine WC.cond rfl ?_ ?_
      ·
       intro hc_11
       replace zh0 := ifO_t hc_11 zh0
       refine WC.seq ?_
       obtain ⟨⟨x24_3a, x24_3b⟩, e24_3, zh0⟩ := bnd zh0
       refine WC.region ?_
       refine mv ?_
       refine sp (OpV.inhF fun hin => OpV.lenO (xs := v_0) rfl si_23 rfl (ownLen hin mq8)) ?_
       refine sp (OpV.addR rfl rfl) ?_
       refine WL.heavy rfl rfl rfl (OpH.callR (ec rfl (ec rfl (ec rfl e0))) ca_28 (fun w hs => w_spec_BlankCrtc e24_3) ?_)
       rintro _ _ ⟨a24_300, n24_300, c24_300, f24_300, a24_301, n24_301, c24_301, f24_301, a24_302, n24_302, c24_302, f24_302, rfl, rfl⟩
       refine mv ?_
       refine sp (OpV.extract rfl rfl) ?_
       refine sp (OpV.extract rfl rfl) ?_
       refine WL.heavy rfl rfl rfl (OpH.alloc zc_39 ?_)
       intro b24_7
       refine WL.heavy0 rfl rfl (OpH.storeTo (A := []) [_, _, _, _, _] rfl rfl rfl ts_39 rfl rfl rfl ?_)
       refine ag ?_
       refine WL.nil (En.next (WC.seq ?_))
       obtain ⟨⟨x25_5a, x25_5b⟩, e25_5, zh0⟩ := bnd zh0
       refine WC.region ?_
       refine sp (OpV.loadAll rfl mq4 ag_35) ?_
       refine sp (OpV.loadAll rfl mq0 ag_39) ?_
       refine mv ?_
       refine sp (OpV.quoR rfl rfl rfl) ?_
       refine sp (OpV.remR rfl rfl rfl) ?_
       refine WL.heavy rfl rfl rfl (OpH.callR (ec rfl (ec rfl (ec rfl e0))) ca_30 (fun w hs => w_impl_QueueFlip e25_5 (Ow.rd (hs.mem mq5)) (Ow.rd (hs.mem mq6)) (Ow.rd (hs.mem mq7)) (Ow.rd (hs.mem mq1)) (Ow.rd (hs.mem mq2)) (Ow.rd (hs.mem mq3))) ?_)
       rintro _ _ ⟨a25_500, n25_500, c25_500, f25_500, a25_501, n25_501, c25_501, f25_501, a25_502, n25_502, c25_502, f25_502, rfl, rfl⟩
       refine mv ?_
       refine sp (OpV.extract rfl rfl) ?_
       refine sp (OpV.extract rfl rfl) ?_
       refine WL.heavy rfl rfl rfl (OpH.alloc zc_35 ?_)
       intro b25_9
       refine WL.heavy0 rfl rfl (OpH.storeTo (A := []) [_, _, _, _] rfl rfl rfl ts_35 rfl rfl rfl ?_)
       refine ag ?_
       refine WL.nil (En.next (WC.seq (WC.sr ?_)))
       refine mv ?_
       refine mv ?_
       refine sp (OpV.inhF fun hin => OpV.lenO (xs := v_0) rfl si_23 rfl (ownLen hin (u10 mq6))) ?_
       refine mv ?_
       refine sp (OpV.subR rfl rfl) ?_
       refine sp (OpV.lss rfl rfl) ?_
       refine sp (OpV.bneq rfl rfl ub_4) ?_
       refine WL.nil (En.next ?_)
       refine WC.cond rfl ?_ ?_
       ·
        intro hc_12
        replace zh0 := ifO_t hc_12 zh0
        refine WC.sr ?_
        refine ag ?_
        refine WL.nil (En.next (WC.ret (En.then_ret (En.block_ret (En.block_ret (En.then_ret (En.then_ret (En.block_ret (En.then_ret ?_)))))))))
        refine En.ret1 rfl (Res.tmp rfl) ?_
        have hx := exitP ze0 zh0
        subst hx
        replace h := fork_r h
        obtain rfl := Option.some.inj h
        intro w' hs
        exact ⟨rfl, hs.below⟩
       ·
        intro hc_12
        replace zh0 := ifO_f hc_12 zh0
        refine WC.skip (En.next (WC.seq (WC.sr ?_)))
        refine mv ?_
        refine WL.nil (En.next ?_)
        refine WC.cond rfl ?_ ?_
        ·
         intro hc_13
         replace zh0 := ifO_t hc_13 zh0
         obtain ⟨x29_5, e29_5, zh0⟩ := bnd zh0
         refine WC.region ?_
         refine mv ?_
         refine mv ?_
         refine sp (OpV.quoR rfl rfl rfl) ?_
         refine sp (OpV.remR rfl rfl rfl) ?_
         refine WL.heavy rfl rfl rfl (OpH.litF (A := tInt) (xs := [(Int.tmod (wr (Int.tdiv x10_2 4)) 4)]) tInt_flat (evps.cons rfl (evps.nil)) (bs_23_1_0 _) rfl rfl (Nat.le_of_ble_eq_true rfl) ?_)
         intro b29_4
         refine WL.heavy rfl rfl rfl (OpH.appS (F := [_, _, _, _, _, _, _, _, _, _, _, _, _, _, _, _, _]) (A := tInt) tInt_flat rfl rfl rfl mi_23 rfl (by decide) (fun w hs => (Ow.rd (hs.mem mq0))) e29_5 ?_)
         intro f29_5 a29_5 c29_5
         refine ag ?_
         refine WL.nil (En.next (WC.region ?_))
         refine sp (OpV.loadAll rfl mq1 ag_35) ?_
         refine WL.heavy0 rfl rfl (OpH.storeTo (A := [_, _, _, _, _, _, _, _, _]) [_, _, _, _] rfl rfl rfl ts_35 rfl rfl rfl ?_)
         refine WL.nil (En.block_norm (En.block_norm (En.next (WC.region ?_))))
         refine mv ?_
         refine sp (OpV.addR rfl rfl) ?_
         refine ag ?_
         refine WL.nil ?_
         exact En.backP zb0 zh0 (a25_500, n25_500, c25_500, f25_500, a25_501, n25_501, c25_501, f25_501, a25_502, n25_502, c25_502, f25_502, ax3_0, nx3_0, cx3_0, fx3_0, ax4_0, nx4_0, cx4_0, fx4_0, ax5_0, nx5_0, cx5_0, fx5_0, a29_5, x29_5.length, c29_5, f29_5) (sc (sc (sc (sc (sc (sc sn)))))) (fun _ h => ((((((((((h).pm 17).pm 17).pm 17).pm 17).pm 17).pm 9).pm 9).pm 9).pm 14).sub (.cons_cons _ (.cons_cons _ (.cons_cons _ (.cons_cons _ (.cons_cons _ (.cons_cons _ (.cons_cons _ (.cons_cons _ (.cons_cons _ (.cons _ (.cons _ (.cons _ (.cons _ (.cons _ (.cons _ (.cons _ (.cons _ (.cons _ (.slnil))))))))))))))))))))
        ·
         intro hc_13
         replace zh0 := ifO_f hc_13 zh0
         refine WC.skip (En.next (WC.region ?_))
         refine sp (OpV.loadAll rfl mq0 ag_35) ?_
         refine WL.heavy0 rfl rfl (OpH.storeTo (A := [_, _, _, _, _, _, _, _]) [_, _, _, _] rfl rfl rfl ts_35 rfl rfl rfl ?_)
         refine WL.nil (En.block_norm (En.block_norm (En.next (WC.region ?_))))
         refine mv ?_
         refine sp (OpV.addR rfl rfl) ?_
         refine ag ?_
         refine WL.nil ?_
         exact En.backP zb0 zh0 (a25_500, n25_500, c25_500, f25_500, a25_501, n25_501, c25_501, f25_501, a25_502, n25_502, c25_502, f25_502, ax3_0, nx3_0, cx3_0, fx3_0, ax4_0, nx4_0, cx4_0, fx4_0, ax5_0, nx5_0, cx5_0, fx5_0, av_0, nv_0, cv_0, fv_0) (sc (sc (sc (sc (sc (sc sn)))))) (fun _ h => ((((((((((h).pm 16).pm 16).pm 16).pm 16).pm 16).pm 8).pm 8).pm 8).pm 13).sub (.cons_cons _ (.cons_cons _ (.cons_cons _ (.cons_cons _ (.cons_cons _ (.cons_cons _ (.cons_cons _ (.cons_cons _ (.cons_cons _ (.cons _ (.cons _ (.cons _ (.cons _ (.cons _ (.cons _ (.cons _ (.cons _ (.slnil)))))))))))))))))))
      ·
       intro hc_11
       replace zh0 := ifO_f hc_11 zh0
       refine WC.seq ?_
       refine WC.inh fun hin12 => ?_
       obtain ⟨q12_19, e12_19, zh0⟩ := bnd zh0
       refine WC.drawn [(0, ?r12q6v0), (3, ?r12q6v3), (4, ?r12q6v4), (6, ?r12q6v6), (7, ?r12q6v7), (8, ?r12q6v8), (14, ?r12q6v14)] (by kernel_rfl) (by kernel_rfl) ?dH12q6 ?dK12q6
       case dH12q6 =>
        intro W hW hk
        refine hW.mv ?_
        refine hW.mv ?_
        refine hW.sp (OpV.inhF fun hin => OpV.lenO (xs := v_0) rfl si_23 rfl (ownLen hin mq8)) ?_
        refine hW.sp (OpV.lss rfl rfl) ?_
        refine hW.mv ?_
        refine hW.andQ 41 56 55 (p := ?pz10) (rest := ?qz10) (B := q12_19) rfl (fun hz => andO_f e12_19 hz) ?Tz10 ?Fz10 ?az10 ?bz10 ?cz10 ?dz10 ?ez10
        case Tz10 =>
         intro hcz10 hkz10
         have hqz10 := andO_t e12_19 hcz10
         obtain ⟨x12_7, e12_7, hqz10⟩ := bnd hqz10
         obtain ⟨g12_7, o12_7, ha12_7⟩ := ownAddr hin12 mq8 e12_7
         have hn12_7 := ownLen hin12 mq8
         obtain ⟨q12_18, e12_18, hqz10⟩ := bnd hqz10
         obtain rfl := Option.some.inj hqz10
         refine hW.mv ?_
         refine hW.mv ?_
         refine hW.sp (OpV.idxA rfl rfl se_23 ha12_7 ⟨(idx_some e12_7).1, by rw [hn12_7]; exact (idx_some e12_7).2.1⟩) ?_
         refine hW.sp (OpV.load1 rfl pt_3 (fun w hs => Rd.cell1 tInt_flat (Ow.rd (hs.mem mq8)) e12_7 ha12_7 rfl)) ?_
         refine hW.sp (OpV.eql rfl rfl) ?_
         refine hW.mv ?_
         refine hW.orQ 47 55 54 (p := ?pz11) (rest := ?qz11) (B := q12_18) rfl (fun hz => orO_t e12_18 hz) ?Tz11 ?Fz11 ?az11 ?bz11 ?cz11 ?dz11 ?ez11
         case Tz11 =>
          intro hcz11 hkz11
          refine hW.sk ?_
          refine hW.sk ?_
          refine hW.sk ?_
          refine hW.sk ?_
          refine hW.sk ?_
          refine hW.sk ?_
          refine hW.sk ?_
          refine hkz11 _ ?_
          repeat (first | exact Sub.refl _ | refine Sub.skip rfl ?_)
         case Fz11 =>
          intro hcz11 hkz11
          have hqz11 := orO_f e12_18 hcz11
          obtain ⟨x12_15, e12_15, hqz11⟩ := bnd hqz11
          obtain ⟨g12_15, o12_15, ha12_15⟩ := ownAddr hin12 mq8 e12_15
          have hn12_15 := ownLen hin12 mq8
          obtain ⟨x12_17, e12_17, hqz11⟩ := bnd hqz11
          obtain rfl := Option.some.inj hqz11
          refine hW.sp (OpV.fieldAddr rfl fo_35_1) ?_
          refine hW.sp (OpV.loadBox rfl pt_23 mq0 rfl) ?_
          refine hW.mv ?_
          refine hW.mv ?_
          refine hW.sp (OpV.idxA rfl rfl se_23 ha12_15 ⟨(idx_some e12_15).1, by rw [hn12_15]; exact (idx_some e12_15).2.1⟩) ?_
          refine hW.sp (OpV.load1 rfl pt_3 (fun w hs => Rd.cell1 tInt_flat (Ow.rd (hs.mem mq8)) e12_15 ha12_15 rfl)) ?_
          refine hW.sp (OpV.call (ec rfl (ec rfl e0)) ca_31 (fun w hs => w_laws_has e12_17 (Ow.rd (hs.mem mq2)))) ?_
          refine hkz11 _ ?_ ?_
          exact rfl
          repeat (first | exact Sub.refl _ | refine Sub.skip rfl ?_)
         case az11 => exact rfl
         case bz11 => exact rfl
         case cz11 => exact rfl
         case dz11 => exact rfl
         refine hkz10 _ ?_ ?_
         exact rfl
         repeat (first | exact Sub.refl _ | refine Sub.skip rfl ?_)
        case Fz10 =>
         intro hcz10 hkz10
         refine hW.sk ?_
         refine hW.sk ?_
         refine hW.sk ?_
         refine hW.sk ?_
         refine hW.sk ?_
         refine hW.sk ?_
         refine hW.sk ?_
         refine hW.sk ?_
         refine hW.sk ?_
         refine hW.sk ?_
         refine hW.sk ?_
         refine hW.sk ?_
         refine hW.sk ?_
         refine hW.sk ?_
         refine hkz10 _ ?_
         repeat (first | exact Sub.refl _ | refine Sub.skip rfl ?_)
        case az10 => exact rfl
        case bz10 => exact rfl
        case cz10 => exact rfl
        case dz10 => exact rfl
        refine hW.sp (OpV.assign rfl) ?_
        refine hk _ ?_
        refine Sub.cons ?_ (Sub.cons ?_ (Sub.cons ?_ (Sub.cons ?_ (Sub.cons ?_ (Sub.cons ?_ (Sub.cons ?_ sn))))))
        all_goals exact rfl
       refine En.next (WC.seq ?_)
       obtain ⟨x13_1, e13_1, zh0⟩ := bnd zh0
       refine WC.region ?_
       refine sp (OpV.loadAll rfl mq0 ag_35) ?_
       refine sp (OpV.call (ec rfl e0) ca_32 (fun w hs => w_impl_FlipReady e13_1 (Ow.rd (hs.mem mq1)) (Ow.rd (hs.mem mq2)) (Ow.rd (hs.mem mq3)))) ?_
       refine ag ?_
       refine WL.nil (En.next (WC.seq ?_))
       obtain ⟨⟨x14_2a, x14_2b, x14_2c⟩, e14_2, zh0⟩ := bnd zh0
       refine WC.region ?_
       refine sp (OpV.loadAll rfl mq0 ag_35) ?_
       refine sp (OpV.loadAll rfl mq4 ag_39) ?_
       refine WL.heavy rfl rfl rfl (OpH.callR (ec rfl (ec rfl e0)) ca_12 (fun w hs => w_impl_TakeFlip e14_2 (Ow.rd (hs.mem mq1)) (Ow.rd (hs.mem mq2)) (Ow.rd (hs.mem mq3)) (Ow.rd (hs.mem mq5)) (Ow.rd (hs.mem mq6)) (Ow.rd (hs.mem mq7))) ?_)
       rintro _ _ ⟨a14_200, n14_200, c14_200, f14_200, a14_201, n14_201, c14_201, f14_201, a14_202, n14_202, c14_202, f14_202, a14_210, n14_210, c14_210, f14_210, a14_211, n14_211, c14_211, f14_211, a14_212, n14_212, c14_212, f14_212, rfl, rfl⟩
       refine mv ?_
       refine sp (OpV.extract rfl rfl) ?_
       refine sp (OpV.extract rfl rfl) ?_
       refine sp (OpV.extract rfl rfl) ?_
       refine WL.heavy rfl rfl rfl (OpH.alloc zc_35 ?_)
       intro b14_7
       refine WL.heavy rfl rfl rfl (OpH.alloc zc_39 ?_)
       intro b14_8
       refine WL.heavy0 rfl rfl (OpH.storeTo (A := [_]) [_, _, _, _] rfl rfl rfl ts_35 rfl rfl rfl ?_)
       refine WL.heavy0 rfl rfl (OpH.storeTo (A := []) [_, _, _, _, _] rfl rfl rfl ts_39 rfl rfl rfl ?_)
       refine ag ?_
       refine WL.nil (En.next (WC.seq (WC.seq ?_)))
       obtain ⟨q15_18, e15_18, zh0⟩ := bnd zh0
       obtain ⟨q15_28, e15_28, zh0⟩ := bnd zh0
       refine WC.region ?_
       refine mv ?_
       refine mv ?_
       refine sp (OpV.bneq rfl rfl ub_4) ?_
       refine mv ?_
       refine Lt.ofWL.or 69 73 72 (p := ?pz12) (rest := ?qz12) (B := ?Bz12) rfl ?Tz12 ?Fz12 ?az12 ?bz12 ?cz12 ?dz12 ?ez12
       case Tz12 =>
        intro hcz12 hkz12
        refine sk ?_
        refine sk ?_
        refine sk ?_
        refine hkz12 _ ?_
        repeat (first | exact Sub.refl _ | refine Sub.skip rfl ?_)
       case Fz12 =>
        intro hcz12 hkz12
        refine mv ?_
        refine mv ?_
        refine sp (OpV.bneq rfl rfl ub_4) ?_
        refine hkz12 _ ?_ ?_
        exact rfl
        repeat (first | exact Sub.refl _ | refine Sub.skip rfl ?_)
       case az12 => exact rfl
       case bz12 => exact rfl
       case cz12 => exact rfl
       case dz12 => exact rfl
       refine mv ?_
       refine Lt.ofWL.orQ 74 84 83 (p := ?pz13) (rest := ?qz13) (B := q15_18) rfl (fun hz => orO_t e15_18 hz) ?Tz13 ?Fz13 ?az13 ?bz13 ?cz13 ?dz13 ?ez13
       case Tz13 =>
        intro hcz13 hkz13
        refine sk ?_
        refine sk ?_
        refine sk ?_
        refine sk ?_
        refine sk ?_
        refine sk ?_
        refine sk ?_
        refine sk ?_
        refine sk ?_
        refine hkz13 _ ?_
        repeat (first | exact Sub.refl _ | refine Sub.skip rfl ?_)
       case Fz13 =>
        intro hcz13 hkz13
        have hqz13 := orO_f e15_18 hcz13
        obtain ⟨q15_17, e15_17, hqz13⟩ := bnd hqz13
        obtain rfl := Option.some.inj hqz13
        refine mv ?_
        refine mv ?_
        refine Lt.ofWL.andQ 76 83 82 (p := ?pz14) (rest := ?qz14) (B := q15_17) rfl (fun hz => andO_f e15_17 hz) ?Tz14 ?Fz14 ?az14 ?bz14 ?cz14 ?dz14 ?ez14
        case Tz14 =>
         intro hcz14 hkz14
         have hqz14 := andO_t e15_17 hcz14
         obtain ⟨x15_13, e15_13, hqz14⟩ := bnd hqz14
         obtain rfl := Option.some.inj hqz14
         refine sp (OpV.fieldAddr rfl fo_39_2) ?_
         refine sp (OpV.loadBox rfl pt_36 mq0 rfl) ?_
         refine sp (OpV.call (ec rfl (ec rfl (ec rfl (ec rfl (ec rfl e0))))) ca_33 (fun w hs => w_spec_ScanPixel e15_13 (Ow.rd (hs.mem mq5)))) ?_
         refine mv ?_
         refine sp (OpV.addR rfl rfl) ?_
         refine sp (OpV.neq rfl rfl) ?_
         refine hkz14 _ ?_ ?_
         exact rfl
         repeat (first | exact Sub.refl _ | refine Sub.skip rfl ?_)
        case Fz14 =>
         intro hcz14 hkz14
         refine sk ?_
         refine sk ?_
         refine sk ?_
         refine sk ?_
         refine sk ?_
         refine sk ?_
         refine hkz14 _ ?_
         repeat (first | exact Sub.refl _ | refine Sub.skip rfl ?_)
        case az14 => exact rfl
        case bz14 => exact rfl
        case cz14 => exact rfl
        case dz14 => exact rfl
        refine hkz13 _ ?_ ?_
        exact rfl
        repeat (first | exact Sub.refl _ | refine Sub.skip rfl ?_)
       case az13 => exact rfl
       case bz13 => exact rfl
       case cz13 => exact rfl
       case dz13 => exact rfl
       refine mv ?_
       refine Lt.ofWL.orQ 85 94 93 (p := ?pz15) (rest := ?qz15) (B := q15_28) rfl (fun hz => orO_t e15_28 hz) ?Tz15 ?Fz15 ?az15 ?bz15 ?cz15 ?dz15 ?ez15
       case Tz15 =>
        intro hcz15 hkz15
        refine sk ?_
        refine sk ?_
        refine sk ?_
        refine sk ?_
        refine sk ?_
        refine sk ?_
        refine sk ?_
        refine sk ?_
        refine hkz15 _ ?_
        repeat (first | exact Sub.refl _ | refine Sub.skip rfl ?_)
       case Fz15 =>
        intro hcz15 hkz15
        have hqz15 := orO_f e15_28 hcz15
        obtain ⟨q15_27, e15_27, hqz15⟩ := bnd hqz15
        obtain rfl := Option.some.inj hqz15
        refine mv ?_
        refine sp (OpV.not rfl) ?_
        refine mv ?_
        refine Lt.ofWL.andQ 88 93 92 (p := ?pz16) (rest := ?qz16) (B := q15_27) rfl (fun hz => andO_f e15_27 hz) ?Tz16 ?Fz16 ?az16 ?bz16 ?cz16 ?dz16 ?ez16
        case Tz16 =>
         intro hcz16 hkz16
         have hqz16 := andO_t e15_27 hcz16
         obtain ⟨x15_25, e15_25, hqz16⟩ := bnd hqz16
         obtain rfl := Option.some.inj hqz16
         refine sp (OpV.loadAll rfl mq0 ag_39) ?_
         refine sp (OpV.loadAll rfl (u10 mq2) ag_39) ?_
         refine sp (OpV.call (ec rfl (ec rfl e0)) ca_34 (fun w hs => w_spec_SameCrtc e15_25 (Ow.rd (hs.mem mq5)) (Ow.rd (hs.mem mq6)) (Ow.rd (hs.mem mq7)) (Ow.rd (hs.mem (u10 mq3))) (Ow.rd (hs.mem (u10 mq4))) (Ow.rd (hs.mem (u10 mq5))))) ?_
         refine sp (OpV.not rfl) ?_
         refine hkz16 _ ?_ ?_
         exact rfl
         repeat (first | exact Sub.refl _ | refine Sub.skip rfl ?_)
        case Fz16 =>
         intro hcz16 hkz16
         refine sk ?_
         refine sk ?_
         refine sk ?_
         refine sk ?_
         refine hkz16 _ ?_
         repeat (first | exact Sub.refl _ | refine Sub.skip rfl ?_)
        case az16 => exact rfl
        case bz16 => exact rfl
        case cz16 => exact rfl
        case dz16 => exact rfl
        refine hkz15 _ ?_ ?_
        exact rfl
        repeat (first | exact Sub.refl _ | refine Sub.skip rfl ?_)
       case az15 => exact rfl
       case bz15 => exact rfl
       case cz15 => exact rfl
       case dz15 => exact rfl
       refine WL.nil (En.next ?_)
       refine WC.cond rfl ?_ ?_
       ·
        intro hc_14
        replace zh0 := ifO_t hc_14 zh0
        refine WC.sr ?_
        refine ag ?_
        refine WL.nil (En.next (WC.ret (En.then_ret (En.block_ret (En.block_ret (En.then_ret (En.then_ret (En.block_ret (En.then_ret ?_)))))))))
        refine En.ret1 rfl (Res.tmp rfl) ?_
        have hx := exitP ze0 zh0
        subst hx
        replace h := fork_r h
        obtain rfl := Option.some.inj h
        intro w' hs
        exact ⟨rfl, hs.below⟩
       ·
        intro hc_14
        replace zh0 := ifO_f hc_14 zh0
        refine WC.skip (En.next (WC.seq ?_))
        obtain ⟨x17_2, e17_2, zh0⟩ := bnd zh0
        refine WC.region ?_
        refine mv ?_
        refine mv ?_
        refine sp (OpV.call (ec rfl e0) ca_35 (fun w hs => w_laws_btoi e17_2)) ?_
        refine sp (OpV.addR rfl rfl) ?_
        refine ag ?_
        refine WL.nil (En.next (WC.sr ?_))
        refine sp (OpV.loadAll rfl mq1 ag_35) ?_
        refine WL.heavy0 rfl rfl (OpH.storeTo (A := [_, _, _, _, _, _, _, _]) [_, _, _, _] rfl rfl rfl ts_35 rfl rfl rfl ?_)
        refine WL.nil (En.next (WC.region ?_))
        refine sp (OpV.loadAll rfl mq0 ag_39) ?_
        refine WL.heavy0 rfl rfl (OpH.storeTo (A := [_, _, _, _, _, _, _, _, _, _, _, _]) [_, _, _, _, _] rfl rfl rfl ts_39 rfl rfl rfl ?_)
        refine WL.nil (En.block_norm (En.block_norm (En.next (WC.region ?_))))
        refine mv ?_
        refine sp (OpV.addR rfl rfl) ?_
        refine ag ?_
        refine WL.nil ?_
        exact En.backP zb0 zh0 (a14_200, n14_200, c14_200, f14_200, a14_201, n14_201, c14_201, f14_201, a14_202, n14_202, c14_202, f14_202, a14_210, n14_210, c14_210, f14_210, a14_211, n14_211, c14_211, f14_211, a14_212, n14_212, c14_212, f14_212, av_0, nv_0, cv_0, fv_0) (sc (sc (sc (sc (sc (sc sn)))))) (fun _ h => ((((((((((h).pm 16).pm 8).pm 8).pm 8).pm 13).pm 9).pm 9).pm 9).pm 10).sub (.cons_cons _ (.cons_cons _ (.cons_cons _ (.cons_cons _ (.cons_cons _ (.cons_cons _ (.cons_cons _ (.cons_cons _ (.cons_cons _ (.cons _ (.cons _ (.cons _ (.cons _ (.cons _ (.cons _ (.cons _ (.cons _ (.slnil)))))))))))))))))))
   ·
    intro hc_4
    replace zh0 := ifO_f hc_4 zh0
    refine WC.exit (En.then_exit (En.then_exit ?_))
    have hx := exitP ze0 zh0
    exact En.wk _ _ (sc (sc (sc sn))) (fun _ h => ((((((h).pm 8).pm 4).pm 4).pm 4).pm 4).sub (.cons_cons _ (.cons_cons _ (.cons_cons _ (.cons_cons _ (.cons_cons _ (.cons _ (.cons _ (.cons _ (.cons _ (.slnil))))))))))) (zK0_0 ((x_0, x1_0, x2_0, x3_0, v_0, v1_0), (ax_0, nx_0, cx_0, fx_0, ax1_0, nx1_0, cx1_0, fx1_0, ax2_0, nx2_0, cx2_0, fx2_0, av_0, nv_0, cv_0, fv_0)) hx.symm)

end Go.Proofs.YtmhalmnbgkpmnaaGreat
