/- Walks: the program computes the pure functions. -/
import Derived.Test.YtdbnoiiacpmbpaaW4
namespace Go.Proofs.Ytdbnoiiacpmbpaa
open Go.RowKit K
set_option maxRecDepth 100000
set_option maxHeartbeats 4000000

theorem w_impl_FlipsOk {a_p0 : FlipsT} {r : Bool} {q0_0 : Option Addr} {n0_0 k0_0 : Nat} {q0_1 : Option Addr} {n0_1 k0_1 : Nat} {q0_2 : Option Addr} {n0_2 k0_2 : Nat} (h : impl_FlipsOk a_p0 = some r) {w : World} (r0_0 : Rd tFlip w q0_0 n0_0 k0_0 a_p0.Pending) (r0_1 : Rd tInt w q0_1 n0_1 k0_1 a_p0.Signalled) (r0_2 : Rd tInt w q0_2 n0_2 k0_2 a_p0.Events)   :
    Calls Try.prog 20 #[.agg #[.slice q0_0 n0_0 k0_0, .slice q0_1 n0_1 k0_1, .int .i64 a_p0.Next, .slice q0_2 n0_2 k0_2]] w (fun en w' => en = .returned (.bool r) ∧ Ext w w') := by
  obtain rfl := r0_0.1
  obtain rfl := r0_1.1
  obtain rfl := r0_2.1
  unfold impl_FlipsOk at h
  refine enter (vs := [_]) Try.func20 rfl rfl rfl rfl ?_
  refine WC.seq ?_
  refine WC.region ?_
  refine WL.heavy rfl rfl rfl (OpH.box rfl rfl ?_)
  intro b0_0
  refine Lt.ofWL.step rfl rfl rfl (OpV.assign rfl) ?_
  refine WL.nil ?_
  refine En.next ?_
  refine WC.seq ?_
  refine WC.region ?_
  refine Lt.ofWL.step rfl rfl rfl (OpV.fieldAddr rfl fo_48_0) ?_
  refine Lt.ofWL.step rfl rfl rfl (OpV.loadBox rfl pt_46 (.head _) rfl) ?_
  refine Lt.ofWL.step rfl rfl rfl (OpV.len rfl si_46 rfl) ?_
  refine Lt.ofWL.step rfl rfl rfl (OpV.assign rfl) ?_
  refine WL.nil ?_
  refine En.next ?_
  refine WC.seq ?_
  refine WC.seq ?_
  obtain ⟨q2_7, e2_7, h⟩ := bnd h
  refine WC.region ?_
  refine Lt.ofWL.step rfl rfl rfl (OpV.move rfl) ?_
  refine Lt.ofWL.step rfl rfl rfl (OpV.gtr rfl rfl) ?_
  refine Lt.ofWL.step rfl rfl rfl (OpV.move rfl) ?_
  refine Lt.ofWL.orQ 11 16 15 (p := ?pz1) (rest := ?qz1) (B := q2_7) rfl (fun hz => orO_t e2_7 hz) ?Tz1 ?Fz1 ?az1 ?bz1 ?cz1 ?dz1 ?ez1
  case Tz1 =>
    intro hcz1 hkz1
    refine Lt.ofWL.skip rfl rfl rfl ?_
    refine Lt.ofWL.skip rfl rfl rfl ?_
    refine Lt.ofWL.skip rfl rfl rfl ?_
    refine Lt.ofWL.skip rfl rfl rfl ?_
    refine hkz1 _ ?_
    repeat (first | exact Sub.refl _ | refine Sub.skip rfl ?_)
  case Fz1 =>
    intro hcz1 hkz1
    have hqz1 := orO_f e2_7 hcz1
    obtain ⟨x2_5, e2_5, hqz1⟩ := bnd hqz1
    obtain rfl := Option.some.inj hqz1
    refine Lt.ofWL.step rfl rfl rfl (OpV.fieldAddr rfl fo_48_2) ?_
    refine Lt.ofWL.step rfl rfl rfl (OpV.loadBox rfl pt_3 (.head _) rfl) ?_
    refine Lt.ofWL.step rfl rfl rfl (OpV.call (evs.cons rfl (evs.cons rfl (evs.cons rfl (evs.nil)))) ca_53 (fun w hs => w_impl_within e2_5)) ?_
    refine Lt.ofWL.step rfl rfl rfl (OpV.not rfl) ?_
    refine hkz1 _ ?_ ?_
    exact rfl
    repeat (first | exact Sub.refl _ | refine Sub.skip rfl ?_)
  case az1 => exact rfl
  case bz1 => exact rfl
  case cz1 => exact rfl
  case dz1 => exact rfl
  refine Lt.ofWL.step rfl rfl rfl (OpV.move rfl) ?_
  refine Lt.ofWL.or 17 22 21 (p := ?pz2) (rest := ?qz2) (B := ?Bz2) rfl ?Tz2 ?Fz2 ?az2 ?bz2 ?cz2 ?dz2 ?ez2
  case Tz2 =>
    intro hcz2 hkz2
    refine Lt.ofWL.skip rfl rfl rfl ?_
    refine Lt.ofWL.skip rfl rfl rfl ?_
    refine Lt.ofWL.skip rfl rfl rfl ?_
    refine Lt.ofWL.skip rfl rfl rfl ?_
    refine hkz2 _ ?_
    repeat (first | exact Sub.refl _ | refine Sub.skip rfl ?_)
  case Fz2 =>
    intro hcz2 hkz2
    refine Lt.ofWL.step rfl rfl rfl (OpV.fieldAddr rfl fo_48_2) ?_
    refine Lt.ofWL.step rfl rfl rfl (OpV.loadBox rfl pt_3 (.head _) rfl) ?_
    refine Lt.ofWL.step rfl rfl rfl (OpV.move rfl) ?_
    refine Lt.ofWL.step rfl rfl rfl (OpV.lss rfl rfl) ?_
    refine hkz2 _ ?_ ?_
    exact rfl
    repeat (first | exact Sub.refl _ | refine Sub.skip rfl ?_)
  case az2 => exact rfl
  case bz2 => exact rfl
  case cz2 => exact rfl
  case dz2 => exact rfl
  refine WL.nil ?_
  refine En.next ?_
  refine WC.cond rfl ?_ ?_
  ·
    intro hc_1
    replace h := ifO_t hc_1 h
    refine WC.seq ?_
    refine WC.region ?_
    refine Lt.ofWL.step rfl rfl rfl (OpV.assign rfl) ?_
    refine WL.nil ?_
    refine En.next ?_
    refine WC.ret ?_
    refine En.then_ret ?_
    refine En.ret1 rfl (Res.tmp rfl) ?_
    obtain rfl := Option.some.inj h
    intro w' hs
    exact ⟨rfl, hs.below⟩
  ·
    intro hc_1
    replace h := ifO_f hc_1 h
    refine WC.skip ?_
    refine En.next ?_
    refine WC.seq ?_
    refine WC.seq ?_
    refine WC.region ?_
    refine Lt.ofWL.step rfl rfl rfl (OpV.fieldAddr rfl fo_48_0) ?_
    refine Lt.ofWL.step rfl rfl rfl (OpV.loadBox rfl pt_46 (.head _) rfl) ?_
    refine Lt.ofWL.step rfl rfl rfl (OpV.len rfl si_46 rfl) ?_
    refine Lt.ofWL.step rfl rfl rfl (OpV.move rfl) ?_
    refine WL.nil ?_
    refine En.next ?_
    refine WC.block ?_
    obtain ⟨zy0, ezy0, h⟩ := bnd h
    refine WC.cut (X := (Unit) × (Unit)) (.exit 0) (fun x => zy0 = .inl x.1) (fun x => match x with | ((), ()) => [(1, .pointer (some ⟨b0_0, 0, .none⟩)), (3, .int .i64 (a_p0.Pending.length : Int))]) (fun x => match x with | ((), ()) => [Chunk.box b0_0 48 [.slice q0_0 a_p0.Pending.length k0_0, .slice q0_1 a_p0.Signalled.length k0_1, .int .i64 a_p0.Next, .slice q0_2 a_p0.Events.length k0_2]]) ?_ ?_
    ·
      rintro ⟨⟨⟩, ⟨⟩⟩ hx
      replace hx : .inl () = zy0 := hx.symm
      subst hx
      replace h := fork_l h
      show En _ _ _ _ [(1, .pointer (some ⟨b0_0, 0, .none⟩)), (3, .int .i64 (a_p0.Pending.length : Int))] [Chunk.box b0_0 48 [.slice q0_0 a_p0.Pending.length k0_0, .slice q0_1 a_p0.Signalled.length k0_1, .int .i64 a_p0.Next, .slice q0_2 a_p0.Events.length k0_2]]
      refine En.block_exit ?_
      refine En.next ?_
      refine WC.seq ?_
      obtain ⟨x10_2, e10_2, h⟩ := bnd h
      obtain ⟨q10_12, e10_12, h⟩ := bnd h
      refine WC.region ?_
      refine Lt.ofWL.step rfl rfl rfl (OpV.fieldAddr rfl fo_48_1) ?_
      refine Lt.ofWL.step rfl rfl rfl (OpV.loadBox rfl pt_23 (.head _) rfl) ?_
      refine Lt.ofWL.step rfl rfl rfl (OpV.call (evs.cons rfl (evs.cons rfl (evs.cons rfl (evs.nil)))) ca_54 (fun w hs => w_impl_ascendingWithin e10_2 (r0_1.ext hs.below))) ?_
      refine Lt.ofWL.step rfl rfl rfl (OpV.move rfl) ?_
      refine Lt.ofWL.andQ 56 65 64 (p := ?pz3) (rest := ?qz3) (B := q10_12) rfl (fun hz => andO_f e10_12 hz) ?Tz3 ?Fz3 ?az3 ?bz3 ?cz3 ?dz3 ?ez3
      case Tz3 =>
        intro hcz3 hkz3
        have hqz3 := andO_t e10_12 hcz3
        obtain ⟨x10_11, e10_11, hqz3⟩ := bnd hqz3
        obtain rfl := Option.some.inj hqz3
        refine Lt.ofWL.step rfl rfl rfl (OpV.fieldAddr rfl fo_48_3) ?_
        refine Lt.ofWL.step rfl rfl rfl (OpV.loadBox rfl pt_23 (.head _) rfl) ?_
        refine Lt.ofWL.step rfl rfl rfl (OpV.fieldAddr rfl fo_48_2) ?_
        refine Lt.ofWL.step rfl rfl rfl (OpV.loadBox rfl pt_3 (.head _) rfl) ?_
        refine Lt.ofWL.step rfl rfl rfl (OpV.move rfl) ?_
        refine Lt.ofWL.step rfl rfl rfl (OpV.subR rfl rfl) ?_
        refine Lt.ofWL.step rfl rfl rfl (OpV.subR rfl rfl) ?_
        refine Lt.ofWL.step rfl rfl rfl (OpV.call (evs.cons rfl (evs.cons rfl (evs.cons rfl (evs.nil)))) ca_54 (fun w hs => w_impl_ascendingWithin e10_11 (r0_2.ext hs.below))) ?_
        refine hkz3 _ ?_ ?_
        exact rfl
        repeat (first | exact Sub.refl _ | refine Sub.skip rfl ?_)
      case Fz3 =>
        intro hcz3 hkz3
        refine Lt.ofWL.skip rfl rfl rfl ?_
        refine Lt.ofWL.skip rfl rfl rfl ?_
        refine Lt.ofWL.skip rfl rfl rfl ?_
        refine Lt.ofWL.skip rfl rfl rfl ?_
        refine Lt.ofWL.skip rfl rfl rfl ?_
        refine Lt.ofWL.skip rfl rfl rfl ?_
        refine Lt.ofWL.skip rfl rfl rfl ?_
        refine Lt.ofWL.skip rfl rfl rfl ?_
        refine hkz3 _ ?_
        repeat (first | exact Sub.refl _ | refine Sub.skip rfl ?_)
      case az3 => exact rfl
      case bz3 => exact rfl
      case cz3 => exact rfl
      case dz3 => exact rfl
      refine Lt.ofWL.step rfl rfl rfl (OpV.assign rfl) ?_
      refine WL.nil ?_
      refine En.next ?_
      refine WC.ret ?_
      refine En.ret1 rfl (Res.tmp rfl) ?_
      obtain rfl := Option.some.inj h
      intro w' hs
      exact ⟨rfl, hs.below⟩
    ·
      intro zK0_0
      refine WC.loopP (G := Unit) (fun s g => match s, g with | v_0, () => [(1, .pointer (some ⟨b0_0, 0, .none⟩)), (3, .int .i64 (a_p0.Pending.length : Int)), (24, .slice q0_0 a_p0.Pending.length k0_0), (25, .int .i64 (a_p0.Pending.length : Int)), (26, .int .i64 v_0)]) (fun s g => match s, g with | v_0, () => [Chunk.box b0_0 48 [.slice q0_0 a_p0.Pending.length k0_0, .slice q0_1 a_p0.Signalled.length k0_1, .int .i64 a_p0.Next, .slice q0_2 a_p0.Events.length k0_2]]) 0 () ezy0 (by exact Sub.cons rfl (Sub.cons rfl (Sub.cons rfl (Sub.cons rfl (Sub.cons rfl (Sub.nil _)))))) (by exact (fun _ h => h)) ?_
      rintro zm0 v_0 ⟨⟩ zo0 zf0 zb0 ze0
      have zh0 : impl_FlipsOk_L0 a_p0 v_0 = some zo0 := zf0
      unfold impl_FlipsOk_L0 at zh0
      show WC _ _ _ _ _ [(1, .pointer (some ⟨b0_0, 0, .none⟩)), (3, .int .i64 (a_p0.Pending.length : Int)), (24, .slice q0_0 a_p0.Pending.length k0_0), (25, .int .i64 (a_p0.Pending.length : Int)), (26, .int .i64 v_0)] [Chunk.box b0_0 48 [.slice q0_0 a_p0.Pending.length k0_0, .slice q0_1 a_p0.Signalled.length k0_1, .int .i64 a_p0.Next, .slice q0_2 a_p0.Events.length k0_2]]
      refine WC.seq ?_
      refine WC.region ?_
      refine Lt.ofWL.step rfl rfl rfl (OpV.lss rfl rfl) ?_
      refine WL.nil ?_
      refine En.next ?_
      refine WC.seq ?_
      refine WC.cond rfl ?_ ?_
      ·
        intro hc_2
        replace zh0 := ifO_t hc_2 zh0
        refine WC.skip ?_
        refine En.next ?_
        refine WC.seq ?_
        refine WC.block ?_
        refine WC.seq ?_
        obtain ⟨x6_1, e6_1, zh0⟩ := bnd zh0
        obtain ⟨g6_1, o6_1, _, ha6_1, ⟨a6_1_1, c6_1_1, a6_1_2, c6_1_2, a6_1_3, c6_1_3, rfl, r6_1_1, r6_1_2, r6_1_3⟩, hd6_1⟩ := Rd.atIdx r0_0 e6_1
        replace hd6_1 : ∀ (j : Nat) v, ([.int .i64 x6_1.Seq, .int .i64 x6_1.Fence, .int .i64 x6_1.State.W, .int .i64 x6_1.State.H, .slice a6_1_1 x6_1.State.Planes.length c6_1_1, .slice a6_1_2 x6_1.State.Color.Matrix.length c6_1_2, .slice a6_1_3 x6_1.State.Color.Curve.length c6_1_3] : List Value)[j]? = some v → w.cell? ⟨g6_1, o6_1 + v_0.toNat * 7 + j, .none⟩ = some v := hd6_1
        refine WC.region ?_
        refine Lt.ofWL.step rfl rfl rfl (OpV.move rfl) ?_
        refine Lt.ofWL.step rfl rfl rfl (OpV.idxA rfl rfl se_46 ha6_1 ⟨(idx_some e6_1).1, (idx_some e6_1).2.1⟩) ?_
        refine Lt.ofWL.step rfl rfl rfl (OpV.loadN rfl ag_80 rfl (fun w hs => hs.cellsAt hd6_1)) ?_
        refine WL.heavy rfl rfl rfl (OpH.alloc zc_80 ?_)
        intro b6_3
        refine Lt.ofWL.step rfl rfl rfl (OpV.assign rfl) ?_
        refine WL.heavy0 rfl rfl (OpH.storeTo (A := []) [_, _, _, _, _, _, _] rfl rfl rfl ts_80 rfl rfl rfl ?_)
        refine WL.nil ?_
        refine En.next ?_
        refine WC.seq ?_
        obtain ⟨q7_14, e7_14, zh0⟩ := bnd zh0
        obtain ⟨q7_20, e7_20, zh0⟩ := bnd zh0
        refine WC.region ?_
        refine Lt.ofWL.step rfl rfl rfl (OpV.fieldAddr rfl fo_80_0) ?_
        refine Lt.ofWL.step rfl rfl rfl (OpV.loadBox rfl pt_3 (.head _) rfl) ?_
        refine Lt.ofWL.step rfl rfl rfl (OpV.fieldAddr rfl fo_48_2) ?_
        refine Lt.ofWL.step rfl rfl rfl (OpV.loadBox rfl pt_3 (.tail _ (.head _)) rfl) ?_
        refine Lt.ofWL.step rfl rfl rfl (OpV.move rfl) ?_
        refine Lt.ofWL.step rfl rfl rfl (OpV.subR rfl rfl) ?_
        refine Lt.ofWL.step rfl rfl rfl (OpV.move rfl) ?_
        refine Lt.ofWL.step rfl rfl rfl (OpV.addR rfl rfl) ?_
        refine Lt.ofWL.step rfl rfl rfl (OpV.neq rfl rfl) ?_
        refine Lt.ofWL.step rfl rfl rfl (OpV.move rfl) ?_
        refine Lt.ofWL.orQ 40 45 44 (p := ?pz4) (rest := ?qz4) (B := q7_14) rfl (fun hz => orO_t e7_14 hz) ?Tz4 ?Fz4 ?az4 ?bz4 ?cz4 ?dz4 ?ez4
        case Tz4 =>
          intro hcz4 hkz4
          refine Lt.ofWL.skip rfl rfl rfl ?_
          refine Lt.ofWL.skip rfl rfl rfl ?_
          refine Lt.ofWL.skip rfl rfl rfl ?_
          refine Lt.ofWL.skip rfl rfl rfl ?_
          refine hkz4 _ ?_
          repeat (first | exact Sub.refl _ | refine Sub.skip rfl ?_)
        case Fz4 =>
          intro hcz4 hkz4
          have hqz4 := orO_f e7_14 hcz4
          obtain ⟨x7_12, e7_12, hqz4⟩ := bnd hqz4
          obtain rfl := Option.some.inj hqz4
          refine Lt.ofWL.step rfl rfl rfl (OpV.fieldAddr rfl fo_80_1) ?_
          refine Lt.ofWL.step rfl rfl rfl (OpV.loadBox rfl pt_3 (.head _) rfl) ?_
          refine Lt.ofWL.step rfl rfl rfl (OpV.call (evs.cons rfl (evs.cons rfl (evs.cons rfl (evs.nil)))) ca_53 (fun w hs => w_impl_within e7_12)) ?_
          refine Lt.ofWL.step rfl rfl rfl (OpV.not rfl) ?_
          refine hkz4 _ ?_ ?_
          exact rfl
          repeat (first | exact Sub.refl _ | refine Sub.skip rfl ?_)
        case az4 => exact rfl
        case bz4 => exact rfl
        case cz4 => exact rfl
        case dz4 => exact rfl
        refine Lt.ofWL.step rfl rfl rfl (OpV.move rfl) ?_
        refine Lt.ofWL.orQ 46 51 50 (p := ?pz5) (rest := ?qz5) (B := q7_20) rfl (fun hz => orO_t e7_20 hz) ?Tz5 ?Fz5 ?az5 ?bz5 ?cz5 ?dz5 ?ez5
        case Tz5 =>
          intro hcz5 hkz5
          refine Lt.ofWL.skip rfl rfl rfl ?_
          refine Lt.ofWL.skip rfl rfl rfl ?_
          refine Lt.ofWL.skip rfl rfl rfl ?_
          refine Lt.ofWL.skip rfl rfl rfl ?_
          refine hkz5 _ ?_
          repeat (first | exact Sub.refl _ | refine Sub.skip rfl ?_)
        case Fz5 =>
          intro hcz5 hkz5
          have hqz5 := orO_f e7_20 hcz5
          obtain ⟨x7_18, e7_18, hqz5⟩ := bnd hqz5
          obtain rfl := Option.some.inj hqz5
          refine Lt.ofWL.step rfl rfl rfl (OpV.fieldAddr rfl fo_80_2) ?_
          refine Lt.ofWL.step rfl rfl rfl (OpV.loadPart rfl (.head _) ag_33 rfl rfl) ?_
          refine Lt.ofWL.step rfl rfl rfl (OpV.call (evs.cons rfl (evs.nil)) ca_11 (fun w hs => w_impl_CrtcOk e7_18 (r6_1_1.ext hs.below) (r6_1_2.ext hs.below) (r6_1_3.ext hs.below))) ?_
          refine Lt.ofWL.step rfl rfl rfl (OpV.not rfl) ?_
          refine hkz5 _ ?_ ?_
          exact rfl
          repeat (first | exact Sub.refl _ | refine Sub.skip rfl ?_)
        case az5 => exact rfl
        case bz5 => exact rfl
        case cz5 => exact rfl
        case dz5 => exact rfl
        refine WL.nil ?_
        refine En.next ?_
        refine WC.cond rfl ?_ ?_
        ·
          intro hc_3
          replace zh0 := ifO_t hc_3 zh0
          refine WC.seq ?_
          refine WC.region ?_
          refine Lt.ofWL.step rfl rfl rfl (OpV.assign rfl) ?_
          refine WL.nil ?_
          refine En.next ?_
          refine WC.ret ?_
          refine En.block_ret ?_
          refine En.then_ret ?_
          refine En.then_ret ?_
          refine En.block_ret ?_
          refine En.then_ret ?_
          refine En.ret1 rfl (Res.tmp rfl) ?_
          have hx := exitP ze0 zh0
          subst hx
          replace h := fork_r h
          obtain rfl := Option.some.inj h
          intro w' hs
          exact ⟨rfl, hs.below⟩
        ·
          intro hc_3
          replace zh0 := ifO_f hc_3 zh0
          refine WC.skip ?_
          refine En.block_norm ?_
          refine En.next ?_
          refine WC.region ?_
          refine Lt.ofWL.step rfl rfl rfl (OpV.addR rfl rfl) ?_
          refine Lt.ofWL.step rfl rfl rfl (OpV.move rfl) ?_
          refine WL.nil ?_
          exact En.backP zb0 zh0 () (Sub.cons rfl (Sub.cons rfl (Sub.cons rfl (Sub.cons rfl (Sub.cons rfl (Sub.nil _)))))) (fun _ h => ((h).perm (List.perm_middle (l₁ := [_]))).sub (.cons_cons _ (.cons _ (.slnil))))
      ·
        intro hc_2
        replace zh0 := ifO_f hc_2 zh0
        refine WC.exit ?_
        refine En.then_exit ?_
        refine En.then_exit ?_
        have hx := exitP ze0 zh0
        exact En.wk _ _ (Sub.cons rfl (Sub.cons rfl (Sub.nil _))) (fun _ h => h) (zK0_0 ((), ()) hx.symm)

theorem w_laws_eqFlip {a_p0 : FlipT} {b_p1 : FlipT} {r : Bool} {q0_0 : Option Addr} {n0_0 k0_0 : Nat} {q0_1 : Option Addr} {n0_1 k0_1 : Nat} {q0_2 : Option Addr} {n0_2 k0_2 : Nat} {q1_0 : Option Addr} {n1_0 k1_0 : Nat} {q1_1 : Option Addr} {n1_1 k1_1 : Nat} {q1_2 : Option Addr} {n1_2 k1_2 : Nat} (h : laws_eqFlip a_p0 b_p1 = some r) {w : World} (r0_0 : Rd tPlane w q0_0 n0_0 k0_0 a_p0.State.Planes) (r0_1 : Rd tInt w q0_1 n0_1 k0_1 a_p0.State.Color.Matrix) (r0_2 : Rd tInt w q0_2 n0_2 k0_2 a_p0.State.Color.Curve) (r1_0 : Rd tPlane w q1_0 n1_0 k1_0 b_p1.State.Planes) (r1_1 : Rd tInt w q1_1 n1_1 k1_1 b_p1.State.Color.Matrix) (r1_2 : Rd tInt w q1_2 n1_2 k1_2 b_p1.State.Color.Curve)   :
    Calls Try.prog 84 #[.agg #[.int .i64 a_p0.Seq, .int .i64 a_p0.Fence, .int .i64 a_p0.State.W, .int .i64 a_p0.State.H, .slice q0_0 n0_0 k0_0, .slice q0_1 n0_1 k0_1, .slice q0_2 n0_2 k0_2], .agg #[.int .i64 b_p1.Seq, .int .i64 b_p1.Fence, .int .i64 b_p1.State.W, .int .i64 b_p1.State.H, .slice q1_0 n1_0 k1_0, .slice q1_1 n1_1 k1_1, .slice q1_2 n1_2 k1_2]] w (fun en w' => en = .returned (.bool r) ∧ Ext w w') := by
  obtain rfl := r0_0.1
  obtain rfl := r0_1.1
  obtain rfl := r0_2.1
  obtain rfl := r1_0.1
  obtain rfl := r1_1.1
  obtain rfl := r1_2.1
  unfold laws_eqFlip at h
  refine enter (vs := [_, _]) Try.func84 rfl rfl rfl rfl ?_
  refine WC.seq ?_
  refine WC.region ?_
  refine WL.heavy rfl rfl rfl (OpH.box rfl rfl ?_)
  intro b0_0
  refine WL.heavy rfl rfl rfl (OpH.box rfl rfl ?_)
  intro b0_1
  refine Lt.ofWL.step rfl rfl rfl (OpV.assign rfl) ?_
  refine WL.nil ?_
  refine En.next ?_
  refine WC.seq ?_
  refine WC.seq ?_
  refine WC.region ?_
  refine Lt.ofWL.step rfl rfl rfl (OpV.fieldAddr rfl fo_80_0) ?_
  refine Lt.ofWL.step rfl rfl rfl (OpV.loadBox rfl pt_3 (.tail _ (.head _)) rfl) ?_
  refine Lt.ofWL.step rfl rfl rfl (OpV.fieldAddr rfl fo_80_0) ?_
  refine Lt.ofWL.step rfl rfl rfl (OpV.loadBox rfl pt_3 (.head _) rfl) ?_
  refine Lt.ofWL.step rfl rfl rfl (OpV.neq rfl rfl) ?_
  refine WL.nil ?_
  refine En.next ?_
  refine WC.cond rfl ?_ ?_
  ·
    intro hc_1
    replace h := ifO_t hc_1 h
    refine WC.seq ?_
    refine WC.region ?_
    refine Lt.ofWL.step rfl rfl rfl (OpV.assign rfl) ?_
    refine WL.nil ?_
    refine En.next ?_
    refine WC.ret ?_
    refine En.then_ret ?_
    refine En.ret1 rfl (Res.tmp rfl) ?_
    obtain rfl := Option.some.inj h
    intro w' hs
    exact ⟨rfl, hs.below⟩
  ·
    intro hc_1
    replace h := ifO_f hc_1 h
    refine WC.skip ?_
    refine En.next ?_
    refine WC.seq ?_
    refine WC.seq ?_
    refine WC.region ?_
    refine Lt.ofWL.step rfl rfl rfl (OpV.fieldAddr rfl fo_80_1) ?_
    refine Lt.ofWL.step rfl rfl rfl (OpV.loadBox rfl pt_3 (.tail _ (.head _)) rfl) ?_
    refine Lt.ofWL.step rfl rfl rfl (OpV.fieldAddr rfl fo_80_1) ?_
    refine Lt.ofWL.step rfl rfl rfl (OpV.loadBox rfl pt_3 (.head _) rfl) ?_
    refine Lt.ofWL.step rfl rfl rfl (OpV.neq rfl rfl) ?_
    refine WL.nil ?_
    refine En.next ?_
    refine WC.cond rfl ?_ ?_
    ·
      intro hc_2
      replace h := ifO_t hc_2 h
      refine WC.seq ?_
      refine WC.region ?_
      refine Lt.ofWL.step rfl rfl rfl (OpV.assign rfl) ?_
      refine WL.nil ?_
      refine En.next ?_
      refine WC.ret ?_
      refine En.then_ret ?_
      refine En.ret1 rfl (Res.tmp rfl) ?_
      obtain rfl := Option.some.inj h
      intro w' hs
      exact ⟨rfl, hs.below⟩
    ·
      intro hc_2
      replace h := ifO_f hc_2 h
      refine WC.skip ?_
      refine En.next ?_
      refine WC.seq ?_
      refine WC.seq ?_
      obtain ⟨x5_4, e5_4, h⟩ := bnd h
      refine WC.region ?_
      refine Lt.ofWL.step rfl rfl rfl (OpV.fieldAddr rfl fo_80_2) ?_
      refine Lt.ofWL.step rfl rfl rfl (OpV.loadPart rfl (.tail _ (.head _)) ag_33 rfl rfl) ?_
      refine Lt.ofWL.step rfl rfl rfl (OpV.fieldAddr rfl fo_80_2) ?_
      refine Lt.ofWL.step rfl rfl rfl (OpV.loadPart rfl (.head _) ag_33 rfl rfl) ?_
      refine Lt.ofWL.step rfl rfl rfl (OpV.call (evs.cons rfl (evs.cons rfl (evs.nil))) ca_12 (fun w hs => w_laws_eqCrtc e5_4 (r0_0.ext hs.below) (r0_1.ext hs.below) (r0_2.ext hs.below) (r1_0.ext hs.below) (r1_1.ext hs.below) (r1_2.ext hs.below))) ?_
      refine Lt.ofWL.step rfl rfl rfl (OpV.not rfl) ?_
      refine WL.nil ?_
      refine En.next ?_
      refine WC.cond rfl ?_ ?_
      ·
        intro hc_3
        replace h := ifO_t hc_3 h
        refine WC.seq ?_
        refine WC.region ?_
        refine Lt.ofWL.step rfl rfl rfl (OpV.assign rfl) ?_
        refine WL.nil ?_
        refine En.next ?_
        refine WC.ret ?_
        refine En.then_ret ?_
        refine En.ret1 rfl (Res.tmp rfl) ?_
        obtain rfl := Option.some.inj h
        intro w' hs
        exact ⟨rfl, hs.below⟩
      ·
        intro hc_3
        replace h := ifO_f hc_3 h
        refine WC.skip ?_
        refine En.next ?_
        refine WC.seq ?_
        refine WC.region ?_
        refine Lt.ofWL.step rfl rfl rfl (OpV.assign rfl) ?_
        refine WL.nil ?_
        refine En.next ?_
        refine WC.ret ?_
        refine En.ret1 rfl (Res.tmp rfl) ?_
        obtain rfl := Option.some.inj h
        intro w' hs
        exact ⟨rfl, hs.below⟩

theorem w_laws_eqFlipS {a_p0 : List FlipT} {b_p1 : List FlipT} {r : Bool} {q0_0 : Option Addr} {n0_0 k0_0 : Nat} {q1_0 : Option Addr} {n1_0 k1_0 : Nat} (h : laws_eqFlipS a_p0 b_p1 = some r) {w : World} (r0_0 : Rd tFlip w q0_0 n0_0 k0_0 a_p0) (r1_0 : Rd tFlip w q1_0 n1_0 k1_0 b_p1)   :
    Calls Try.prog 55 #[.slice q0_0 n0_0 k0_0, .slice q1_0 n1_0 k1_0] w (fun en w' => en = .returned (.bool r) ∧ Ext w w') := by
  obtain rfl := r0_0.1
  obtain rfl := r1_0.1
  unfold laws_eqFlipS at h
  refine enter (vs := [_, _]) Try.func55 rfl rfl rfl rfl ?_
  refine WC.seq ?_
  refine WC.region ?_
  refine Lt.ofWL.step rfl rfl rfl (OpV.assign rfl) ?_
  refine WL.nil ?_
  refine En.next ?_
  refine WC.seq ?_
  refine WC.seq ?_
  refine WC.region ?_
  refine Lt.ofWL.step rfl rfl rfl (OpV.move rfl) ?_
  refine Lt.ofWL.step rfl rfl rfl (OpV.len rfl si_46 rfl) ?_
  refine Lt.ofWL.step rfl rfl rfl (OpV.move rfl) ?_
  refine Lt.ofWL.step rfl rfl rfl (OpV.len rfl si_46 rfl) ?_
  refine Lt.ofWL.step rfl rfl rfl (OpV.neq rfl rfl) ?_
  refine WL.nil ?_
  refine En.next ?_
  refine WC.cond rfl ?_ ?_
  ·
    intro hc_1
    replace h := ifO_t hc_1 h
    refine WC.seq ?_
    refine WC.region ?_
    refine Lt.ofWL.step rfl rfl rfl (OpV.assign rfl) ?_
    refine WL.nil ?_
    refine En.next ?_
    refine WC.ret ?_
    refine En.then_ret ?_
    refine En.ret1 rfl (Res.tmp rfl) ?_
    obtain rfl := Option.some.inj h
    intro w' hs
    exact ⟨rfl, hs.below⟩
  ·
    intro hc_1
    replace h := ifO_f hc_1 h
    refine WC.skip ?_
    refine En.next ?_
    refine WC.seq ?_
    refine WC.seq ?_
    refine WC.region ?_
    refine Lt.ofWL.step rfl rfl rfl (OpV.assign rfl) ?_
    refine WL.nil ?_
    refine En.next ?_
    refine WC.block ?_
    obtain ⟨zy0, ezy0, h⟩ := bnd h
    refine WC.cut (X := (Unit) × (Unit)) (.exit 0) (fun x => zy0 = .inl x.1) (fun x => match x with | ((), ()) => []) (fun x => match x with | ((), ()) => []) ?_ ?_
    ·
      rintro ⟨⟨⟩, ⟨⟩⟩ hx
      replace hx : .inl () = zy0 := hx.symm
      subst hx
      replace h := fork_l h
      show En _ _ _ _ [] []
      refine En.block_exit ?_
      refine En.next ?_
      refine WC.seq ?_
      refine WC.region ?_
      refine Lt.ofWL.step rfl rfl rfl (OpV.assign rfl) ?_
      refine WL.nil ?_
      refine En.next ?_
      refine WC.ret ?_
      refine En.ret1 rfl (Res.tmp rfl) ?_
      obtain rfl := Option.some.inj h
      intro w' hs
      exact ⟨rfl, hs.below⟩
    ·
      intro zK0_0
      refine WC.loopP (G := Unit) (fun s g => match s, g with | i_0, () => [(0, .slice q0_0 a_p0.length k0_0), (1, .slice q1_0 b_p1.length k1_0), (5, .int .i64 i_0)]) (fun s g => match s, g with | i_0, () => []) 0 () ezy0 (by exact Sub.cons rfl (Sub.cons rfl (Sub.cons rfl (Sub.nil _)))) (by exact (fun _ h => h)) ?_
      rintro zm0 i_0 ⟨⟩ zo0 zf0 zb0 ze0
      have zh0 : laws_eqFlipS_L0 a_p0 b_p1 i_0 = some zo0 := zf0
      unfold laws_eqFlipS_L0 at zh0
      show WC _ _ _ _ _ [(0, .slice q0_0 a_p0.length k0_0), (1, .slice q1_0 b_p1.length k1_0), (5, .int .i64 i_0)] []
      refine WC.seq ?_
      refine WC.seq ?_
      refine WC.region ?_
      refine Lt.ofWL.step rfl rfl rfl (OpV.move rfl) ?_
      refine Lt.ofWL.step rfl rfl rfl (OpV.move rfl) ?_
      refine Lt.ofWL.step rfl rfl rfl (OpV.len rfl si_46 rfl) ?_
      refine Lt.ofWL.step rfl rfl rfl (OpV.lss rfl rfl) ?_
      refine WL.nil ?_
      refine En.next ?_
      refine WC.cond rfl ?_ ?_
      ·
        intro hc_2
        replace zh0 := ifO_t hc_2 zh0
        refine WC.skip ?_
        refine En.next ?_
        refine WC.seq ?_
        refine WC.block ?_
        refine WC.seq ?_
        obtain ⟨x6_2, e6_2, zh0⟩ := bnd zh0
        obtain ⟨g6_2, o6_2, _, ha6_2, ⟨a6_2_1, c6_2_1, a6_2_2, c6_2_2, a6_2_3, c6_2_3, rfl, r6_2_1, r6_2_2, r6_2_3⟩, hd6_2⟩ := Rd.atIdx r0_0 e6_2
        replace hd6_2 : ∀ (j : Nat) v, ([.int .i64 x6_2.Seq, .int .i64 x6_2.Fence, .int .i64 x6_2.State.W, .int .i64 x6_2.State.H, .slice a6_2_1 x6_2.State.Planes.length c6_2_1, .slice a6_2_2 x6_2.State.Color.Matrix.length c6_2_2, .slice a6_2_3 x6_2.State.Color.Curve.length c6_2_3] : List Value)[j]? = some v → w.cell? ⟨g6_2, o6_2 + i_0.toNat * 7 + j, .none⟩ = some v := hd6_2
        obtain ⟨x6_6, e6_6, zh0⟩ := bnd zh0
        obtain ⟨g6_6, o6_6, _, ha6_6, ⟨a6_6_1, c6_6_1, a6_6_2, c6_6_2, a6_6_3, c6_6_3, rfl, r6_6_1, r6_6_2, r6_6_3⟩, hd6_6⟩ := Rd.atIdx r1_0 e6_6
        replace hd6_6 : ∀ (j : Nat) v, ([.int .i64 x6_6.Seq, .int .i64 x6_6.Fence, .int .i64 x6_6.State.W, .int .i64 x6_6.State.H, .slice a6_6_1 x6_6.State.Planes.length c6_6_1, .slice a6_6_2 x6_6.State.Color.Matrix.length c6_6_2, .slice a6_6_3 x6_6.State.Color.Curve.length c6_6_3] : List Value)[j]? = some v → w.cell? ⟨g6_6, o6_6 + i_0.toNat * 7 + j, .none⟩ = some v := hd6_6
        obtain ⟨x6_8, e6_8, zh0⟩ := bnd zh0
        refine WC.drawn [(0, ?r6v0), (1, ?r6v1), (5, ?r6v5), (26, ?r6v26)] (by kernel_rfl) (by kernel_rfl) ?dH6 ?dK6
        case dH6 =>
          intro W hW hk
          refine hW.step rfl rfl rfl (OpV.move rfl) ?_
          refine hW.step rfl rfl rfl (OpV.move rfl) ?_
          refine hW.step rfl rfl rfl (OpV.idxA rfl rfl se_46 ha6_2 ⟨(idx_some e6_2).1, (idx_some e6_2).2.1⟩) ?_
          refine hW.step rfl rfl rfl (OpV.loadN rfl ag_80 rfl (fun w hs => hs.cellsAt hd6_2)) ?_
          refine hW.step rfl rfl rfl (OpV.move rfl) ?_
          refine hW.step rfl rfl rfl (OpV.move rfl) ?_
          refine hW.step rfl rfl rfl (OpV.idxA rfl rfl se_46 ha6_6 ⟨(idx_some e6_6).1, (idx_some e6_6).2.1⟩) ?_
          refine hW.step rfl rfl rfl (OpV.loadN rfl ag_80 rfl (fun w hs => hs.cellsAt hd6_6)) ?_
          refine hW.step rfl rfl rfl (OpV.call (evs.cons rfl (evs.cons rfl (evs.nil))) ca_84 (fun w hs => w_laws_eqFlip e6_8 (r6_2_1.ext hs.below) (r6_2_2.ext hs.below) (r6_2_3.ext hs.below) (r6_6_1.ext hs.below) (r6_6_2.ext hs.below) (r6_6_3.ext hs.below))) ?_
          refine hW.step rfl rfl rfl (OpV.not rfl) ?_
          refine hk _ ?_
          refine Sub.cons ?_ (Sub.cons ?_ (Sub.cons ?_ (Sub.cons ?_ (Sub.nil _))))
          all_goals exact rfl
        refine En.next ?_
        refine WC.cond rfl ?_ ?_
        ·
          intro hc_3
          replace zh0 := ifO_t hc_3 zh0
          refine WC.seq ?_
          refine WC.region ?_
          refine Lt.ofWL.step rfl rfl rfl (OpV.assign rfl) ?_
          refine WL.nil ?_
          refine En.next ?_
          refine WC.ret ?_
          refine En.block_ret ?_
          refine En.then_ret ?_
          refine En.then_ret ?_
          refine En.block_ret ?_
          refine En.then_ret ?_
          refine En.ret1 rfl (Res.tmp rfl) ?_
          have hx := exitP ze0 zh0
          subst hx
          replace h := fork_r h
          obtain rfl := Option.some.inj h
          intro w' hs
          exact ⟨rfl, hs.below⟩
        ·
          intro hc_3
          replace zh0 := ifO_f hc_3 zh0
          refine WC.skip ?_
          refine En.block_norm ?_
          refine En.next ?_
          refine WC.region ?_
          refine Lt.ofWL.step rfl rfl rfl (OpV.move rfl) ?_
          refine Lt.ofWL.step rfl rfl rfl (OpV.addR rfl rfl) ?_
          refine Lt.ofWL.step rfl rfl rfl (OpV.assign rfl) ?_
          refine WL.nil ?_
          exact En.backP zb0 zh0 () (Sub.cons rfl (Sub.cons rfl (Sub.cons rfl (Sub.nil _)))) (fun _ h => h)
      ·
        intro hc_2
        replace zh0 := ifO_f hc_2 zh0
        refine WC.exit ?_
        refine En.then_exit ?_
        refine En.then_exit ?_
        have hx := exitP ze0 zh0
        exact En.wk _ _ (Sub.nil _) (fun _ h => h) (zK0_0 ((), ()) hx.symm)

theorem w_laws_eqFlips {a_p0 : FlipsT} {b_p1 : FlipsT} {r : Bool} {q0_0 : Option Addr} {n0_0 k0_0 : Nat} {q0_1 : Option Addr} {n0_1 k0_1 : Nat} {q0_2 : Option Addr} {n0_2 k0_2 : Nat} {q1_0 : Option Addr} {n1_0 k1_0 : Nat} {q1_1 : Option Addr} {n1_1 k1_1 : Nat} {q1_2 : Option Addr} {n1_2 k1_2 : Nat} (h : laws_eqFlips a_p0 b_p1 = some r) {w : World} (r0_0 : Rd tFlip w q0_0 n0_0 k0_0 a_p0.Pending) (r0_1 : Rd tInt w q0_1 n0_1 k0_1 a_p0.Signalled) (r0_2 : Rd tInt w q0_2 n0_2 k0_2 a_p0.Events) (r1_0 : Rd tFlip w q1_0 n1_0 k1_0 b_p1.Pending) (r1_1 : Rd tInt w q1_1 n1_1 k1_1 b_p1.Signalled) (r1_2 : Rd tInt w q1_2 n1_2 k1_2 b_p1.Events)   :
    Calls Try.prog 21 #[.agg #[.slice q0_0 n0_0 k0_0, .slice q0_1 n0_1 k0_1, .int .i64 a_p0.Next, .slice q0_2 n0_2 k0_2], .agg #[.slice q1_0 n1_0 k1_0, .slice q1_1 n1_1 k1_1, .int .i64 b_p1.Next, .slice q1_2 n1_2 k1_2]] w (fun en w' => en = .returned (.bool r) ∧ Ext w w') := by
  obtain rfl := r0_0.1
  obtain rfl := r0_1.1
  obtain rfl := r0_2.1
  obtain rfl := r1_0.1
  obtain rfl := r1_1.1
  obtain rfl := r1_2.1
  unfold laws_eqFlips at h
  refine enter (vs := [_, _]) Try.func21 rfl rfl rfl rfl ?_
  refine WC.seq ?_
  refine WC.region ?_
  refine WL.heavy rfl rfl rfl (OpH.box rfl rfl ?_)
  intro b0_0
  refine WL.heavy rfl rfl rfl (OpH.box rfl rfl ?_)
  intro b0_1
  refine Lt.ofWL.step rfl rfl rfl (OpV.assign rfl) ?_
  refine WL.nil ?_
  refine En.next ?_
  refine WC.seq ?_
  refine WC.seq ?_
  obtain ⟨x1_4, e1_4, h⟩ := bnd h
  refine WC.region ?_
  refine Lt.ofWL.step rfl rfl rfl (OpV.fieldAddr rfl fo_48_0) ?_
  refine Lt.ofWL.step rfl rfl rfl (OpV.loadBox rfl pt_46 (.tail _ (.head _)) rfl) ?_
  refine Lt.ofWL.step rfl rfl rfl (OpV.fieldAddr rfl fo_48_0) ?_
  refine Lt.ofWL.step rfl rfl rfl (OpV.loadBox rfl pt_46 (.head _) rfl) ?_
  refine Lt.ofWL.step rfl rfl rfl (OpV.call (evs.cons rfl (evs.cons rfl (evs.nil))) ca_55 (fun w hs => w_laws_eqFlipS e1_4 (r0_0.ext hs.below) (r1_0.ext hs.below))) ?_
  refine Lt.ofWL.step rfl rfl rfl (OpV.not rfl) ?_
  refine WL.nil ?_
  refine En.next ?_
  refine WC.cond rfl ?_ ?_
  ·
    intro hc_1
    replace h := ifO_t hc_1 h
    refine WC.seq ?_
    refine WC.region ?_
    refine Lt.ofWL.step rfl rfl rfl (OpV.assign rfl) ?_
    refine WL.nil ?_
    refine En.next ?_
    refine WC.ret ?_
    refine En.then_ret ?_
    refine En.ret1 rfl (Res.tmp rfl) ?_
    obtain rfl := Option.some.inj h
    intro w' hs
    exact ⟨rfl, hs.below⟩
  ·
    intro hc_1
    replace h := ifO_f hc_1 h
    refine WC.skip ?_
    refine En.next ?_
    refine WC.seq ?_
    refine WC.seq ?_
    obtain ⟨x3_4, e3_4, h⟩ := bnd h
    refine WC.region ?_
    refine Lt.ofWL.step rfl rfl rfl (OpV.fieldAddr rfl fo_48_1) ?_
    refine Lt.ofWL.step rfl rfl rfl (OpV.loadBox rfl pt_23 (.tail _ (.head _)) rfl) ?_
    refine Lt.ofWL.step rfl rfl rfl (OpV.fieldAddr rfl fo_48_1) ?_
    refine Lt.ofWL.step rfl rfl rfl (OpV.loadBox rfl pt_23 (.head _) rfl) ?_
    refine Lt.ofWL.step rfl rfl rfl (OpV.call (evs.cons rfl (evs.cons rfl (evs.nil))) ca_56 (fun w hs => w_laws_eqIntS e3_4 (r0_1.ext hs.below) (r1_1.ext hs.below))) ?_
    refine Lt.ofWL.step rfl rfl rfl (OpV.not rfl) ?_
    refine WL.nil ?_
    refine En.next ?_
    refine WC.cond rfl ?_ ?_
    ·
      intro hc_2
      replace h := ifO_t hc_2 h
      refine WC.seq ?_
      refine WC.region ?_
      refine Lt.ofWL.step rfl rfl rfl (OpV.assign rfl) ?_
      refine WL.nil ?_
      refine En.next ?_
      refine WC.ret ?_
      refine En.then_ret ?_
      refine En.ret1 rfl (Res.tmp rfl) ?_
      obtain rfl := Option.some.inj h
      intro w' hs
      exact ⟨rfl, hs.below⟩
    ·
      intro hc_2
      replace h := ifO_f hc_2 h
      refine WC.skip ?_
      refine En.next ?_
      refine WC.seq ?_
      refine WC.seq ?_
      refine WC.region ?_
      refine Lt.ofWL.step rfl rfl rfl (OpV.fieldAddr rfl fo_48_2) ?_
      refine Lt.ofWL.step rfl rfl rfl (OpV.loadBox rfl pt_3 (.tail _ (.head _)) rfl) ?_
      refine Lt.ofWL.step rfl rfl rfl (OpV.fieldAddr rfl fo_48_2) ?_
      refine Lt.ofWL.step rfl rfl rfl (OpV.loadBox rfl pt_3 (.head _) rfl) ?_
      refine Lt.ofWL.step rfl rfl rfl (OpV.neq rfl rfl) ?_
      refine WL.nil ?_
      refine En.next ?_
      refine WC.cond rfl ?_ ?_
      ·
        intro hc_3
        replace h := ifO_t hc_3 h
        refine WC.seq ?_
        refine WC.region ?_
        refine Lt.ofWL.step rfl rfl rfl (OpV.assign rfl) ?_
        refine WL.nil ?_
        refine En.next ?_
        refine WC.ret ?_
        refine En.then_ret ?_
        refine En.ret1 rfl (Res.tmp rfl) ?_
        obtain rfl := Option.some.inj h
        intro w' hs
        exact ⟨rfl, hs.below⟩
      ·
        intro hc_3
        replace h := ifO_f hc_3 h
        refine WC.skip ?_
        refine En.next ?_
        refine WC.seq ?_
        refine WC.seq ?_
        obtain ⟨x7_4, e7_4, h⟩ := bnd h
        refine WC.region ?_
        refine Lt.ofWL.step rfl rfl rfl (OpV.fieldAddr rfl fo_48_3) ?_
        refine Lt.ofWL.step rfl rfl rfl (OpV.loadBox rfl pt_23 (.tail _ (.head _)) rfl) ?_
        refine Lt.ofWL.step rfl rfl rfl (OpV.fieldAddr rfl fo_48_3) ?_
        refine Lt.ofWL.step rfl rfl rfl (OpV.loadBox rfl pt_23 (.head _) rfl) ?_
        refine Lt.ofWL.step rfl rfl rfl (OpV.call (evs.cons rfl (evs.cons rfl (evs.nil))) ca_56 (fun w hs => w_laws_eqIntS e7_4 (r0_2.ext hs.below) (r1_2.ext hs.below))) ?_
        refine Lt.ofWL.step rfl rfl rfl (OpV.not rfl) ?_
        refine WL.nil ?_
        refine En.next ?_
        refine WC.cond rfl ?_ ?_
        ·
          intro hc_4
          replace h := ifO_t hc_4 h
          refine WC.seq ?_
          refine WC.region ?_
          refine Lt.ofWL.step rfl rfl rfl (OpV.assign rfl) ?_
          refine WL.nil ?_
          refine En.next ?_
          refine WC.ret ?_
          refine En.then_ret ?_
          refine En.ret1 rfl (Res.tmp rfl) ?_
          obtain rfl := Option.some.inj h
          intro w' hs
          exact ⟨rfl, hs.below⟩
        ·
          intro hc_4
          replace h := ifO_f hc_4 h
          refine WC.skip ?_
          refine En.next ?_
          refine WC.seq ?_
          refine WC.region ?_
          refine Lt.ofWL.step rfl rfl rfl (OpV.assign rfl) ?_
          refine WL.nil ?_
          refine En.next ?_
          refine WC.ret ?_
          refine En.ret1 rfl (Res.tmp rfl) ?_
          obtain rfl := Option.some.inj h
          intro w' hs
          exact ⟨rfl, hs.below⟩

theorem w_laws_FnExactFlipsOk {aF_p0 : FlipsT} {r : Bool} {q0_0 : Option Addr} {n0_0 k0_0 : Nat} {q0_1 : Option Addr} {n0_1 k0_1 : Nat} {q0_2 : Option Addr} {n0_2 k0_2 : Nat} (h : laws_FnExactFlipsOk aF_p0 = some r) {w : World} (r0_0 : Rd tFlip w q0_0 n0_0 k0_0 aF_p0.Pending) (r0_1 : Rd tInt w q0_1 n0_1 k0_1 aF_p0.Signalled) (r0_2 : Rd tInt w q0_2 n0_2 k0_2 aF_p0.Events)   :
    Calls Try.prog 5 #[.agg #[.slice q0_0 n0_0 k0_0, .slice q0_1 n0_1 k0_1, .int .i64 aF_p0.Next, .slice q0_2 n0_2 k0_2]] w (fun en w' => en = .returned (.bool r) ∧ Ext w w') := by
  obtain rfl := r0_0.1
  obtain rfl := r0_1.1
  obtain rfl := r0_2.1
  unfold laws_FnExactFlipsOk at h
  refine enter (vs := [_]) Try.func5 rfl rfl rfl rfl ?_
  refine WC.seq ?_
  refine WC.region ?_
  refine WL.heavy rfl rfl rfl (OpH.box rfl rfl ?_)
  intro b0_0
  refine Lt.ofWL.step rfl rfl rfl (OpV.assign rfl) ?_
  refine WL.nil ?_
  refine En.next ?_
  refine WC.seq ?_
  refine WC.region ?_
  refine Lt.ofWL.step rfl rfl rfl (OpV.assign rfl) ?_
  refine WL.nil ?_
  refine En.next ?_
  refine WC.seq ?_
  obtain ⟨x2_2, e2_2, h⟩ := bnd h
  refine WC.region ?_
  refine Lt.ofWL.step rfl rfl rfl (OpV.loadAll rfl (.head _) ag_43) ?_
  refine Lt.ofWL.step rfl rfl rfl (OpV.move rfl) ?_
  refine Lt.ofWL.step rfl rfl rfl (OpV.call (evs.cons rfl (evs.cons rfl (evs.nil))) ca_17 (fun w hs => w_laws_szFlips e2_2 (r0_0.ext hs.below) (r0_1.ext hs.below) (r0_2.ext hs.below))) ?_
  refine Lt.ofWL.step rfl rfl rfl (OpV.assign rfl) ?_
  refine WL.nil ?_
  refine En.next ?_
  refine WC.seq ?_
  refine WC.seq ?_
  refine WC.region ?_
  refine Lt.ofWL.step rfl rfl rfl (OpV.move rfl) ?_
  refine Lt.ofWL.step rfl rfl rfl (OpV.lss rfl rfl) ?_
  refine WL.nil ?_
  refine En.next ?_
  refine WC.cond rfl ?_ ?_
  ·
    intro hc_1
    replace h := ifO_t hc_1 h
    refine WC.seq ?_
    refine WC.region ?_
    refine Lt.ofWL.step rfl rfl rfl (OpV.assign rfl) ?_
    refine WL.nil ?_
    refine En.next ?_
    refine WC.ret ?_
    refine En.then_ret ?_
    refine En.ret1 rfl (Res.tmp rfl) ?_
    obtain rfl := Option.some.inj h
    intro w' hs
    exact ⟨rfl, hs.below⟩
  ·
    intro hc_1
    replace h := ifO_f hc_1 h
    refine WC.skip ?_
    refine En.next ?_
    refine WC.seq ?_
    obtain ⟨x5_1, e5_1, h⟩ := bnd h
    obtain ⟨x5_2, e5_2, h⟩ := bnd h
    refine WC.region ?_
    refine Lt.ofWL.step rfl rfl rfl (OpV.loadAll rfl (.head _) ag_43) ?_
    refine WL.heavy rfl rfl rfl (OpH.callR (evs.cons rfl (evs.nil)) ca_19 (fun w hs => w_laws_toFlips e5_1 (r0_0.ext hs.below) (r0_1.ext hs.below) (r0_2.ext hs.below)) ?_)
    rintro _ _ ⟨a5_100, n5_100, c5_100, f5_100, a5_101, n5_101, c5_101, f5_101, a5_102, n5_102, c5_102, f5_102, rfl, rfl⟩
    refine Lt.ofWL.step rfl rfl rfl (OpV.call (evs.cons rfl (evs.nil)) ca_18 (fun w hs => w_spec_FlipsOk e5_2 (Ow.rd (hs.mem (.head _))) (Ow.rd (hs.mem (.tail _ (.head _)))) (Ow.rd (hs.mem (.tail _ (.tail _ (.head _))))))) ?_
    refine Lt.ofWL.step rfl rfl rfl (OpV.assign rfl) ?_
    refine WL.nil ?_
    refine En.next ?_
    refine WC.seq ?_
    obtain ⟨x6_1, e6_1, h⟩ := bnd h
    refine WC.region ?_
    refine Lt.ofWL.step rfl rfl rfl (OpV.loadAll rfl (.tail _ (.tail _ (.tail _ (.head _)))) ag_43) ?_
    refine WL.heavy rfl rfl rfl (OpH.callR (evs.cons rfl (evs.nil)) ca_19 (fun w hs => w_laws_toFlips e6_1 (r0_0.ext hs.below) (r0_1.ext hs.below) (r0_2.ext hs.below)) ?_)
    rintro _ _ ⟨a6_100, n6_100, c6_100, f6_100, a6_101, n6_101, c6_101, f6_101, a6_102, n6_102, c6_102, f6_102, rfl, rfl⟩
    refine WL.heavy rfl rfl rfl (OpH.alloc zc_48 ?_)
    intro b6_2
    refine WL.heavy0 rfl rfl (OpH.storeTo (A := []) [_, _, _, _] rfl rfl rfl ts_48 rfl rfl rfl ?_)
    refine WL.nil ?_
    refine En.next ?_
    refine WC.seq ?_
    obtain ⟨x7_1, e7_1, h⟩ := bnd h
    refine WC.region ?_
    refine Lt.ofWL.step rfl rfl rfl (OpV.loadAll rfl (.head _) ag_48) ?_
    refine Lt.ofWL.step rfl rfl rfl (OpV.call (evs.cons rfl (evs.nil)) ca_20 (fun w hs => w_impl_FlipsOk e7_1 (Ow.rd (hs.mem (.tail _ (.head _)))) (Ow.rd (hs.mem (.tail _ (.tail _ (.head _))))) (Ow.rd (hs.mem (.tail _ (.tail _ (.tail _ (.head _)))))))) ?_
    refine Lt.ofWL.step rfl rfl rfl (OpV.assign rfl) ?_
    refine WL.nil ?_
    refine En.next ?_
    refine WC.seq ?_
    refine WC.seq ?_
    refine WC.region ?_
    refine Lt.ofWL.step rfl rfl rfl (OpV.move rfl) ?_
    refine Lt.ofWL.step rfl rfl rfl (OpV.move rfl) ?_
    refine Lt.ofWL.step rfl rfl rfl (OpV.bneq rfl rfl ub_4) ?_
    refine WL.nil ?_
    refine En.next ?_
    refine WC.cond rfl ?_ ?_
    ·
      intro hc_2
      replace h := ifO_t hc_2 h
      refine WC.seq ?_
      refine WC.region ?_
      refine Lt.ofWL.step rfl rfl rfl (OpV.assign rfl) ?_
      refine WL.nil ?_
      refine En.next ?_
      refine WC.ret ?_
      refine En.then_ret ?_
      refine En.ret1 rfl (Res.tmp rfl) ?_
      obtain rfl := Option.some.inj h
      intro w' hs
      exact ⟨rfl, hs.below⟩
    ·
      intro hc_2
      replace h := ifO_f hc_2 h
      refine WC.skip ?_
      refine En.next ?_
      refine WC.seq ?_
      refine WC.seq ?_
      obtain ⟨x10_2, e10_2, h⟩ := bnd h
      obtain ⟨x10_3, e10_3, h⟩ := bnd h
      refine WC.drawnH [] ([_, _, _, _, _, _, _, _]) (fun _ h => h) (by kernel_rfl) ?_
      refine WAE.take (i := 0) rfl (by kernel_rfl) (by kernel_rfl) (by kernel_rfl) rfl rfl rfl (OpV.loadAll rfl (.head _) ag_48) ?_
      refine WAE.take (i := 1) rfl (by kernel_rfl) (by kernel_rfl) (by kernel_rfl) rfl rfl rfl (OpV.loadAll rfl (.tail _ (.tail _ (.tail _ (.tail _ (.tail _ (.tail _ (.tail _ (.head _)))))))) ag_43) ?_
      refine WAE.all (rs := [2]) (by kernel_rfl) rfl (AllR.cons rfl rfl rfl rfl ?_ AllR.nil)
      refine OpH.callR (evs.cons rfl (evs.nil)) ca_19 (fun w hs => w_laws_toFlips e10_2 (r0_0.ext hs.below) (r0_1.ext hs.below) (r0_2.ext hs.below)) ?_
      rintro _ _ ⟨a10_200, n10_200, c10_200, f10_200, a10_201, n10_201, c10_201, f10_201, a10_202, n10_202, c10_202, f10_202, rfl, rfl⟩
      refine ⟨[_, _, _], rfl, ?_⟩
      refine WAE.rebase (H := []) ?_
      refine WAE.take (i := 3) rfl (by kernel_rfl) (by kernel_rfl) (by kernel_rfl) rfl rfl rfl (OpV.call (evs.cons rfl (evs.cons rfl (evs.nil))) ca_21 (fun w hs => w_laws_eqFlips e10_3 (Ow.rd (hs.mem (.tail _ (.tail _ (.tail _ (.tail _ (.head _))))))) (Ow.rd (hs.mem (.tail _ (.tail _ (.tail _ (.tail _ (.tail _ (.head _)))))))) (Ow.rd (hs.mem (.tail _ (.tail _ (.tail _ (.tail _ (.tail _ (.tail _ (.head _))))))))) (Ow.rd (hs.mem (.head _))) (Ow.rd (hs.mem (.tail _ (.head _)))) (Ow.rd (hs.mem (.tail _ (.tail _ (.head _))))))) ?_
      refine WAE.take (i := 4) rfl (by kernel_rfl) (by kernel_rfl) (by kernel_rfl) rfl rfl rfl (OpV.not rfl) ?_
      refine WAE.done (by kernel_rfl) ?_ _
      refine En.next ?_
      refine WC.cond rfl ?_ ?_
      ·
        intro hc_3
        replace h := ifO_t hc_3 h
        refine WC.seq ?_
        refine WC.region ?_
        refine Lt.ofWL.step rfl rfl rfl (OpV.assign rfl) ?_
        refine WL.nil ?_
        refine En.next ?_
        refine WC.ret ?_
        refine En.then_ret ?_
        refine En.ret1 rfl (Res.tmp rfl) ?_
        obtain rfl := Option.some.inj h
        intro w' hs
        exact ⟨rfl, hs.below⟩
      ·
        intro hc_3
        replace h := ifO_f hc_3 h
        refine WC.skip ?_
        refine En.next ?_
        refine WC.seq ?_
        refine WC.region ?_
        refine Lt.ofWL.step rfl rfl rfl (OpV.assign rfl) ?_
        refine WL.nil ?_
        refine En.next ?_
        refine WC.ret ?_
        refine En.ret1 rfl (Res.tmp rfl) ?_
        obtain rfl := Option.some.inj h
        intro w' hs
        exact ⟨rfl, hs.below⟩

theorem w_spec_l23Has {list_p0 : List Int} {k_p1 : Int} {r : Bool} {q0_0 : Option Addr} {n0_0 k0_0 : Nat} (h : spec_l23Has list_p0 k_p1 = some r) {w : World} (r0_0 : Rd tInt w q0_0 n0_0 k0_0 list_p0)   :
    Calls Try.prog 57 #[.slice q0_0 n0_0 k0_0, .int .i64 k_p1] w (fun en w' => en = .returned (.bool r) ∧ Ext w w') := by
  obtain rfl := r0_0.1
  unfold spec_l23Has at h
  refine enter (vs := [_, _]) Try.func57 rfl rfl rfl rfl ?_
  refine WC.seq ?_
  refine WC.region ?_
  refine Lt.ofWL.step rfl rfl rfl (OpV.assign rfl) ?_
  refine WL.nil ?_
  refine En.next ?_
  refine WC.seq ?_
  refine WC.seq ?_
  refine WC.region ?_
  refine Lt.ofWL.step rfl rfl rfl (OpV.assign rfl) ?_
  refine WL.nil ?_
  refine En.next ?_
  refine WC.block ?_
  obtain ⟨zy0, ezy0, h⟩ := bnd h
  refine WC.cut (X := (Unit) × (Unit)) (.exit 0) (fun x => zy0 = .inl x.1) (fun x => match x with | ((), ()) => []) (fun x => match x with | ((), ()) => []) ?_ ?_
  ·
    rintro ⟨⟨⟩, ⟨⟩⟩ hx
    replace hx : .inl () = zy0 := hx.symm
    subst hx
    replace h := fork_l h
    show En _ _ _ _ [] []
    refine En.block_exit ?_
    refine En.next ?_
    refine WC.seq ?_
    refine WC.region ?_
    refine Lt.ofWL.step rfl rfl rfl (OpV.assign rfl) ?_
    refine WL.nil ?_
    refine En.next ?_
    refine WC.ret ?_
    refine En.ret1 rfl (Res.tmp rfl) ?_
    obtain rfl := Option.some.inj h
    intro w' hs
    exact ⟨rfl, hs.below⟩
  ·
    intro zK0_0
    refine WC.loopP (G := Unit) (fun s g => match s, g with | i_0, () => [(0, .slice q0_0 list_p0.length k0_0), (1, .int .i64 k_p1), (5, .int .i64 i_0)]) (fun s g => match s, g with | i_0, () => []) 0 () ezy0 (by exact Sub.cons rfl (Sub.cons rfl (Sub.cons rfl (Sub.nil _)))) (by exact (fun _ h => h)) ?_
    rintro zm0 i_0 ⟨⟩ zo0 zf0 zb0 ze0
    have zh0 : spec_l23Has_L0 list_p0 k_p1 i_0 = some zo0 := zf0
    unfold spec_l23Has_L0 at zh0
    show WC _ _ _ _ _ [(0, .slice q0_0 list_p0.length k0_0), (1, .int .i64 k_p1), (5, .int .i64 i_0)] []
    refine WC.seq ?_
    refine WC.seq ?_
    refine WC.region ?_
    refine Lt.ofWL.step rfl rfl rfl (OpV.move rfl) ?_
    refine Lt.ofWL.step rfl rfl rfl (OpV.move rfl) ?_
    refine Lt.ofWL.step rfl rfl rfl (OpV.len rfl si_23 rfl) ?_
    refine Lt.ofWL.step rfl rfl rfl (OpV.lss rfl rfl) ?_
    refine WL.nil ?_
    refine En.next ?_
    refine WC.cond rfl ?_ ?_
    ·
      intro hc_1
      replace zh0 := ifO_t hc_1 zh0
      refine WC.skip ?_
      refine En.next ?_
      refine WC.seq ?_
      refine WC.block ?_
      refine WC.seq ?_
      obtain ⟨x4_2, e4_2, zh0⟩ := bnd zh0
      obtain ⟨g4_2, o4_2, _, ha4_2, rfl, hd4_2⟩ := Rd.atIdx r0_0 e4_2
      replace hd4_2 : ∀ (j : Nat) v, ([.int .i64 x4_2] : List Value)[j]? = some v → w.cell? ⟨g4_2, o4_2 + i_0.toNat * 1 + j, .none⟩ = some v := hd4_2
      refine WC.region ?_
      refine Lt.ofWL.step rfl rfl rfl (OpV.move rfl) ?_
      refine Lt.ofWL.step rfl rfl rfl (OpV.move rfl) ?_
      refine Lt.ofWL.step rfl rfl rfl (OpV.idxA rfl rfl se_23 ha4_2 ⟨(idx_some e4_2).1, (idx_some e4_2).2.1⟩) ?_
      refine Lt.ofWL.step rfl rfl rfl (OpV.load1 rfl pt_3 (fun w hs => hs.cell (hd4_2 0 _ rfl))) ?_
      refine Lt.ofWL.step rfl rfl rfl (OpV.move rfl) ?_
      refine Lt.ofWL.step rfl rfl rfl (OpV.eql rfl rfl) ?_
      refine WL.nil ?_
      refine En.next ?_
      refine WC.cond rfl ?_ ?_
      ·
        intro hc_2
        replace zh0 := ifO_t hc_2 zh0
        refine WC.seq ?_
        refine WC.region ?_
        refine Lt.ofWL.step rfl rfl rfl (OpV.assign rfl) ?_
        refine WL.nil ?_
        refine En.next ?_
        refine WC.ret ?_
        refine En.block_ret ?_
        refine En.then_ret ?_
        refine En.then_ret ?_
        refine En.block_ret ?_
        refine En.then_ret ?_
        refine En.ret1 rfl (Res.tmp rfl) ?_
        have hx := exitP ze0 zh0
        subst hx
        replace h := fork_r h
        obtain rfl := Option.some.inj h
        intro w' hs
        exact ⟨rfl, hs.below⟩
      ·
        intro hc_2
        replace zh0 := ifO_f hc_2 zh0
        refine WC.skip ?_
        refine En.block_norm ?_
        refine En.next ?_
        refine WC.region ?_
        refine Lt.ofWL.step rfl rfl rfl (OpV.move rfl) ?_
        refine Lt.ofWL.step rfl rfl rfl (OpV.addR rfl rfl) ?_
        refine Lt.ofWL.step rfl rfl rfl (OpV.assign rfl) ?_
        refine WL.nil ?_
        exact En.backP zb0 zh0 () (Sub.cons rfl (Sub.cons rfl (Sub.cons rfl (Sub.nil _)))) (fun _ h => h)
    ·
      intro hc_1
      replace zh0 := ifO_f hc_1 zh0
      refine WC.exit ?_
      refine En.then_exit ?_
      refine En.then_exit ?_
      have hx := exitP ze0 zh0
      exact En.wk _ _ (Sub.nil _) (fun _ h => h) (zK0_0 ((), ()) hx.symm)

theorem w_spec_FlipReady {f_p0 : FlipsT} {r : Bool} {q0_0 : Option Addr} {n0_0 k0_0 : Nat} {q0_1 : Option Addr} {n0_1 k0_1 : Nat} {q0_2 : Option Addr} {n0_2 k0_2 : Nat} (h : spec_FlipReady f_p0 = some r) {w : World} (r0_0 : Rd tFlip w q0_0 n0_0 k0_0 f_p0.Pending) (r0_1 : Rd tInt w q0_1 n0_1 k0_1 f_p0.Signalled) (r0_2 : Rd tInt w q0_2 n0_2 k0_2 f_p0.Events)   :
    Calls Try.prog 22 #[.agg #[.slice q0_0 n0_0 k0_0, .slice q0_1 n0_1 k0_1, .int .i64 f_p0.Next, .slice q0_2 n0_2 k0_2]] w (fun en w' => en = .returned (.bool r) ∧ Ext w w') := by
  obtain rfl := r0_0.1
  obtain rfl := r0_1.1
  obtain rfl := r0_2.1
  unfold spec_FlipReady at h
  refine enter (vs := [_]) Try.func22 rfl rfl rfl rfl ?_
  refine WC.seq ?_
  refine WC.region ?_
  refine WL.heavy rfl rfl rfl (OpH.box rfl rfl ?_)
  intro b0_0
  refine Lt.ofWL.step rfl rfl rfl (OpV.assign rfl) ?_
  refine WL.nil ?_
  refine En.next ?_
  refine WC.seq ?_
  obtain ⟨x1_1, e1_1, h⟩ := bnd h
  obtain ⟨q1_25, e1_25, h⟩ := bnd h
  refine WC.drawn [(2, ?r1v2)] (by kernel_rfl) (by kernel_rfl) ?dH1 ?dK1
  case dH1 =>
    intro W hW hk
    refine hW.step rfl rfl rfl (OpV.loadAll rfl (.head _) ag_48) ?_
    refine hW.step rfl rfl rfl (OpV.call (evs.cons rfl (evs.nil)) ca_18 (fun w hs => w_spec_FlipsOk e1_1 (r0_0.ext hs.below) (r0_1.ext hs.below) (r0_2.ext hs.below))) ?_
    refine hW.step rfl rfl rfl (OpV.move rfl) ?_
    refine hW.and 5 10 9 (p := ?pz1) (rest := ?qz1) (B := ?Bz1) rfl ?Tz1 ?Fz1 ?az1 ?bz1 ?cz1 ?dz1 ?ez1
    case Tz1 =>
      intro hcz1 hkz1
      refine hW.step rfl rfl rfl (OpV.fieldAddr rfl fo_48_0) ?_
      refine hW.step rfl rfl rfl (OpV.loadBox rfl pt_46 (.head _) rfl) ?_
      refine hW.step rfl rfl rfl (OpV.len rfl si_46 rfl) ?_
      refine hW.step rfl rfl rfl (OpV.gtr rfl rfl) ?_
      refine hkz1 _ ?_ ?_
      exact rfl
      repeat (first | exact Sub.refl _ | refine Sub.skip rfl ?_)
    case Fz1 =>
      intro hcz1 hkz1
      refine hW.skip rfl rfl rfl ?_
      refine hW.skip rfl rfl rfl ?_
      refine hW.skip rfl rfl rfl ?_
      refine hW.skip rfl rfl rfl ?_
      refine hkz1 _ ?_
      repeat (first | exact Sub.refl _ | refine Sub.skip rfl ?_)
    case az1 => exact rfl
    case bz1 => exact rfl
    case cz1 => exact rfl
    case dz1 => exact rfl
    refine hW.step rfl rfl rfl (OpV.move rfl) ?_
    refine hW.andQ 11 28 27 (p := ?pz2) (rest := ?qz2) (B := q1_25) rfl (fun hz => andO_f e1_25 hz) ?Tz2 ?Fz2 ?az2 ?bz2 ?cz2 ?dz2 ?ez2
    case Tz2 =>
      intro hcz2 hkz2
      have hqz2 := andO_t e1_25 hcz2
      obtain ⟨x1_11, e1_11, hqz2⟩ := bnd hqz2
      obtain ⟨g1_11, o1_11, _, ha1_11, ⟨a1_11_1, c1_11_1, a1_11_2, c1_11_2, a1_11_3, c1_11_3, rfl, r1_11_1, r1_11_2, r1_11_3⟩, hd1_11⟩ := Rd.atIdx r0_0 e1_11
      replace hd1_11 : ∀ (j : Nat) v, ([.int .i64 x1_11.Seq, .int .i64 x1_11.Fence, .int .i64 x1_11.State.W, .int .i64 x1_11.State.H, .slice a1_11_1 x1_11.State.Planes.length c1_11_1, .slice a1_11_2 x1_11.State.Color.Matrix.length c1_11_2, .slice a1_11_3 x1_11.State.Color.Curve.length c1_11_3] : List Value)[j]? = some v → w.cell? ⟨g1_11, o1_11 + (Int.toNat 0) * 7 + j, .none⟩ = some v := hd1_11
      obtain ⟨q1_24, e1_24, hqz2⟩ := bnd hqz2
      obtain rfl := Option.some.inj hqz2
      refine hW.step rfl rfl rfl (OpV.fieldAddr rfl fo_48_0) ?_
      refine hW.step rfl rfl rfl (OpV.loadBox rfl pt_46 (.head _) rfl) ?_
      refine hW.step rfl rfl rfl (OpV.idxA rfl rfl se_46 ha1_11 ⟨(idx_some e1_11).1, (idx_some e1_11).2.1⟩) ?_
      refine hW.step rfl rfl rfl (OpV.fieldAddr rfl fo_80_1) ?_
      refine hW.step rfl rfl rfl (OpV.load1 rfl pt_3 (fun w hs => hs.cell (hd1_11 1 _ rfl))) ?_
      refine hW.step rfl rfl rfl (OpV.eql rfl rfl) ?_
      refine hW.step rfl rfl rfl (OpV.move rfl) ?_
      refine hW.orQ 18 27 26 (p := ?pz3) (rest := ?qz3) (B := q1_24) rfl (fun hz => orO_t e1_24 hz) ?Tz3 ?Fz3 ?az3 ?bz3 ?cz3 ?dz3 ?ez3
      case Tz3 =>
        intro hcz3 hkz3
        refine hW.skip rfl rfl rfl ?_
        refine hW.skip rfl rfl rfl ?_
        refine hW.skip rfl rfl rfl ?_
        refine hW.skip rfl rfl rfl ?_
        refine hW.skip rfl rfl rfl ?_
        refine hW.skip rfl rfl rfl ?_
        refine hW.skip rfl rfl rfl ?_
        refine hW.skip rfl rfl rfl ?_
        refine hkz3 _ ?_
        repeat (first | exact Sub.refl _ | refine Sub.skip rfl ?_)
      case Fz3 =>
        intro hcz3 hkz3
        have hqz3 := orO_f e1_24 hcz3
        obtain ⟨x1_20, e1_20, hqz3⟩ := bnd hqz3
        obtain ⟨g1_20, o1_20, _, ha1_20, ⟨a1_20_1, c1_20_1, a1_20_2, c1_20_2, a1_20_3, c1_20_3, rfl, r1_20_1, r1_20_2, r1_20_3⟩, hd1_20⟩ := Rd.atIdx r0_0 e1_20
        replace hd1_20 : ∀ (j : Nat) v, ([.int .i64 x1_20.Seq, .int .i64 x1_20.Fence, .int .i64 x1_20.State.W, .int .i64 x1_20.State.H, .slice a1_20_1 x1_20.State.Planes.length c1_20_1, .slice a1_20_2 x1_20.State.Color.Matrix.length c1_20_2, .slice a1_20_3 x1_20.State.Color.Curve.length c1_20_3] : List Value)[j]? = some v → w.cell? ⟨g1_20, o1_20 + (Int.toNat 0) * 7 + j, .none⟩ = some v := hd1_20
        obtain ⟨x1_23, e1_23, hqz3⟩ := bnd hqz3
        obtain rfl := Option.some.inj hqz3
        refine hW.step rfl rfl rfl (OpV.fieldAddr rfl fo_48_1) ?_
        refine hW.step rfl rfl rfl (OpV.loadBox rfl pt_23 (.head _) rfl) ?_
        refine hW.step rfl rfl rfl (OpV.fieldAddr rfl fo_48_0) ?_
        refine hW.step rfl rfl rfl (OpV.loadBox rfl pt_46 (.head _) rfl) ?_
        refine hW.step rfl rfl rfl (OpV.idxA rfl rfl se_46 ha1_20 ⟨(idx_some e1_20).1, (idx_some e1_20).2.1⟩) ?_
        refine hW.step rfl rfl rfl (OpV.fieldAddr rfl fo_80_1) ?_
        refine hW.step rfl rfl rfl (OpV.load1 rfl pt_3 (fun w hs => hs.cell (hd1_20 1 _ rfl))) ?_
        refine hW.step rfl rfl rfl (OpV.call (evs.cons rfl (evs.cons rfl (evs.nil))) ca_57 (fun w hs => w_spec_l23Has e1_23 (r0_1.ext hs.below))) ?_
        refine hkz3 _ ?_ ?_
        exact rfl
        repeat (first | exact Sub.refl _ | refine Sub.skip rfl ?_)
      case az3 => exact rfl
      case bz3 => exact rfl
      case cz3 => exact rfl
      case dz3 => exact rfl
      refine hkz2 _ ?_ ?_
      exact rfl
      repeat (first | exact Sub.refl _ | refine Sub.skip rfl ?_)
    case Fz2 =>
      intro hcz2 hkz2
      refine hW.skip rfl rfl rfl ?_
      refine hW.skip rfl rfl rfl ?_
      refine hW.skip rfl rfl rfl ?_
      refine hW.skip rfl rfl rfl ?_
      refine hW.skip rfl rfl rfl ?_
      refine hW.skip rfl rfl rfl ?_
      refine hW.skip rfl rfl rfl ?_
      refine hW.skip rfl rfl rfl ?_
      refine hW.skip rfl rfl rfl ?_
      refine hW.skip rfl rfl rfl ?_
      refine hW.skip rfl rfl rfl ?_
      refine hW.skip rfl rfl rfl ?_
      refine hW.skip rfl rfl rfl ?_
      refine hW.skip rfl rfl rfl ?_
      refine hW.skip rfl rfl rfl ?_
      refine hW.skip rfl rfl rfl ?_
      refine hkz2 _ ?_
      repeat (first | exact Sub.refl _ | refine Sub.skip rfl ?_)
    case az2 => exact rfl
    case bz2 => exact rfl
    case cz2 => exact rfl
    case dz2 => exact rfl
    refine hW.step rfl rfl rfl (OpV.assign rfl) ?_
    refine hk _ ?_
    refine Sub.cons ?_ (Sub.nil _)
    all_goals exact rfl
  refine En.next ?_
  refine WC.ret ?_
  refine En.ret1 rfl (Res.tmp rfl) ?_
  obtain rfl := Option.some.inj h
  intro w' hs
  exact ⟨rfl, hs.below⟩

theorem w_slices_Index_S_int_int {s_p0 : List Int} {v_p1 : Int} {r : Int} {q0_0 : Option Addr} {n0_0 k0_0 : Nat} (h : slices_Index_S_int_int s_p0 v_p1 = some r) {w : World} (r0_0 : Rd tInt w q0_0 n0_0 k0_0 s_p0)   :
    Calls Try.prog 85 #[.slice q0_0 n0_0 k0_0, .int .i64 v_p1] w (fun en w' => en = .returned (.int .i64 r) ∧ Ext w w') := by
  obtain rfl := r0_0.1
  unfold slices_Index_S_int_int at h
  refine enter (vs := [_, _]) Try.func85 rfl rfl rfl rfl ?_
  refine WC.seq ?_
  refine WC.region ?_
  refine Lt.ofWL.step rfl rfl rfl (OpV.assign rfl) ?_
  refine WL.nil ?_
  refine En.next ?_
  refine WC.seq ?_
  refine WC.seq ?_
  refine WC.region ?_
  refine Lt.ofWL.step rfl rfl rfl (OpV.move rfl) ?_
  refine Lt.ofWL.step rfl rfl rfl (OpV.len rfl si_23 rfl) ?_
  refine Lt.ofWL.step rfl rfl rfl (OpV.move rfl) ?_
  refine WL.nil ?_
  refine En.next ?_
  refine WC.block ?_
  obtain ⟨zy0, ezy0, h⟩ := bnd h
  refine WC.cut (X := (Unit) × (Unit)) (.exit 0) (fun x => zy0 = .inl x.1) (fun x => match x with | ((), ()) => []) (fun x => match x with | ((), ()) => []) ?_ ?_
  ·
    rintro ⟨⟨⟩, ⟨⟩⟩ hx
    replace hx : .inl () = zy0 := hx.symm
    subst hx
    replace h := fork_l h
    show En _ _ _ _ [] []
    refine En.block_exit ?_
    refine En.next ?_
    refine WC.seq ?_
    refine WC.region ?_
    refine Lt.ofWL.step rfl rfl rfl (OpV.assign rfl) ?_
    refine WL.nil ?_
    refine En.next ?_
    refine WC.ret ?_
    refine En.ret1 rfl (Res.tmp rfl) ?_
    obtain rfl := Option.some.inj h
    intro w' hs
    exact ⟨rfl, hs.below⟩
  ·
    intro zK0_0
    refine WC.loopP (G := Unit) (fun s g => match s, g with | v_0, () => [(0, .slice q0_0 s_p0.length k0_0), (1, .int .i64 v_p1), (7, .int .i64 (s_p0.length : Int)), (8, .int .i64 v_0)]) (fun s g => match s, g with | v_0, () => []) 0 () ezy0 (by exact Sub.cons rfl (Sub.cons rfl (Sub.cons rfl (Sub.cons rfl (Sub.nil _))))) (by exact (fun _ h => h)) ?_
    rintro zm0 v_0 ⟨⟩ zo0 zf0 zb0 ze0
    have zh0 : slices_Index_S_int_int_L0 s_p0 v_p1 v_0 = some zo0 := zf0
    unfold slices_Index_S_int_int_L0 at zh0
    show WC _ _ _ _ _ [(0, .slice q0_0 s_p0.length k0_0), (1, .int .i64 v_p1), (7, .int .i64 (s_p0.length : Int)), (8, .int .i64 v_0)] []
    refine WC.seq ?_
    refine WC.region ?_
    refine Lt.ofWL.step rfl rfl rfl (OpV.lss rfl rfl) ?_
    refine WL.nil ?_
    refine En.next ?_
    refine WC.seq ?_
    refine WC.cond rfl ?_ ?_
    ·
      intro hc_1
      replace zh0 := ifO_t hc_1 zh0
      refine WC.skip ?_
      refine En.next ?_
      refine WC.seq ?_
      refine WC.block ?_
      refine WC.seq ?_
      refine WC.region ?_
      refine Lt.ofWL.step rfl rfl rfl (OpV.move rfl) ?_
      refine Lt.ofWL.step rfl rfl rfl (OpV.assign rfl) ?_
      refine WL.nil ?_
      refine En.next ?_
      refine WC.seq ?_
      obtain ⟨x4_3, e4_3, zh0⟩ := bnd zh0
      obtain ⟨g4_3, o4_3, _, ha4_3, rfl, hd4_3⟩ := Rd.atIdx r0_0 e4_3
      replace hd4_3 : ∀ (j : Nat) v, ([.int .i64 x4_3] : List Value)[j]? = some v → w.cell? ⟨g4_3, o4_3 + v_0.toNat * 1 + j, .none⟩ = some v := hd4_3
      refine WC.region ?_
      refine Lt.ofWL.step rfl rfl rfl (OpV.move rfl) ?_
      refine Lt.ofWL.step rfl rfl rfl (OpV.move rfl) ?_
      refine Lt.ofWL.step rfl rfl rfl (OpV.move rfl) ?_
      refine Lt.ofWL.step rfl rfl rfl (OpV.idxA rfl rfl se_23 ha4_3 ⟨(idx_some e4_3).1, (idx_some e4_3).2.1⟩) ?_
      refine Lt.ofWL.step rfl rfl rfl (OpV.load1 rfl pt_3 (fun w hs => hs.cell (hd4_3 0 _ rfl))) ?_
      refine Lt.ofWL.step rfl rfl rfl (OpV.eql rfl rfl) ?_
      refine WL.nil ?_
      refine En.next ?_
      refine WC.cond rfl ?_ ?_
      ·
        intro hc_2
        replace zh0 := ifO_t hc_2 zh0
        refine WC.seq ?_
        refine WC.region ?_
        refine Lt.ofWL.step rfl rfl rfl (OpV.move rfl) ?_
        refine Lt.ofWL.step rfl rfl rfl (OpV.assign rfl) ?_
        refine WL.nil ?_
        refine En.next ?_
        refine WC.ret ?_
        refine En.block_ret ?_
        refine En.then_ret ?_
        refine En.then_ret ?_
        refine En.block_ret ?_
        refine En.then_ret ?_
        refine En.ret1 rfl (Res.tmp rfl) ?_
        have hx := exitP ze0 zh0
        subst hx
        replace h := fork_r h
        obtain rfl := Option.some.inj h
        intro w' hs
        exact ⟨rfl, hs.below⟩
      ·
        intro hc_2
        replace zh0 := ifO_f hc_2 zh0
        refine WC.skip ?_
        refine En.block_norm ?_
        refine En.next ?_
        refine WC.region ?_
        refine Lt.ofWL.step rfl rfl rfl (OpV.addR rfl rfl) ?_
        refine Lt.ofWL.step rfl rfl rfl (OpV.move rfl) ?_
        refine WL.nil ?_
        exact En.backP zb0 zh0 () (Sub.cons rfl (Sub.cons rfl (Sub.cons rfl (Sub.cons rfl (Sub.nil _))))) (fun _ h => h)
    ·
      intro hc_1
      replace zh0 := ifO_f hc_1 zh0
      refine WC.exit ?_
      refine En.then_exit ?_
      refine En.then_exit ?_
      have hx := exitP ze0 zh0
      exact En.wk _ _ (Sub.nil _) (fun _ h => h) (zK0_0 ((), ()) hx.symm)

theorem w_slices_Contains_S_int_int {s_p0 : List Int} {v_p1 : Int} {r : Bool} {q0_0 : Option Addr} {n0_0 k0_0 : Nat} (h : slices_Contains_S_int_int s_p0 v_p1 = some r) {w : World} (r0_0 : Rd tInt w q0_0 n0_0 k0_0 s_p0)   :
    Calls Try.prog 58 #[.slice q0_0 n0_0 k0_0, .int .i64 v_p1] w (fun en w' => en = .returned (.bool r) ∧ Ext w w') := by
  obtain rfl := r0_0.1
  unfold slices_Contains_S_int_int at h
  refine enter (vs := [_, _]) Try.func58 rfl rfl rfl rfl ?_
  refine WC.seq ?_
  refine WC.region ?_
  refine Lt.ofWL.step rfl rfl rfl (OpV.assign rfl) ?_
  refine WL.nil ?_
  refine En.next ?_
  refine WC.seq ?_
  obtain ⟨x1_2, e1_2, h⟩ := bnd h
  refine WC.region ?_
  refine Lt.ofWL.step rfl rfl rfl (OpV.move rfl) ?_
  refine Lt.ofWL.step rfl rfl rfl (OpV.move rfl) ?_
  refine Lt.ofWL.step rfl rfl rfl (OpV.call (evs.cons rfl (evs.cons rfl (evs.nil))) ca_85 (fun w hs => w_slices_Index_S_int_int e1_2 (r0_0.ext hs.below))) ?_
  refine Lt.ofWL.step rfl rfl rfl (OpV.geq rfl rfl) ?_
  refine Lt.ofWL.step rfl rfl rfl (OpV.assign rfl) ?_
  refine WL.nil ?_
  refine En.next ?_
  refine WC.ret ?_
  refine En.ret1 rfl (Res.tmp rfl) ?_
  obtain rfl := Option.some.inj h
  intro w' hs
  exact ⟨rfl, hs.below⟩

theorem w_impl_FlipReady {f_p0 : FlipsT} {r : Bool} {q0_0 : Option Addr} {n0_0 k0_0 : Nat} {q0_1 : Option Addr} {n0_1 k0_1 : Nat} {q0_2 : Option Addr} {n0_2 k0_2 : Nat} (h : impl_FlipReady f_p0 = some r) {w : World} (r0_0 : Rd tFlip w q0_0 n0_0 k0_0 f_p0.Pending) (r0_1 : Rd tInt w q0_1 n0_1 k0_1 f_p0.Signalled) (r0_2 : Rd tInt w q0_2 n0_2 k0_2 f_p0.Events)   :
    Calls Try.prog 23 #[.agg #[.slice q0_0 n0_0 k0_0, .slice q0_1 n0_1 k0_1, .int .i64 f_p0.Next, .slice q0_2 n0_2 k0_2]] w (fun en w' => en = .returned (.bool r) ∧ Ext w w') := by
  obtain rfl := r0_0.1
  obtain rfl := r0_1.1
  obtain rfl := r0_2.1
  unfold impl_FlipReady at h
  refine enter (vs := [_]) Try.func23 rfl rfl rfl rfl ?_
  refine WC.seq ?_
  refine WC.region ?_
  refine WL.heavy rfl rfl rfl (OpH.box rfl rfl ?_)
  intro b0_0
  refine Lt.ofWL.step rfl rfl rfl (OpV.assign rfl) ?_
  refine WL.nil ?_
  refine En.next ?_
  refine WC.seq ?_
  obtain ⟨x1_1, e1_1, h⟩ := bnd h
  obtain ⟨q1_25, e1_25, h⟩ := bnd h
  refine WC.drawn [(2, ?r1v2)] (by kernel_rfl) (by kernel_rfl) ?dH1 ?dK1
  case dH1 =>
    intro W hW hk
    refine hW.step rfl rfl rfl (OpV.loadAll rfl (.head _) ag_48) ?_
    refine hW.step rfl rfl rfl (OpV.call (evs.cons rfl (evs.nil)) ca_20 (fun w hs => w_impl_FlipsOk e1_1 (r0_0.ext hs.below) (r0_1.ext hs.below) (r0_2.ext hs.below))) ?_
    refine hW.step rfl rfl rfl (OpV.move rfl) ?_
    refine hW.and 5 10 9 (p := ?pz1) (rest := ?qz1) (B := ?Bz1) rfl ?Tz1 ?Fz1 ?az1 ?bz1 ?cz1 ?dz1 ?ez1
    case Tz1 =>
      intro hcz1 hkz1
      refine hW.step rfl rfl rfl (OpV.fieldAddr rfl fo_48_0) ?_
      refine hW.step rfl rfl rfl (OpV.loadBox rfl pt_46 (.head _) rfl) ?_
      refine hW.step rfl rfl rfl (OpV.len rfl si_46 rfl) ?_
      refine hW.step rfl rfl rfl (OpV.gtr rfl rfl) ?_
      refine hkz1 _ ?_ ?_
      exact rfl
      repeat (first | exact Sub.refl _ | refine Sub.skip rfl ?_)
    case Fz1 =>
      intro hcz1 hkz1
      refine hW.skip rfl rfl rfl ?_
      refine hW.skip rfl rfl rfl ?_
      refine hW.skip rfl rfl rfl ?_
      refine hW.skip rfl rfl rfl ?_
      refine hkz1 _ ?_
      repeat (first | exact Sub.refl _ | refine Sub.skip rfl ?_)
    case az1 => exact rfl
    case bz1 => exact rfl
    case cz1 => exact rfl
    case dz1 => exact rfl
    refine hW.step rfl rfl rfl (OpV.move rfl) ?_
    refine hW.andQ 11 28 27 (p := ?pz2) (rest := ?qz2) (B := q1_25) rfl (fun hz => andO_f e1_25 hz) ?Tz2 ?Fz2 ?az2 ?bz2 ?cz2 ?dz2 ?ez2
    case Tz2 =>
      intro hcz2 hkz2
      have hqz2 := andO_t e1_25 hcz2
      obtain ⟨x1_11, e1_11, hqz2⟩ := bnd hqz2
      obtain ⟨g1_11, o1_11, _, ha1_11, ⟨a1_11_1, c1_11_1, a1_11_2, c1_11_2, a1_11_3, c1_11_3, rfl, r1_11_1, r1_11_2, r1_11_3⟩, hd1_11⟩ := Rd.atIdx r0_0 e1_11
      replace hd1_11 : ∀ (j : Nat) v, ([.int .i64 x1_11.Seq, .int .i64 x1_11.Fence, .int .i64 x1_11.State.W, .int .i64 x1_11.State.H, .slice a1_11_1 x1_11.State.Planes.length c1_11_1, .slice a1_11_2 x1_11.State.Color.Matrix.length c1_11_2, .slice a1_11_3 x1_11.State.Color.Curve.length c1_11_3] : List Value)[j]? = some v → w.cell? ⟨g1_11, o1_11 + (Int.toNat 0) * 7 + j, .none⟩ = some v := hd1_11
      obtain ⟨q1_24, e1_24, hqz2⟩ := bnd hqz2
      obtain rfl := Option.some.inj hqz2
      refine hW.step rfl rfl rfl (OpV.fieldAddr rfl fo_48_0) ?_
      refine hW.step rfl rfl rfl (OpV.loadBox rfl pt_46 (.head _) rfl) ?_
      refine hW.step rfl rfl rfl (OpV.idxA rfl rfl se_46 ha1_11 ⟨(idx_some e1_11).1, (idx_some e1_11).2.1⟩) ?_
      refine hW.step rfl rfl rfl (OpV.fieldAddr rfl fo_80_1) ?_
      refine hW.step rfl rfl rfl (OpV.load1 rfl pt_3 (fun w hs => hs.cell (hd1_11 1 _ rfl))) ?_
      refine hW.step rfl rfl rfl (OpV.eql rfl rfl) ?_
      refine hW.step rfl rfl rfl (OpV.move rfl) ?_
      refine hW.orQ 18 27 26 (p := ?pz3) (rest := ?qz3) (B := q1_24) rfl (fun hz => orO_t e1_24 hz) ?Tz3 ?Fz3 ?az3 ?bz3 ?cz3 ?dz3 ?ez3
      case Tz3 =>
        intro hcz3 hkz3
        refine hW.skip rfl rfl rfl ?_
        refine hW.skip rfl rfl rfl ?_
        refine hW.skip rfl rfl rfl ?_
        refine hW.skip rfl rfl rfl ?_
        refine hW.skip rfl rfl rfl ?_
        refine hW.skip rfl rfl rfl ?_
        refine hW.skip rfl rfl rfl ?_
        refine hW.skip rfl rfl rfl ?_
        refine hkz3 _ ?_
        repeat (first | exact Sub.refl _ | refine Sub.skip rfl ?_)
      case Fz3 =>
        intro hcz3 hkz3
        have hqz3 := orO_f e1_24 hcz3
        obtain ⟨x1_20, e1_20, hqz3⟩ := bnd hqz3
        obtain ⟨g1_20, o1_20, _, ha1_20, ⟨a1_20_1, c1_20_1, a1_20_2, c1_20_2, a1_20_3, c1_20_3, rfl, r1_20_1, r1_20_2, r1_20_3⟩, hd1_20⟩ := Rd.atIdx r0_0 e1_20
        replace hd1_20 : ∀ (j : Nat) v, ([.int .i64 x1_20.Seq, .int .i64 x1_20.Fence, .int .i64 x1_20.State.W, .int .i64 x1_20.State.H, .slice a1_20_1 x1_20.State.Planes.length c1_20_1, .slice a1_20_2 x1_20.State.Color.Matrix.length c1_20_2, .slice a1_20_3 x1_20.State.Color.Curve.length c1_20_3] : List Value)[j]? = some v → w.cell? ⟨g1_20, o1_20 + (Int.toNat 0) * 7 + j, .none⟩ = some v := hd1_20
        obtain ⟨x1_23, e1_23, hqz3⟩ := bnd hqz3
        obtain rfl := Option.some.inj hqz3
        refine hW.step rfl rfl rfl (OpV.fieldAddr rfl fo_48_1) ?_
        refine hW.step rfl rfl rfl (OpV.loadBox rfl pt_23 (.head _) rfl) ?_
        refine hW.step rfl rfl rfl (OpV.fieldAddr rfl fo_48_0) ?_
        refine hW.step rfl rfl rfl (OpV.loadBox rfl pt_46 (.head _) rfl) ?_
        refine hW.step rfl rfl rfl (OpV.idxA rfl rfl se_46 ha1_20 ⟨(idx_some e1_20).1, (idx_some e1_20).2.1⟩) ?_
        refine hW.step rfl rfl rfl (OpV.fieldAddr rfl fo_80_1) ?_
        refine hW.step rfl rfl rfl (OpV.load1 rfl pt_3 (fun w hs => hs.cell (hd1_20 1 _ rfl))) ?_
        refine hW.step rfl rfl rfl (OpV.call (evs.cons rfl (evs.cons rfl (evs.nil))) ca_58 (fun w hs => w_slices_Contains_S_int_int e1_23 (r0_1.ext hs.below))) ?_
        refine hkz3 _ ?_ ?_
        exact rfl
        repeat (first | exact Sub.refl _ | refine Sub.skip rfl ?_)
      case az3 => exact rfl
      case bz3 => exact rfl
      case cz3 => exact rfl
      case dz3 => exact rfl
      refine hkz2 _ ?_ ?_
      exact rfl
      repeat (first | exact Sub.refl _ | refine Sub.skip rfl ?_)
    case Fz2 =>
      intro hcz2 hkz2
      refine hW.skip rfl rfl rfl ?_
      refine hW.skip rfl rfl rfl ?_
      refine hW.skip rfl rfl rfl ?_
      refine hW.skip rfl rfl rfl ?_
      refine hW.skip rfl rfl rfl ?_
      refine hW.skip rfl rfl rfl ?_
      refine hW.skip rfl rfl rfl ?_
      refine hW.skip rfl rfl rfl ?_
      refine hW.skip rfl rfl rfl ?_
      refine hW.skip rfl rfl rfl ?_
      refine hW.skip rfl rfl rfl ?_
      refine hW.skip rfl rfl rfl ?_
      refine hW.skip rfl rfl rfl ?_
      refine hW.skip rfl rfl rfl ?_
      refine hW.skip rfl rfl rfl ?_
      refine hW.skip rfl rfl rfl ?_
      refine hkz2 _ ?_
      repeat (first | exact Sub.refl _ | refine Sub.skip rfl ?_)
    case az2 => exact rfl
    case bz2 => exact rfl
    case cz2 => exact rfl
    case dz2 => exact rfl
    refine hW.step rfl rfl rfl (OpV.assign rfl) ?_
    refine hk _ ?_
    refine Sub.cons ?_ (Sub.nil _)
    all_goals exact rfl
  refine En.next ?_
  refine WC.ret ?_
  refine En.ret1 rfl (Res.tmp rfl) ?_
  obtain rfl := Option.some.inj h
  intro w' hs
  exact ⟨rfl, hs.below⟩

theorem w_laws_FnExactFlipReady {aF_p0 : FlipsT} {r : Bool} {q0_0 : Option Addr} {n0_0 k0_0 : Nat} {q0_1 : Option Addr} {n0_1 k0_1 : Nat} {q0_2 : Option Addr} {n0_2 k0_2 : Nat} (h : laws_FnExactFlipReady aF_p0 = some r) {w : World} (r0_0 : Rd tFlip w q0_0 n0_0 k0_0 aF_p0.Pending) (r0_1 : Rd tInt w q0_1 n0_1 k0_1 aF_p0.Signalled) (r0_2 : Rd tInt w q0_2 n0_2 k0_2 aF_p0.Events)   :
    Calls Try.prog 6 #[.agg #[.slice q0_0 n0_0 k0_0, .slice q0_1 n0_1 k0_1, .int .i64 aF_p0.Next, .slice q0_2 n0_2 k0_2]] w (fun en w' => en = .returned (.bool r) ∧ Ext w w') := by
  obtain rfl := r0_0.1
  obtain rfl := r0_1.1
  obtain rfl := r0_2.1
  unfold laws_FnExactFlipReady at h
  refine enter (vs := [_]) Try.func6 rfl rfl rfl rfl ?_
  refine WC.seq ?_
  refine WC.region ?_
  refine WL.heavy rfl rfl rfl (OpH.box rfl rfl ?_)
  intro b0_0
  refine Lt.ofWL.step rfl rfl rfl (OpV.assign rfl) ?_
  refine WL.nil ?_
  refine En.next ?_
  refine WC.seq ?_
  refine WC.region ?_
  refine Lt.ofWL.step rfl rfl rfl (OpV.assign rfl) ?_
  refine WL.nil ?_
  refine En.next ?_
  refine WC.seq ?_
  obtain ⟨x2_2, e2_2, h⟩ := bnd h
  refine WC.region ?_
  refine Lt.ofWL.step rfl rfl rfl (OpV.loadAll rfl (.head _) ag_43) ?_
  refine Lt.ofWL.step rfl rfl rfl (OpV.move rfl) ?_
  refine Lt.ofWL.step rfl rfl rfl (OpV.call (evs.cons rfl (evs.cons rfl (evs.nil))) ca_17 (fun w hs => w_laws_szFlips e2_2 (r0_0.ext hs.below) (r0_1.ext hs.below) (r0_2.ext hs.below))) ?_
  refine Lt.ofWL.step rfl rfl rfl (OpV.assign rfl) ?_
  refine WL.nil ?_
  refine En.next ?_
  refine WC.seq ?_
  refine WC.seq ?_
  refine WC.region ?_
  refine Lt.ofWL.step rfl rfl rfl (OpV.move rfl) ?_
  refine Lt.ofWL.step rfl rfl rfl (OpV.lss rfl rfl) ?_
  refine WL.nil ?_
  refine En.next ?_
  refine WC.cond rfl ?_ ?_
  ·
    intro hc_1
    replace h := ifO_t hc_1 h
    refine WC.seq ?_
    refine WC.region ?_
    refine Lt.ofWL.step rfl rfl rfl (OpV.assign rfl) ?_
    refine WL.nil ?_
    refine En.next ?_
    refine WC.ret ?_
    refine En.then_ret ?_
    refine En.ret1 rfl (Res.tmp rfl) ?_
    obtain rfl := Option.some.inj h
    intro w' hs
    exact ⟨rfl, hs.below⟩
  ·
    intro hc_1
    replace h := ifO_f hc_1 h
    refine WC.skip ?_
    refine En.next ?_
    refine WC.seq ?_
    obtain ⟨x5_1, e5_1, h⟩ := bnd h
    obtain ⟨x5_2, e5_2, h⟩ := bnd h
    refine WC.region ?_
    refine Lt.ofWL.step rfl rfl rfl (OpV.loadAll rfl (.head _) ag_43) ?_
    refine WL.heavy rfl rfl rfl (OpH.callR (evs.cons rfl (evs.nil)) ca_19 (fun w hs => w_laws_toFlips e5_1 (r0_0.ext hs.below) (r0_1.ext hs.below) (r0_2.ext hs.below)) ?_)
    rintro _ _ ⟨a5_100, n5_100, c5_100, f5_100, a5_101, n5_101, c5_101, f5_101, a5_102, n5_102, c5_102, f5_102, rfl, rfl⟩
    refine Lt.ofWL.step rfl rfl rfl (OpV.call (evs.cons rfl (evs.nil)) ca_22 (fun w hs => w_spec_FlipReady e5_2 (Ow.rd (hs.mem (.head _))) (Ow.rd (hs.mem (.tail _ (.head _)))) (Ow.rd (hs.mem (.tail _ (.tail _ (.head _))))))) ?_
    refine Lt.ofWL.step rfl rfl rfl (OpV.assign rfl) ?_
    refine WL.nil ?_
    refine En.next ?_
    refine WC.seq ?_
    obtain ⟨x6_1, e6_1, h⟩ := bnd h
    refine WC.region ?_
    refine Lt.ofWL.step rfl rfl rfl (OpV.loadAll rfl (.tail _ (.tail _ (.tail _ (.head _)))) ag_43) ?_
    refine WL.heavy rfl rfl rfl (OpH.callR (evs.cons rfl (evs.nil)) ca_19 (fun w hs => w_laws_toFlips e6_1 (r0_0.ext hs.below) (r0_1.ext hs.below) (r0_2.ext hs.below)) ?_)
    rintro _ _ ⟨a6_100, n6_100, c6_100, f6_100, a6_101, n6_101, c6_101, f6_101, a6_102, n6_102, c6_102, f6_102, rfl, rfl⟩
    refine WL.heavy rfl rfl rfl (OpH.alloc zc_48 ?_)
    intro b6_2
    refine WL.heavy0 rfl rfl (OpH.storeTo (A := []) [_, _, _, _] rfl rfl rfl ts_48 rfl rfl rfl ?_)
    refine WL.nil ?_
    refine En.next ?_
    refine WC.seq ?_
    obtain ⟨x7_1, e7_1, h⟩ := bnd h
    refine WC.region ?_
    refine Lt.ofWL.step rfl rfl rfl (OpV.loadAll rfl (.head _) ag_48) ?_
    refine Lt.ofWL.step rfl rfl rfl (OpV.call (evs.cons rfl (evs.nil)) ca_23 (fun w hs => w_impl_FlipReady e7_1 (Ow.rd (hs.mem (.tail _ (.head _)))) (Ow.rd (hs.mem (.tail _ (.tail _ (.head _))))) (Ow.rd (hs.mem (.tail _ (.tail _ (.tail _ (.head _)))))))) ?_
    refine Lt.ofWL.step rfl rfl rfl (OpV.assign rfl) ?_
    refine WL.nil ?_
    refine En.next ?_
    refine WC.seq ?_
    refine WC.seq ?_
    refine WC.region ?_
    refine Lt.ofWL.step rfl rfl rfl (OpV.move rfl) ?_
    refine Lt.ofWL.step rfl rfl rfl (OpV.move rfl) ?_
    refine Lt.ofWL.step rfl rfl rfl (OpV.bneq rfl rfl ub_4) ?_
    refine WL.nil ?_
    refine En.next ?_
    refine WC.cond rfl ?_ ?_
    ·
      intro hc_2
      replace h := ifO_t hc_2 h
      refine WC.seq ?_
      refine WC.region ?_
      refine Lt.ofWL.step rfl rfl rfl (OpV.assign rfl) ?_
      refine WL.nil ?_
      refine En.next ?_
      refine WC.ret ?_
      refine En.then_ret ?_
      refine En.ret1 rfl (Res.tmp rfl) ?_
      obtain rfl := Option.some.inj h
      intro w' hs
      exact ⟨rfl, hs.below⟩
    ·
      intro hc_2
      replace h := ifO_f hc_2 h
      refine WC.skip ?_
      refine En.next ?_
      refine WC.seq ?_
      refine WC.seq ?_
      obtain ⟨x10_2, e10_2, h⟩ := bnd h
      obtain ⟨x10_3, e10_3, h⟩ := bnd h
      refine WC.drawnH [] ([_, _, _, _, _, _, _, _]) (fun _ h => h) (by kernel_rfl) ?_
      refine WAE.take (i := 0) rfl (by kernel_rfl) (by kernel_rfl) (by kernel_rfl) rfl rfl rfl (OpV.loadAll rfl (.head _) ag_48) ?_
      refine WAE.take (i := 1) rfl (by kernel_rfl) (by kernel_rfl) (by kernel_rfl) rfl rfl rfl (OpV.loadAll rfl (.tail _ (.tail _ (.tail _ (.tail _ (.tail _ (.tail _ (.tail _ (.head _)))))))) ag_43) ?_
      refine WAE.all (rs := [2]) (by kernel_rfl) rfl (AllR.cons rfl rfl rfl rfl ?_ AllR.nil)
      refine OpH.callR (evs.cons rfl (evs.nil)) ca_19 (fun w hs => w_laws_toFlips e10_2 (r0_0.ext hs.below) (r0_1.ext hs.below) (r0_2.ext hs.below)) ?_
      rintro _ _ ⟨a10_200, n10_200, c10_200, f10_200, a10_201, n10_201, c10_201, f10_201, a10_202, n10_202, c10_202, f10_202, rfl, rfl⟩
      refine ⟨[_, _, _], rfl, ?_⟩
      refine WAE.rebase (H := []) ?_
      refine WAE.take (i := 3) rfl (by kernel_rfl) (by kernel_rfl) (by kernel_rfl) rfl rfl rfl (OpV.call (evs.cons rfl (evs.cons rfl (evs.nil))) ca_21 (fun w hs => w_laws_eqFlips e10_3 (Ow.rd (hs.mem (.tail _ (.tail _ (.tail _ (.tail _ (.head _))))))) (Ow.rd (hs.mem (.tail _ (.tail _ (.tail _ (.tail _ (.tail _ (.head _)))))))) (Ow.rd (hs.mem (.tail _ (.tail _ (.tail _ (.tail _ (.tail _ (.tail _ (.head _))))))))) (Ow.rd (hs.mem (.head _))) (Ow.rd (hs.mem (.tail _ (.head _)))) (Ow.rd (hs.mem (.tail _ (.tail _ (.head _))))))) ?_
      refine WAE.take (i := 4) rfl (by kernel_rfl) (by kernel_rfl) (by kernel_rfl) rfl rfl rfl (OpV.not rfl) ?_
      refine WAE.done (by kernel_rfl) ?_ _
      refine En.next ?_
      refine WC.cond rfl ?_ ?_
      ·
        intro hc_3
        replace h := ifO_t hc_3 h
        refine WC.seq ?_
        refine WC.region ?_
        refine Lt.ofWL.step rfl rfl rfl (OpV.assign rfl) ?_
        refine WL.nil ?_
        refine En.next ?_
        refine WC.ret ?_
        refine En.then_ret ?_
        refine En.ret1 rfl (Res.tmp rfl) ?_
        obtain rfl := Option.some.inj h
        intro w' hs
        exact ⟨rfl, hs.below⟩
      ·
        intro hc_3
        replace h := ifO_f hc_3 h
        refine WC.skip ?_
        refine En.next ?_
        refine WC.seq ?_
        refine WC.region ?_
        refine Lt.ofWL.step rfl rfl rfl (OpV.assign rfl) ?_
        refine WL.nil ?_
        refine En.next ?_
        refine WC.ret ?_
        refine En.ret1 rfl (Res.tmp rfl) ?_
        obtain rfl := Option.some.inj h
        intro w' hs
        exact ⟨rfl, hs.below⟩

end Go.Proofs.Ytdbnoiiacpmbpaa
