/- Walks: the program computes the pure functions. -/
import Derived.Test.YtdbnoiiacpmbpaaGreatDefs
import Derived.Test.YtdbnoiiacpmbpaaGreatFacts
import Derived.Test.YtdbnoiiacpmbpaaGreatRepeat
import Derived.Test.YtdbnoiiacpmbpaaGreatPlanes
namespace Go.Proofs.YtdbnoiiacpmbpaaGreat
open Go.RowKit K
set_option maxRecDepth 100000
set_option maxHeartbeats 4000000

theorem w_laws_szIntS {a_p0 : List Int} {left_p1 : Int} {r : Int} {q0_0 : Option Addr} {n0_0 k0_0 : Nat} (h : laws_szIntS a_p0 left_p1 = some r) {w : World} (r0_0 : Rd tInt w q0_0 n0_0 k0_0 a_p0)   :
    Calls Tryz.prog 50 #[.slice q0_0 n0_0 k0_0, .int .i64 left_p1] w (fun en w' => en = .returned (.int .i64 r) ∧ Ext w w') := by
 obtain rfl := r0_0.1
 unfold laws_szIntS at h
 refine enter (vs := [_, _]) Tryz.func50 rfl rfl rfl rfl ?_
 refine WC.seq (WC.region ?_)
 refine sp (OpV.assign rfl) ?_
 refine WL.nil (En.next (WC.seq (WC.region ?_)))
 refine sp (OpV.move rfl) ?_
 refine sp (OpV.move rfl) ?_
 refine sp (OpV.len rfl si_23 rfl) ?_
 refine sp (OpV.subR rfl rfl) ?_
 refine sp (OpV.assign rfl) ?_
 refine WL.nil (En.next (WC.seq (WC.seq (WC.region ?_))))
 refine sp (OpV.move rfl) ?_
 refine sp (OpV.lss rfl rfl) ?_
 refine WL.nil (En.next ?_)
 refine WC.cond rfl ?_ ?_
 ·
  intro hc_1
  replace h := ifO_t hc_1 h
  refine WC.seq (WC.region ?_)
  refine sp (OpV.assign rfl) ?_
  refine WL.nil (En.next (WC.ret (En.then_ret ?_)))
  refine En.ret1 rfl (Res.tmp rfl) ?_
  obtain rfl := Option.some.inj h
  intro w' hs
  exact ⟨rfl, hs.below⟩
 ·
  intro hc_1
  replace h := ifO_f hc_1 h
  refine WC.skip (En.next (WC.seq (WC.region ?_)))
  refine sp (OpV.move rfl) ?_
  refine sp (OpV.assign rfl) ?_
  refine WL.nil (En.next (WC.ret ?_))
  refine En.ret1 rfl (Res.tmp rfl) ?_
  obtain rfl := Option.some.inj h
  intro w' hs
  exact ⟨rfl, hs.below⟩

theorem w_laws_szPlane {a_p0 : PlaneT} {left_p1 : Int} {r : Int} {q0_0 : Option Addr} {n0_0 k0_0 : Nat} (h : laws_szPlane a_p0 left_p1 = some r) {w : World} (r0_0 : Rd tInt w q0_0 n0_0 k0_0 a_p0.Words)   :
    Calls Tryz.prog 49 #[.agg #[.bool a_p0.On, .int .i64 a_p0.X, .int .i64 a_p0.Y, .int .i64 a_p0.W, .int .i64 a_p0.H, .int .i64 a_p0.Layout, .slice q0_0 n0_0 k0_0, .int .i64 a_p0.Alpha, .int .i64 a_p0.Orient, .int .i64 a_p0.ToW, .int .i64 a_p0.ToH], .int .i64 left_p1] w (fun en w' => en = .returned (.int .i64 r) ∧ Ext w w') := by
 obtain rfl := r0_0.1
 unfold laws_szPlane at h
 refine enter (vs := [_, _]) Tryz.func49 rfl rfl rfl rfl ?_
 refine WC.seq (WC.region ?_)
 refine WL.heavy rfl rfl rfl (OpH.box rfl rfl ?_)
 intro b0_0
 refine sp (OpV.assign rfl) ?_
 refine WL.nil (En.next (WC.seq ?_))
 obtain ⟨x1_3, e1_3, h⟩ := bnd h
 refine WC.region ?_
 refine sp (OpV.fieldAddr rfl fo_86_6) ?_
 refine sp (OpV.loadBox rfl pt_23 (.head _) rfl) ?_
 refine sp (OpV.move rfl) ?_
 refine sp (OpV.call (evs.cons rfl (evs.cons rfl (evs.nil))) ca_50 (fun w hs => w_laws_szIntS e1_3 (r0_0.ext hs.below))) ?_
 refine sp (OpV.assign rfl) ?_
 refine WL.nil (En.next (WC.seq (WC.seq (WC.region ?_))))
 refine sp (OpV.move rfl) ?_
 refine sp (OpV.lss rfl rfl) ?_
 refine WL.nil (En.next ?_)
 refine WC.cond rfl ?_ ?_
 ·
  intro hc_1
  replace h := ifO_t hc_1 h
  refine WC.seq (WC.region ?_)
  refine sp (OpV.assign rfl) ?_
  refine WL.nil (En.next (WC.ret (En.then_ret ?_)))
  refine En.ret1 rfl (Res.tmp rfl) ?_
  obtain rfl := Option.some.inj h
  intro w' hs
  exact ⟨rfl, hs.below⟩
 ·
  intro hc_1
  replace h := ifO_f hc_1 h
  refine WC.skip (En.next (WC.seq (WC.region ?_)))
  refine sp (OpV.move rfl) ?_
  refine sp (OpV.assign rfl) ?_
  refine WL.nil (En.next (WC.ret ?_))
  refine En.ret1 rfl (Res.tmp rfl) ?_
  obtain rfl := Option.some.inj h
  intro w' hs
  exact ⟨rfl, hs.below⟩

theorem w_laws_szPlaneS {a_p0 : List PlaneT} {left_p1 : Int} {r : Int} {q0_0 : Option Addr} {n0_0 k0_0 : Nat} (h : laws_szPlaneS a_p0 left_p1 = some r) {w : World} (r0_0 : Rd tPlane w q0_0 n0_0 k0_0 a_p0)   :
    Calls Tryz.prog 9 #[.slice q0_0 n0_0 k0_0, .int .i64 left_p1] w (fun en w' => en = .returned (.int .i64 r) ∧ Ext w w') := by
 obtain rfl := r0_0.1
 unfold laws_szPlaneS at h
 refine enter (vs := [_, _]) Tryz.func9 rfl rfl rfl rfl ?_
 refine WC.seq (WC.region ?_)
 refine sp (OpV.assign rfl) ?_
 refine WL.nil (En.next (WC.seq (WC.region ?_)))
 refine sp (OpV.move rfl) ?_
 refine sp (OpV.move rfl) ?_
 refine sp (OpV.len rfl si_22 rfl) ?_
 refine sp (OpV.subR rfl rfl) ?_
 refine sp (OpV.assign rfl) ?_
 refine WL.nil (En.next (WC.seq (WC.seq (WC.region ?_))))
 refine sp (OpV.move rfl) ?_
 refine sp (OpV.lss rfl rfl) ?_
 refine WL.nil (En.next ?_)
 refine WC.cond rfl ?_ ?_
 ·
  intro hc_1
  replace h := ifO_t hc_1 h
  refine WC.seq (WC.region ?_)
  refine sp (OpV.assign rfl) ?_
  refine WL.nil (En.next (WC.ret (En.then_ret ?_)))
  refine En.ret1 rfl (Res.tmp rfl) ?_
  obtain rfl := Option.some.inj h
  intro w' hs
  exact ⟨rfl, hs.below⟩
 ·
  intro hc_1
  replace h := ifO_f hc_1 h
  refine WC.skip (En.next (WC.seq (WC.seq (WC.region ?_))))
  refine sp (OpV.assign rfl) ?_
  refine WL.nil (En.next (WC.block ?_))
  obtain ⟨zy0, ezy0, h⟩ := bnd h
  refine WC.cut (X := (Int) × (Unit)) (.exit 0) (fun x => zy0 = .inl x.1) (fun x => match x with | (left_0e, ()) => [(1, .int .i64 left_0e)]) (fun x => match x with | (left_0e, ()) => []) ?_ ?_
  ·
   rintro ⟨left_0e, ⟨⟩⟩ hx
   replace hx : .inl left_0e = zy0 := hx.symm
   subst hx
   replace h := fork_l h
   show En _ _ _ _ [(1, .int .i64 left_0e)] []
   refine En.block_exit (En.next (WC.seq (WC.region ?_)))
   refine sp (OpV.move rfl) ?_
   refine sp (OpV.assign rfl) ?_
   refine WL.nil (En.next (WC.ret ?_))
   refine En.ret1 rfl (Res.tmp rfl) ?_
   obtain rfl := Option.some.inj h
   intro w' hs
   exact ⟨rfl, hs.below⟩
  ·
   intro zK0_0
   refine WC.loopP (G := Unit) (fun s g => match s, g with | (left_0, i_0), () => [(0, .slice q0_0 a_p0.length k0_0), (1, .int .i64 left_0), (5, .int .i64 i_0)]) (fun s g => match s, g with | (left_0, i_0), () => []) ((wr (left_p1 - (a_p0.length : Int))), 0) () ezy0 (by exact Sub.cons rfl (Sub.cons rfl (Sub.cons rfl (Sub.nil _)))) (by exact (fun _ h => h)) ?_
   rintro zm0 ⟨left_0, i_0⟩ ⟨⟩ zo0 zf0 zb0 ze0
   have zh0 : laws_szPlaneS_L0 a_p0 left_0 i_0 = some zo0 := zf0
   unfold laws_szPlaneS_L0 at zh0
   show WC _ _ _ _ _ [(0, .slice q0_0 a_p0.length k0_0), (1, .int .i64 left_0), (5, .int .i64 i_0)] []
   refine WC.seq (WC.seq (WC.region ?_))
   refine sp (OpV.move rfl) ?_
   refine sp (OpV.move rfl) ?_
   refine sp (OpV.len rfl si_22 rfl) ?_
   refine sp (OpV.lss rfl rfl) ?_
   refine WL.nil (En.next ?_)
   refine WC.cond rfl ?_ ?_
   ·
    intro hc_2
    replace zh0 := ifO_t hc_2 zh0
    refine WC.skip (En.next (WC.seq (WC.block (WC.seq ?_))))
    obtain ⟨x7_2, e7_2, zh0⟩ := bnd zh0
    obtain ⟨g7_2, o7_2, _, ha7_2, ⟨a7_2_1, c7_2_1, rfl, r7_2_1⟩, hd7_2⟩ := Rd.atIdx r0_0 e7_2
    replace hd7_2 : ∀ (j : Nat) v, ([.bool x7_2.On, .int .i64 x7_2.X, .int .i64 x7_2.Y, .int .i64 x7_2.W, .int .i64 x7_2.H, .int .i64 x7_2.Layout, .slice a7_2_1 x7_2.Words.length c7_2_1, .int .i64 x7_2.Alpha, .int .i64 x7_2.Orient, .int .i64 x7_2.ToW, .int .i64 x7_2.ToH] : List Value)[j]? = some v → w.cell? ⟨g7_2, o7_2 + i_0.toNat * 11 + j, .none⟩ = some v := hd7_2
    obtain ⟨x7_5, e7_5, zh0⟩ := bnd zh0
    refine WC.region ?_
    refine sp (OpV.move rfl) ?_
    refine sp (OpV.move rfl) ?_
    refine sp (OpV.idxA rfl rfl se_22 ha7_2 ⟨(idx_some e7_2).1, (idx_some e7_2).2.1⟩) ?_
    refine sp (OpV.loadN rfl ag_86 rfl (fun w hs => hs.cellsAt hd7_2)) ?_
    refine sp (OpV.move rfl) ?_
    refine sp (OpV.call (evs.cons rfl (evs.cons rfl (evs.nil))) ca_49 (fun w hs => w_laws_szPlane e7_5 (r7_2_1.ext hs.below))) ?_
    refine sp (OpV.assign rfl) ?_
    refine WL.nil (En.next (WC.seq (WC.region ?_)))
    refine sp (OpV.move rfl) ?_
    refine sp (OpV.lss rfl rfl) ?_
    refine WL.nil (En.next ?_)
    refine WC.cond rfl ?_ ?_
    ·
     intro hc_3
     replace zh0 := ifO_t hc_3 zh0
     refine WC.seq (WC.region ?_)
     refine sp (OpV.assign rfl) ?_
     refine WL.nil (En.next (WC.ret (En.block_ret (En.then_ret (En.then_ret (En.block_ret (En.then_ret ?_)))))))
     refine En.ret1 rfl (Res.tmp rfl) ?_
     have hx := exitP ze0 zh0
     subst hx
     replace h := fork_r h
     obtain rfl := Option.some.inj h
     intro w' hs
     exact ⟨rfl, hs.below⟩
    ·
     intro hc_3
     replace zh0 := ifO_f hc_3 zh0
     refine WC.skip (En.block_norm (En.next (WC.region ?_)))
     refine sp (OpV.move rfl) ?_
     refine sp (OpV.addR rfl rfl) ?_
     refine sp (OpV.assign rfl) ?_
     refine WL.nil ?_
     exact En.backP zb0 zh0 () (Sub.cons rfl (Sub.cons rfl (Sub.cons rfl (Sub.nil _)))) (fun _ h => h)
   ·
    intro hc_2
    replace zh0 := ifO_f hc_2 zh0
    refine WC.exit (En.then_exit (En.then_exit ?_))
    have hx := exitP ze0 zh0
    exact En.wk _ _ (Sub.cons rfl (Sub.nil _)) (fun _ h => h) (zK0_0 (left_0, ()) hx.symm)

theorem w_laws_szColorMap {a_p0 : ColorMapT} {left_p1 : Int} {r : Int} {q0_0 : Option Addr} {n0_0 k0_0 : Nat} {q0_1 : Option Addr} {n0_1 k0_1 : Nat} (h : laws_szColorMap a_p0 left_p1 = some r) {w : World} (r0_0 : Rd tInt w q0_0 n0_0 k0_0 a_p0.Matrix) (r0_1 : Rd tInt w q0_1 n0_1 k0_1 a_p0.Curve)   :
    Calls Tryz.prog 10 #[.agg #[.slice q0_0 n0_0 k0_0, .slice q0_1 n0_1 k0_1], .int .i64 left_p1] w (fun en w' => en = .returned (.int .i64 r) ∧ Ext w w') := by
 obtain rfl := r0_0.1
 obtain rfl := r0_1.1
 unfold laws_szColorMap at h
 refine enter (vs := [_, _]) Tryz.func10 rfl rfl rfl rfl ?_
 refine WC.seq (WC.region ?_)
 refine WL.heavy rfl rfl rfl (OpH.box rfl rfl ?_)
 intro b0_0
 refine sp (OpV.assign rfl) ?_
 refine WL.nil (En.next (WC.seq ?_))
 obtain ⟨x1_3, e1_3, h⟩ := bnd h
 refine WC.region ?_
 refine sp (OpV.fieldAddr rfl fo_25_0) ?_
 refine sp (OpV.loadBox rfl pt_23 (.head _) rfl) ?_
 refine sp (OpV.move rfl) ?_
 refine sp (OpV.call (evs.cons rfl (evs.cons rfl (evs.nil))) ca_50 (fun w hs => w_laws_szIntS e1_3 (r0_0.ext hs.below))) ?_
 refine sp (OpV.assign rfl) ?_
 refine WL.nil (En.next (WC.seq (WC.seq (WC.region ?_))))
 refine sp (OpV.move rfl) ?_
 refine sp (OpV.lss rfl rfl) ?_
 refine WL.nil (En.next ?_)
 refine WC.cond rfl ?_ ?_
 ·
  intro hc_1
  replace h := ifO_t hc_1 h
  refine WC.seq (WC.region ?_)
  refine sp (OpV.assign rfl) ?_
  refine WL.nil (En.next (WC.ret (En.then_ret ?_)))
  refine En.ret1 rfl (Res.tmp rfl) ?_
  obtain rfl := Option.some.inj h
  intro w' hs
  exact ⟨rfl, hs.below⟩
 ·
  intro hc_1
  replace h := ifO_f hc_1 h
  refine WC.skip (En.next (WC.seq ?_))
  obtain ⟨x4_3, e4_3, h⟩ := bnd h
  refine WC.region ?_
  refine sp (OpV.fieldAddr rfl fo_25_1) ?_
  refine sp (OpV.loadBox rfl pt_23 (.head _) rfl) ?_
  refine sp (OpV.move rfl) ?_
  refine sp (OpV.call (evs.cons rfl (evs.cons rfl (evs.nil))) ca_50 (fun w hs => w_laws_szIntS e4_3 (r0_1.ext hs.below))) ?_
  refine sp (OpV.assign rfl) ?_
  refine WL.nil (En.next (WC.seq (WC.seq (WC.region ?_))))
  refine sp (OpV.move rfl) ?_
  refine sp (OpV.lss rfl rfl) ?_
  refine WL.nil (En.next ?_)
  refine WC.cond rfl ?_ ?_
  ·
   intro hc_2
   replace h := ifO_t hc_2 h
   refine WC.seq (WC.region ?_)
   refine sp (OpV.assign rfl) ?_
   refine WL.nil (En.next (WC.ret (En.then_ret ?_)))
   refine En.ret1 rfl (Res.tmp rfl) ?_
   obtain rfl := Option.some.inj h
   intro w' hs
   exact ⟨rfl, hs.below⟩
  ·
   intro hc_2
   replace h := ifO_f hc_2 h
   refine WC.skip (En.next (WC.seq (WC.region ?_)))
   refine sp (OpV.move rfl) ?_
   refine sp (OpV.assign rfl) ?_
   refine WL.nil (En.next (WC.ret ?_))
   refine En.ret1 rfl (Res.tmp rfl) ?_
   obtain rfl := Option.some.inj h
   intro w' hs
   exact ⟨rfl, hs.below⟩

theorem w_laws_szCrtc {a_p0 : CrtcT} {left_p1 : Int} {r : Int} {q0_0 : Option Addr} {n0_0 k0_0 : Nat} {q0_1 : Option Addr} {n0_1 k0_1 : Nat} {q0_2 : Option Addr} {n0_2 k0_2 : Nat} (h : laws_szCrtc a_p0 left_p1 = some r) {w : World} (r0_0 : Rd tPlane w q0_0 n0_0 k0_0 a_p0.Planes) (r0_1 : Rd tInt w q0_1 n0_1 k0_1 a_p0.Color.Matrix) (r0_2 : Rd tInt w q0_2 n0_2 k0_2 a_p0.Color.Curve)   :
    Calls Tryz.prog 22 #[.agg #[.int .i64 a_p0.W, .int .i64 a_p0.H, .slice q0_0 n0_0 k0_0, .slice q0_1 n0_1 k0_1, .slice q0_2 n0_2 k0_2], .int .i64 left_p1] w (fun en w' => en = .returned (.int .i64 r) ∧ Ext w w') := by
 obtain rfl := r0_0.1
 obtain rfl := r0_1.1
 obtain rfl := r0_2.1
 unfold laws_szCrtc at h
 refine enter (vs := [_, _]) Tryz.func22 rfl rfl rfl rfl ?_
 refine WC.seq (WC.region ?_)
 refine WL.heavy rfl rfl rfl (OpH.box rfl rfl ?_)
 intro b0_0
 refine sp (OpV.assign rfl) ?_
 refine WL.nil (En.next (WC.seq ?_))
 obtain ⟨x1_3, e1_3, h⟩ := bnd h
 refine WC.region ?_
 refine sp (OpV.fieldAddr rfl fo_41_2) ?_
 refine sp (OpV.loadBox rfl pt_22 (.head _) rfl) ?_
 refine sp (OpV.move rfl) ?_
 refine sp (OpV.call (evs.cons rfl (evs.cons rfl (evs.nil))) ca_9 (fun w hs => w_laws_szPlaneS e1_3 (r0_0.ext hs.below))) ?_
 refine sp (OpV.assign rfl) ?_
 refine WL.nil (En.next (WC.seq (WC.seq (WC.region ?_))))
 refine sp (OpV.move rfl) ?_
 refine sp (OpV.lss rfl rfl) ?_
 refine WL.nil (En.next ?_)
 refine WC.cond rfl ?_ ?_
 ·
  intro hc_1
  replace h := ifO_t hc_1 h
  refine WC.seq (WC.region ?_)
  refine sp (OpV.assign rfl) ?_
  refine WL.nil (En.next (WC.ret (En.then_ret ?_)))
  refine En.ret1 rfl (Res.tmp rfl) ?_
  obtain rfl := Option.some.inj h
  intro w' hs
  exact ⟨rfl, hs.below⟩
 ·
  intro hc_1
  replace h := ifO_f hc_1 h
  refine WC.skip (En.next (WC.seq ?_))
  obtain ⟨x4_3, e4_3, h⟩ := bnd h
  refine WC.region ?_
  refine sp (OpV.fieldAddr rfl fo_41_3) ?_
  refine sp (OpV.loadPart rfl (.head _) ag_25 rfl rfl) ?_
  refine sp (OpV.move rfl) ?_
  refine sp (OpV.call (evs.cons rfl (evs.cons rfl (evs.nil))) ca_10 (fun w hs => w_laws_szColorMap e4_3 (r0_1.ext hs.below) (r0_2.ext hs.below))) ?_
  refine sp (OpV.assign rfl) ?_
  refine WL.nil (En.next (WC.seq (WC.seq (WC.region ?_))))
  refine sp (OpV.move rfl) ?_
  refine sp (OpV.lss rfl rfl) ?_
  refine WL.nil (En.next ?_)
  refine WC.cond rfl ?_ ?_
  ·
   intro hc_2
   replace h := ifO_t hc_2 h
   refine WC.seq (WC.region ?_)
   refine sp (OpV.assign rfl) ?_
   refine WL.nil (En.next (WC.ret (En.then_ret ?_)))
   refine En.ret1 rfl (Res.tmp rfl) ?_
   obtain rfl := Option.some.inj h
   intro w' hs
   exact ⟨rfl, hs.below⟩
  ·
   intro hc_2
   replace h := ifO_f hc_2 h
   refine WC.skip (En.next (WC.seq (WC.region ?_)))
   refine sp (OpV.move rfl) ?_
   refine sp (OpV.assign rfl) ?_
   refine WL.nil (En.next (WC.ret ?_))
   refine En.ret1 rfl (Res.tmp rfl) ?_
   obtain rfl := Option.some.inj h
   intro w' hs
   exact ⟨rfl, hs.below⟩

theorem w_laws_szChange {a_p0 : ChangeT} {left_p1 : Int} {r : Int} {q0_0 : Option Addr} {n0_0 k0_0 : Nat} {q0_1 : Option Addr} {n0_1 k0_1 : Nat} {q0_2 : Option Addr} {n0_2 k0_2 : Nat} (h : laws_szChange a_p0 left_p1 = some r) {w : World} (r0_0 : Rd tInt w q0_0 n0_0 k0_0 a_p0.Value.Words) (r0_1 : Rd tInt w q0_1 n0_1 k0_1 a_p0.Color.Matrix) (r0_2 : Rd tInt w q0_2 n0_2 k0_2 a_p0.Color.Curve)   :
    Calls Tryz.prog 63 #[.agg #[.int .i64 a_p0.Plane, .bool a_p0.Value.On, .int .i64 a_p0.Value.X, .int .i64 a_p0.Value.Y, .int .i64 a_p0.Value.W, .int .i64 a_p0.Value.H, .int .i64 a_p0.Value.Layout, .slice q0_0 n0_0 k0_0, .int .i64 a_p0.Value.Alpha, .int .i64 a_p0.Value.Orient, .int .i64 a_p0.Value.ToW, .int .i64 a_p0.Value.ToH, .slice q0_1 n0_1 k0_1, .slice q0_2 n0_2 k0_2], .int .i64 left_p1] w (fun en w' => en = .returned (.int .i64 r) ∧ Ext w w') := by
 obtain rfl := r0_0.1
 obtain rfl := r0_1.1
 obtain rfl := r0_2.1
 unfold laws_szChange at h
 refine enter (vs := [_, _]) Tryz.func63 rfl rfl rfl rfl ?_
 refine WC.seq (WC.region ?_)
 refine WL.heavy rfl rfl rfl (OpH.box rfl rfl ?_)
 intro b0_0
 refine sp (OpV.assign rfl) ?_
 refine WL.nil (En.next (WC.seq ?_))
 obtain ⟨x1_3, e1_3, h⟩ := bnd h
 refine WC.region ?_
 refine sp (OpV.fieldAddr rfl fo_101_1) ?_
 refine sp (OpV.loadPart rfl (.head _) ag_86 rfl rfl) ?_
 refine sp (OpV.move rfl) ?_
 refine sp (OpV.call (evs.cons rfl (evs.cons rfl (evs.nil))) ca_49 (fun w hs => w_laws_szPlane e1_3 (r0_0.ext hs.below))) ?_
 refine sp (OpV.assign rfl) ?_
 refine WL.nil (En.next (WC.seq (WC.seq (WC.region ?_))))
 refine sp (OpV.move rfl) ?_
 refine sp (OpV.lss rfl rfl) ?_
 refine WL.nil (En.next ?_)
 refine WC.cond rfl ?_ ?_
 ·
  intro hc_1
  replace h := ifO_t hc_1 h
  refine WC.seq (WC.region ?_)
  refine sp (OpV.assign rfl) ?_
  refine WL.nil (En.next (WC.ret (En.then_ret ?_)))
  refine En.ret1 rfl (Res.tmp rfl) ?_
  obtain rfl := Option.some.inj h
  intro w' hs
  exact ⟨rfl, hs.below⟩
 ·
  intro hc_1
  replace h := ifO_f hc_1 h
  refine WC.skip (En.next (WC.seq ?_))
  obtain ⟨x4_3, e4_3, h⟩ := bnd h
  refine WC.region ?_
  refine sp (OpV.fieldAddr rfl fo_101_2) ?_
  refine sp (OpV.loadPart rfl (.head _) ag_25 rfl rfl) ?_
  refine sp (OpV.move rfl) ?_
  refine sp (OpV.call (evs.cons rfl (evs.cons rfl (evs.nil))) ca_10 (fun w hs => w_laws_szColorMap e4_3 (r0_1.ext hs.below) (r0_2.ext hs.below))) ?_
  refine sp (OpV.assign rfl) ?_
  refine WL.nil (En.next (WC.seq (WC.seq (WC.region ?_))))
  refine sp (OpV.move rfl) ?_
  refine sp (OpV.lss rfl rfl) ?_
  refine WL.nil (En.next ?_)
  refine WC.cond rfl ?_ ?_
  ·
   intro hc_2
   replace h := ifO_t hc_2 h
   refine WC.seq (WC.region ?_)
   refine sp (OpV.assign rfl) ?_
   refine WL.nil (En.next (WC.ret (En.then_ret ?_)))
   refine En.ret1 rfl (Res.tmp rfl) ?_
   obtain rfl := Option.some.inj h
   intro w' hs
   exact ⟨rfl, hs.below⟩
  ·
   intro hc_2
   replace h := ifO_f hc_2 h
   refine WC.skip (En.next (WC.seq (WC.region ?_)))
   refine sp (OpV.move rfl) ?_
   refine sp (OpV.assign rfl) ?_
   refine WL.nil (En.next (WC.ret ?_))
   refine En.ret1 rfl (Res.tmp rfl) ?_
   obtain rfl := Option.some.inj h
   intro w' hs
   exact ⟨rfl, hs.below⟩

theorem w_laws_szChangeS {a_p0 : List ChangeT} {left_p1 : Int} {r : Int} {q0_0 : Option Addr} {n0_0 k0_0 : Nat} (h : laws_szChangeS a_p0 left_p1 = some r) {w : World} (r0_0 : Rd tChange w q0_0 n0_0 k0_0 a_p0)   :
    Calls Tryz.prog 23 #[.slice q0_0 n0_0 k0_0, .int .i64 left_p1] w (fun en w' => en = .returned (.int .i64 r) ∧ Ext w w') := by
 obtain rfl := r0_0.1
 unfold laws_szChangeS at h
 refine enter (vs := [_, _]) Tryz.func23 rfl rfl rfl rfl ?_
 refine WC.seq (WC.region ?_)
 refine sp (OpV.assign rfl) ?_
 refine WL.nil (En.next (WC.seq (WC.region ?_)))
 refine sp (OpV.move rfl) ?_
 refine sp (OpV.move rfl) ?_
 refine sp (OpV.len rfl si_42 rfl) ?_
 refine sp (OpV.subR rfl rfl) ?_
 refine sp (OpV.assign rfl) ?_
 refine WL.nil (En.next (WC.seq (WC.seq (WC.region ?_))))
 refine sp (OpV.move rfl) ?_
 refine sp (OpV.lss rfl rfl) ?_
 refine WL.nil (En.next ?_)
 refine WC.cond rfl ?_ ?_
 ·
  intro hc_1
  replace h := ifO_t hc_1 h
  refine WC.seq (WC.region ?_)
  refine sp (OpV.assign rfl) ?_
  refine WL.nil (En.next (WC.ret (En.then_ret ?_)))
  refine En.ret1 rfl (Res.tmp rfl) ?_
  obtain rfl := Option.some.inj h
  intro w' hs
  exact ⟨rfl, hs.below⟩
 ·
  intro hc_1
  replace h := ifO_f hc_1 h
  refine WC.skip (En.next (WC.seq (WC.seq (WC.region ?_))))
  refine sp (OpV.assign rfl) ?_
  refine WL.nil (En.next (WC.block ?_))
  obtain ⟨zy0, ezy0, h⟩ := bnd h
  refine WC.cut (X := (Int) × (Unit)) (.exit 0) (fun x => zy0 = .inl x.1) (fun x => match x with | (left_0e, ()) => [(1, .int .i64 left_0e)]) (fun x => match x with | (left_0e, ()) => []) ?_ ?_
  ·
   rintro ⟨left_0e, ⟨⟩⟩ hx
   replace hx : .inl left_0e = zy0 := hx.symm
   subst hx
   replace h := fork_l h
   show En _ _ _ _ [(1, .int .i64 left_0e)] []
   refine En.block_exit (En.next (WC.seq (WC.region ?_)))
   refine sp (OpV.move rfl) ?_
   refine sp (OpV.assign rfl) ?_
   refine WL.nil (En.next (WC.ret ?_))
   refine En.ret1 rfl (Res.tmp rfl) ?_
   obtain rfl := Option.some.inj h
   intro w' hs
   exact ⟨rfl, hs.below⟩
  ·
   intro zK0_0
   refine WC.loopP (G := Unit) (fun s g => match s, g with | (left_0, i_0), () => [(0, .slice q0_0 a_p0.length k0_0), (1, .int .i64 left_0), (5, .int .i64 i_0)]) (fun s g => match s, g with | (left_0, i_0), () => []) ((wr (left_p1 - (a_p0.length : Int))), 0) () ezy0 (by exact Sub.cons rfl (Sub.cons rfl (Sub.cons rfl (Sub.nil _)))) (by exact (fun _ h => h)) ?_
   rintro zm0 ⟨left_0, i_0⟩ ⟨⟩ zo0 zf0 zb0 ze0
   have zh0 : laws_szChangeS_L0 a_p0 left_0 i_0 = some zo0 := zf0
   unfold laws_szChangeS_L0 at zh0
   show WC _ _ _ _ _ [(0, .slice q0_0 a_p0.length k0_0), (1, .int .i64 left_0), (5, .int .i64 i_0)] []
   refine WC.seq (WC.seq (WC.region ?_))
   refine sp (OpV.move rfl) ?_
   refine sp (OpV.move rfl) ?_
   refine sp (OpV.len rfl si_42 rfl) ?_
   refine sp (OpV.lss rfl rfl) ?_
   refine WL.nil (En.next ?_)
   refine WC.cond rfl ?_ ?_
   ·
    intro hc_2
    replace zh0 := ifO_t hc_2 zh0
    refine WC.skip (En.next (WC.seq (WC.block (WC.seq ?_))))
    obtain ⟨x7_2, e7_2, zh0⟩ := bnd zh0
    obtain ⟨g7_2, o7_2, _, ha7_2, ⟨a7_2_1, c7_2_1, a7_2_2, c7_2_2, a7_2_3, c7_2_3, rfl, r7_2_1, r7_2_2, r7_2_3⟩, hd7_2⟩ := Rd.atIdx r0_0 e7_2
    replace hd7_2 : ∀ (j : Nat) v, ([.int .i64 x7_2.Plane, .bool x7_2.Value.On, .int .i64 x7_2.Value.X, .int .i64 x7_2.Value.Y, .int .i64 x7_2.Value.W, .int .i64 x7_2.Value.H, .int .i64 x7_2.Value.Layout, .slice a7_2_1 x7_2.Value.Words.length c7_2_1, .int .i64 x7_2.Value.Alpha, .int .i64 x7_2.Value.Orient, .int .i64 x7_2.Value.ToW, .int .i64 x7_2.Value.ToH, .slice a7_2_2 x7_2.Color.Matrix.length c7_2_2, .slice a7_2_3 x7_2.Color.Curve.length c7_2_3] : List Value)[j]? = some v → w.cell? ⟨g7_2, o7_2 + i_0.toNat * 14 + j, .none⟩ = some v := hd7_2
    obtain ⟨x7_5, e7_5, zh0⟩ := bnd zh0
    refine WC.region ?_
    refine sp (OpV.move rfl) ?_
    refine sp (OpV.move rfl) ?_
    refine sp (OpV.idxA rfl rfl se_42 ha7_2 ⟨(idx_some e7_2).1, (idx_some e7_2).2.1⟩) ?_
    refine sp (OpV.loadN rfl ag_101 rfl (fun w hs => hs.cellsAt hd7_2)) ?_
    refine sp (OpV.move rfl) ?_
    refine sp (OpV.call (evs.cons rfl (evs.cons rfl (evs.nil))) ca_63 (fun w hs => w_laws_szChange e7_5 (r7_2_1.ext hs.below) (r7_2_2.ext hs.below) (r7_2_3.ext hs.below))) ?_
    refine sp (OpV.assign rfl) ?_
    refine WL.nil (En.next (WC.seq (WC.region ?_)))
    refine sp (OpV.move rfl) ?_
    refine sp (OpV.lss rfl rfl) ?_
    refine WL.nil (En.next ?_)
    refine WC.cond rfl ?_ ?_
    ·
     intro hc_3
     replace zh0 := ifO_t hc_3 zh0
     refine WC.seq (WC.region ?_)
     refine sp (OpV.assign rfl) ?_
     refine WL.nil (En.next (WC.ret (En.block_ret (En.then_ret (En.then_ret (En.block_ret (En.then_ret ?_)))))))
     refine En.ret1 rfl (Res.tmp rfl) ?_
     have hx := exitP ze0 zh0
     subst hx
     replace h := fork_r h
     obtain rfl := Option.some.inj h
     intro w' hs
     exact ⟨rfl, hs.below⟩
    ·
     intro hc_3
     replace zh0 := ifO_f hc_3 zh0
     refine WC.skip (En.block_norm (En.next (WC.region ?_)))
     refine sp (OpV.move rfl) ?_
     refine sp (OpV.addR rfl rfl) ?_
     refine sp (OpV.assign rfl) ?_
     refine WL.nil ?_
     exact En.backP zb0 zh0 () (Sub.cons rfl (Sub.cons rfl (Sub.cons rfl (Sub.nil _)))) (fun _ h => h)
   ·
    intro hc_2
    replace zh0 := ifO_f hc_2 zh0
    refine WC.exit (En.then_exit (En.then_exit ?_))
    have hx := exitP ze0 zh0
    exact En.wk _ _ (Sub.cons rfl (Sub.nil _)) (fun _ h => h) (zK0_0 (left_0, ()) hx.symm)

theorem w_laws_toIntS {a_p0 : List Int} {r : (List Int)} {q0_0 : Option Addr} {n0_0 k0_0 : Nat} (h : laws_toIntS a_p0 = some r) {w : World} (r0_0 : Rd tInt w q0_0 n0_0 k0_0 a_p0)   :
    Calls Tryz.prog 56 #[.slice q0_0 n0_0 k0_0] w (fun en w' => ∃ rv G, en = .returned rv ∧ (∃ (a0_0 : Option Addr) (n0_0 : Nat) (c0_0 : Nat) (f0_0 : List Nat), rv = .slice a0_0 n0_0 c0_0 ∧ G = [Chunk.own tInt f0_0 a0_0 n0_0 c0_0 r]) ∧ St w G w') := by
 obtain rfl := r0_0.1
 unfold laws_toIntS at h
 refine enter (vs := [_]) Tryz.func56 rfl rfl rfl rfl ?_
 refine WC.seq (WC.region ?_)
 refine sp (OpV.assign rfl) ?_
 refine WL.nil (En.next (WC.seq ?_))
 obtain ⟨x1_2, e1_2, h⟩ := bnd h
 refine WC.region ?_
 refine sp (OpV.move rfl) ?_
 refine sp (OpV.len rfl si_23 rfl) ?_
 refine WL.heavy rfl rfl rfl (OpH.makeO (A := tInt) rfl rfl mi_23 (fun w => tInt_flat.ow w 0) (by decide) e1_2 ⟨Int.le_refl _, (mkO_some e1_2).1.2⟩ ?_)
 intro b1_2
 refine sp (OpV.assign rfl) ?_
 refine WL.nil (En.next (WC.seq (WC.seq (WC.region ?_))))
 refine sp (OpV.assign rfl) ?_
 refine WL.nil (En.next (WC.block ?_))
 obtain ⟨zy0, ezy0, h⟩ := bnd h
 refine WC.cut (X := ((List Int)) × ((List Nat))) (.exit 0) (fun x => zy0 = x.1) (fun x => match x with | (out_0e, fout_0e) => [(3, .slice (some ⟨b1_2, 0, .none⟩) x1_2.length ((a_p0.length : Int).toNat))]) (fun x => match x with | (out_0e, fout_0e) => [Chunk.own tInt fout_0e (some ⟨b1_2, 0, .none⟩) x1_2.length ((a_p0.length : Int).toNat) out_0e]) ?_ ?_
 ·
  rintro ⟨out_0e, fout_0e⟩ hx
  replace hx : out_0e = zy0 := hx.symm
  subst hx
  show En _ _ _ _ [(3, .slice (some ⟨b1_2, 0, .none⟩) x1_2.length ((a_p0.length : Int).toNat))] [Chunk.own tInt fout_0e (some ⟨b1_2, 0, .none⟩) x1_2.length ((a_p0.length : Int).toNat) out_0e]
  refine En.block_exit (En.next (WC.seq (WC.region ?_)))
  refine sp (OpV.move rfl) ?_
  refine sp (OpV.assign rfl) ?_
  refine WL.nil (En.next (WC.ret ?_))
  refine En.ret1 rfl (Res.tmp rfl) ?_
  obtain rfl := Option.some.inj h
  intro w' hs
  have hs := hs
  exact ⟨_, _, rfl, ⟨(some ⟨b1_2, 0, .none⟩), x1_2.length, ((a_p0.length : Int).toNat), fout_0e, rfl, rfl⟩, hs⟩
 ·
  intro zK0_0
  refine WC.loopP (G := (List Nat)) (fun s g => match s, g with | (out_0, i_0), fout_0 => [(0, .slice q0_0 a_p0.length k0_0), (3, .slice (some ⟨b1_2, 0, .none⟩) x1_2.length ((a_p0.length : Int).toNat)), (4, .int .i64 i_0)]) (fun s g => match s, g with | (out_0, i_0), fout_0 => [Chunk.own tInt fout_0 (some ⟨b1_2, 0, .none⟩) x1_2.length ((a_p0.length : Int).toNat) out_0]) (x1_2, 0) [b1_2] ezy0 (by exact Sub.cons rfl (Sub.cons rfl (Sub.cons rfl (Sub.nil _)))) (by exact (fun _ h => h)) ?_
  rintro zm0 ⟨out_0, i_0⟩ fout_0 zo0 zf0 zb0 ze0
  have zh0 : laws_toIntS_L0 a_p0 out_0 i_0 = some zo0 := zf0
  unfold laws_toIntS_L0 at zh0
  show WC _ _ _ _ _ [(0, .slice q0_0 a_p0.length k0_0), (3, .slice (some ⟨b1_2, 0, .none⟩) x1_2.length ((a_p0.length : Int).toNat)), (4, .int .i64 i_0)] [Chunk.own tInt fout_0 (some ⟨b1_2, 0, .none⟩) x1_2.length ((a_p0.length : Int).toNat) out_0]
  refine WC.seq (WC.seq (WC.region ?_))
  refine sp (OpV.move rfl) ?_
  refine sp (OpV.move rfl) ?_
  refine sp (OpV.len rfl si_23 rfl) ?_
  refine sp (OpV.lss rfl rfl) ?_
  refine WL.nil (En.next ?_)
  refine WC.cond rfl ?_ ?_
  ·
   intro hc_1
   replace zh0 := ifO_t hc_1 zh0
   refine WC.skip (En.next (WC.seq (WC.block ?_)))
   refine WC.inh fun hin5 => ?_
   obtain ⟨x5_4, e5_4, zh0⟩ := bnd zh0
   obtain ⟨g5_4, o5_4, _, ha5_4, rfl, hd5_4⟩ := Rd.atIdx r0_0 e5_4
   replace hd5_4 : ∀ (j : Nat) v, ([.int .i64 x5_4] : List Value)[j]? = some v → w.cell? ⟨g5_4, o5_4 + i_0.toNat * 1 + j, .none⟩ = some v := hd5_4
   have hn5_6 := ownLen hin5 (.head _)
   obtain ⟨x5_7, e5_7, zh0⟩ := bnd zh0
   obtain ⟨g5_6, ha5_6⟩ := ownAddrU hin5 (.head _) e5_7
   refine WC.region ?_
   refine sp (OpV.move rfl) ?_
   refine sp (OpV.move rfl) ?_
   refine sp (OpV.move rfl) ?_
   refine sp (OpV.move rfl) ?_
   refine sp (OpV.idxA rfl rfl se_23 ha5_4 ⟨(idx_some e5_4).1, (idx_some e5_4).2.1⟩) ?_
   refine sp (OpV.load1 rfl pt_3 (fun w hs => hs.cell (hd5_4 0 _ rfl))) ?_
   refine sp (OpV.idxA rfl rfl se_23 ha5_6 ⟨(upd_some e5_7).1.1, by rw [hn5_6]; exact (upd_some e5_7).1.2⟩) ?_
   refine WL.wkF (fun _ h => St.elFlat tInt_flat x5_4 h) ?_
   refine WL.heavy0 rfl rfl (OpH.setEl (A := tInt) ha5_6 rfl rfl rfl ts_3 e5_7 ?_)
   intro f5_7
   refine WL.nil (En.block_norm (En.next (WC.region ?_)))
   refine sp (OpV.move rfl) ?_
   refine sp (OpV.addR rfl rfl) ?_
   refine sp (OpV.assign rfl) ?_
   refine WL.nil ?_
   exact En.backP zb0 zh0 f5_7 (Sub.cons rfl (Sub.cons rfl (Sub.cons rfl (Sub.nil _)))) (fun _ h => h)
  ·
   intro hc_1
   replace zh0 := ifO_f hc_1 zh0
   refine WC.exit (En.then_exit (En.then_exit ?_))
   have hx := exitP ze0 zh0
   exact En.wk _ _ (Sub.cons rfl (Sub.nil _)) (fun _ h => h) (zK0_0 (out_0, fout_0) hx.symm)

theorem w_laws_toPlane {a_p0 : PlaneT} {r : PlaneT} {q0_0 : Option Addr} {n0_0 k0_0 : Nat} (h : laws_toPlane a_p0 = some r) {w : World} (r0_0 : Rd tInt w q0_0 n0_0 k0_0 a_p0.Words)   :
    Calls Tryz.prog 55 #[.agg #[.bool a_p0.On, .int .i64 a_p0.X, .int .i64 a_p0.Y, .int .i64 a_p0.W, .int .i64 a_p0.H, .int .i64 a_p0.Layout, .slice q0_0 n0_0 k0_0, .int .i64 a_p0.Alpha, .int .i64 a_p0.Orient, .int .i64 a_p0.ToW, .int .i64 a_p0.ToH]] w (fun en w' => ∃ rv G, en = .returned rv ∧ (∃ (a0_0 : Option Addr) (n0_0 : Nat) (c0_0 : Nat) (f0_0 : List Nat), rv = .agg #[.bool r.On, .int .i64 r.X, .int .i64 r.Y, .int .i64 r.W, .int .i64 r.H, .int .i64 r.Layout, .slice a0_0 n0_0 c0_0, .int .i64 r.Alpha, .int .i64 r.Orient, .int .i64 r.ToW, .int .i64 r.ToH] ∧ G = [Chunk.own tInt f0_0 a0_0 n0_0 c0_0 r.Words]) ∧ St w G w') := by
 obtain rfl := r0_0.1
 unfold laws_toPlane at h
 refine enter (vs := [_]) Tryz.func55 rfl rfl rfl rfl ?_
 refine WC.seq (WC.region ?_)
 refine WL.heavy rfl rfl rfl (OpH.box rfl rfl ?_)
 intro b0_0
 refine WL.heavy rfl rfl rfl (OpH.alloc zc_82 ?_)
 intro b0_1
 refine WL.nil (En.next (WC.seq (WC.region ?_)))
 refine WL.heavy rfl rfl rfl (OpH.alloc zc_82 ?_)
 intro b1_0
 refine WL.nil (En.next (WC.seq (WC.region ?_)))
 refine sp (OpV.fieldAddr rfl fo_86_0) ?_
 refine sp (OpV.loadBox rfl pt_4 (.tail _ (.tail _ (.head _))) rfl) ?_
 refine sp (OpV.fieldAddr rfl fo_82_0) ?_
 refine WL.heavy0 rfl rfl (OpH.storeTo (A := []) [_, _, _, _, _, _, _, _, _, _, _] rfl rfl rfl ts_4 rfl rfl rfl ?_)
 refine WL.nil (En.next (WC.seq (WC.region ?_)))
 refine sp (OpV.fieldAddr rfl fo_86_1) ?_
 refine sp (OpV.loadBox rfl pt_3 (.tail _ (.tail _ (.head _))) rfl) ?_
 refine sp (OpV.fieldAddr rfl fo_82_1) ?_
 refine WL.heavy0 rfl rfl (OpH.storeTo (A := []) [_, _, _, _, _, _, _, _, _, _, _] rfl rfl rfl ts_3 rfl rfl rfl ?_)
 refine WL.nil (En.next (WC.seq (WC.region ?_)))
 refine sp (OpV.fieldAddr rfl fo_86_2) ?_
 refine sp (OpV.loadBox rfl pt_3 (.tail _ (.tail _ (.head _))) rfl) ?_
 refine sp (OpV.fieldAddr rfl fo_82_2) ?_
 refine WL.heavy0 rfl rfl (OpH.storeTo (A := []) [_, _, _, _, _, _, _, _, _, _, _] rfl rfl rfl ts_3 rfl rfl rfl ?_)
 refine WL.nil (En.next (WC.seq (WC.region ?_)))
 refine sp (OpV.fieldAddr rfl fo_86_3) ?_
 refine sp (OpV.loadBox rfl pt_3 (.tail _ (.tail _ (.head _))) rfl) ?_
 refine sp (OpV.fieldAddr rfl fo_82_3) ?_
 refine WL.heavy0 rfl rfl (OpH.storeTo (A := []) [_, _, _, _, _, _, _, _, _, _, _] rfl rfl rfl ts_3 rfl rfl rfl ?_)
 refine WL.nil (En.next (WC.seq (WC.region ?_)))
 refine sp (OpV.fieldAddr rfl fo_86_4) ?_
 refine sp (OpV.loadBox rfl pt_3 (.tail _ (.tail _ (.head _))) rfl) ?_
 refine sp (OpV.fieldAddr rfl fo_82_4) ?_
 refine WL.heavy0 rfl rfl (OpH.storeTo (A := []) [_, _, _, _, _, _, _, _, _, _, _] rfl rfl rfl ts_3 rfl rfl rfl ?_)
 refine WL.nil (En.next (WC.seq (WC.region ?_)))
 refine sp (OpV.fieldAddr rfl fo_86_5) ?_
 refine sp (OpV.loadBox rfl pt_3 (.tail _ (.tail _ (.head _))) rfl) ?_
 refine sp (OpV.fieldAddr rfl fo_82_5) ?_
 refine WL.heavy0 rfl rfl (OpH.storeTo (A := []) [_, _, _, _, _, _, _, _, _, _, _] rfl rfl rfl ts_3 rfl rfl rfl ?_)
 refine WL.nil (En.next (WC.seq ?_))
 obtain ⟨x8_2, e8_2, h⟩ := bnd h
 refine WC.region ?_
 refine sp (OpV.fieldAddr rfl fo_86_6) ?_
 refine sp (OpV.loadBox rfl pt_23 (.tail _ (.tail _ (.head _))) rfl) ?_
 refine WL.heavy rfl rfl rfl (OpH.callR (evs.cons rfl (evs.nil)) ca_56 (fun w hs => w_laws_toIntS e8_2 (r0_0.ext hs.below)) ?_)
 rintro _ _ ⟨a8_200, n8_200, c8_200, f8_200, rfl, rfl⟩
 refine sp (OpV.fieldAddr rfl fo_82_6) ?_
 refine WL.heavy0 rfl rfl (OpH.storeTo (A := [_]) [_, _, _, _, _, _, _, _, _, _, _] rfl rfl rfl ts_23 rfl rfl rfl ?_)
 refine WL.nil (En.next (WC.seq (WC.region ?_)))
 refine sp (OpV.fieldAddr rfl fo_86_7) ?_
 refine sp (OpV.loadBox rfl pt_3 (.tail _ (.tail _ (.tail _ (.head _)))) rfl) ?_
 refine sp (OpV.fieldAddr rfl fo_82_7) ?_
 refine WL.heavy0 rfl rfl (OpH.storeTo (A := [_]) [_, _, _, _, _, _, _, _, _, _, _] rfl rfl rfl ts_3 rfl rfl rfl ?_)
 refine WL.nil (En.next (WC.seq (WC.region ?_)))
 refine sp (OpV.fieldAddr rfl fo_86_8) ?_
 refine sp (OpV.loadBox rfl pt_3 (.tail _ (.tail _ (.tail _ (.head _)))) rfl) ?_
 refine sp (OpV.fieldAddr rfl fo_82_8) ?_
 refine WL.heavy0 rfl rfl (OpH.storeTo (A := [_]) [_, _, _, _, _, _, _, _, _, _, _] rfl rfl rfl ts_3 rfl rfl rfl ?_)
 refine WL.nil (En.next (WC.seq (WC.region ?_)))
 refine sp (OpV.fieldAddr rfl fo_86_9) ?_
 refine sp (OpV.loadBox rfl pt_3 (.tail _ (.tail _ (.tail _ (.head _)))) rfl) ?_
 refine sp (OpV.fieldAddr rfl fo_82_9) ?_
 refine WL.heavy0 rfl rfl (OpH.storeTo (A := [_]) [_, _, _, _, _, _, _, _, _, _, _] rfl rfl rfl ts_3 rfl rfl rfl ?_)
 refine WL.nil (En.next (WC.seq (WC.region ?_)))
 refine sp (OpV.fieldAddr rfl fo_86_10) ?_
 refine sp (OpV.loadBox rfl pt_3 (.tail _ (.tail _ (.tail _ (.head _)))) rfl) ?_
 refine sp (OpV.fieldAddr rfl fo_82_10) ?_
 refine WL.heavy0 rfl rfl (OpH.storeTo (A := [_]) [_, _, _, _, _, _, _, _, _, _, _] rfl rfl rfl ts_3 rfl rfl rfl ?_)
 refine WL.nil (En.next (WC.seq (WC.region ?_)))
 refine sp (OpV.loadAll rfl (.tail _ (.head _)) ag_82) ?_
 refine WL.heavy0 rfl rfl (OpH.storeTo (A := [_, _]) [_, _, _, _, _, _, _, _, _, _, _] rfl rfl rfl ts_82 rfl rfl rfl ?_)
 refine WL.nil (En.next (WC.ret ?_))
 refine En.ret1 rfl (Res.cell rfl (.tail _ (.tail _ (.head _))) ag_82) ?_
 obtain rfl := Option.some.inj h
 intro w' hs
 have hs := (hs).sub (.cons_cons _ (.cons _ (.cons _ (.cons _ (.slnil)))))
 exact ⟨_, _, rfl, ⟨a8_200, n8_200, c8_200, f8_200, rfl, rfl⟩, hs⟩

theorem w_laws_toPlaneS {a_p0 : List PlaneT} {r : (List PlaneT)} {q0_0 : Option Addr} {n0_0 k0_0 : Nat} (h : laws_toPlaneS a_p0 = some r) {w : World} (r0_0 : Rd tPlane w q0_0 n0_0 k0_0 a_p0)   :
    Calls Tryz.prog 12 #[.slice q0_0 n0_0 k0_0] w (fun en w' => ∃ rv G, en = .returned rv ∧ (∃ (a0_0 : Option Addr) (n0_0 : Nat) (c0_0 : Nat) (f0_0 : List Nat), rv = .slice a0_0 n0_0 c0_0 ∧ G = [Chunk.own tPlane f0_0 a0_0 n0_0 c0_0 r]) ∧ St w G w') := by
 obtain rfl := r0_0.1
 unfold laws_toPlaneS at h
 refine enter (vs := [_]) Tryz.func12 rfl rfl rfl rfl ?_
 refine WC.seq (WC.region ?_)
 refine sp (OpV.assign rfl) ?_
 refine WL.nil (En.next (WC.seq ?_))
 obtain ⟨x1_2, e1_2, h⟩ := bnd h
 refine WC.region ?_
 refine sp (OpV.move rfl) ?_
 refine sp (OpV.len rfl si_22 rfl) ?_
 refine WL.heavy rfl rfl rfl (OpH.makeO (A := tPlane) rfl rfl mi_29 tPlane_zero (by decide) e1_2 ⟨Int.le_refl _, (mkO_some e1_2).1.2⟩ ?_)
 intro b1_2
 refine sp (OpV.assign rfl) ?_
 refine WL.nil (En.next (WC.seq (WC.seq (WC.region ?_))))
 refine sp (OpV.assign rfl) ?_
 refine WL.nil (En.next (WC.block ?_))
 obtain ⟨zy0, ezy0, h⟩ := bnd h
 refine WC.cut (X := ((List PlaneT)) × ((List Nat))) (.exit 0) (fun x => zy0 = x.1) (fun x => match x with | (out_0e, fout_0e) => [(3, .slice (some ⟨b1_2, 0, .none⟩) x1_2.length ((a_p0.length : Int).toNat))]) (fun x => match x with | (out_0e, fout_0e) => [Chunk.own tPlane fout_0e (some ⟨b1_2, 0, .none⟩) x1_2.length ((a_p0.length : Int).toNat) out_0e]) ?_ ?_
 ·
  rintro ⟨out_0e, fout_0e⟩ hx
  replace hx : out_0e = zy0 := hx.symm
  subst hx
  show En _ _ _ _ [(3, .slice (some ⟨b1_2, 0, .none⟩) x1_2.length ((a_p0.length : Int).toNat))] [Chunk.own tPlane fout_0e (some ⟨b1_2, 0, .none⟩) x1_2.length ((a_p0.length : Int).toNat) out_0e]
  refine En.block_exit (En.next (WC.seq (WC.region ?_)))
  refine sp (OpV.move rfl) ?_
  refine sp (OpV.assign rfl) ?_
  refine WL.nil (En.next (WC.ret ?_))
  refine En.ret1 rfl (Res.tmp rfl) ?_
  obtain rfl := Option.some.inj h
  intro w' hs
  have hs := hs
  exact ⟨_, _, rfl, ⟨(some ⟨b1_2, 0, .none⟩), x1_2.length, ((a_p0.length : Int).toNat), fout_0e, rfl, rfl⟩, hs⟩
 ·
  intro zK0_0
  refine WC.loopP (G := (List Nat)) (fun s g => match s, g with | (out_0, i_0), fout_0 => [(0, .slice q0_0 a_p0.length k0_0), (3, .slice (some ⟨b1_2, 0, .none⟩) x1_2.length ((a_p0.length : Int).toNat)), (4, .int .i64 i_0)]) (fun s g => match s, g with | (out_0, i_0), fout_0 => [Chunk.own tPlane fout_0 (some ⟨b1_2, 0, .none⟩) x1_2.length ((a_p0.length : Int).toNat) out_0]) (x1_2, 0) [b1_2] ezy0 (by exact Sub.cons rfl (Sub.cons rfl (Sub.cons rfl (Sub.nil _)))) (by exact (fun _ h => h)) ?_
  rintro zm0 ⟨out_0, i_0⟩ fout_0 zo0 zf0 zb0 ze0
  have zh0 : laws_toPlaneS_L0 a_p0 out_0 i_0 = some zo0 := zf0
  unfold laws_toPlaneS_L0 at zh0
  show WC _ _ _ _ _ [(0, .slice q0_0 a_p0.length k0_0), (3, .slice (some ⟨b1_2, 0, .none⟩) x1_2.length ((a_p0.length : Int).toNat)), (4, .int .i64 i_0)] [Chunk.own tPlane fout_0 (some ⟨b1_2, 0, .none⟩) x1_2.length ((a_p0.length : Int).toNat) out_0]
  refine WC.seq (WC.seq (WC.region ?_))
  refine sp (OpV.move rfl) ?_
  refine sp (OpV.move rfl) ?_
  refine sp (OpV.len rfl si_22 rfl) ?_
  refine sp (OpV.lss rfl rfl) ?_
  refine WL.nil (En.next ?_)
  refine WC.cond rfl ?_ ?_
  ·
   intro hc_1
   replace zh0 := ifO_t hc_1 zh0
   refine WC.skip (En.next (WC.seq (WC.block ?_)))
   refine WC.inh fun hin5 => ?_
   obtain ⟨x5_4, e5_4, zh0⟩ := bnd zh0
   obtain ⟨g5_4, o5_4, _, ha5_4, ⟨a5_4_1, c5_4_1, rfl, r5_4_1⟩, hd5_4⟩ := Rd.atIdx r0_0 e5_4
   replace hd5_4 : ∀ (j : Nat) v, ([.bool x5_4.On, .int .i64 x5_4.X, .int .i64 x5_4.Y, .int .i64 x5_4.W, .int .i64 x5_4.H, .int .i64 x5_4.Layout, .slice a5_4_1 x5_4.Words.length c5_4_1, .int .i64 x5_4.Alpha, .int .i64 x5_4.Orient, .int .i64 x5_4.ToW, .int .i64 x5_4.ToH] : List Value)[j]? = some v → w.cell? ⟨g5_4, o5_4 + i_0.toNat * 11 + j, .none⟩ = some v := hd5_4
   obtain ⟨x5_6, e5_6, zh0⟩ := bnd zh0
   have hn5_7 := ownLen hin5 (.head _)
   obtain ⟨x5_8, e5_8, zh0⟩ := bnd zh0
   obtain ⟨g5_7, ha5_7⟩ := ownAddrU hin5 (.head _) e5_8
   refine WC.region ?_
   refine sp (OpV.move rfl) ?_
   refine sp (OpV.move rfl) ?_
   refine sp (OpV.move rfl) ?_
   refine sp (OpV.move rfl) ?_
   refine sp (OpV.idxA rfl rfl se_22 ha5_4 ⟨(idx_some e5_4).1, (idx_some e5_4).2.1⟩) ?_
   refine sp (OpV.loadN rfl ag_86 rfl (fun w hs => hs.cellsAt hd5_4)) ?_
   refine WL.heavy rfl rfl rfl (OpH.callR (evs.cons rfl (evs.nil)) ca_55 (fun w hs => w_laws_toPlane e5_6 (r5_4_1.ext hs.below)) ?_)
   rintro _ _ ⟨a5_600, n5_600, c5_600, f5_600, rfl, rfl⟩
   refine sp (OpV.idxA rfl rfl se_29 ha5_7 ⟨(upd_some e5_8).1.1, by rw [hn5_7]; exact (upd_some e5_8).1.2⟩) ?_
   refine WL.wkF (fun _ h => tPlane_mk x5_6.On x5_6.X x5_6.Y x5_6.W x5_6.H x5_6.Layout x5_6.Words x5_6.Alpha x5_6.Orient x5_6.ToW x5_6.ToH h) ?_
   refine WL.heavy0 rfl rfl (OpH.setEl (A := tPlane) ha5_7 rfl rfl rfl ts_82 e5_8 ?_)
   intro f5_8
   refine WL.nil (En.block_norm (En.next (WC.region ?_)))
   refine sp (OpV.move rfl) ?_
   refine sp (OpV.addR rfl rfl) ?_
   refine sp (OpV.assign rfl) ?_
   refine WL.nil ?_
   exact En.backP zb0 zh0 f5_8 (Sub.cons rfl (Sub.cons rfl (Sub.cons rfl (Sub.nil _)))) (fun _ h => h)
  ·
   intro hc_1
   replace zh0 := ifO_f hc_1 zh0
   refine WC.exit (En.then_exit (En.then_exit ?_))
   have hx := exitP ze0 zh0
   exact En.wk _ _ (Sub.cons rfl (Sub.nil _)) (fun _ h => h) (zK0_0 (out_0, fout_0) hx.symm)

theorem w_laws_toColorMap {a_p0 : ColorMapT} {r : ColorMapT} {q0_0 : Option Addr} {n0_0 k0_0 : Nat} {q0_1 : Option Addr} {n0_1 k0_1 : Nat} (h : laws_toColorMap a_p0 = some r) {w : World} (r0_0 : Rd tInt w q0_0 n0_0 k0_0 a_p0.Matrix) (r0_1 : Rd tInt w q0_1 n0_1 k0_1 a_p0.Curve)   :
    Calls Tryz.prog 13 #[.agg #[.slice q0_0 n0_0 k0_0, .slice q0_1 n0_1 k0_1]] w (fun en w' => ∃ rv G, en = .returned rv ∧ (∃ (a0_0 : Option Addr) (n0_0 : Nat) (c0_0 : Nat) (f0_0 : List Nat) (a0_1 : Option Addr) (n0_1 : Nat) (c0_1 : Nat) (f0_1 : List Nat), rv = .agg #[.slice a0_0 n0_0 c0_0, .slice a0_1 n0_1 c0_1] ∧ G = [Chunk.own tInt f0_0 a0_0 n0_0 c0_0 r.Matrix, Chunk.own tInt f0_1 a0_1 n0_1 c0_1 r.Curve]) ∧ St w G w') := by
 obtain rfl := r0_0.1
 obtain rfl := r0_1.1
 unfold laws_toColorMap at h
 refine enter (vs := [_]) Tryz.func13 rfl rfl rfl rfl ?_
 refine WC.seq (WC.region ?_)
 refine WL.heavy rfl rfl rfl (OpH.box rfl rfl ?_)
 intro b0_0
 refine WL.heavy rfl rfl rfl (OpH.alloc zc_31 ?_)
 intro b0_1
 refine WL.nil (En.next (WC.seq (WC.region ?_)))
 refine WL.heavy rfl rfl rfl (OpH.alloc zc_31 ?_)
 intro b1_0
 refine WL.nil (En.next (WC.seq ?_))
 obtain ⟨x2_2, e2_2, h⟩ := bnd h
 refine WC.region ?_
 refine sp (OpV.fieldAddr rfl fo_25_0) ?_
 refine sp (OpV.loadBox rfl pt_23 (.tail _ (.tail _ (.head _))) rfl) ?_
 refine WL.heavy rfl rfl rfl (OpH.callR (evs.cons rfl (evs.nil)) ca_56 (fun w hs => w_laws_toIntS e2_2 (r0_0.ext hs.below)) ?_)
 rintro _ _ ⟨a2_200, n2_200, c2_200, f2_200, rfl, rfl⟩
 refine sp (OpV.fieldAddr rfl fo_31_0) ?_
 refine WL.heavy0 rfl rfl (OpH.storeTo (A := [_]) [_, _] rfl rfl rfl ts_23 rfl rfl rfl ?_)
 refine WL.nil (En.next (WC.seq ?_))
 obtain ⟨x3_2, e3_2, h⟩ := bnd h
 refine WC.region ?_
 refine sp (OpV.fieldAddr rfl fo_25_1) ?_
 refine sp (OpV.loadBox rfl pt_23 (.tail _ (.tail _ (.tail _ (.head _)))) rfl) ?_
 refine WL.heavy rfl rfl rfl (OpH.callR (evs.cons rfl (evs.nil)) ca_56 (fun w hs => w_laws_toIntS e3_2 (r0_1.ext hs.below)) ?_)
 rintro _ _ ⟨a3_200, n3_200, c3_200, f3_200, rfl, rfl⟩
 refine sp (OpV.fieldAddr rfl fo_31_1) ?_
 refine WL.heavy0 rfl rfl (OpH.storeTo (A := [_, _]) [_, _] rfl rfl rfl ts_23 rfl rfl rfl ?_)
 refine WL.nil (En.next (WC.seq (WC.region ?_)))
 refine sp (OpV.loadAll rfl (.tail _ (.tail _ (.head _))) ag_31) ?_
 refine WL.heavy0 rfl rfl (OpH.storeTo (A := [_, _, _]) [_, _] rfl rfl rfl ts_31 rfl rfl rfl ?_)
 refine WL.nil (En.next (WC.ret ?_))
 refine En.ret1 rfl (Res.cell rfl (.tail _ (.tail _ (.tail _ (.head _)))) ag_31) ?_
 obtain rfl := Option.some.inj h
 intro w' hs
 have hs := ((hs).perm (List.perm_middle (l₁ := [_]))).sub (.cons_cons _ (.cons_cons _ (.cons _ (.cons _ (.cons _ (.slnil))))))
 exact ⟨_, _, rfl, ⟨a2_200, n2_200, c2_200, f2_200, a3_200, n3_200, c3_200, f3_200, rfl, rfl⟩, hs⟩

theorem w_laws_toCrtc {a_p0 : CrtcT} {r : CrtcT} {q0_0 : Option Addr} {n0_0 k0_0 : Nat} {q0_1 : Option Addr} {n0_1 k0_1 : Nat} {q0_2 : Option Addr} {n0_2 k0_2 : Nat} (h : laws_toCrtc a_p0 = some r) {w : World} (r0_0 : Rd tPlane w q0_0 n0_0 k0_0 a_p0.Planes) (r0_1 : Rd tInt w q0_1 n0_1 k0_1 a_p0.Color.Matrix) (r0_2 : Rd tInt w q0_2 n0_2 k0_2 a_p0.Color.Curve)   :
    Calls Tryz.prog 25 #[.agg #[.int .i64 a_p0.W, .int .i64 a_p0.H, .slice q0_0 n0_0 k0_0, .slice q0_1 n0_1 k0_1, .slice q0_2 n0_2 k0_2]] w (fun en w' => ∃ rv G, en = .returned rv ∧ (∃ (a0_0 : Option Addr) (n0_0 : Nat) (c0_0 : Nat) (f0_0 : List Nat) (a0_1 : Option Addr) (n0_1 : Nat) (c0_1 : Nat) (f0_1 : List Nat) (a0_2 : Option Addr) (n0_2 : Nat) (c0_2 : Nat) (f0_2 : List Nat), rv = .agg #[.int .i64 r.W, .int .i64 r.H, .slice a0_0 n0_0 c0_0, .slice a0_1 n0_1 c0_1, .slice a0_2 n0_2 c0_2] ∧ G = [Chunk.own tPlane f0_0 a0_0 n0_0 c0_0 r.Planes, Chunk.own tInt f0_1 a0_1 n0_1 c0_1 r.Color.Matrix, Chunk.own tInt f0_2 a0_2 n0_2 c0_2 r.Color.Curve]) ∧ St w G w') := by
 obtain rfl := r0_0.1
 obtain rfl := r0_1.1
 obtain rfl := r0_2.1
 unfold laws_toCrtc at h
 refine enter (vs := [_]) Tryz.func25 rfl rfl rfl rfl ?_
 refine WC.seq (WC.region ?_)
 refine WL.heavy rfl rfl rfl (OpH.box rfl rfl ?_)
 intro b0_0
 refine WL.heavy rfl rfl rfl (OpH.alloc zc_46 ?_)
 intro b0_1
 refine WL.nil (En.next (WC.seq (WC.region ?_)))
 refine WL.heavy rfl rfl rfl (OpH.alloc zc_46 ?_)
 intro b1_0
 refine WL.nil (En.next (WC.seq (WC.region ?_)))
 refine sp (OpV.fieldAddr rfl fo_41_0) ?_
 refine sp (OpV.loadBox rfl pt_3 (.tail _ (.tail _ (.head _))) rfl) ?_
 refine sp (OpV.fieldAddr rfl fo_46_0) ?_
 refine WL.heavy0 rfl rfl (OpH.storeTo (A := []) [_, _, _, _, _] rfl rfl rfl ts_3 rfl rfl rfl ?_)
 refine WL.nil (En.next (WC.seq (WC.region ?_)))
 refine sp (OpV.fieldAddr rfl fo_41_1) ?_
 refine sp (OpV.loadBox rfl pt_3 (.tail _ (.tail _ (.head _))) rfl) ?_
 refine sp (OpV.fieldAddr rfl fo_46_1) ?_
 refine WL.heavy0 rfl rfl (OpH.storeTo (A := []) [_, _, _, _, _] rfl rfl rfl ts_3 rfl rfl rfl ?_)
 refine WL.nil (En.next (WC.seq ?_))
 obtain ⟨x4_2, e4_2, h⟩ := bnd h
 refine WC.region ?_
 refine sp (OpV.fieldAddr rfl fo_41_2) ?_
 refine sp (OpV.loadBox rfl pt_22 (.tail _ (.tail _ (.head _))) rfl) ?_
 refine WL.heavy rfl rfl rfl (OpH.callR (evs.cons rfl (evs.nil)) ca_12 (fun w hs => w_laws_toPlaneS e4_2 (r0_0.ext hs.below)) ?_)
 rintro _ _ ⟨a4_200, n4_200, c4_200, f4_200, rfl, rfl⟩
 refine sp (OpV.fieldAddr rfl fo_46_2) ?_
 refine WL.heavy0 rfl rfl (OpH.storeTo (A := [_]) [_, _, _, _, _] rfl rfl rfl ts_29 rfl rfl rfl ?_)
 refine WL.nil (En.next (WC.seq ?_))
 obtain ⟨x5_2, e5_2, h⟩ := bnd h
 refine WC.region ?_
 refine sp (OpV.fieldAddr rfl fo_41_3) ?_
 refine sp (OpV.loadPart rfl (.tail _ (.tail _ (.tail _ (.head _)))) ag_25 rfl rfl) ?_
 refine WL.heavy rfl rfl rfl (OpH.callR (evs.cons rfl (evs.nil)) ca_13 (fun w hs => w_laws_toColorMap e5_2 (r0_1.ext hs.below) (r0_2.ext hs.below)) ?_)
 rintro _ _ ⟨a5_200, n5_200, c5_200, f5_200, a5_201, n5_201, c5_201, f5_201, rfl, rfl⟩
 refine sp (OpV.fieldAddr rfl fo_46_3) ?_
 refine WL.heavy0 rfl rfl (OpH.storeTo (A := [_, _, _]) [_, _, _, _, _] rfl rfl rfl ts_31 rfl rfl rfl ?_)
 refine WL.nil (En.next (WC.seq (WC.region ?_)))
 refine sp (OpV.loadAll rfl (.tail _ (.tail _ (.tail _ (.head _)))) ag_46) ?_
 refine WL.heavy0 rfl rfl (OpH.storeTo (A := [_, _, _, _]) [_, _, _, _, _] rfl rfl rfl ts_46 rfl rfl rfl ?_)
 refine WL.nil (En.next (WC.ret ?_))
 refine En.ret1 rfl (Res.cell rfl (.tail _ (.tail _ (.tail _ (.tail _ (.head _))))) ag_46) ?_
 obtain rfl := Option.some.inj h
 intro w' hs
 have hs := ((((hs).perm (List.perm_middle (l₁ := [_]))).perm (List.perm_middle (l₁ := [_]))).perm (List.perm_middle (l₁ := [_, _]))).sub (.cons_cons _ (.cons_cons _ (.cons_cons _ (.cons _ (.cons _ (.cons _ (.slnil)))))))
 exact ⟨_, _, rfl, ⟨a4_200, n4_200, c4_200, f4_200, a5_200, n5_200, c5_200, f5_200, a5_201, n5_201, c5_201, f5_201, rfl, rfl⟩, hs⟩

theorem w_laws_toChange {a_p0 : ChangeT} {r : ChangeT} {q0_0 : Option Addr} {n0_0 k0_0 : Nat} {q0_1 : Option Addr} {n0_1 k0_1 : Nat} {q0_2 : Option Addr} {n0_2 k0_2 : Nat} (h : laws_toChange a_p0 = some r) {w : World} (r0_0 : Rd tInt w q0_0 n0_0 k0_0 a_p0.Value.Words) (r0_1 : Rd tInt w q0_1 n0_1 k0_1 a_p0.Color.Matrix) (r0_2 : Rd tInt w q0_2 n0_2 k0_2 a_p0.Color.Curve)   :
    Calls Tryz.prog 69 #[.agg #[.int .i64 a_p0.Plane, .bool a_p0.Value.On, .int .i64 a_p0.Value.X, .int .i64 a_p0.Value.Y, .int .i64 a_p0.Value.W, .int .i64 a_p0.Value.H, .int .i64 a_p0.Value.Layout, .slice q0_0 n0_0 k0_0, .int .i64 a_p0.Value.Alpha, .int .i64 a_p0.Value.Orient, .int .i64 a_p0.Value.ToW, .int .i64 a_p0.Value.ToH, .slice q0_1 n0_1 k0_1, .slice q0_2 n0_2 k0_2]] w (fun en w' => ∃ rv G, en = .returned rv ∧ (∃ (a0_0 : Option Addr) (n0_0 : Nat) (c0_0 : Nat) (f0_0 : List Nat) (a0_1 : Option Addr) (n0_1 : Nat) (c0_1 : Nat) (f0_1 : List Nat) (a0_2 : Option Addr) (n0_2 : Nat) (c0_2 : Nat) (f0_2 : List Nat), rv = .agg #[.int .i64 r.Plane, .bool r.Value.On, .int .i64 r.Value.X, .int .i64 r.Value.Y, .int .i64 r.Value.W, .int .i64 r.Value.H, .int .i64 r.Value.Layout, .slice a0_0 n0_0 c0_0, .int .i64 r.Value.Alpha, .int .i64 r.Value.Orient, .int .i64 r.Value.ToW, .int .i64 r.Value.ToH, .slice a0_1 n0_1 c0_1, .slice a0_2 n0_2 c0_2] ∧ G = [Chunk.own tInt f0_0 a0_0 n0_0 c0_0 r.Value.Words, Chunk.own tInt f0_1 a0_1 n0_1 c0_1 r.Color.Matrix, Chunk.own tInt f0_2 a0_2 n0_2 c0_2 r.Color.Curve]) ∧ St w G w') := by
 obtain rfl := r0_0.1
 obtain rfl := r0_1.1
 obtain rfl := r0_2.1
 unfold laws_toChange at h
 refine enter (vs := [_]) Tryz.func69 rfl rfl rfl rfl ?_
 refine WC.seq (WC.region ?_)
 refine WL.heavy rfl rfl rfl (OpH.box rfl rfl ?_)
 intro b0_0
 refine WL.heavy rfl rfl rfl (OpH.alloc zc_84 ?_)
 intro b0_1
 refine WL.nil (En.next (WC.seq (WC.region ?_)))
 refine WL.heavy rfl rfl rfl (OpH.alloc zc_84 ?_)
 intro b1_0
 refine WL.nil (En.next (WC.seq (WC.region ?_)))
 refine sp (OpV.fieldAddr rfl fo_101_0) ?_
 refine sp (OpV.loadBox rfl pt_3 (.tail _ (.tail _ (.head _))) rfl) ?_
 refine sp (OpV.fieldAddr rfl fo_84_0) ?_
 refine WL.heavy0 rfl rfl (OpH.storeTo (A := []) [_, _, _, _, _, _, _, _, _, _, _, _, _, _] rfl rfl rfl ts_3 rfl rfl rfl ?_)
 refine WL.nil (En.next (WC.seq ?_))
 obtain ⟨x3_2, e3_2, h⟩ := bnd h
 refine WC.region ?_
 refine sp (OpV.fieldAddr rfl fo_101_1) ?_
 refine sp (OpV.loadPart rfl (.tail _ (.tail _ (.head _))) ag_86 rfl rfl) ?_
 refine WL.heavy rfl rfl rfl (OpH.callR (evs.cons rfl (evs.nil)) ca_55 (fun w hs => w_laws_toPlane e3_2 (r0_0.ext hs.below)) ?_)
 rintro _ _ ⟨a3_200, n3_200, c3_200, f3_200, rfl, rfl⟩
 refine sp (OpV.fieldAddr rfl fo_84_1) ?_
 refine WL.heavy0 rfl rfl (OpH.storeTo (A := [_]) [_, _, _, _, _, _, _, _, _, _, _, _, _, _] rfl rfl rfl ts_82 rfl rfl rfl ?_)
 refine WL.nil (En.next (WC.seq ?_))
 obtain ⟨x4_2, e4_2, h⟩ := bnd h
 refine WC.region ?_
 refine sp (OpV.fieldAddr rfl fo_101_2) ?_
 refine sp (OpV.loadPart rfl (.tail _ (.tail _ (.tail _ (.head _)))) ag_25 rfl rfl) ?_
 refine WL.heavy rfl rfl rfl (OpH.callR (evs.cons rfl (evs.nil)) ca_13 (fun w hs => w_laws_toColorMap e4_2 (r0_1.ext hs.below) (r0_2.ext hs.below)) ?_)
 rintro _ _ ⟨a4_200, n4_200, c4_200, f4_200, a4_201, n4_201, c4_201, f4_201, rfl, rfl⟩
 refine sp (OpV.fieldAddr rfl fo_84_2) ?_
 refine WL.heavy0 rfl rfl (OpH.storeTo (A := [_, _, _]) [_, _, _, _, _, _, _, _, _, _, _, _, _, _] rfl rfl rfl ts_31 rfl rfl rfl ?_)
 refine WL.nil (En.next (WC.seq (WC.region ?_)))
 refine sp (OpV.loadAll rfl (.tail _ (.tail _ (.tail _ (.head _)))) ag_84) ?_
 refine WL.heavy0 rfl rfl (OpH.storeTo (A := [_, _, _, _]) [_, _, _, _, _, _, _, _, _, _, _, _, _, _] rfl rfl rfl ts_84 rfl rfl rfl ?_)
 refine WL.nil (En.next (WC.ret ?_))
 refine En.ret1 rfl (Res.cell rfl (.tail _ (.tail _ (.tail _ (.tail _ (.head _))))) ag_84) ?_
 obtain rfl := Option.some.inj h
 intro w' hs
 have hs := ((((hs).perm (List.perm_middle (l₁ := [_]))).perm (List.perm_middle (l₁ := [_]))).perm (List.perm_middle (l₁ := [_, _]))).sub (.cons_cons _ (.cons_cons _ (.cons_cons _ (.cons _ (.cons _ (.cons _ (.slnil)))))))
 exact ⟨_, _, rfl, ⟨a3_200, n3_200, c3_200, f3_200, a4_200, n4_200, c4_200, f4_200, a4_201, n4_201, c4_201, f4_201, rfl, rfl⟩, hs⟩

theorem w_laws_toChangeS {a_p0 : List ChangeT} {r : (List ChangeT)} {q0_0 : Option Addr} {n0_0 k0_0 : Nat} (h : laws_toChangeS a_p0 = some r) {w : World} (r0_0 : Rd tChange w q0_0 n0_0 k0_0 a_p0)   :
    Calls Tryz.prog 26 #[.slice q0_0 n0_0 k0_0] w (fun en w' => ∃ rv G, en = .returned rv ∧ (∃ (a0_0 : Option Addr) (n0_0 : Nat) (c0_0 : Nat) (f0_0 : List Nat), rv = .slice a0_0 n0_0 c0_0 ∧ G = [Chunk.own tChange f0_0 a0_0 n0_0 c0_0 r]) ∧ St w G w') := by
 obtain rfl := r0_0.1
 unfold laws_toChangeS at h
 refine enter (vs := [_]) Tryz.func26 rfl rfl rfl rfl ?_
 refine WC.seq (WC.region ?_)
 refine sp (OpV.assign rfl) ?_
 refine WL.nil (En.next (WC.seq ?_))
 obtain ⟨x1_2, e1_2, h⟩ := bnd h
 refine WC.region ?_
 refine sp (OpV.move rfl) ?_
 refine sp (OpV.len rfl si_42 rfl) ?_
 refine WL.heavy rfl rfl rfl (OpH.makeO (A := tChange) rfl rfl mi_50 tChange_zero (by decide) e1_2 ⟨Int.le_refl _, (mkO_some e1_2).1.2⟩ ?_)
 intro b1_2
 refine sp (OpV.assign rfl) ?_
 refine WL.nil (En.next (WC.seq (WC.seq (WC.region ?_))))
 refine sp (OpV.assign rfl) ?_
 refine WL.nil (En.next (WC.block ?_))
 obtain ⟨zy0, ezy0, h⟩ := bnd h
 refine WC.cut (X := ((List ChangeT)) × ((List Nat))) (.exit 0) (fun x => zy0 = x.1) (fun x => match x with | (out_0e, fout_0e) => [(3, .slice (some ⟨b1_2, 0, .none⟩) x1_2.length ((a_p0.length : Int).toNat))]) (fun x => match x with | (out_0e, fout_0e) => [Chunk.own tChange fout_0e (some ⟨b1_2, 0, .none⟩) x1_2.length ((a_p0.length : Int).toNat) out_0e]) ?_ ?_
 ·
  rintro ⟨out_0e, fout_0e⟩ hx
  replace hx : out_0e = zy0 := hx.symm
  subst hx
  show En _ _ _ _ [(3, .slice (some ⟨b1_2, 0, .none⟩) x1_2.length ((a_p0.length : Int).toNat))] [Chunk.own tChange fout_0e (some ⟨b1_2, 0, .none⟩) x1_2.length ((a_p0.length : Int).toNat) out_0e]
  refine En.block_exit (En.next (WC.seq (WC.region ?_)))
  refine sp (OpV.move rfl) ?_
  refine sp (OpV.assign rfl) ?_
  refine WL.nil (En.next (WC.ret ?_))
  refine En.ret1 rfl (Res.tmp rfl) ?_
  obtain rfl := Option.some.inj h
  intro w' hs
  have hs := hs
  exact ⟨_, _, rfl, ⟨(some ⟨b1_2, 0, .none⟩), x1_2.length, ((a_p0.length : Int).toNat), fout_0e, rfl, rfl⟩, hs⟩
 ·
  intro zK0_0
  refine WC.loopP (G := (List Nat)) (fun s g => match s, g with | (out_0, i_0), fout_0 => [(0, .slice q0_0 a_p0.length k0_0), (3, .slice (some ⟨b1_2, 0, .none⟩) x1_2.length ((a_p0.length : Int).toNat)), (4, .int .i64 i_0)]) (fun s g => match s, g with | (out_0, i_0), fout_0 => [Chunk.own tChange fout_0 (some ⟨b1_2, 0, .none⟩) x1_2.length ((a_p0.length : Int).toNat) out_0]) (x1_2, 0) [b1_2] ezy0 (by exact Sub.cons rfl (Sub.cons rfl (Sub.cons rfl (Sub.nil _)))) (by exact (fun _ h => h)) ?_
  rintro zm0 ⟨out_0, i_0⟩ fout_0 zo0 zf0 zb0 ze0
  have zh0 : laws_toChangeS_L0 a_p0 out_0 i_0 = some zo0 := zf0
  unfold laws_toChangeS_L0 at zh0
  show WC _ _ _ _ _ [(0, .slice q0_0 a_p0.length k0_0), (3, .slice (some ⟨b1_2, 0, .none⟩) x1_2.length ((a_p0.length : Int).toNat)), (4, .int .i64 i_0)] [Chunk.own tChange fout_0 (some ⟨b1_2, 0, .none⟩) x1_2.length ((a_p0.length : Int).toNat) out_0]
  refine WC.seq (WC.seq (WC.region ?_))
  refine sp (OpV.move rfl) ?_
  refine sp (OpV.move rfl) ?_
  refine sp (OpV.len rfl si_42 rfl) ?_
  refine sp (OpV.lss rfl rfl) ?_
  refine WL.nil (En.next ?_)
  refine WC.cond rfl ?_ ?_
  ·
   intro hc_1
   replace zh0 := ifO_t hc_1 zh0
   refine WC.skip (En.next (WC.seq (WC.block ?_)))
   refine WC.inh fun hin5 => ?_
   obtain ⟨x5_4, e5_4, zh0⟩ := bnd zh0
   obtain ⟨g5_4, o5_4, _, ha5_4, ⟨a5_4_1, c5_4_1, a5_4_2, c5_4_2, a5_4_3, c5_4_3, rfl, r5_4_1, r5_4_2, r5_4_3⟩, hd5_4⟩ := Rd.atIdx r0_0 e5_4
   replace hd5_4 : ∀ (j : Nat) v, ([.int .i64 x5_4.Plane, .bool x5_4.Value.On, .int .i64 x5_4.Value.X, .int .i64 x5_4.Value.Y, .int .i64 x5_4.Value.W, .int .i64 x5_4.Value.H, .int .i64 x5_4.Value.Layout, .slice a5_4_1 x5_4.Value.Words.length c5_4_1, .int .i64 x5_4.Value.Alpha, .int .i64 x5_4.Value.Orient, .int .i64 x5_4.Value.ToW, .int .i64 x5_4.Value.ToH, .slice a5_4_2 x5_4.Color.Matrix.length c5_4_2, .slice a5_4_3 x5_4.Color.Curve.length c5_4_3] : List Value)[j]? = some v → w.cell? ⟨g5_4, o5_4 + i_0.toNat * 14 + j, .none⟩ = some v := hd5_4
   obtain ⟨x5_6, e5_6, zh0⟩ := bnd zh0
   have hn5_7 := ownLen hin5 (.head _)
   obtain ⟨x5_8, e5_8, zh0⟩ := bnd zh0
   obtain ⟨g5_7, ha5_7⟩ := ownAddrU hin5 (.head _) e5_8
   refine WC.region ?_
   refine sp (OpV.move rfl) ?_
   refine sp (OpV.move rfl) ?_
   refine sp (OpV.move rfl) ?_
   refine sp (OpV.move rfl) ?_
   refine sp (OpV.idxA rfl rfl se_42 ha5_4 ⟨(idx_some e5_4).1, (idx_some e5_4).2.1⟩) ?_
   refine sp (OpV.loadN rfl ag_101 rfl (fun w hs => hs.cellsAt hd5_4)) ?_
   refine WL.heavy rfl rfl rfl (OpH.callR (evs.cons rfl (evs.nil)) ca_69 (fun w hs => w_laws_toChange e5_6 (r5_4_1.ext hs.below) (r5_4_2.ext hs.below) (r5_4_3.ext hs.below)) ?_)
   rintro _ _ ⟨a5_600, n5_600, c5_600, f5_600, a5_601, n5_601, c5_601, f5_601, a5_602, n5_602, c5_602, f5_602, rfl, rfl⟩
   refine sp (OpV.idxA rfl rfl se_50 ha5_7 ⟨(upd_some e5_8).1.1, by rw [hn5_7]; exact (upd_some e5_8).1.2⟩) ?_
   refine WL.wkF (fun _ h => tChange_mk x5_6.Plane x5_6.Value x5_6.Color h) ?_
   refine WL.heavy0 rfl rfl (OpH.setEl (A := tChange) ha5_7 rfl rfl rfl ts_84 e5_8 ?_)
   intro f5_8
   refine WL.nil (En.block_norm (En.next (WC.region ?_)))
   refine sp (OpV.move rfl) ?_
   refine sp (OpV.addR rfl rfl) ?_
   refine sp (OpV.assign rfl) ?_
   refine WL.nil ?_
   exact En.backP zb0 zh0 f5_8 (Sub.cons rfl (Sub.cons rfl (Sub.cons rfl (Sub.nil _)))) (fun _ h => h)
  ·
   intro hc_1
   replace zh0 := ifO_f hc_1 zh0
   refine WC.exit (En.then_exit (En.then_exit ?_))
   have hx := exitP ze0 zh0
   exact En.wk _ _ (Sub.cons rfl (Sub.nil _)) (fun _ h => h) (zK0_0 (out_0, fout_0) hx.symm)

theorem w_spec_l19Copy {p_p0 : PlaneT} {r : PlaneT} {q0_0 : Option Addr} {n0_0 k0_0 : Nat} (h : spec_l19Copy p_p0 = some r) {w : World} (r0_0 : Rd tInt w q0_0 n0_0 k0_0 p_p0.Words)   :
    Calls Tryz.prog 68 #[.agg #[.bool p_p0.On, .int .i64 p_p0.X, .int .i64 p_p0.Y, .int .i64 p_p0.W, .int .i64 p_p0.H, .int .i64 p_p0.Layout, .slice q0_0 n0_0 k0_0, .int .i64 p_p0.Alpha, .int .i64 p_p0.Orient, .int .i64 p_p0.ToW, .int .i64 p_p0.ToH]] w (fun en w' => ∃ rv G, en = .returned rv ∧ (∃ (a0_0 : Option Addr) (n0_0 : Nat) (c0_0 : Nat) (f0_0 : List Nat), rv = .agg #[.bool r.On, .int .i64 r.X, .int .i64 r.Y, .int .i64 r.W, .int .i64 r.H, .int .i64 r.Layout, .slice a0_0 n0_0 c0_0, .int .i64 r.Alpha, .int .i64 r.Orient, .int .i64 r.ToW, .int .i64 r.ToH] ∧ G = [Chunk.own tInt f0_0 a0_0 n0_0 c0_0 r.Words]) ∧ St w G w') := by
 obtain rfl := r0_0.1
 unfold spec_l19Copy at h
 refine enter (vs := [_]) Tryz.func68 rfl rfl rfl rfl ?_
 refine WC.seq (WC.region ?_)
 refine WL.heavy rfl rfl rfl (OpH.box rfl rfl ?_)
 intro b0_0
 refine WL.heavy rfl rfl rfl (OpH.alloc zc_82 ?_)
 intro b0_1
 refine WL.nil (En.next (WC.seq ?_))
 obtain ⟨x1_3, e1_3, h⟩ := bnd h
 refine WC.region ?_
 refine WL.heavy rfl rfl rfl (OpH.lit0 (A := tInt) (evps.nil) bs_23_0_ ?_)
 intro b1_0
 refine sp (OpV.fieldAddr rfl fo_82_6) ?_
 refine sp (OpV.loadBox rfl pt_23 (.tail _ (.tail _ (.head _))) rfl) ?_
 refine WL.heavy rfl rfl rfl (OpH.appS (F := []) (A := tInt) tInt_flat rfl rfl rfl mi_23 rfl (by decide) (fun w hs => (r0_0.ext hs.below)) e1_3 ?_)
 intro f1_3 a1_3 c1_3
 refine sp (OpV.fieldAddr rfl fo_82_6) ?_
 refine WL.heavy0 rfl rfl (OpH.storeTo (A := [_, _]) [_, _, _, _, _, _, _, _, _, _, _] rfl rfl rfl ts_23 rfl rfl rfl ?_)
 refine WL.nil (En.next (WC.seq (WC.region ?_)))
 refine sp (OpV.loadAll rfl (.tail _ (.tail _ (.head _))) ag_82) ?_
 refine WL.heavy0 rfl rfl (OpH.storeTo (A := [_]) [_, _, _, _, _, _, _, _, _, _, _] rfl rfl rfl ts_82 rfl rfl rfl ?_)
 refine WL.nil (En.next (WC.ret ?_))
 refine En.ret1 rfl (Res.cell rfl (.tail _ (.head _)) ag_82) ?_
 obtain rfl := Option.some.inj h
 intro w' hs
 have hs := (hs).sub (.cons_cons _ (.cons _ (.cons _ (.slnil))))
 exact ⟨_, _, rfl, ⟨a1_3, x1_3.length, c1_3, f1_3, rfl, rfl⟩, hs⟩

theorem w_spec_l19CopyAll {list_p0 : List PlaneT} {r : (List PlaneT)} {q0_0 : Option Addr} {n0_0 k0_0 : Nat} (h : spec_l19CopyAll list_p0 = some r) {w : World} (r0_0 : Rd tPlane w q0_0 n0_0 k0_0 list_p0)   :
    Calls Tryz.prog 110 #[.slice q0_0 n0_0 k0_0] w (fun en w' => ∃ rv G, en = .returned rv ∧ (∃ (a0_0 : Option Addr) (n0_0 : Nat) (c0_0 : Nat) (f0_0 : List Nat), rv = .slice a0_0 n0_0 c0_0 ∧ G = [Chunk.own tPlane f0_0 a0_0 n0_0 c0_0 r]) ∧ St w G w') := by
 obtain rfl := r0_0.1
 unfold spec_l19CopyAll at h
 refine enter (vs := [_]) Tryz.func110 rfl rfl rfl rfl ?_
 refine WC.seq (WC.region ?_)
 refine sp (OpV.assign rfl) ?_
 refine WL.nil (En.next (WC.seq (WC.region ?_)))
 refine WL.heavy rfl rfl rfl (OpH.lit0 (A := tPlane) (evps.nil) bs_29_0_ ?_)
 intro b1_0
 refine sp (OpV.assign rfl) ?_
 refine WL.nil (En.next (WC.seq (WC.seq (WC.region ?_))))
 refine sp (OpV.assign rfl) ?_
 refine WL.nil (En.next (WC.block ?_))
 obtain ⟨zy0, ezy0, h⟩ := bnd h
 refine WC.cut (X := ((List PlaneT)) × ((Option Addr) × Nat × Nat × (List Nat))) (.exit 0) (fun x => zy0 = x.1) (fun x => match x with | (out_0e, (aout_0e, nout_0e, cout_0e, fout_0e)) => [(3, .slice aout_0e nout_0e cout_0e)]) (fun x => match x with | (out_0e, (aout_0e, nout_0e, cout_0e, fout_0e)) => [Chunk.own tPlane fout_0e aout_0e nout_0e cout_0e out_0e]) ?_ ?_
 ·
  rintro ⟨out_0e, ⟨aout_0e, nout_0e, cout_0e, fout_0e⟩⟩ hx
  replace hx : out_0e = zy0 := hx.symm
  subst hx
  show En _ _ _ _ [(3, .slice aout_0e nout_0e cout_0e)] [Chunk.own tPlane fout_0e aout_0e nout_0e cout_0e out_0e]
  refine En.block_exit (En.next (WC.seq (WC.region ?_)))
  refine sp (OpV.move rfl) ?_
  refine sp (OpV.assign rfl) ?_
  refine WL.nil (En.next (WC.ret ?_))
  refine En.ret1 rfl (Res.tmp rfl) ?_
  obtain rfl := Option.some.inj h
  intro w' hs
  have hs := hs
  exact ⟨_, _, rfl, ⟨aout_0e, nout_0e, cout_0e, fout_0e, rfl, rfl⟩, hs⟩
 ·
  intro zK0_0
  refine WC.loopP (G := (Option Addr) × Nat × Nat × (List Nat)) (fun s g => match s, g with | (out_0, k_0), (aout_0, nout_0, cout_0, fout_0) => [(0, .slice q0_0 list_p0.length k0_0), (3, .slice aout_0 nout_0 cout_0), (4, .int .i64 k_0)]) (fun s g => match s, g with | (out_0, k_0), (aout_0, nout_0, cout_0, fout_0) => [Chunk.own tPlane fout_0 aout_0 nout_0 cout_0 out_0]) (([] : List PlaneT), 0) ((some ⟨b1_0, 0, .none⟩), 0, 0, [b1_0]) ezy0 (by exact Sub.cons rfl (Sub.cons rfl (Sub.cons rfl (Sub.nil _)))) (by exact (fun _ h => h)) ?_
  rintro zm0 ⟨out_0, k_0⟩ ⟨aout_0, nout_0, cout_0, fout_0⟩ zo0 zf0 zb0 ze0
  have zh0 : spec_l19CopyAll_L0 list_p0 out_0 k_0 = some zo0 := zf0
  unfold spec_l19CopyAll_L0 at zh0
  show WC _ _ _ _ _ [(0, .slice q0_0 list_p0.length k0_0), (3, .slice aout_0 nout_0 cout_0), (4, .int .i64 k_0)] [Chunk.own tPlane fout_0 aout_0 nout_0 cout_0 out_0]
  refine WC.seq (WC.seq (WC.region ?_))
  refine sp (OpV.move rfl) ?_
  refine sp (OpV.move rfl) ?_
  refine sp (OpV.len rfl si_29 rfl) ?_
  refine sp (OpV.lss rfl rfl) ?_
  refine WL.nil (En.next ?_)
  refine WC.cond rfl ?_ ?_
  ·
   intro hc_1
   replace zh0 := ifO_t hc_1 zh0
   refine WC.skip (En.next (WC.seq (WC.block ?_)))
   obtain ⟨x5_3, e5_3, zh0⟩ := bnd zh0
   obtain ⟨g5_3, o5_3, _, ha5_3, ⟨a5_3_1, c5_3_1, rfl, r5_3_1⟩, hd5_3⟩ := Rd.atIdx r0_0 e5_3
   replace hd5_3 : ∀ (j : Nat) v, ([.bool x5_3.On, .int .i64 x5_3.X, .int .i64 x5_3.Y, .int .i64 x5_3.W, .int .i64 x5_3.H, .int .i64 x5_3.Layout, .slice a5_3_1 x5_3.Words.length c5_3_1, .int .i64 x5_3.Alpha, .int .i64 x5_3.Orient, .int .i64 x5_3.ToW, .int .i64 x5_3.ToH] : List Value)[j]? = some v → w.cell? ⟨g5_3, o5_3 + k_0.toNat * 11 + j, .none⟩ = some v := hd5_3
   obtain ⟨x5_5, e5_5, zh0⟩ := bnd zh0
   obtain ⟨x5_7, e5_7, zh0⟩ := bnd zh0
   refine WC.region ?_
   refine sp (OpV.move rfl) ?_
   refine sp (OpV.move rfl) ?_
   refine sp (OpV.move rfl) ?_
   refine sp (OpV.idxA rfl rfl se_29 ha5_3 ⟨(idx_some e5_3).1, (idx_some e5_3).2.1⟩) ?_
   refine sp (OpV.loadN rfl ag_82 rfl (fun w hs => hs.cellsAt hd5_3)) ?_
   refine WL.heavy rfl rfl rfl (OpH.callR (evs.cons rfl (evs.nil)) ca_68 (fun w hs => w_spec_l19Copy e5_5 (r5_3_1.ext hs.below)) ?_)
   rintro _ _ ⟨a5_500, n5_500, c5_500, f5_500, rfl, rfl⟩
   refine WL.heavy rfl rfl rfl (OpH.buildSlice (evps.cons rfl (evps.nil)) (bs_29_1_0 _ _ _ _ _ _ _ _ _ _ _ _ _) ?_)
   intro b5_6
   refine WL.wkF (fun _ h => h.perm (List.perm_middle (l₁ := [_]))) ?_
   refine WL.wkF (fun _ h => tPlane_mk x5_5.On x5_5.X x5_5.Y x5_5.W x5_5.H x5_5.Layout x5_5.Words x5_5.Alpha x5_5.Orient x5_5.ToW x5_5.ToH h) ?_
   refine WL.wkF (fun _ h => h.perm (List.perm_middle (l₁ := [_, _]))) ?_
   refine WL.wkF (fun _ h => h.perm (List.perm_middle (l₁ := [_]))) ?_
   refine WL.heavy rfl rfl rfl (OpH.push (A := tPlane) rfl rfl rfl mi_29 rfl (by decide) (.head _) e5_7 ?_)
   intro f5_7 a5_7 c5_7
   refine sp (OpV.assign rfl) ?_
   refine WL.nil (En.block_norm (En.next (WC.region ?_)))
   refine sp (OpV.move rfl) ?_
   refine sp (OpV.addR rfl rfl) ?_
   refine sp (OpV.assign rfl) ?_
   refine WL.nil ?_
   exact En.backP zb0 zh0 (a5_7, x5_7.length, c5_7, f5_7) (Sub.cons rfl (Sub.cons rfl (Sub.cons rfl (Sub.nil _)))) (fun _ h => (h).sub (.cons_cons _ (.cons _ (.slnil))))
  ·
   intro hc_1
   replace zh0 := ifO_f hc_1 zh0
   refine WC.exit (En.then_exit (En.then_exit ?_))
   have hx := exitP ze0 zh0
   exact En.wk _ _ (Sub.cons rfl (Sub.nil _)) (fun _ h => h) (zK0_0 (out_0, (aout_0, nout_0, cout_0, fout_0)) hx.symm)

theorem w_spec_l22CopyColor {m_p0 : ColorMapT} {r : ColorMapT} {q0_0 : Option Addr} {n0_0 k0_0 : Nat} {q0_1 : Option Addr} {n0_1 k0_1 : Nat} (h : spec_l22CopyColor m_p0 = some r) {w : World} (r0_0 : Rd tInt w q0_0 n0_0 k0_0 m_p0.Matrix) (r0_1 : Rd tInt w q0_1 n0_1 k0_1 m_p0.Curve)   :
    Calls Tryz.prog 67 #[.agg #[.slice q0_0 n0_0 k0_0, .slice q0_1 n0_1 k0_1]] w (fun en w' => ∃ rv G, en = .returned rv ∧ (∃ (a0_0 : Option Addr) (n0_0 : Nat) (c0_0 : Nat) (f0_0 : List Nat) (a0_1 : Option Addr) (n0_1 : Nat) (c0_1 : Nat) (f0_1 : List Nat), rv = .agg #[.slice a0_0 n0_0 c0_0, .slice a0_1 n0_1 c0_1] ∧ G = [Chunk.own tInt f0_0 a0_0 n0_0 c0_0 r.Matrix, Chunk.own tInt f0_1 a0_1 n0_1 c0_1 r.Curve]) ∧ St w G w') := by
 obtain rfl := r0_0.1
 obtain rfl := r0_1.1
 unfold spec_l22CopyColor at h
 refine enter (vs := [_]) Tryz.func67 rfl rfl rfl rfl ?_
 refine WC.seq (WC.region ?_)
 refine WL.heavy rfl rfl rfl (OpH.box rfl rfl ?_)
 intro b0_0
 refine WL.heavy rfl rfl rfl (OpH.alloc zc_31 ?_)
 intro b0_1
 refine WL.nil (En.next (WC.seq ?_))
 obtain ⟨x1_3, e1_3, h⟩ := bnd h
 obtain ⟨x1_7, e1_7, h⟩ := bnd h
 refine WC.cut (X := (List Nat) × (Option Addr) × Nat × (List Nat) × (Option Addr) × Nat) .normal (fun _ => True) (fun x => match x with | (f1_7, a1_7, c1_7, f1_3, a1_3, c1_3) => [(2, .pointer (some ⟨b0_1, 0, .none⟩))]) (fun x => match x with | (f1_7, a1_7, c1_7, f1_3, a1_3, c1_3) => [Chunk.own tInt f1_7 a1_7 x1_7.length c1_7 x1_7, Chunk.own tInt f1_3 a1_3 x1_3.length c1_3 x1_3, Chunk.box b0_1 31 [.slice a1_3 x1_3.length c1_3, .slice a1_7 x1_7.length c1_7]]) ?_ ?_
 ·
  rintro ⟨f1_7, a1_7, c1_7, f1_3, a1_3, c1_3⟩ _
  show En _ _ _ _ [(2, .pointer (some ⟨b0_1, 0, .none⟩))] [Chunk.own tInt f1_7 a1_7 x1_7.length c1_7 x1_7, Chunk.own tInt f1_3 a1_3 x1_3.length c1_3 x1_3, Chunk.box b0_1 31 [.slice a1_3 x1_3.length c1_3, .slice a1_7 x1_7.length c1_7]]
  refine En.next (WC.ret ?_)
  refine En.ret1 rfl (Res.cell rfl (.tail _ (.tail _ (.head _))) ag_31) ?_
  obtain rfl := Option.some.inj h
  intro w' hs
  have hs := ((hs).perm (List.perm_middle (l₁ := [_]))).sub (.cons_cons _ (.cons_cons _ (.cons _ (.slnil))))
  exact ⟨_, _, rfl, ⟨a1_3, x1_3.length, c1_3, f1_3, a1_7, x1_7.length, c1_7, f1_7, rfl, rfl⟩, hs⟩
 ·
  intro KR1
  refine WC.drawnH [_] ([_]) (fun _ h => h) (by kernel_rfl) ?_
  refine WAE.take (i := 1) rfl (by kernel_rfl) (by kernel_rfl) (by kernel_rfl) rfl rfl rfl (OpV.fieldAddr rfl fo_31_0) ?_
  refine WAE.take (i := 2) rfl (by kernel_rfl) (by kernel_rfl) (by kernel_rfl) rfl rfl rfl (OpV.loadBox rfl pt_23 (.head _) rfl) ?_
  refine WAE.take (i := 5) rfl (by kernel_rfl) (by kernel_rfl) (by kernel_rfl) rfl rfl rfl (OpV.fieldAddr rfl fo_31_1) ?_
  refine WAE.take (i := 6) rfl (by kernel_rfl) (by kernel_rfl) (by kernel_rfl) rfl rfl rfl (OpV.loadBox rfl pt_23 (.head _) rfl) ?_
  refine WAE.all (rs := [0, 4]) (by kernel_rfl) rfl (AllR.cons rfl rfl rfl rfl ?_ (AllR.cons rfl rfl rfl rfl ?_ AllR.nil))
  ·
   refine OpH.lit0 (A := tInt) (evps.nil) bs_23_0_ ?_
   intro b1_0
   refine ⟨[_, _], rfl, ?_⟩
   refine WAE.all (rs := [3, 4]) (by kernel_rfl) rfl (AllR.cons rfl rfl rfl rfl ?_ (AllR.cons rfl rfl rfl rfl ?_ AllR.nil))
   ·
    refine OpH.appS (F := []) (A := tInt) tInt_flat rfl rfl rfl mi_23 rfl (by decide) (fun w hs => (r0_0.ext hs.below)) e1_3 ?_
    intro f1_3 a1_3 c1_3
    refine ⟨[_, _], rfl, ?_⟩
    refine WAE.all (rs := [4]) (by kernel_rfl) rfl (AllR.cons rfl rfl rfl rfl ?_ AllR.nil)
    refine OpH.lit0 (A := tInt) (evps.nil) bs_23_0_ ?_
    intro b1_4
    refine ⟨[_, _, _], rfl, ?_⟩
    refine WAE.all (rs := [7]) (by kernel_rfl) rfl (AllR.cons rfl rfl rfl rfl ?_ AllR.nil)
    refine OpH.appS (F := []) (A := tInt) tInt_flat rfl rfl rfl mi_23 rfl (by decide) (fun w hs => (r0_1.ext hs.below)) e1_7 ?_
    intro f1_7 a1_7 c1_7
    refine ⟨[_, _, _], rfl, ?_⟩
    refine WAE.take (i := 8) rfl (by kernel_rfl) (by kernel_rfl) (by kernel_rfl) rfl rfl rfl (OpV.build (evps.cons rfl (evps.cons rfl (evps.nil))) (bd_31_0_1 _ _ _ _ _ _)) ?_
    refine WAE.all (rs := [9]) (by kernel_rfl) rfl (AllR.cons0 rfl rfl rfl ?_ AllR.nil)
    refine OpH.storeTo (A := [_, _]) [_, _] rfl rfl rfl ts_31 rfl rfl rfl ?_
    refine ⟨[_, _, _], rfl, ?_⟩
    refine WAE.rebase (H := []) ?_
    refine WAE.done (by kernel_rfl) ?_ _
    exact En.wk _ _ (Sub.cons rfl (Sub.nil _)) (fun _ h => (h).sub (.cons_cons _ (.cons_cons _ (.cons_cons _ (.cons _ (.slnil)))))) (KR1 (f1_7, a1_7, c1_7, f1_3, a1_3, c1_3) trivial)
   ·
    refine OpH.lit0 (A := tInt) (evps.nil) bs_23_0_ ?_
    intro b1_4
    refine ⟨[_, _, _], rfl, ?_⟩
    refine WAE.all (rs := [3]) (by kernel_rfl) rfl (AllR.cons rfl rfl rfl rfl ?_ AllR.nil)
    refine OpH.appS (F := [_]) (A := tInt) tInt_flat rfl rfl rfl mi_23 rfl (by decide) (fun w hs => (r0_0.ext hs.below)) e1_3 ?_
    intro f1_3 a1_3 c1_3
    refine ⟨[_, _, _], rfl, ?_⟩
    refine WAE.all (rs := [7]) (by kernel_rfl) rfl (AllR.cons rfl rfl rfl rfl ?_ AllR.nil)
    refine OpH.appS (F := []) (A := tInt) tInt_flat rfl rfl rfl mi_23 rfl (by decide) (fun w hs => (r0_1.ext hs.below)) e1_7 ?_
    intro f1_7 a1_7 c1_7
    refine ⟨[_, _, _], rfl, ?_⟩
    refine WAE.take (i := 8) rfl (by kernel_rfl) (by kernel_rfl) (by kernel_rfl) rfl rfl rfl (OpV.build (evps.cons rfl (evps.cons rfl (evps.nil))) (bd_31_0_1 _ _ _ _ _ _)) ?_
    refine WAE.all (rs := [9]) (by kernel_rfl) rfl (AllR.cons0 rfl rfl rfl ?_ AllR.nil)
    refine OpH.storeTo (A := [_, _]) [_, _] rfl rfl rfl ts_31 rfl rfl rfl ?_
    refine ⟨[_, _, _], rfl, ?_⟩
    refine WAE.rebase (H := []) ?_
    refine WAE.done (by kernel_rfl) ?_ _
    exact En.wk _ _ (Sub.cons rfl (Sub.nil _)) (fun _ h => (h).sub (.cons_cons _ (.cons_cons _ (.cons_cons _ (.cons _ (.slnil)))))) (KR1 (f1_7, a1_7, c1_7, f1_3, a1_3, c1_3) trivial)
  ·
   refine OpH.lit0 (A := tInt) (evps.nil) bs_23_0_ ?_
   intro b1_4
   refine ⟨[_, _], rfl, ?_⟩
   refine WAE.all (rs := [0]) (by kernel_rfl) rfl (AllR.cons rfl rfl rfl rfl ?_ AllR.nil)
   refine OpH.lit0 (A := tInt) (evps.nil) bs_23_0_ ?_
   intro b1_0
   refine ⟨[_, _, _], rfl, ?_⟩
   refine WAE.all (rs := [3]) (by kernel_rfl) rfl (AllR.cons rfl rfl rfl rfl ?_ AllR.nil)
   refine OpH.appS (F := []) (A := tInt) tInt_flat rfl rfl rfl mi_23 rfl (by decide) (fun w hs => (r0_0.ext hs.below)) e1_3 ?_
   intro f1_3 a1_3 c1_3
   refine ⟨[_, _, _], rfl, ?_⟩
   refine WAE.all (rs := [7]) (by kernel_rfl) rfl (AllR.cons rfl rfl rfl rfl ?_ AllR.nil)
   refine OpH.appS (F := [_]) (A := tInt) tInt_flat rfl rfl rfl mi_23 rfl (by decide) (fun w hs => (r0_1.ext hs.below)) e1_7 ?_
   intro f1_7 a1_7 c1_7
   refine ⟨[_, _, _], rfl, ?_⟩
   refine WAE.take (i := 8) rfl (by kernel_rfl) (by kernel_rfl) (by kernel_rfl) rfl rfl rfl (OpV.build (evps.cons rfl (evps.cons rfl (evps.nil))) (bd_31_0_1 _ _ _ _ _ _)) ?_
   refine WAE.all (rs := [9]) (by kernel_rfl) rfl (AllR.cons0 rfl rfl rfl ?_ AllR.nil)
   refine OpH.storeTo (A := [_, _]) [_, _] rfl rfl rfl ts_31 rfl rfl rfl ?_
   refine ⟨[_, _, _], rfl, ?_⟩
   refine WAE.rebase (H := []) ?_
   refine WAE.done (by kernel_rfl) ?_ _
   exact En.wk _ _ (Sub.cons rfl (Sub.nil _)) (fun _ h => ((((h).perm (List.perm_middle (l₁ := [_, _]))).perm (List.perm_middle (l₁ := [_]))).perm (List.perm_middle (l₁ := [_, _]))).sub (.cons_cons _ (.cons_cons _ (.cons_cons _ (.cons _ (.slnil)))))) (KR1 (f1_7, a1_7, c1_7, f1_3, a1_3, c1_3) trivial)

theorem w_spec_l22Copy {c_p0 : CrtcT} {r : CrtcT} {q0_0 : Option Addr} {n0_0 k0_0 : Nat} {q0_1 : Option Addr} {n0_1 k0_1 : Nat} {q0_2 : Option Addr} {n0_2 k0_2 : Nat} (h : spec_l22Copy c_p0 = some r) {w : World} (r0_0 : Rd tPlane w q0_0 n0_0 k0_0 c_p0.Planes) (r0_1 : Rd tInt w q0_1 n0_1 k0_1 c_p0.Color.Matrix) (r0_2 : Rd tInt w q0_2 n0_2 k0_2 c_p0.Color.Curve)   :
    Calls Tryz.prog 64 #[.agg #[.int .i64 c_p0.W, .int .i64 c_p0.H, .slice q0_0 n0_0 k0_0, .slice q0_1 n0_1 k0_1, .slice q0_2 n0_2 k0_2]] w (fun en w' => ∃ rv G, en = .returned rv ∧ (∃ (a0_0 : Option Addr) (n0_0 : Nat) (c0_0 : Nat) (f0_0 : List Nat) (a0_1 : Option Addr) (n0_1 : Nat) (c0_1 : Nat) (f0_1 : List Nat) (a0_2 : Option Addr) (n0_2 : Nat) (c0_2 : Nat) (f0_2 : List Nat), rv = .agg #[.int .i64 r.W, .int .i64 r.H, .slice a0_0 n0_0 c0_0, .slice a0_1 n0_1 c0_1, .slice a0_2 n0_2 c0_2] ∧ G = [Chunk.own tPlane f0_0 a0_0 n0_0 c0_0 r.Planes, Chunk.own tInt f0_1 a0_1 n0_1 c0_1 r.Color.Matrix, Chunk.own tInt f0_2 a0_2 n0_2 c0_2 r.Color.Curve]) ∧ St w G w') := by
 obtain rfl := r0_0.1
 obtain rfl := r0_1.1
 obtain rfl := r0_2.1
 unfold spec_l22Copy at h
 refine enter (vs := [_]) Tryz.func64 rfl rfl rfl rfl ?_
 refine WC.seq (WC.region ?_)
 refine WL.heavy rfl rfl rfl (OpH.box rfl rfl ?_)
 intro b0_0
 refine WL.heavy rfl rfl rfl (OpH.alloc zc_46 ?_)
 intro b0_1
 refine WL.nil (En.next (WC.seq ?_))
 obtain ⟨x1_6, e1_6, h⟩ := bnd h
 obtain ⟨x1_9, e1_9, h⟩ := bnd h
 refine WC.drawnH [_] ([_]) (fun _ h => h) (by kernel_rfl) ?_
 refine WAE.take (i := 0) rfl (by kernel_rfl) (by kernel_rfl) (by kernel_rfl) rfl rfl rfl (OpV.fieldAddr rfl fo_46_0) ?_
 refine WAE.take (i := 1) rfl (by kernel_rfl) (by kernel_rfl) (by kernel_rfl) rfl rfl rfl (OpV.loadBox rfl pt_3 (.head _) rfl) ?_
 refine WAE.take (i := 2) rfl (by kernel_rfl) (by kernel_rfl) (by kernel_rfl) rfl rfl rfl (OpV.fieldAddr rfl fo_46_1) ?_
 refine WAE.take (i := 3) rfl (by kernel_rfl) (by kernel_rfl) (by kernel_rfl) rfl rfl rfl (OpV.loadBox rfl pt_3 (.head _) rfl) ?_
 refine WAE.take (i := 4) rfl (by kernel_rfl) (by kernel_rfl) (by kernel_rfl) rfl rfl rfl (OpV.fieldAddr rfl fo_46_2) ?_
 refine WAE.take (i := 5) rfl (by kernel_rfl) (by kernel_rfl) (by kernel_rfl) rfl rfl rfl (OpV.loadBox rfl pt_29 (.head _) rfl) ?_
 refine WAE.take (i := 7) rfl (by kernel_rfl) (by kernel_rfl) (by kernel_rfl) rfl rfl rfl (OpV.fieldAddr rfl fo_46_3) ?_
 refine WAE.take (i := 8) rfl (by kernel_rfl) (by kernel_rfl) (by kernel_rfl) rfl rfl rfl (OpV.loadPart rfl (.head _) ag_31 rfl rfl) ?_
 refine WAE.all (rs := [6]) (by kernel_rfl) rfl (AllR.cons rfl rfl rfl rfl ?_ AllR.nil)
 refine OpH.callR (evs.cons rfl (evs.nil)) ca_110 (fun w hs => w_spec_l19CopyAll e1_6 (r0_0.ext hs.below)) ?_
 rintro _ _ ⟨a1_600, n1_600, c1_600, f1_600, rfl, rfl⟩
 refine ⟨[_, _], rfl, ?_⟩
 refine WAE.all (rs := [9]) (by kernel_rfl) rfl (AllR.cons rfl rfl rfl rfl ?_ AllR.nil)
 refine OpH.callR (evs.cons rfl (evs.nil)) ca_67 (fun w hs => w_spec_l22CopyColor e1_9 (r0_1.ext hs.below) (r0_2.ext hs.below)) ?_
 rintro _ _ ⟨a1_900, n1_900, c1_900, f1_900, a1_901, n1_901, c1_901, f1_901, rfl, rfl⟩
 refine ⟨[_, _, _, _], rfl, ?_⟩
 refine WAE.take (i := 10) rfl (by kernel_rfl) (by kernel_rfl) (by kernel_rfl) rfl rfl rfl (OpV.build (evps.cons rfl (evps.cons rfl (evps.cons rfl (evps.cons rfl (evps.nil))))) (bd_46_0_1_2_3 _ _ _ _ _ _ _ _ _ _ _)) ?_
 refine WAE.all (rs := [11]) (by kernel_rfl) rfl (AllR.cons0 rfl rfl rfl ?_ AllR.nil)
 refine OpH.storeTo (A := [_, _, _]) [_, _, _, _, _] rfl rfl rfl ts_46 rfl rfl rfl ?_
 refine ⟨[_, _, _, _], rfl, ?_⟩
 refine WAE.rebase (H := []) ?_
 refine WAE.done (by kernel_rfl) ?_ _
 refine En.next (WC.ret ?_)
 refine En.ret1 rfl (Res.cell rfl (.tail _ (.tail _ (.tail _ (.head _)))) ag_46) ?_
 obtain rfl := Option.some.inj h
 intro w' hs
 have hs := ((((hs).perm (List.perm_middle (l₁ := [_]))).perm (List.perm_middle (l₁ := [_]))).perm (List.perm_middle (l₁ := [_, _]))).sub (.cons_cons _ (.cons_cons _ (.cons_cons _ (.cons _ (.cons _ (.slnil))))))
 exact ⟨_, _, rfl, ⟨a1_600, n1_600, c1_600, f1_600, a1_900, n1_900, c1_900, f1_900, a1_901, n1_901, c1_901, f1_901, rfl, rfl⟩, hs⟩

theorem w_spec_l01In {x_p0 : Int} {least_p1 : Int} {most_p2 : Int} {r : Bool}  (h : spec_l01In x_p0 least_p1 most_p2 = some r) {w : World}    :
    Calls Tryz.prog 88 #[.int .i64 x_p0, .int .i64 least_p1, .int .i64 most_p2] w (fun en w' => en = .returned (.bool r) ∧ Ext w w') := by
 unfold spec_l01In at h
 refine enter (vs := [_, _, _]) Tryz.func88 rfl rfl rfl rfl ?_
 refine WC.seq (WC.region ?_)
 refine sp (OpV.assign rfl) ?_
 refine WL.nil (En.next (WC.seq (WC.region ?_)))
 refine sp (OpV.move rfl) ?_
 refine sp (OpV.move rfl) ?_
 refine sp (OpV.geq rfl rfl) ?_
 refine sp (OpV.move rfl) ?_
 refine Lt.ofWL.and 10 14 13 (p := ?pz1) (rest := ?qz1) (B := ?Bz1) rfl ?Tz1 ?Fz1 ?az1 ?bz1 ?cz1 ?dz1 ?ez1
 case Tz1 =>
  intro hcz1 hkz1
  refine sp (OpV.move rfl) ?_
  refine sp (OpV.move rfl) ?_
  refine sp (OpV.leq rfl rfl) ?_
  refine hkz1 _ ?_ ?_
  exact rfl
  repeat (first | exact Sub.refl _ | refine Sub.skip rfl ?_)
 case Fz1 =>
  intro hcz1 hkz1
  refine sk ?_
  refine sk ?_
  refine sk ?_
  refine hkz1 _ ?_
  repeat (first | exact Sub.refl _ | refine Sub.skip rfl ?_)
 case az1 => exact rfl
 case bz1 => exact rfl
 case cz1 => exact rfl
 case dz1 => exact rfl
 refine sp (OpV.assign rfl) ?_
 refine WL.nil (En.next (WC.ret ?_))
 refine En.ret1 rfl (Res.tmp rfl) ?_
 obtain rfl := Option.some.inj h
 intro w' hs
 exact ⟨rfl, hs.below⟩

theorem w_spec_l19Zero {p_p0 : PlaneT} {r : Bool} {q0_0 : Option Addr} {n0_0 k0_0 : Nat} (h : spec_l19Zero p_p0 = some r) {w : World} (r0_0 : Rd tInt w q0_0 n0_0 k0_0 p_p0.Words)   :
    Calls Tryz.prog 111 #[.agg #[.bool p_p0.On, .int .i64 p_p0.X, .int .i64 p_p0.Y, .int .i64 p_p0.W, .int .i64 p_p0.H, .int .i64 p_p0.Layout, .slice q0_0 n0_0 k0_0, .int .i64 p_p0.Alpha, .int .i64 p_p0.Orient, .int .i64 p_p0.ToW, .int .i64 p_p0.ToH]] w (fun en w' => en = .returned (.bool r) ∧ Ext w w') := by
 obtain rfl := r0_0.1
 unfold spec_l19Zero at h
 refine enter (vs := [_]) Tryz.func111 rfl rfl rfl rfl ?_
 refine WC.seq (WC.region ?_)
 refine WL.heavy rfl rfl rfl (OpH.box rfl rfl ?_)
 intro b0_0
 refine sp (OpV.assign rfl) ?_
 refine WL.nil (En.next (WC.seq (WC.region ?_)))
 refine sp (OpV.fieldAddr rfl fo_82_1) ?_
 refine sp (OpV.loadBox rfl pt_3 (.head _) rfl) ?_
 refine sp (OpV.eql rfl rfl) ?_
 refine sp (OpV.move rfl) ?_
 refine Lt.ofWL.and 6 10 9 (p := ?pz1) (rest := ?qz1) (B := ?Bz1) rfl ?Tz1 ?Fz1 ?az1 ?bz1 ?cz1 ?dz1 ?ez1
 case Tz1 =>
  intro hcz1 hkz1
  refine sp (OpV.fieldAddr rfl fo_82_2) ?_
  refine sp (OpV.loadBox rfl pt_3 (.head _) rfl) ?_
  refine sp (OpV.eql rfl rfl) ?_
  refine hkz1 _ ?_ ?_
  exact rfl
  repeat (first | exact Sub.refl _ | refine Sub.skip rfl ?_)
 case Fz1 =>
  intro hcz1 hkz1
  refine sk ?_
  refine sk ?_
  refine sk ?_
  refine hkz1 _ ?_
  repeat (first | exact Sub.refl _ | refine Sub.skip rfl ?_)
 case az1 => exact rfl
 case bz1 => exact rfl
 case cz1 => exact rfl
 case dz1 => exact rfl
 refine sp (OpV.move rfl) ?_
 refine Lt.ofWL.and 11 15 14 (p := ?pz2) (rest := ?qz2) (B := ?Bz2) rfl ?Tz2 ?Fz2 ?az2 ?bz2 ?cz2 ?dz2 ?ez2
 case Tz2 =>
  intro hcz2 hkz2
  refine sp (OpV.fieldAddr rfl fo_82_3) ?_
  refine sp (OpV.loadBox rfl pt_3 (.head _) rfl) ?_
  refine sp (OpV.eql rfl rfl) ?_
  refine hkz2 _ ?_ ?_
  exact rfl
  repeat (first | exact Sub.refl _ | refine Sub.skip rfl ?_)
 case Fz2 =>
  intro hcz2 hkz2
  refine sk ?_
  refine sk ?_
  refine sk ?_
  refine hkz2 _ ?_
  repeat (first | exact Sub.refl _ | refine Sub.skip rfl ?_)
 case az2 => exact rfl
 case bz2 => exact rfl
 case cz2 => exact rfl
 case dz2 => exact rfl
 refine sp (OpV.move rfl) ?_
 refine Lt.ofWL.and 16 20 19 (p := ?pz3) (rest := ?qz3) (B := ?Bz3) rfl ?Tz3 ?Fz3 ?az3 ?bz3 ?cz3 ?dz3 ?ez3
 case Tz3 =>
  intro hcz3 hkz3
  refine sp (OpV.fieldAddr rfl fo_82_4) ?_
  refine sp (OpV.loadBox rfl pt_3 (.head _) rfl) ?_
  refine sp (OpV.eql rfl rfl) ?_
  refine hkz3 _ ?_ ?_
  exact rfl
  repeat (first | exact Sub.refl _ | refine Sub.skip rfl ?_)
 case Fz3 =>
  intro hcz3 hkz3
  refine sk ?_
  refine sk ?_
  refine sk ?_
  refine hkz3 _ ?_
  repeat (first | exact Sub.refl _ | refine Sub.skip rfl ?_)
 case az3 => exact rfl
 case bz3 => exact rfl
 case cz3 => exact rfl
 case dz3 => exact rfl
 refine sp (OpV.move rfl) ?_
 refine Lt.ofWL.and 21 25 24 (p := ?pz4) (rest := ?qz4) (B := ?Bz4) rfl ?Tz4 ?Fz4 ?az4 ?bz4 ?cz4 ?dz4 ?ez4
 case Tz4 =>
  intro hcz4 hkz4
  refine sp (OpV.fieldAddr rfl fo_82_5) ?_
  refine sp (OpV.loadBox rfl pt_3 (.head _) rfl) ?_
  refine sp (OpV.eql rfl rfl) ?_
  refine hkz4 _ ?_ ?_
  exact rfl
  repeat (first | exact Sub.refl _ | refine Sub.skip rfl ?_)
 case Fz4 =>
  intro hcz4 hkz4
  refine sk ?_
  refine sk ?_
  refine sk ?_
  refine hkz4 _ ?_
  repeat (first | exact Sub.refl _ | refine Sub.skip rfl ?_)
 case az4 => exact rfl
 case bz4 => exact rfl
 case cz4 => exact rfl
 case dz4 => exact rfl
 refine sp (OpV.move rfl) ?_
 refine Lt.ofWL.and 26 31 30 (p := ?pz5) (rest := ?qz5) (B := ?Bz5) rfl ?Tz5 ?Fz5 ?az5 ?bz5 ?cz5 ?dz5 ?ez5
 case Tz5 =>
  intro hcz5 hkz5
  refine sp (OpV.fieldAddr rfl fo_82_6) ?_
  refine sp (OpV.loadBox rfl pt_23 (.head _) rfl) ?_
  refine sp (OpV.len rfl si_23 rfl) ?_
  refine sp (OpV.eql rfl rfl) ?_
  refine hkz5 _ ?_ ?_
  exact rfl
  repeat (first | exact Sub.refl _ | refine Sub.skip rfl ?_)
 case Fz5 =>
  intro hcz5 hkz5
  refine sk ?_
  refine sk ?_
  refine sk ?_
  refine sk ?_
  refine hkz5 _ ?_
  repeat (first | exact Sub.refl _ | refine Sub.skip rfl ?_)
 case az5 => exact rfl
 case bz5 => exact rfl
 case cz5 => exact rfl
 case dz5 => exact rfl
 refine sp (OpV.move rfl) ?_
 refine Lt.ofWL.and 32 36 35 (p := ?pz6) (rest := ?qz6) (B := ?Bz6) rfl ?Tz6 ?Fz6 ?az6 ?bz6 ?cz6 ?dz6 ?ez6
 case Tz6 =>
  intro hcz6 hkz6
  refine sp (OpV.fieldAddr rfl fo_82_7) ?_
  refine sp (OpV.loadBox rfl pt_3 (.head _) rfl) ?_
  refine sp (OpV.eql rfl rfl) ?_
  refine hkz6 _ ?_ ?_
  exact rfl
  repeat (first | exact Sub.refl _ | refine Sub.skip rfl ?_)
 case Fz6 =>
  intro hcz6 hkz6
  refine sk ?_
  refine sk ?_
  refine sk ?_
  refine hkz6 _ ?_
  repeat (first | exact Sub.refl _ | refine Sub.skip rfl ?_)
 case az6 => exact rfl
 case bz6 => exact rfl
 case cz6 => exact rfl
 case dz6 => exact rfl
 refine sp (OpV.move rfl) ?_
 refine Lt.ofWL.and 37 41 40 (p := ?pz7) (rest := ?qz7) (B := ?Bz7) rfl ?Tz7 ?Fz7 ?az7 ?bz7 ?cz7 ?dz7 ?ez7
 case Tz7 =>
  intro hcz7 hkz7
  refine sp (OpV.fieldAddr rfl fo_82_8) ?_
  refine sp (OpV.loadBox rfl pt_3 (.head _) rfl) ?_
  refine sp (OpV.eql rfl rfl) ?_
  refine hkz7 _ ?_ ?_
  exact rfl
  repeat (first | exact Sub.refl _ | refine Sub.skip rfl ?_)
 case Fz7 =>
  intro hcz7 hkz7
  refine sk ?_
  refine sk ?_
  refine sk ?_
  refine hkz7 _ ?_
  repeat (first | exact Sub.refl _ | refine Sub.skip rfl ?_)
 case az7 => exact rfl
 case bz7 => exact rfl
 case cz7 => exact rfl
 case dz7 => exact rfl
 refine sp (OpV.move rfl) ?_
 refine Lt.ofWL.and 42 46 45 (p := ?pz8) (rest := ?qz8) (B := ?Bz8) rfl ?Tz8 ?Fz8 ?az8 ?bz8 ?cz8 ?dz8 ?ez8
 case Tz8 =>
  intro hcz8 hkz8
  refine sp (OpV.fieldAddr rfl fo_82_9) ?_
  refine sp (OpV.loadBox rfl pt_3 (.head _) rfl) ?_
  refine sp (OpV.eql rfl rfl) ?_
  refine hkz8 _ ?_ ?_
  exact rfl
  repeat (first | exact Sub.refl _ | refine Sub.skip rfl ?_)
 case Fz8 =>
  intro hcz8 hkz8
  refine sk ?_
  refine sk ?_
  refine sk ?_
  refine hkz8 _ ?_
  repeat (first | exact Sub.refl _ | refine Sub.skip rfl ?_)
 case az8 => exact rfl
 case bz8 => exact rfl
 case cz8 => exact rfl
 case dz8 => exact rfl
 refine sp (OpV.move rfl) ?_
 refine Lt.ofWL.and 47 51 50 (p := ?pz9) (rest := ?qz9) (B := ?Bz9) rfl ?Tz9 ?Fz9 ?az9 ?bz9 ?cz9 ?dz9 ?ez9
 case Tz9 =>
  intro hcz9 hkz9
  refine sp (OpV.fieldAddr rfl fo_82_10) ?_
  refine sp (OpV.loadBox rfl pt_3 (.head _) rfl) ?_
  refine sp (OpV.eql rfl rfl) ?_
  refine hkz9 _ ?_ ?_
  exact rfl
  repeat (first | exact Sub.refl _ | refine Sub.skip rfl ?_)
 case Fz9 =>
  intro hcz9 hkz9
  refine sk ?_
  refine sk ?_
  refine sk ?_
  refine hkz9 _ ?_
  repeat (first | exact Sub.refl _ | refine Sub.skip rfl ?_)
 case az9 => exact rfl
 case bz9 => exact rfl
 case cz9 => exact rfl
 case dz9 => exact rfl
 refine sp (OpV.assign rfl) ?_
 refine WL.nil (En.next (WC.ret ?_))
 refine En.ret1 rfl (Res.tmp rfl) ?_
 obtain rfl := Option.some.inj h
 intro w' hs
 exact ⟨rfl, hs.below⟩

theorem w_spec_l15Expand {words_p0 : List Int} {most_p1 : Int} {r : (List Int)} {q0_0 : Option Addr} {n0_0 k0_0 : Nat} (h : spec_l15Expand words_p0 most_p1 = some r) {w : World} (r0_0 : Rd tInt w q0_0 n0_0 k0_0 words_p0)   :
    Calls Tryz.prog 203 #[.slice q0_0 n0_0 k0_0, .int .i64 most_p1] w (fun en w' => ∃ rv G, en = .returned rv ∧ (∃ (a0_0 : Option Addr) (n0_0 : Nat) (c0_0 : Nat) (f0_0 : List Nat), rv = .slice a0_0 n0_0 c0_0 ∧ G = [Chunk.own tInt f0_0 a0_0 n0_0 c0_0 r]) ∧ St w G w') := by
 obtain rfl := r0_0.1
 unfold spec_l15Expand at h
 refine enter (vs := [_, _]) Tryz.func203 rfl rfl rfl rfl ?_
 refine WC.seq (WC.region ?_)
 refine sp (OpV.assign rfl) ?_
 refine WL.nil (En.next (WC.seq (WC.region ?_)))
 refine WL.heavy rfl rfl rfl (OpH.lit0 (A := tInt) (evps.nil) bs_23_0_ ?_)
 intro b1_0
 refine sp (OpV.assign rfl) ?_
 refine WL.nil (En.next (WC.seq (WC.seq (WC.region ?_))))
 refine sp (OpV.assign rfl) ?_
 refine WL.nil (En.next (WC.block ?_))
 obtain ⟨zy0, ezy0, h⟩ := bnd h
 refine WC.cut (X := ((List Int)) × ((Option Addr) × Nat × Nat × (List Nat))) (.exit 0) (fun x => zy0 = .inl x.1) (fun x => match x with | (out_0e, (aout_0e, nout_0e, cout_0e, fout_0e)) => [(5, .slice aout_0e nout_0e cout_0e)]) (fun x => match x with | (out_0e, (aout_0e, nout_0e, cout_0e, fout_0e)) => [Chunk.own tInt fout_0e aout_0e nout_0e cout_0e out_0e]) ?_ ?_
 ·
  rintro ⟨out_0e, ⟨aout_0e, nout_0e, cout_0e, fout_0e⟩⟩ hx
  replace hx : .inl out_0e = zy0 := hx.symm
  subst hx
  replace h := fork_l h
  show En _ _ _ _ [(5, .slice aout_0e nout_0e cout_0e)] [Chunk.own tInt fout_0e aout_0e nout_0e cout_0e out_0e]
  refine En.block_exit (En.next (WC.seq (WC.region ?_)))
  refine sp (OpV.move rfl) ?_
  refine sp (OpV.assign rfl) ?_
  refine WL.nil (En.next (WC.ret ?_))
  refine En.ret1 rfl (Res.tmp rfl) ?_
  obtain rfl := Option.some.inj h
  intro w' hs
  have hs := hs
  exact ⟨_, _, rfl, ⟨aout_0e, nout_0e, cout_0e, fout_0e, rfl, rfl⟩, hs⟩
 ·
  intro zK0_0
  refine WC.loopP (G := (Option Addr) × Nat × Nat × (List Nat)) (fun s g => match s, g with | (out_0, k_0), (aout_0, nout_0, cout_0, fout_0) => [(0, .slice q0_0 words_p0.length k0_0), (1, .int .i64 most_p1), (5, .slice aout_0 nout_0 cout_0), (6, .int .i64 k_0)]) (fun s g => match s, g with | (out_0, k_0), (aout_0, nout_0, cout_0, fout_0) => [Chunk.own tInt fout_0 aout_0 nout_0 cout_0 out_0]) (([] : List Int), 0) ((some ⟨b1_0, 0, .none⟩), 0, 0, [b1_0]) ezy0 (by exact Sub.cons rfl (Sub.cons rfl (Sub.cons rfl (Sub.cons rfl (Sub.nil _))))) (by exact (fun _ h => h)) ?_
  rintro zm0 ⟨out_0, k_0⟩ ⟨aout_0, nout_0, cout_0, fout_0⟩ zo0 zf0 zb0 ze0
  have zh0 : spec_l15Expand_L0 words_p0 most_p1 out_0 k_0 = some zo0 := zf0
  unfold spec_l15Expand_L0 at zh0
  show WC _ _ _ _ _ [(0, .slice q0_0 words_p0.length k0_0), (1, .int .i64 most_p1), (5, .slice aout_0 nout_0 cout_0), (6, .int .i64 k_0)] [Chunk.own tInt fout_0 aout_0 nout_0 cout_0 out_0]
  refine WC.seq (WC.seq (WC.region ?_))
  refine sp (OpV.move rfl) ?_
  refine sp (OpV.addR rfl rfl) ?_
  refine sp (OpV.move rfl) ?_
  refine sp (OpV.len rfl si_23 rfl) ?_
  refine sp (OpV.lss rfl rfl) ?_
  refine WL.nil (En.next ?_)
  refine WC.cond rfl ?_ ?_
  ·
   intro hc_1
   replace zh0 := ifO_t hc_1 zh0
   refine WC.skip (En.next (WC.seq (WC.block (WC.seq (WC.seq ?_)))))
   obtain ⟨x5_2, e5_2, zh0⟩ := bnd zh0
   obtain ⟨g5_2, o5_2, _, ha5_2, rfl, hd5_2⟩ := Rd.atIdx r0_0 e5_2
   replace hd5_2 : ∀ (j : Nat) v, ([.int .i64 x5_2] : List Value)[j]? = some v → w.cell? ⟨g5_2, o5_2 + k_0.toNat * 1 + j, .none⟩ = some v := hd5_2
   obtain ⟨x5_8, e5_8, zh0⟩ := bnd zh0
   refine WC.region ?_
   refine sp (OpV.move rfl) ?_
   refine sp (OpV.move rfl) ?_
   refine sp (OpV.idxA rfl rfl se_23 ha5_2 ⟨(idx_some e5_2).1, (idx_some e5_2).2.1⟩) ?_
   refine sp (OpV.load1 rfl pt_3 (fun w hs => hs.cell (hd5_2 0 _ rfl))) ?_
   refine sp (OpV.move rfl) ?_
   refine sp (OpV.move rfl) ?_
   refine sp (OpV.inhF fun hin => OpV.lenO (xs := out_0) rfl si_23 rfl (ownLen hin (.head _))) ?_
   refine sp (OpV.subR rfl rfl) ?_
   refine sp (OpV.call (evs.cons rfl (evs.cons rfl (evs.cons rfl (evs.nil)))) ca_88 (fun w hs => w_spec_l01In e5_8)) ?_
   refine sp (OpV.not rfl) ?_
   refine WL.nil (En.next ?_)
   refine WC.cond rfl ?_ ?_
   ·
    intro hc_2
    replace zh0 := ifO_t hc_2 zh0
    refine WC.seq (WC.region ?_)
    refine WL.heavy rfl rfl rfl (OpH.lit0 (A := tInt) (evps.nil) bs_23_0_ ?_)
    intro b6_0
    refine sp (OpV.assign rfl) ?_
    refine WL.nil (En.next (WC.ret (En.then_ret (En.block_ret (En.then_ret (En.then_ret (En.block_ret (En.then_ret ?_))))))))
    refine En.ret1 rfl (Res.tmp rfl) ?_
    have hx := exitP ze0 zh0
    subst hx
    replace h := fork_r h
    obtain rfl := Option.some.inj h
    intro w' hs
    have hs := (hs).sub (.cons_cons _ (.cons _ (.slnil)))
    exact ⟨_, _, rfl, ⟨(some ⟨b6_0, 0, .none⟩), 0, 0, [b6_0], rfl, rfl⟩, hs⟩
   ·
    intro hc_2
    replace zh0 := ifO_f hc_2 zh0
    refine WC.skip (En.next (WC.seq ?_))
    obtain ⟨x7_2, e7_2, zh0⟩ := bnd zh0
    obtain ⟨g7_2, o7_2, _, ha7_2, rfl, hd7_2⟩ := Rd.atIdx r0_0 e7_2
    replace hd7_2 : ∀ (j : Nat) v, ([.int .i64 x7_2] : List Value)[j]? = some v → w.cell? ⟨g7_2, o7_2 + k_0.toNat * 1 + j, .none⟩ = some v := hd7_2
    refine WC.region ?_
    refine sp (OpV.move rfl) ?_
    refine sp (OpV.move rfl) ?_
    refine sp (OpV.idxA rfl rfl se_23 ha7_2 ⟨(idx_some e7_2).1, (idx_some e7_2).2.1⟩) ?_
    refine sp (OpV.load1 rfl pt_3 (fun w hs => hs.cell (hd7_2 0 _ rfl))) ?_
    refine sp (OpV.assign rfl) ?_
    refine WL.nil (En.next (WC.block ?_))
    obtain ⟨zy1, ezy1, zh0⟩ := bnd zh0
    refine WC.cut (X := ((List Int)) × ((Option Addr) × Nat × Nat × (List Nat))) (.exit 2) (fun x => zy1 = x.1) (fun x => match x with | (out_1e, (aout_1e, nout_1e, cout_1e, fout_1e)) => [(0, .slice q0_0 words_p0.length k0_0), (1, .int .i64 most_p1), (5, .slice aout_1e nout_1e cout_1e), (6, .int .i64 k_0)]) (fun x => match x with | (out_1e, (aout_1e, nout_1e, cout_1e, fout_1e)) => [Chunk.own tInt fout_1e aout_1e nout_1e cout_1e out_1e]) ?_ ?_
    ·
     rintro ⟨out_1e, ⟨aout_1e, nout_1e, cout_1e, fout_1e⟩⟩ hx
     replace hx : out_1e = zy1 := hx.symm
     subst hx
     show En _ _ _ _ [(0, .slice q0_0 words_p0.length k0_0), (1, .int .i64 most_p1), (5, .slice aout_1e nout_1e cout_1e), (6, .int .i64 k_0)] [Chunk.own tInt fout_1e aout_1e nout_1e cout_1e out_1e]
     refine En.block_exit (En.block_norm (En.next (WC.region ?_)))
     refine sp (OpV.move rfl) ?_
     refine sp (OpV.addR rfl rfl) ?_
     refine sp (OpV.assign rfl) ?_
     refine WL.nil ?_
     exact En.backP zb0 zh0 (aout_1e, nout_1e, cout_1e, fout_1e) (Sub.cons rfl (Sub.cons rfl (Sub.cons rfl (Sub.cons rfl (Sub.nil _))))) (fun _ h => h)
    ·
     intro zK1_0
     refine WC.loopP (G := (Option Addr) × Nat × Nat × (List Nat)) (fun s g => match s, g with | (out_1, n_1), (aout_1, nout_1, cout_1, fout_1) => [(0, .slice q0_0 words_p0.length k0_0), (1, .int .i64 most_p1), (5, .slice aout_1 nout_1 cout_1), (6, .int .i64 k_0), (7, .int .i64 n_1)]) (fun s g => match s, g with | (out_1, n_1), (aout_1, nout_1, cout_1, fout_1) => [Chunk.own tInt fout_1 aout_1 nout_1 cout_1 out_1]) (out_0, x7_2) (aout_0, nout_0, cout_0, fout_0) ezy1 (by exact Sub.cons rfl (Sub.cons rfl (Sub.cons rfl (Sub.cons rfl (Sub.cons rfl (Sub.nil _)))))) (by exact (fun _ h => h)) ?_
     rintro zm1 ⟨out_1, n_1⟩ ⟨aout_1, nout_1, cout_1, fout_1⟩ zo1 zf1 zb1 ze1
     have zh1 : spec_l15Expand_L1 words_p0 k_0 out_1 n_1 = some zo1 := zf1
     unfold spec_l15Expand_L1 at zh1
     show WC _ _ _ _ _ [(0, .slice q0_0 words_p0.length k0_0), (1, .int .i64 most_p1), (5, .slice aout_1 nout_1 cout_1), (6, .int .i64 k_0), (7, .int .i64 n_1)] [Chunk.own tInt fout_1 aout_1 nout_1 cout_1 out_1]
     refine WC.seq (WC.seq (WC.region ?_))
     refine sp (OpV.move rfl) ?_
     refine sp (OpV.gtr rfl rfl) ?_
     refine WL.nil (En.next ?_)
     refine WC.cond rfl ?_ ?_
     ·
      intro hc_3
      replace zh1 := ifO_t hc_3 zh1
      refine WC.skip (En.next (WC.seq (WC.block ?_)))
      obtain ⟨x10_4, e10_4, zh1⟩ := bnd zh1
      obtain ⟨g10_4, o10_4, _, ha10_4, rfl, hd10_4⟩ := Rd.atIdx r0_0 e10_4
      replace hd10_4 : ∀ (j : Nat) v, ([.int .i64 x10_4] : List Value)[j]? = some v → w.cell? ⟨g10_4, o10_4 + (wr (k_0 + 1)).toNat * 1 + j, .none⟩ = some v := hd10_4
      obtain ⟨x10_7, e10_7, zh1⟩ := bnd zh1
      refine WC.region ?_
      refine sp (OpV.move rfl) ?_
      refine sp (OpV.move rfl) ?_
      refine sp (OpV.move rfl) ?_
      refine sp (OpV.addR rfl rfl) ?_
      refine sp (OpV.idxA rfl rfl se_23 ha10_4 ⟨(idx_some e10_4).1, (idx_some e10_4).2.1⟩) ?_
      refine sp (OpV.load1 rfl pt_3 (fun w hs => hs.cell (hd10_4 0 _ rfl))) ?_
      refine WL.heavy rfl rfl rfl (OpH.litF (A := tInt) (xs := [x10_4]) tInt_flat (evps.cons rfl (evps.nil)) (bs_23_1_0 _) rfl rfl (Nat.le_of_ble_eq_true rfl) ?_)
      intro b10_6
      refine WL.heavy rfl rfl rfl (OpH.appS (F := [_]) (A := tInt) tInt_flat rfl rfl rfl mi_23 rfl (by decide) (fun w hs => (Ow.rd (hs.mem (.head _)))) e10_7 ?_)
      intro f10_7 a10_7 c10_7
      refine sp (OpV.assign rfl) ?_
      refine WL.nil (En.block_norm (En.next (WC.region ?_)))
      refine sp (OpV.move rfl) ?_
      refine sp (OpV.subR rfl rfl) ?_
      refine sp (OpV.assign rfl) ?_
      refine WL.nil ?_
      exact En.backP zb1 zh1 (a10_7, x10_7.length, c10_7, f10_7) (Sub.cons rfl (Sub.cons rfl (Sub.cons rfl (Sub.cons rfl (Sub.cons rfl (Sub.nil _)))))) (fun _ h => ((h).perm (List.perm_middle (l₁ := [_]))).sub (.cons_cons _ (.cons _ (.slnil))))
     ·
      intro hc_3
      replace zh1 := ifO_f hc_3 zh1
      refine WC.exit (En.then_exit (En.then_exit ?_))
      have hx := exitP ze1 zh1
      exact En.wk _ _ (Sub.cons rfl (Sub.cons rfl (Sub.cons rfl (Sub.cons rfl (Sub.nil _))))) (fun _ h => h) (zK1_0 (out_1, (aout_1, nout_1, cout_1, fout_1)) hx.symm)
  ·
   intro hc_1
   replace zh0 := ifO_f hc_1 zh0
   refine WC.exit (En.then_exit (En.then_exit ?_))
   have hx := exitP ze0 zh0
   exact En.wk _ _ (Sub.cons rfl (Sub.nil _)) (fun _ h => h) (zK0_0 (out_0, (aout_0, nout_0, cout_0, fout_0)) hx.symm)

theorem w_spec_WordCount {w_p0 : Int} {h_p1 : Int} {layout_p2 : Int} {r : Int}  (h : spec_WordCount w_p0 h_p1 layout_p2 = some r) {w : World}    :
    Calls Tryz.prog 201 #[.int .i64 w_p0, .int .i64 h_p1, .int .i64 layout_p2] w (fun en w' => en = .returned (.int .i64 r) ∧ Ext w w') := by
 unfold spec_WordCount at h
 refine enter (vs := [_, _, _]) Tryz.func201 rfl rfl rfl rfl ?_
 refine WC.seq (WC.region ?_)
 refine sp (OpV.assign rfl) ?_
 refine WL.nil (En.next (WC.seq (WC.seq ?_)))
 obtain ⟨x1_1, e1_1, h⟩ := bnd h
 obtain ⟨q1_7, e1_7, h⟩ := bnd h
 refine WC.region ?_
 refine sp (OpV.move rfl) ?_
 refine sp (OpV.call (evs.cons rfl (evs.cons rfl (evs.cons rfl (evs.nil)))) ca_88 (fun w hs => w_spec_l01In e1_1)) ?_
 refine sp (OpV.not rfl) ?_
 refine sp (OpV.move rfl) ?_
 refine Lt.ofWL.orQ 10 14 13 (p := ?pz1) (rest := ?qz1) (B := q1_7) rfl (fun hz => orO_t e1_7 hz) ?Tz1 ?Fz1 ?az1 ?bz1 ?cz1 ?dz1 ?ez1
 case Tz1 =>
  intro hcz1 hkz1
  refine sk ?_
  refine sk ?_
  refine sk ?_
  refine hkz1 _ ?_
  repeat (first | exact Sub.refl _ | refine Sub.skip rfl ?_)
 case Fz1 =>
  intro hcz1 hkz1
  have hqz1 := orO_f e1_7 hcz1
  obtain ⟨x1_5, e1_5, hqz1⟩ := bnd hqz1
  obtain rfl := Option.some.inj hqz1
  refine sp (OpV.move rfl) ?_
  refine sp (OpV.call (evs.cons rfl (evs.cons rfl (evs.cons rfl (evs.nil)))) ca_88 (fun w hs => w_spec_l01In e1_5)) ?_
  refine sp (OpV.not rfl) ?_
  refine hkz1 _ ?_ ?_
  exact rfl
  repeat (first | exact Sub.refl _ | refine Sub.skip rfl ?_)
 case az1 => exact rfl
 case bz1 => exact rfl
 case cz1 => exact rfl
 case dz1 => exact rfl
 refine WL.nil (En.next ?_)
 refine WC.cond rfl ?_ ?_
 ·
  intro hc_1
  replace h := ifO_t hc_1 h
  refine WC.seq (WC.region ?_)
  refine sp (OpV.assign rfl) ?_
  refine WL.nil (En.next (WC.ret (En.then_ret ?_)))
  refine En.ret1 rfl (Res.tmp rfl) ?_
  obtain rfl := Option.some.inj h
  intro w' hs
  exact ⟨rfl, hs.below⟩
 ·
  intro hc_1
  replace h := ifO_f hc_1 h
  refine WC.skip (En.next (WC.seq (WC.seq (WC.region ?_))))
  refine sp (OpV.move rfl) ?_
  refine WL.nil (En.next (WC.block (WC.seq (WC.region ?_))))
  refine sp (OpV.eql rfl rfl) ?_
  refine sp (OpV.assign rfl) ?_
  refine WL.nil (En.next ?_)
  refine WC.cond rfl ?_ ?_
  ·
   intro hc_2
   replace h := ifO_t hc_2 h
   refine WC.seq (WC.region ?_)
   refine sp (OpV.move rfl) ?_
   refine sp (OpV.move rfl) ?_
   refine sp (OpV.mulR rfl rfl) ?_
   refine sp (OpV.assign rfl) ?_
   refine WL.nil (En.next (WC.ret (En.block_ret (En.then_ret ?_))))
   refine En.ret1 rfl (Res.tmp rfl) ?_
   obtain rfl := Option.some.inj h
   intro w' hs
   exact ⟨rfl, hs.below⟩
  ·
   intro hc_2
   replace h := ifO_f hc_2 h
   refine WC.seq (WC.region ?_)
   refine sp (OpV.eql rfl rfl) ?_
   refine sp (OpV.assign rfl) ?_
   refine WL.nil (En.next ?_)
   refine WC.cond rfl ?_ ?_
   ·
    intro hc_3
    replace h := ifO_t hc_3 h
    refine WC.seq (WC.region ?_)
    refine sp (OpV.move rfl) ?_
    refine sp (OpV.addR rfl rfl) ?_
    refine sp (OpV.quoR rfl rfl rfl) ?_
    refine sp (OpV.mulR rfl rfl) ?_
    refine sp (OpV.move rfl) ?_
    refine sp (OpV.addR rfl rfl) ?_
    refine sp (OpV.quoR rfl rfl rfl) ?_
    refine sp (OpV.mulR rfl rfl) ?_
    refine sp (OpV.mulR rfl rfl) ?_
    refine sp (OpV.assign rfl) ?_
    refine WL.nil (En.next (WC.ret (En.block_ret (En.then_ret ?_))))
    refine En.ret1 rfl (Res.tmp rfl) ?_
    obtain rfl := Option.some.inj h
    intro w' hs
    exact ⟨rfl, hs.below⟩
   ·
    intro hc_3
    replace h := ifO_f hc_3 h
    refine WC.skip (En.block_norm (En.next (WC.seq (WC.region ?_))))
    refine sp (OpV.assign rfl) ?_
    refine WL.nil (En.next (WC.ret ?_))
    refine En.ret1 rfl (Res.tmp rfl) ?_
    obtain rfl := Option.some.inj h
    intro w' hs
    exact ⟨rfl, hs.below⟩

theorem w_spec_WordPlace {w_p0 : Int} {h_p1 : Int} {layout_p2 : Int} {x_p3 : Int} {y_p4 : Int} {r : Int}  (h : spec_WordPlace w_p0 h_p1 layout_p2 x_p3 y_p4 = some r) {w : World}    :
    Calls Tryz.prog 202 #[.int .i64 w_p0, .int .i64 h_p1, .int .i64 layout_p2, .int .i64 x_p3, .int .i64 y_p4] w (fun en w' => en = .returned (.int .i64 r) ∧ Ext w w') := by
 unfold spec_WordPlace at h
 refine enter (vs := [_, _, _, _, _]) Tryz.func202 rfl rfl rfl rfl ?_
 refine WC.seq (WC.region ?_)
 refine sp (OpV.assign rfl) ?_
 refine WL.nil (En.next (WC.seq (WC.seq ?_)))
 obtain ⟨x1_3, e1_3, h⟩ := bnd h
 obtain ⟨q1_11, e1_11, h⟩ := bnd h
 obtain ⟨q1_18, e1_18, h⟩ := bnd h
 refine WC.region ?_
 refine sp (OpV.move rfl) ?_
 refine sp (OpV.move rfl) ?_
 refine sp (OpV.move rfl) ?_
 refine sp (OpV.call (evs.cons rfl (evs.cons rfl (evs.cons rfl (evs.nil)))) ca_201 (fun w hs => w_spec_WordCount e1_3)) ?_
 refine sp (OpV.lss rfl rfl) ?_
 refine sp (OpV.move rfl) ?_
 refine Lt.ofWL.orQ 16 22 21 (p := ?pz1) (rest := ?qz1) (B := q1_11) rfl (fun hz => orO_t e1_11 hz) ?Tz1 ?Fz1 ?az1 ?bz1 ?cz1 ?dz1 ?ez1
 case Tz1 =>
  intro hcz1 hkz1
  refine sk ?_
  refine sk ?_
  refine sk ?_
  refine sk ?_
  refine sk ?_
  refine hkz1 _ ?_
  repeat (first | exact Sub.refl _ | refine Sub.skip rfl ?_)
 case Fz1 =>
  intro hcz1 hkz1
  have hqz1 := orO_f e1_11 hcz1
  obtain ⟨x1_9, e1_9, hqz1⟩ := bnd hqz1
  obtain rfl := Option.some.inj hqz1
  refine sp (OpV.move rfl) ?_
  refine sp (OpV.move rfl) ?_
  refine sp (OpV.subR rfl rfl) ?_
  refine sp (OpV.call (evs.cons rfl (evs.cons rfl (evs.cons rfl (evs.nil)))) ca_88 (fun w hs => w_spec_l01In e1_9)) ?_
  refine sp (OpV.not rfl) ?_
  refine hkz1 _ ?_ ?_
  exact rfl
  repeat (first | exact Sub.refl _ | refine Sub.skip rfl ?_)
 case az1 => exact rfl
 case bz1 => exact rfl
 case cz1 => exact rfl
 case dz1 => exact rfl
 refine sp (OpV.move rfl) ?_
 refine Lt.ofWL.orQ 23 29 28 (p := ?pz2) (rest := ?qz2) (B := q1_18) rfl (fun hz => orO_t e1_18 hz) ?Tz2 ?Fz2 ?az2 ?bz2 ?cz2 ?dz2 ?ez2
 case Tz2 =>
  intro hcz2 hkz2
  refine sk ?_
  refine sk ?_
  refine sk ?_
  refine sk ?_
  refine sk ?_
  refine hkz2 _ ?_
  repeat (first | exact Sub.refl _ | refine Sub.skip rfl ?_)
 case Fz2 =>
  intro hcz2 hkz2
  have hqz2 := orO_f e1_18 hcz2
  obtain ⟨x1_16, e1_16, hqz2⟩ := bnd hqz2
  obtain rfl := Option.some.inj hqz2
  refine sp (OpV.move rfl) ?_
  refine sp (OpV.move rfl) ?_
  refine sp (OpV.subR rfl rfl) ?_
  refine sp (OpV.call (evs.cons rfl (evs.cons rfl (evs.cons rfl (evs.nil)))) ca_88 (fun w hs => w_spec_l01In e1_16)) ?_
  refine sp (OpV.not rfl) ?_
  refine hkz2 _ ?_ ?_
  exact rfl
  repeat (first | exact Sub.refl _ | refine Sub.skip rfl ?_)
 case az2 => exact rfl
 case bz2 => exact rfl
 case cz2 => exact rfl
 case dz2 => exact rfl
 refine WL.nil (En.next ?_)
 refine WC.cond rfl ?_ ?_
 ·
  intro hc_1
  replace h := ifO_t hc_1 h
  refine WC.seq (WC.region ?_)
  refine sp (OpV.assign rfl) ?_
  refine WL.nil (En.next (WC.ret (En.then_ret ?_)))
  refine En.ret1 rfl (Res.tmp rfl) ?_
  obtain rfl := Option.some.inj h
  intro w' hs
  exact ⟨rfl, hs.below⟩
 ·
  intro hc_1
  replace h := ifO_f hc_1 h
  refine WC.skip (En.next (WC.seq (WC.seq (WC.region ?_))))
  refine sp (OpV.move rfl) ?_
  refine sp (OpV.eql rfl rfl) ?_
  refine WL.nil (En.next ?_)
  refine WC.cond rfl ?_ ?_
  ·
   intro hc_2
   replace h := ifO_t hc_2 h
   refine WC.seq (WC.region ?_)
   refine sp (OpV.move rfl) ?_
   refine sp (OpV.move rfl) ?_
   refine sp (OpV.mulR rfl rfl) ?_
   refine sp (OpV.move rfl) ?_
   refine sp (OpV.addR rfl rfl) ?_
   refine sp (OpV.assign rfl) ?_
   refine WL.nil (En.next (WC.ret (En.then_ret ?_)))
   refine En.ret1 rfl (Res.tmp rfl) ?_
   obtain rfl := Option.some.inj h
   intro w' hs
   exact ⟨rfl, hs.below⟩
  ·
   intro hc_2
   replace h := ifO_f hc_2 h
   refine WC.skip (En.next (WC.seq (WC.region ?_)))
   refine sp (OpV.move rfl) ?_
   refine sp (OpV.quoR rfl rfl rfl) ?_
   refine sp (OpV.move rfl) ?_
   refine sp (OpV.addR rfl rfl) ?_
   refine sp (OpV.quoR rfl rfl rfl) ?_
   refine sp (OpV.mulR rfl rfl) ?_
   refine sp (OpV.move rfl) ?_
   refine sp (OpV.quoR rfl rfl rfl) ?_
   refine sp (OpV.addR rfl rfl) ?_
   refine sp (OpV.mulR rfl rfl) ?_
   refine sp (OpV.move rfl) ?_
   refine sp (OpV.remR rfl rfl rfl) ?_
   refine sp (OpV.mulR rfl rfl) ?_
   refine sp (OpV.addR rfl rfl) ?_
   refine sp (OpV.move rfl) ?_
   refine sp (OpV.remR rfl rfl rfl) ?_
   refine sp (OpV.addR rfl rfl) ?_
   refine sp (OpV.assign rfl) ?_
   refine WL.nil (En.next (WC.ret ?_))
   refine En.ret1 rfl (Res.tmp rfl) ?_
   obtain rfl := Option.some.inj h
   intro w' hs
   exact ⟨rfl, hs.below⟩

theorem w_spec_l04Pixel {p_p0 : Int} {r : Bool}  (h : spec_l04Pixel p_p0 = some r) {w : World}    :
    Calls Tryz.prog 100 #[.int .i64 p_p0] w (fun en w' => en = .returned (.bool r) ∧ Ext w w') := by
 unfold spec_l04Pixel at h
 refine enter (vs := [_]) Tryz.func100 rfl rfl rfl rfl ?_
 refine WC.seq (WC.region ?_)
 refine sp (OpV.assign rfl) ?_
 refine WL.nil (En.next (WC.seq ?_))
 obtain ⟨x1_1, e1_1, h⟩ := bnd h
 refine WC.region ?_
 refine sp (OpV.move rfl) ?_
 refine sp (OpV.call (evs.cons rfl (evs.cons rfl (evs.cons rfl (evs.nil)))) ca_88 (fun w hs => w_spec_l01In e1_1)) ?_
 refine sp (OpV.assign rfl) ?_
 refine WL.nil (En.next (WC.ret ?_))
 refine En.ret1 rfl (Res.tmp rfl) ?_
 obtain rfl := Option.some.inj h
 intro w' hs
 exact ⟨rfl, hs.below⟩

theorem w_spec_ImageOk {i_p0 : ImageT} {r : Bool} {q0_0 : Option Addr} {n0_0 k0_0 : Nat} (h : spec_ImageOk i_p0 = some r) {w : World} (r0_0 : Rd tInt w q0_0 n0_0 k0_0 i_p0.Data)   :
    Calls Tryz.prog 168 #[.agg #[.int .i64 i_p0.W, .int .i64 i_p0.H, .slice q0_0 n0_0 k0_0]] w (fun en w' => en = .returned (.bool r) ∧ Ext w w') := by
 obtain rfl := r0_0.1
 unfold spec_ImageOk at h
 refine enter (vs := [_]) Tryz.func168 rfl rfl rfl rfl ?_
 refine WC.seq (WC.region ?_)
 refine WL.heavy rfl rfl rfl (OpH.box rfl rfl ?_)
 intro b0_0
 refine sp (OpV.assign rfl) ?_
 refine WL.nil (En.next (WC.seq (WC.seq ?_)))
 obtain ⟨x1_2, e1_2, h⟩ := bnd h
 obtain ⟨q1_9, e1_9, h⟩ := bnd h
 refine WC.region ?_
 refine sp (OpV.fieldAddr rfl fo_96_0) ?_
 refine sp (OpV.loadBox rfl pt_3 (.head _) rfl) ?_
 refine sp (OpV.call (evs.cons rfl (evs.cons rfl (evs.cons rfl (evs.nil)))) ca_88 (fun w hs => w_spec_l01In e1_2)) ?_
 refine sp (OpV.not rfl) ?_
 refine sp (OpV.move rfl) ?_
 refine Lt.ofWL.orQ 8 13 12 (p := ?pz1) (rest := ?qz1) (B := q1_9) rfl (fun hz => orO_t e1_9 hz) ?Tz1 ?Fz1 ?az1 ?bz1 ?cz1 ?dz1 ?ez1
 case Tz1 =>
  intro hcz1 hkz1
  refine sk ?_
  refine sk ?_
  refine sk ?_
  refine sk ?_
  refine hkz1 _ ?_
  repeat (first | exact Sub.refl _ | refine Sub.skip rfl ?_)
 case Fz1 =>
  intro hcz1 hkz1
  have hqz1 := orO_f e1_9 hcz1
  obtain ⟨x1_7, e1_7, hqz1⟩ := bnd hqz1
  obtain rfl := Option.some.inj hqz1
  refine sp (OpV.fieldAddr rfl fo_96_1) ?_
  refine sp (OpV.loadBox rfl pt_3 (.head _) rfl) ?_
  refine sp (OpV.call (evs.cons rfl (evs.cons rfl (evs.cons rfl (evs.nil)))) ca_88 (fun w hs => w_spec_l01In e1_7)) ?_
  refine sp (OpV.not rfl) ?_
  refine hkz1 _ ?_ ?_
  exact rfl
  repeat (first | exact Sub.refl _ | refine Sub.skip rfl ?_)
 case az1 => exact rfl
 case bz1 => exact rfl
 case cz1 => exact rfl
 case dz1 => exact rfl
 refine sp (OpV.move rfl) ?_
 refine Lt.ofWL.or 14 24 23 (p := ?pz2) (rest := ?qz2) (B := ?Bz2) rfl ?Tz2 ?Fz2 ?az2 ?bz2 ?cz2 ?dz2 ?ez2
 case Tz2 =>
  intro hcz2 hkz2
  refine sk ?_
  refine sk ?_
  refine sk ?_
  refine sk ?_
  refine sk ?_
  refine sk ?_
  refine sk ?_
  refine sk ?_
  refine sk ?_
  refine hkz2 _ ?_
  repeat (first | exact Sub.refl _ | refine Sub.skip rfl ?_)
 case Fz2 =>
  intro hcz2 hkz2
  refine sp (OpV.fieldAddr rfl fo_96_2) ?_
  refine sp (OpV.loadBox rfl pt_23 (.head _) rfl) ?_
  refine sp (OpV.len rfl si_23 rfl) ?_
  refine sp (OpV.fieldAddr rfl fo_96_0) ?_
  refine sp (OpV.loadBox rfl pt_3 (.head _) rfl) ?_
  refine sp (OpV.fieldAddr rfl fo_96_1) ?_
  refine sp (OpV.loadBox rfl pt_3 (.head _) rfl) ?_
  refine sp (OpV.mulR rfl rfl) ?_
  refine sp (OpV.neq rfl rfl) ?_
  refine hkz2 _ ?_ ?_
  exact rfl
  repeat (first | exact Sub.refl _ | refine Sub.skip rfl ?_)
 case az2 => exact rfl
 case bz2 => exact rfl
 case cz2 => exact rfl
 case dz2 => exact rfl
 refine WL.nil (En.next ?_)
 refine WC.cond rfl ?_ ?_
 ·
  intro hc_1
  replace h := ifO_t hc_1 h
  refine WC.seq (WC.region ?_)
  refine sp (OpV.assign rfl) ?_
  refine WL.nil (En.next (WC.ret (En.then_ret ?_)))
  refine En.ret1 rfl (Res.tmp rfl) ?_
  obtain rfl := Option.some.inj h
  intro w' hs
  exact ⟨rfl, hs.below⟩
 ·
  intro hc_1
  replace h := ifO_f hc_1 h
  refine WC.skip (En.next (WC.seq (WC.seq (WC.region ?_))))
  refine sp (OpV.assign rfl) ?_
  refine WL.nil (En.next (WC.block ?_))
  obtain ⟨zy0, ezy0, h⟩ := bnd h
  refine WC.cut (X := (Unit) × (Unit)) (.exit 0) (fun x => zy0 = .inl x.1) (fun x => match x with | ((), ()) => []) (fun x => match x with | ((), ()) => []) ?_ ?_
  ·
   rintro ⟨⟨⟩, ⟨⟩⟩ hx
   replace hx : .inl () = zy0 := hx.symm
   subst hx
   replace h := fork_l h
   show En _ _ _ _ [] []
   refine En.block_exit (En.next (WC.seq (WC.region ?_)))
   refine sp (OpV.assign rfl) ?_
   refine WL.nil (En.next (WC.ret ?_))
   refine En.ret1 rfl (Res.tmp rfl) ?_
   obtain rfl := Option.some.inj h
   intro w' hs
   exact ⟨rfl, hs.below⟩
  ·
   intro zK0_0
   refine WC.loopP (G := Unit) (fun s g => match s, g with | k_0, () => [(1, .pointer (some ⟨b0_0, 0, .none⟩)), (3, .int .i64 k_0)]) (fun s g => match s, g with | k_0, () => [Chunk.box b0_0 96 [.int .i64 i_p0.W, .int .i64 i_p0.H, .slice q0_0 i_p0.Data.length k0_0]]) 0 () ezy0 (by exact Sub.cons rfl (Sub.cons rfl (Sub.nil _))) (by exact (fun _ h => h)) ?_
   rintro zm0 k_0 ⟨⟩ zo0 zf0 zb0 ze0
   have zh0 : spec_ImageOk_L0 i_p0 k_0 = some zo0 := zf0
   unfold spec_ImageOk_L0 at zh0
   show WC _ _ _ _ _ [(1, .pointer (some ⟨b0_0, 0, .none⟩)), (3, .int .i64 k_0)] [Chunk.box b0_0 96 [.int .i64 i_p0.W, .int .i64 i_p0.H, .slice q0_0 i_p0.Data.length k0_0]]
   refine WC.seq (WC.seq (WC.region ?_))
   refine sp (OpV.move rfl) ?_
   refine sp (OpV.fieldAddr rfl fo_96_2) ?_
   refine sp (OpV.loadBox rfl pt_23 (.head _) rfl) ?_
   refine sp (OpV.len rfl si_23 rfl) ?_
   refine sp (OpV.lss rfl rfl) ?_
   refine WL.nil (En.next ?_)
   refine WC.cond rfl ?_ ?_
   ·
    intro hc_2
    replace zh0 := ifO_t hc_2 zh0
    refine WC.skip (En.next (WC.seq (WC.block (WC.seq ?_))))
    obtain ⟨x6_3, e6_3, zh0⟩ := bnd zh0
    obtain ⟨g6_3, o6_3, _, ha6_3, rfl, hd6_3⟩ := Rd.atIdx r0_0 e6_3
    replace hd6_3 : ∀ (j : Nat) v, ([.int .i64 x6_3] : List Value)[j]? = some v → w.cell? ⟨g6_3, o6_3 + k_0.toNat * 1 + j, .none⟩ = some v := hd6_3
    obtain ⟨x6_5, e6_5, zh0⟩ := bnd zh0
    refine WC.region ?_
    refine sp (OpV.fieldAddr rfl fo_96_2) ?_
    refine sp (OpV.loadBox rfl pt_23 (.head _) rfl) ?_
    refine sp (OpV.move rfl) ?_
    refine sp (OpV.idxA rfl rfl se_23 ha6_3 ⟨(idx_some e6_3).1, (idx_some e6_3).2.1⟩) ?_
    refine sp (OpV.load1 rfl pt_3 (fun w hs => hs.cell (hd6_3 0 _ rfl))) ?_
    refine sp (OpV.call (evs.cons rfl (evs.nil)) ca_100 (fun w hs => w_spec_l04Pixel e6_5)) ?_
    refine sp (OpV.not rfl) ?_
    refine WL.nil (En.next ?_)
    refine WC.cond rfl ?_ ?_
    ·
     intro hc_3
     replace zh0 := ifO_t hc_3 zh0
     refine WC.seq (WC.region ?_)
     refine sp (OpV.assign rfl) ?_
     refine WL.nil (En.next (WC.ret (En.block_ret (En.then_ret (En.then_ret (En.block_ret (En.then_ret ?_)))))))
     refine En.ret1 rfl (Res.tmp rfl) ?_
     have hx := exitP ze0 zh0
     subst hx
     replace h := fork_r h
     obtain rfl := Option.some.inj h
     intro w' hs
     exact ⟨rfl, hs.below⟩
    ·
     intro hc_3
     replace zh0 := ifO_f hc_3 zh0
     refine WC.skip (En.block_norm (En.next (WC.region ?_)))
     refine sp (OpV.move rfl) ?_
     refine sp (OpV.addR rfl rfl) ?_
     refine sp (OpV.assign rfl) ?_
     refine WL.nil ?_
     exact En.backP zb0 zh0 () (Sub.cons rfl (Sub.cons rfl (Sub.nil _))) (fun _ h => h)
   ·
    intro hc_2
    replace zh0 := ifO_f hc_2 zh0
    refine WC.exit (En.then_exit (En.then_exit ?_))
    have hx := exitP ze0 zh0
    exact En.wk _ _ (Sub.nil _) (fun _ h => (h).sub (.cons _ (.slnil))) (zK0_0 ((), ()) hx.symm)

theorem w_spec_StoreImage {a_p0 : ImageT} {a_p1 : Int} {r : (List Int) × Bool} {q0_0 : Option Addr} {n0_0 k0_0 : Nat} (h : spec_StoreImage a_p0 a_p1 = some r) {w : World} (r0_0 : Rd tInt w q0_0 n0_0 k0_0 a_p0.Data)   :
    Calls Tryz.prog 193 #[.agg #[.int .i64 a_p0.W, .int .i64 a_p0.H, .slice q0_0 n0_0 k0_0], .int .i64 a_p1] w (fun en w' => ∃ rv G, en = .returned rv ∧ (∃ (a0_0 : Option Addr) (n0_0 : Nat) (c0_0 : Nat) (f0_0 : List Nat), rv = .tuple #[.slice a0_0 n0_0 c0_0, .bool r.2] ∧ G = [Chunk.own tInt f0_0 a0_0 n0_0 c0_0 r.1]) ∧ St w G w') := by
 obtain rfl := r0_0.1
 unfold spec_StoreImage at h
 refine enter (vs := [_, _]) Tryz.func193 rfl rfl rfl rfl ?_
 refine WC.seq (WC.region ?_)
 refine WL.heavy rfl rfl rfl (OpH.box rfl rfl ?_)
 intro b0_0
 refine sp (OpV.assign rfl) ?_
 refine sp (OpV.assign rfl) ?_
 refine WL.nil (En.next (WC.seq (WC.seq ?_)))
 obtain ⟨x1_1, e1_1, h⟩ := bnd h
 obtain ⟨q1_7, e1_7, h⟩ := bnd h
 refine WC.region ?_
 refine sp (OpV.loadAll rfl (.head _) ag_96) ?_
 refine sp (OpV.call (evs.cons rfl (evs.nil)) ca_168 (fun w hs => w_spec_ImageOk e1_1 (r0_0.ext hs.below))) ?_
 refine sp (OpV.not rfl) ?_
 refine sp (OpV.move rfl) ?_
 refine Lt.ofWL.orQ 16 20 19 (p := ?pz1) (rest := ?qz1) (B := q1_7) rfl (fun hz => orO_t e1_7 hz) ?Tz1 ?Fz1 ?az1 ?bz1 ?cz1 ?dz1 ?ez1
 case Tz1 =>
  intro hcz1 hkz1
  refine sk ?_
  refine sk ?_
  refine sk ?_
  refine hkz1 _ ?_
  repeat (first | exact Sub.refl _ | refine Sub.skip rfl ?_)
 case Fz1 =>
  intro hcz1 hkz1
  have hqz1 := orO_f e1_7 hcz1
  obtain ⟨x1_5, e1_5, hqz1⟩ := bnd hqz1
  obtain rfl := Option.some.inj hqz1
  refine sp (OpV.move rfl) ?_
  refine sp (OpV.call (evs.cons rfl (evs.cons rfl (evs.cons rfl (evs.nil)))) ca_88 (fun w hs => w_spec_l01In e1_5)) ?_
  refine sp (OpV.not rfl) ?_
  refine hkz1 _ ?_ ?_
  exact rfl
  repeat (first | exact Sub.refl _ | refine Sub.skip rfl ?_)
 case az1 => exact rfl
 case bz1 => exact rfl
 case cz1 => exact rfl
 case dz1 => exact rfl
 refine WL.nil (En.next ?_)
 refine WC.cond rfl ?_ ?_
 ·
  intro hc_1
  replace h := ifO_t hc_1 h
  refine WC.seq (WC.region ?_)
  refine WL.heavy rfl rfl rfl (OpH.lit0 (A := tInt) (evps.nil) bs_23_0_ ?_)
  intro b2_0
  refine sp (OpV.assign rfl) ?_
  refine sp (OpV.assign rfl) ?_
  refine WL.nil (En.next (WC.ret (En.then_ret ?_)))
  refine En.ret2 rfl (Res.tmp rfl) (Res.tmp rfl) ?_
  obtain rfl := Option.some.inj h
  intro w' hs
  have hs := (hs).sub (.cons_cons _ (.cons _ (.slnil)))
  exact ⟨_, _, rfl, ⟨(some ⟨b2_0, 0, .none⟩), 0, 0, [b2_0], rfl, rfl⟩, hs⟩
 ·
  intro hc_1
  replace h := ifO_f hc_1 h
  refine WC.skip (En.next (WC.seq (WC.seq (WC.region ?_))))
  refine sp (OpV.move rfl) ?_
  refine sp (OpV.eql rfl rfl) ?_
  refine WL.nil (En.next ?_)
  refine WC.cond rfl ?_ ?_
  ·
   intro hc_2
   replace h := ifO_t hc_2 h
   refine WC.seq (WC.region ?_)
   refine WL.heavy rfl rfl rfl (OpH.lit0 (A := tInt) (evps.nil) bs_23_0_ ?_)
   intro b4_0
   refine sp (OpV.assign rfl) ?_
   refine WL.nil (En.next (WC.seq (WC.seq (WC.region ?_))))
   refine sp (OpV.assign rfl) ?_
   refine WL.nil (En.next (WC.block ?_))
   obtain ⟨zy0, ezy0, h⟩ := bnd h
   refine WC.cut (X := ((List Int)) × ((Option Addr) × Nat × Nat × (List Nat))) (.exit 0) (fun x => zy0 = x.1) (fun x => match x with | (v_0e, (av_0e, nv_0e, cv_0e, fv_0e)) => [(6, .slice av_0e nv_0e cv_0e)]) (fun x => match x with | (v_0e, (av_0e, nv_0e, cv_0e, fv_0e)) => [Chunk.own tInt fv_0e av_0e nv_0e cv_0e v_0e]) ?_ ?_
   ·
    rintro ⟨v_0e, ⟨av_0e, nv_0e, cv_0e, fv_0e⟩⟩ hx
    replace hx : v_0e = zy0 := hx.symm
    subst hx
    show En _ _ _ _ [(6, .slice av_0e nv_0e cv_0e)] [Chunk.own tInt fv_0e av_0e nv_0e cv_0e v_0e]
    refine En.block_exit (En.next (WC.seq (WC.region ?_)))
    refine sp (OpV.move rfl) ?_
    refine sp (OpV.assign rfl) ?_
    refine sp (OpV.assign rfl) ?_
    refine WL.nil (En.next (WC.ret (En.then_ret ?_)))
    refine En.ret2 rfl (Res.tmp rfl) (Res.tmp rfl) ?_
    obtain rfl := Option.some.inj h
    intro w' hs
    have hs := hs
    exact ⟨_, _, rfl, ⟨av_0e, nv_0e, cv_0e, fv_0e, rfl, rfl⟩, hs⟩
   ·
    intro zK0_0
    refine WC.loopP (G := (Option Addr) × Nat × Nat × (List Nat)) (fun s g => match s, g with | (v_0, v1_0), (av_0, nv_0, cv_0, fv_0) => [(2, .pointer (some ⟨b0_0, 0, .none⟩)), (6, .slice av_0 nv_0 cv_0), (7, .int .i64 v1_0)]) (fun s g => match s, g with | (v_0, v1_0), (av_0, nv_0, cv_0, fv_0) => [Chunk.box b0_0 96 [.int .i64 a_p0.W, .int .i64 a_p0.H, .slice q0_0 a_p0.Data.length k0_0], Chunk.own tInt fv_0 av_0 nv_0 cv_0 v_0]) (([] : List Int), 0) ((some ⟨b4_0, 0, .none⟩), 0, 0, [b4_0]) ezy0 (by exact Sub.cons rfl (Sub.cons rfl (Sub.cons rfl (Sub.nil _)))) (by exact (fun _ h => (h).perm (List.perm_middle (l₁ := [_])))) ?_
    rintro zm0 ⟨v_0, v1_0⟩ ⟨av_0, nv_0, cv_0, fv_0⟩ zo0 zf0 zb0 ze0
    have zh0 : spec_StoreImage_L0 a_p0 v_0 v1_0 = some zo0 := zf0
    unfold spec_StoreImage_L0 at zh0
    show WC _ _ _ _ _ [(2, .pointer (some ⟨b0_0, 0, .none⟩)), (6, .slice av_0 nv_0 cv_0), (7, .int .i64 v1_0)] [Chunk.box b0_0 96 [.int .i64 a_p0.W, .int .i64 a_p0.H, .slice q0_0 a_p0.Data.length k0_0], Chunk.own tInt fv_0 av_0 nv_0 cv_0 v_0]
    refine WC.seq (WC.seq (WC.region ?_))
    refine sp (OpV.move rfl) ?_
    refine sp (OpV.fieldAddr rfl fo_96_1) ?_
    refine sp (OpV.loadBox rfl pt_3 (.head _) rfl) ?_
    refine sp (OpV.lss rfl rfl) ?_
    refine WL.nil (En.next ?_)
    refine WC.cond rfl ?_ ?_
    ·
     intro hc_3
     replace zh0 := ifO_t hc_3 zh0
     refine WC.skip (En.next (WC.seq (WC.block (WC.seq (WC.region ?_)))))
     refine sp (OpV.assign rfl) ?_
     refine WL.nil (En.next (WC.block ?_))
     obtain ⟨zy1, ezy1, zh0⟩ := bnd zh0
     refine WC.cut (X := ((List Int)) × ((Option Addr) × Nat × Nat × (List Nat))) (.exit 2) (fun x => zy1 = x.1) (fun x => match x with | (v_1e, (av_1e, nv_1e, cv_1e, fv_1e)) => [(2, .pointer (some ⟨b0_0, 0, .none⟩)), (6, .slice av_1e nv_1e cv_1e), (7, .int .i64 v1_0)]) (fun x => match x with | (v_1e, (av_1e, nv_1e, cv_1e, fv_1e)) => [Chunk.box b0_0 96 [.int .i64 a_p0.W, .int .i64 a_p0.H, .slice q0_0 a_p0.Data.length k0_0], Chunk.own tInt fv_1e av_1e nv_1e cv_1e v_1e]) ?_ ?_
     ·
      rintro ⟨v_1e, ⟨av_1e, nv_1e, cv_1e, fv_1e⟩⟩ hx
      replace hx : v_1e = zy1 := hx.symm
      subst hx
      show En _ _ _ _ [(2, .pointer (some ⟨b0_0, 0, .none⟩)), (6, .slice av_1e nv_1e cv_1e), (7, .int .i64 v1_0)] [Chunk.box b0_0 96 [.int .i64 a_p0.W, .int .i64 a_p0.H, .slice q0_0 a_p0.Data.length k0_0], Chunk.own tInt fv_1e av_1e nv_1e cv_1e v_1e]
      refine En.block_exit (En.block_norm (En.next (WC.region ?_)))
      refine sp (OpV.move rfl) ?_
      refine sp (OpV.addR rfl rfl) ?_
      refine sp (OpV.assign rfl) ?_
      refine WL.nil ?_
      exact En.backP zb0 zh0 (av_1e, nv_1e, cv_1e, fv_1e) (Sub.cons rfl (Sub.cons rfl (Sub.cons rfl (Sub.nil _)))) (fun _ h => h)
     ·
      intro zK1_0
      refine WC.loopP (G := (Option Addr) × Nat × Nat × (List Nat)) (fun s g => match s, g with | (v_1, v1_1), (av_1, nv_1, cv_1, fv_1) => [(2, .pointer (some ⟨b0_0, 0, .none⟩)), (6, .slice av_1 nv_1 cv_1), (7, .int .i64 v1_0), (8, .int .i64 v1_1)]) (fun s g => match s, g with | (v_1, v1_1), (av_1, nv_1, cv_1, fv_1) => [Chunk.box b0_0 96 [.int .i64 a_p0.W, .int .i64 a_p0.H, .slice q0_0 a_p0.Data.length k0_0], Chunk.own tInt fv_1 av_1 nv_1 cv_1 v_1]) (v_0, 0) (av_0, nv_0, cv_0, fv_0) ezy1 (by exact Sub.cons rfl (Sub.cons rfl (Sub.cons rfl (Sub.cons rfl (Sub.nil _))))) (by exact (fun _ h => h)) ?_
      rintro zm1 ⟨v_1, v1_1⟩ ⟨av_1, nv_1, cv_1, fv_1⟩ zo1 zf1 zb1 ze1
      have zh1 : spec_StoreImage_L1 a_p0 v1_0 v_1 v1_1 = some zo1 := zf1
      unfold spec_StoreImage_L1 at zh1
      show WC _ _ _ _ _ [(2, .pointer (some ⟨b0_0, 0, .none⟩)), (6, .slice av_1 nv_1 cv_1), (7, .int .i64 v1_0), (8, .int .i64 v1_1)] [Chunk.box b0_0 96 [.int .i64 a_p0.W, .int .i64 a_p0.H, .slice q0_0 a_p0.Data.length k0_0], Chunk.own tInt fv_1 av_1 nv_1 cv_1 v_1]
      refine WC.seq (WC.seq (WC.region ?_))
      refine sp (OpV.move rfl) ?_
      refine sp (OpV.fieldAddr rfl fo_96_0) ?_
      refine sp (OpV.loadBox rfl pt_3 (.head _) rfl) ?_
      refine sp (OpV.lss rfl rfl) ?_
      refine WL.nil (En.next ?_)
      refine WC.cond rfl ?_ ?_
      ·
       intro hc_4
       replace zh1 := ifO_t hc_4 zh1
       refine WC.skip (En.next (WC.block (WC.seq (WC.region ?_))))
       refine sp (OpV.assign rfl) ?_
       refine WL.nil (En.next (WC.seq (WC.block ?_)))
       obtain ⟨zy2, ezy2, zh1⟩ := bnd zh1
       refine WC.cut (X := (Int) × (Unit)) (.exit 4) (fun x => zy2 = x.1) (fun x => match x with | (v_2e, ()) => [(2, .pointer (some ⟨b0_0, 0, .none⟩)), (6, .slice av_1 nv_1 cv_1), (7, .int .i64 v1_0), (8, .int .i64 v1_1), (9, .int .i64 v_2e)]) (fun x => match x with | (v_2e, ()) => [Chunk.box b0_0 96 [.int .i64 a_p0.W, .int .i64 a_p0.H, .slice q0_0 a_p0.Data.length k0_0], Chunk.own tInt fv_1 av_1 nv_1 cv_1 v_1]) ?_ ?_
       ·
        rintro ⟨v_2e, ⟨⟩⟩ hx
        replace hx : v_2e = zy2 := hx.symm
        subst hx
        show En _ _ _ _ [(2, .pointer (some ⟨b0_0, 0, .none⟩)), (6, .slice av_1 nv_1 cv_1), (7, .int .i64 v1_0), (8, .int .i64 v1_1), (9, .int .i64 v_2e)] [Chunk.box b0_0 96 [.int .i64 a_p0.W, .int .i64 a_p0.H, .slice q0_0 a_p0.Data.length k0_0], Chunk.own tInt fv_1 av_1 nv_1 cv_1 v_1]
        refine En.block_exit (En.next (WC.seq ?_))
        obtain ⟨x13_10, e13_10, zh1⟩ := bnd zh1
        obtain ⟨g13_10, o13_10, _, ha13_10, rfl, hd13_10⟩ := Rd.atIdx r0_0 e13_10
        replace hd13_10 : ∀ (j : Nat) v, ([.int .i64 x13_10] : List Value)[j]? = some v → w.cell? ⟨g13_10, o13_10 + (wr ((wr (v1_0 * a_p0.W)) + v1_1)).toNat * 1 + j, .none⟩ = some v := hd13_10
        obtain ⟨x13_13, e13_13, zh1⟩ := bnd zh1
        refine WC.region ?_
        refine sp (OpV.move rfl) ?_
        refine sp (OpV.move rfl) ?_
        refine sp (OpV.fieldAddr rfl fo_96_2) ?_
        refine sp (OpV.loadBox rfl pt_23 (.head _) rfl) ?_
        refine sp (OpV.move rfl) ?_
        refine sp (OpV.fieldAddr rfl fo_96_0) ?_
        refine sp (OpV.loadBox rfl pt_3 (.head _) rfl) ?_
        refine sp (OpV.mulR rfl rfl) ?_
        refine sp (OpV.move rfl) ?_
        refine sp (OpV.addR rfl rfl) ?_
        refine sp (OpV.idxA rfl rfl se_23 ha13_10 ⟨(idx_some e13_10).1, (idx_some e13_10).2.1⟩) ?_
        refine sp (OpV.load1 rfl pt_3 (fun w hs => hs.cell (hd13_10 0 _ rfl))) ?_
        refine WL.heavy rfl rfl rfl (OpH.litF (A := tInt) (xs := [v_2e, x13_10]) tInt_flat (evps.cons rfl (evps.cons rfl (evps.nil))) (bs_23_2_0_1 _ _) rfl rfl (Nat.le_of_ble_eq_true rfl) ?_)
        intro b13_12
        refine WL.heavy rfl rfl rfl (OpH.appS (F := [_, _]) (A := tInt) tInt_flat rfl rfl rfl mi_23 rfl (by decide) (fun w hs => (Ow.rd (hs.mem (.head _)))) e13_13 ?_)
        intro f13_13 a13_13 c13_13
        refine sp (OpV.assign rfl) ?_
        refine WL.nil (En.next (WC.region ?_))
        refine sp (OpV.move rfl) ?_
        refine sp (OpV.move rfl) ?_
        refine sp (OpV.addR rfl rfl) ?_
        refine sp (OpV.assign rfl) ?_
        refine WL.nil (En.block_norm ?_)
        exact En.backP zb1 zh1 (a13_13, x13_13.length, c13_13, f13_13) (Sub.cons rfl (Sub.cons rfl (Sub.cons rfl (Sub.cons rfl (Sub.nil _))))) (fun _ h => (((h).perm (List.perm_middle (l₁ := [_, _]))).perm (List.perm_middle (l₁ := [_, _]))).sub (.cons_cons _ (.cons_cons _ (.cons _ (.slnil)))))
       ·
        intro zK2_0
        refine WC.loopP (G := Unit) (fun s g => match s, g with | v_2, () => [(2, .pointer (some ⟨b0_0, 0, .none⟩)), (6, .slice av_1 nv_1 cv_1), (7, .int .i64 v1_0), (8, .int .i64 v1_1), (9, .int .i64 v_2)]) (fun s g => match s, g with | v_2, () => [Chunk.box b0_0 96 [.int .i64 a_p0.W, .int .i64 a_p0.H, .slice q0_0 a_p0.Data.length k0_0], Chunk.own tInt fv_1 av_1 nv_1 cv_1 v_1]) 1 () ezy2 (by exact Sub.cons rfl (Sub.cons rfl (Sub.cons rfl (Sub.cons rfl (Sub.cons rfl (Sub.nil _)))))) (by exact (fun _ h => h)) ?_
        rintro zm2 v_2 ⟨⟩ zo2 zf2 zb2 ze2
        have zh2 : spec_StoreImage_L2 a_p0 v1_0 v1_1 v_2 = some zo2 := zf2
        unfold spec_StoreImage_L2 at zh2
        show WC _ _ _ _ _ [(2, .pointer (some ⟨b0_0, 0, .none⟩)), (6, .slice av_1 nv_1 cv_1), (7, .int .i64 v1_0), (8, .int .i64 v1_1), (9, .int .i64 v_2)] [Chunk.box b0_0 96 [.int .i64 a_p0.W, .int .i64 a_p0.H, .slice q0_0 a_p0.Data.length k0_0], Chunk.own tInt fv_1 av_1 nv_1 cv_1 v_1]
        refine WC.seq (WC.seq ?_)
        obtain ⟨q11_30, e11_30, zh2⟩ := bnd zh2
        refine WC.drawn [(2, ?r11v2), (6, ?r11v6), (7, ?r11v7), (8, ?r11v8), (9, ?r11v9), (65, ?r11v65)] (by kernel_rfl) (by kernel_rfl) ?dH11 ?dK11
        case dH11 =>
         intro W hW hk
         refine hW.step rfl rfl rfl (OpV.move rfl) ?_
         refine hW.step rfl rfl rfl (OpV.move rfl) ?_
         refine hW.step rfl rfl rfl (OpV.addR rfl rfl) ?_
         refine hW.step rfl rfl rfl (OpV.fieldAddr rfl fo_96_0) ?_
         refine hW.step rfl rfl rfl (OpV.loadBox rfl pt_3 (.head _) rfl) ?_
         refine hW.step rfl rfl rfl (OpV.lss rfl rfl) ?_
         refine hW.step rfl rfl rfl (OpV.move rfl) ?_
         refine hW.andQ 41 65 64 (p := ?pz2) (rest := ?qz2) (B := q11_30) rfl (fun hz => andO_f e11_30 hz) ?Tz2 ?Fz2 ?az2 ?bz2 ?cz2 ?dz2 ?ez2
         case Tz2 =>
          intro hcz2 hkz2
          have hqz2 := andO_t e11_30 hcz2
          obtain ⟨x11_17, e11_17, hqz2⟩ := bnd hqz2
          obtain ⟨g11_17, o11_17, _, ha11_17, rfl, hd11_17⟩ := Rd.atIdx r0_0 e11_17
          replace hd11_17 : ∀ (j : Nat) v, ([.int .i64 x11_17] : List Value)[j]? = some v → w.cell? ⟨g11_17, o11_17 + (wr ((wr ((wr (v1_0 * a_p0.W)) + v1_1)) + v_2)).toNat * 1 + j, .none⟩ = some v := hd11_17
          obtain ⟨x11_27, e11_27, hqz2⟩ := bnd hqz2
          obtain ⟨g11_27, o11_27, _, ha11_27, rfl, hd11_27⟩ := Rd.atIdx r0_0 e11_27
          replace hd11_27 : ∀ (j : Nat) v, ([.int .i64 x11_27] : List Value)[j]? = some v → w.cell? ⟨g11_27, o11_27 + (wr ((wr (v1_0 * a_p0.W)) + v1_1)).toNat * 1 + j, .none⟩ = some v := hd11_27
          obtain rfl := Option.some.inj hqz2
          refine hW.step rfl rfl rfl (OpV.fieldAddr rfl fo_96_2) ?_
          refine hW.step rfl rfl rfl (OpV.loadBox rfl pt_23 (.head _) rfl) ?_
          refine hW.step rfl rfl rfl (OpV.move rfl) ?_
          refine hW.step rfl rfl rfl (OpV.fieldAddr rfl fo_96_0) ?_
          refine hW.step rfl rfl rfl (OpV.loadBox rfl pt_3 (.head _) rfl) ?_
          refine hW.step rfl rfl rfl (OpV.mulR rfl rfl) ?_
          refine hW.step rfl rfl rfl (OpV.move rfl) ?_
          refine hW.step rfl rfl rfl (OpV.addR rfl rfl) ?_
          refine hW.step rfl rfl rfl (OpV.move rfl) ?_
          refine hW.step rfl rfl rfl (OpV.addR rfl rfl) ?_
          refine hW.step rfl rfl rfl (OpV.idxA rfl rfl se_23 ha11_17 ⟨(idx_some e11_17).1, (idx_some e11_17).2.1⟩) ?_
          refine hW.step rfl rfl rfl (OpV.load1 rfl pt_3 (fun w hs => hs.cell (hd11_17 0 _ rfl))) ?_
          refine hW.step rfl rfl rfl (OpV.fieldAddr rfl fo_96_2) ?_
          refine hW.step rfl rfl rfl (OpV.loadBox rfl pt_23 (.head _) rfl) ?_
          refine hW.step rfl rfl rfl (OpV.move rfl) ?_
          refine hW.step rfl rfl rfl (OpV.fieldAddr rfl fo_96_0) ?_
          refine hW.step rfl rfl rfl (OpV.loadBox rfl pt_3 (.head _) rfl) ?_
          refine hW.step rfl rfl rfl (OpV.mulR rfl rfl) ?_
          refine hW.step rfl rfl rfl (OpV.move rfl) ?_
          refine hW.step rfl rfl rfl (OpV.addR rfl rfl) ?_
          refine hW.step rfl rfl rfl (OpV.idxA rfl rfl se_23 ha11_27 ⟨(idx_some e11_27).1, (idx_some e11_27).2.1⟩) ?_
          refine hW.step rfl rfl rfl (OpV.load1 rfl pt_3 (fun w hs => hs.cell (hd11_27 0 _ rfl))) ?_
          refine hW.step rfl rfl rfl (OpV.eql rfl rfl) ?_
          refine hkz2 _ ?_ ?_
          exact rfl
          repeat (first | exact Sub.refl _ | refine Sub.skip rfl ?_)
         case Fz2 =>
          intro hcz2 hkz2
          refine hW.skip rfl rfl rfl ?_
          refine hW.skip rfl rfl rfl ?_
          refine hW.skip rfl rfl rfl ?_
          refine hW.skip rfl rfl rfl ?_
          refine hW.skip rfl rfl rfl ?_
          refine hW.skip rfl rfl rfl ?_
          refine hW.skip rfl rfl rfl ?_
          refine hW.skip rfl rfl rfl ?_
          refine hW.skip rfl rfl rfl ?_
          refine hW.skip rfl rfl rfl ?_
          refine hW.skip rfl rfl rfl ?_
          refine hW.skip rfl rfl rfl ?_
          refine hW.skip rfl rfl rfl ?_
          refine hW.skip rfl rfl rfl ?_
          refine hW.skip rfl rfl rfl ?_
          refine hW.skip rfl rfl rfl ?_
          refine hW.skip rfl rfl rfl ?_
          refine hW.skip rfl rfl rfl ?_
          refine hW.skip rfl rfl rfl ?_
          refine hW.skip rfl rfl rfl ?_
          refine hW.skip rfl rfl rfl ?_
          refine hW.skip rfl rfl rfl ?_
          refine hW.skip rfl rfl rfl ?_
          refine hkz2 _ ?_
          repeat (first | exact Sub.refl _ | refine Sub.skip rfl ?_)
         case az2 => exact rfl
         case bz2 => exact rfl
         case cz2 => exact rfl
         case dz2 => exact rfl
         refine hk _ ?_
         refine Sub.cons ?_ (Sub.cons ?_ (Sub.cons ?_ (Sub.cons ?_ (Sub.cons ?_ (Sub.cons ?_ (Sub.nil _))))))
         all_goals exact rfl
        refine En.next ?_
        refine WC.cond rfl ?_ ?_
        ·
         intro hc_5
         replace zh2 := ifO_t hc_5 zh2
         refine WC.skip (En.next (WC.block (WC.region ?_)))
         refine sp (OpV.move rfl) ?_
         refine sp (OpV.addR rfl rfl) ?_
         refine sp (OpV.assign rfl) ?_
         refine WL.nil (En.block_norm ?_)
         exact En.backP zb2 zh2 () (Sub.cons rfl (Sub.cons rfl (Sub.cons rfl (Sub.cons rfl (Sub.cons rfl (Sub.nil _)))))) (fun _ h => h)
        ·
         intro hc_5
         replace zh2 := ifO_f hc_5 zh2
         refine WC.exit (En.then_exit (En.then_exit ?_))
         have hx := exitP ze2 zh2
         exact En.wk _ _ (Sub.cons rfl (Sub.cons rfl (Sub.cons rfl (Sub.cons rfl (Sub.cons rfl (Sub.nil _)))))) (fun _ h => h) (zK2_0 (v_2, ()) hx.symm)
      ·
       intro hc_4
       replace zh1 := ifO_f hc_4 zh1
       refine WC.exit (En.then_exit (En.then_exit ?_))
       have hx := exitP ze1 zh1
       exact En.wk _ _ (Sub.cons rfl (Sub.cons rfl (Sub.cons rfl (Sub.nil _)))) (fun _ h => h) (zK1_0 (v_1, (av_1, nv_1, cv_1, fv_1)) hx.symm)
    ·
     intro hc_3
     replace zh0 := ifO_f hc_3 zh0
     refine WC.exit (En.then_exit (En.then_exit ?_))
     have hx := exitP ze0 zh0
     exact En.wk _ _ (Sub.cons rfl (Sub.nil _)) (fun _ h => ((h).perm (List.perm_middle (l₁ := [_]))).sub (.cons_cons _ (.cons _ (.slnil)))) (zK0_0 (v_0, (av_0, nv_0, cv_0, fv_0)) hx.symm)
  ·
   intro hc_2
   replace h := ifO_f hc_2 h
   refine WC.skip (En.next (WC.seq ?_))
   obtain ⟨x16_5, e16_5, h⟩ := bnd h
   obtain ⟨x16_6, e16_6, h⟩ := bnd h
   refine WC.region ?_
   refine sp (OpV.fieldAddr rfl fo_96_0) ?_
   refine sp (OpV.loadBox rfl pt_3 (.head _) rfl) ?_
   refine sp (OpV.fieldAddr rfl fo_96_1) ?_
   refine sp (OpV.loadBox rfl pt_3 (.head _) rfl) ?_
   refine sp (OpV.move rfl) ?_
   refine sp (OpV.call (evs.cons rfl (evs.cons rfl (evs.cons rfl (evs.nil)))) ca_201 (fun w hs => w_spec_WordCount e16_5)) ?_
   refine WL.heavy rfl rfl rfl (OpH.makeO (A := tInt) rfl rfl mi_23 (fun w => tInt_flat.ow w 0) (by decide) e16_6 ⟨Int.le_refl _, (mkO_some e16_6).1.2⟩ ?_)
   intro b16_6
   refine sp (OpV.assign rfl) ?_
   refine WL.nil (En.next (WC.seq (WC.seq (WC.region ?_))))
   refine sp (OpV.assign rfl) ?_
   refine WL.nil (En.next (WC.block ?_))
   obtain ⟨zy3, ezy3, h⟩ := bnd h
   refine WC.cut (X := ((List Int)) × ((List Nat))) (.exit 6) (fun x => zy3 = x.1) (fun x => match x with | (v_3e, fv_3e) => [(10, .slice (some ⟨b16_6, 0, .none⟩) x16_6.length x16_5.toNat)]) (fun x => match x with | (v_3e, fv_3e) => [Chunk.own tInt fv_3e (some ⟨b16_6, 0, .none⟩) x16_6.length x16_5.toNat v_3e]) ?_ ?_
   ·
    rintro ⟨v_3e, fv_3e⟩ hx
    replace hx : v_3e = zy3 := hx.symm
    subst hx
    show En _ _ _ _ [(10, .slice (some ⟨b16_6, 0, .none⟩) x16_6.length x16_5.toNat)] [Chunk.own tInt fv_3e (some ⟨b16_6, 0, .none⟩) x16_6.length x16_5.toNat v_3e]
    refine En.block_exit (En.next (WC.seq (WC.region ?_)))
    refine sp (OpV.move rfl) ?_
    refine sp (OpV.assign rfl) ?_
    refine sp (OpV.assign rfl) ?_
    refine WL.nil (En.next (WC.ret ?_))
    refine En.ret2 rfl (Res.tmp rfl) (Res.tmp rfl) ?_
    obtain rfl := Option.some.inj h
    intro w' hs
    have hs := hs
    exact ⟨_, _, rfl, ⟨(some ⟨b16_6, 0, .none⟩), x16_6.length, x16_5.toNat, fv_3e, rfl, rfl⟩, hs⟩
   ·
    intro zK3_0
    refine WC.loopP (G := (List Nat)) (fun s g => match s, g with | (v_3, v1_3), fv_3 => [(1, .int .i64 a_p1), (2, .pointer (some ⟨b0_0, 0, .none⟩)), (10, .slice (some ⟨b16_6, 0, .none⟩) x16_6.length x16_5.toNat), (11, .int .i64 v1_3)]) (fun s g => match s, g with | (v_3, v1_3), fv_3 => [Chunk.box b0_0 96 [.int .i64 a_p0.W, .int .i64 a_p0.H, .slice q0_0 a_p0.Data.length k0_0], Chunk.own tInt fv_3 (some ⟨b16_6, 0, .none⟩) x16_6.length x16_5.toNat v_3]) (x16_6, 0) [b16_6] ezy3 (by exact Sub.cons rfl (Sub.cons rfl (Sub.cons rfl (Sub.cons rfl (Sub.nil _))))) (by exact (fun _ h => (h).perm (List.perm_middle (l₁ := [_])))) ?_
    rintro zm3 ⟨v_3, v1_3⟩ fv_3 zo3 zf3 zb3 ze3
    have zh3 : spec_StoreImage_L3 a_p0 a_p1 v_3 v1_3 = some zo3 := zf3
    unfold spec_StoreImage_L3 at zh3
    show WC _ _ _ _ _ [(1, .int .i64 a_p1), (2, .pointer (some ⟨b0_0, 0, .none⟩)), (10, .slice (some ⟨b16_6, 0, .none⟩) x16_6.length x16_5.toNat), (11, .int .i64 v1_3)] [Chunk.box b0_0 96 [.int .i64 a_p0.W, .int .i64 a_p0.H, .slice q0_0 a_p0.Data.length k0_0], Chunk.own tInt fv_3 (some ⟨b16_6, 0, .none⟩) x16_6.length x16_5.toNat v_3]
    refine WC.seq (WC.seq (WC.region ?_))
    refine sp (OpV.move rfl) ?_
    refine sp (OpV.fieldAddr rfl fo_96_1) ?_
    refine sp (OpV.loadBox rfl pt_3 (.head _) rfl) ?_
    refine sp (OpV.lss rfl rfl) ?_
    refine WL.nil (En.next ?_)
    refine WC.cond rfl ?_ ?_
    ·
     intro hc_6
     replace zh3 := ifO_t hc_6 zh3
     refine WC.skip (En.next (WC.seq (WC.block (WC.seq (WC.region ?_)))))
     refine sp (OpV.assign rfl) ?_
     refine WL.nil (En.next (WC.block ?_))
     obtain ⟨zy4, ezy4, zh3⟩ := bnd zh3
     refine WC.cut (X := ((List Int)) × ((List Nat))) (.exit 8) (fun x => zy4 = x.1) (fun x => match x with | (v_4e, fv_4e) => [(1, .int .i64 a_p1), (2, .pointer (some ⟨b0_0, 0, .none⟩)), (10, .slice (some ⟨b16_6, 0, .none⟩) x16_6.length x16_5.toNat), (11, .int .i64 v1_3)]) (fun x => match x with | (v_4e, fv_4e) => [Chunk.box b0_0 96 [.int .i64 a_p0.W, .int .i64 a_p0.H, .slice q0_0 a_p0.Data.length k0_0], Chunk.own tInt fv_4e (some ⟨b16_6, 0, .none⟩) x16_6.length x16_5.toNat v_4e]) ?_ ?_
     ·
      rintro ⟨v_4e, fv_4e⟩ hx
      replace hx : v_4e = zy4 := hx.symm
      subst hx
      show En _ _ _ _ [(1, .int .i64 a_p1), (2, .pointer (some ⟨b0_0, 0, .none⟩)), (10, .slice (some ⟨b16_6, 0, .none⟩) x16_6.length x16_5.toNat), (11, .int .i64 v1_3)] [Chunk.box b0_0 96 [.int .i64 a_p0.W, .int .i64 a_p0.H, .slice q0_0 a_p0.Data.length k0_0], Chunk.own tInt fv_4e (some ⟨b16_6, 0, .none⟩) x16_6.length x16_5.toNat v_4e]
      refine En.block_exit (En.block_norm (En.next (WC.region ?_)))
      refine sp (OpV.move rfl) ?_
      refine sp (OpV.addR rfl rfl) ?_
      refine sp (OpV.assign rfl) ?_
      refine WL.nil ?_
      exact En.backP zb3 zh3 fv_4e (Sub.cons rfl (Sub.cons rfl (Sub.cons rfl (Sub.cons rfl (Sub.nil _))))) (fun _ h => h)
     ·
      intro zK4_0
      refine WC.loopP (G := (List Nat)) (fun s g => match s, g with | (v_4, v1_4), fv_4 => [(1, .int .i64 a_p1), (2, .pointer (some ⟨b0_0, 0, .none⟩)), (10, .slice (some ⟨b16_6, 0, .none⟩) x16_6.length x16_5.toNat), (11, .int .i64 v1_3), (12, .int .i64 v1_4)]) (fun s g => match s, g with | (v_4, v1_4), fv_4 => [Chunk.box b0_0 96 [.int .i64 a_p0.W, .int .i64 a_p0.H, .slice q0_0 a_p0.Data.length k0_0], Chunk.own tInt fv_4 (some ⟨b16_6, 0, .none⟩) x16_6.length x16_5.toNat v_4]) (v_3, 0) fv_3 ezy4 (by exact Sub.cons rfl (Sub.cons rfl (Sub.cons rfl (Sub.cons rfl (Sub.cons rfl (Sub.nil _)))))) (by exact (fun _ h => h)) ?_
      rintro zm4 ⟨v_4, v1_4⟩ fv_4 zo4 zf4 zb4 ze4
      have zh4 : spec_StoreImage_L4 a_p0 a_p1 v1_3 v_4 v1_4 = some zo4 := zf4
      unfold spec_StoreImage_L4 at zh4
      show WC _ _ _ _ _ [(1, .int .i64 a_p1), (2, .pointer (some ⟨b0_0, 0, .none⟩)), (10, .slice (some ⟨b16_6, 0, .none⟩) x16_6.length x16_5.toNat), (11, .int .i64 v1_3), (12, .int .i64 v1_4)] [Chunk.box b0_0 96 [.int .i64 a_p0.W, .int .i64 a_p0.H, .slice q0_0 a_p0.Data.length k0_0], Chunk.own tInt fv_4 (some ⟨b16_6, 0, .none⟩) x16_6.length x16_5.toNat v_4]
      refine WC.seq (WC.seq (WC.region ?_))
      refine sp (OpV.move rfl) ?_
      refine sp (OpV.fieldAddr rfl fo_96_0) ?_
      refine sp (OpV.loadBox rfl pt_3 (.head _) rfl) ?_
      refine sp (OpV.lss rfl rfl) ?_
      refine WL.nil (En.next ?_)
      refine WC.cond rfl ?_ ?_
      ·
       intro hc_7
       replace zh4 := ifO_t hc_7 zh4
       refine WC.skip (En.next (WC.seq (WC.block ?_)))
       refine WC.inh fun hin23 => ?_
       obtain ⟨x23_8, e23_8, zh4⟩ := bnd zh4
       obtain ⟨x23_17, e23_17, zh4⟩ := bnd zh4
       obtain ⟨g23_17, o23_17, _, ha23_17, rfl, hd23_17⟩ := Rd.atIdx r0_0 e23_17
       replace hd23_17 : ∀ (j : Nat) v, ([.int .i64 x23_17] : List Value)[j]? = some v → w.cell? ⟨g23_17, o23_17 + (wr ((wr (v1_3 * a_p0.W)) + v1_4)).toNat * 1 + j, .none⟩ = some v := hd23_17
       have hn23_19 := ownLen hin23 (.tail _ (.head _))
       obtain ⟨x23_20, e23_20, zh4⟩ := bnd zh4
       obtain ⟨g23_19, ha23_19⟩ := ownAddrU hin23 (.tail _ (.head _)) e23_20
       refine WC.wkF (fun _ h => h.perm (List.perm_middle (l₁ := [_]))) ?_
       refine WC.drawnH [_] ([_]) (fun _ h => h) (by kernel_rfl) ?_
       refine WAE.take (i := 0) rfl (by kernel_rfl) (by kernel_rfl) (by kernel_rfl) rfl rfl rfl (OpV.move rfl) ?_
       refine WAE.take (i := 1) rfl (by kernel_rfl) (by kernel_rfl) (by kernel_rfl) rfl rfl rfl (OpV.fieldAddr rfl fo_96_0) ?_
       refine WAE.take (i := 2) rfl (by kernel_rfl) (by kernel_rfl) (by kernel_rfl) rfl rfl rfl (OpV.loadBox rfl pt_3 (.head _) rfl) ?_
       refine WAE.take (i := 3) rfl (by kernel_rfl) (by kernel_rfl) (by kernel_rfl) rfl rfl rfl (OpV.fieldAddr rfl fo_96_1) ?_
       refine WAE.take (i := 4) rfl (by kernel_rfl) (by kernel_rfl) (by kernel_rfl) rfl rfl rfl (OpV.loadBox rfl pt_3 (.head _) rfl) ?_
       refine WAE.take (i := 5) rfl (by kernel_rfl) (by kernel_rfl) (by kernel_rfl) rfl rfl rfl (OpV.move rfl) ?_
       refine WAE.take (i := 6) rfl (by kernel_rfl) (by kernel_rfl) (by kernel_rfl) rfl rfl rfl (OpV.move rfl) ?_
       refine WAE.take (i := 7) rfl (by kernel_rfl) (by kernel_rfl) (by kernel_rfl) rfl rfl rfl (OpV.move rfl) ?_
       refine WAE.take (i := 8) rfl (by kernel_rfl) (by kernel_rfl) (by kernel_rfl) rfl rfl rfl (OpV.call (evs.cons rfl (evs.cons rfl (evs.cons rfl (evs.cons rfl (evs.cons rfl (evs.nil)))))) ca_202 (fun w hs => w_spec_WordPlace e23_8)) ?_
       refine WAE.take (i := 9) rfl (by kernel_rfl) (by kernel_rfl) (by kernel_rfl) rfl rfl rfl (OpV.fieldAddr rfl fo_96_2) ?_
       refine WAE.take (i := 10) rfl (by kernel_rfl) (by kernel_rfl) (by kernel_rfl) rfl rfl rfl (OpV.loadBox rfl pt_23 (.head _) rfl) ?_
       refine WAE.take (i := 11) rfl (by kernel_rfl) (by kernel_rfl) (by kernel_rfl) rfl rfl rfl (OpV.move rfl) ?_
       refine WAE.take (i := 12) rfl (by kernel_rfl) (by kernel_rfl) (by kernel_rfl) rfl rfl rfl (OpV.fieldAddr rfl fo_96_0) ?_
       refine WAE.take (i := 13) rfl (by kernel_rfl) (by kernel_rfl) (by kernel_rfl) rfl rfl rfl (OpV.loadBox rfl pt_3 (.head _) rfl) ?_
       refine WAE.take (i := 14) rfl (by kernel_rfl) (by kernel_rfl) (by kernel_rfl) rfl rfl rfl (OpV.mulR rfl rfl) ?_
       refine WAE.take (i := 15) rfl (by kernel_rfl) (by kernel_rfl) (by kernel_rfl) rfl rfl rfl (OpV.move rfl) ?_
       refine WAE.take (i := 16) rfl (by kernel_rfl) (by kernel_rfl) (by kernel_rfl) rfl rfl rfl (OpV.addR rfl rfl) ?_
       refine WAE.take (i := 17) rfl (by kernel_rfl) (by kernel_rfl) (by kernel_rfl) rfl rfl rfl (OpV.idxA rfl rfl se_23 ha23_17 ⟨(idx_some e23_17).1, (idx_some e23_17).2.1⟩) ?_
       refine WAE.take (i := 18) rfl (by kernel_rfl) (by kernel_rfl) (by kernel_rfl) rfl rfl rfl (OpV.load1 rfl pt_3 (fun w hs => hs.cell (hd23_17 0 _ rfl))) ?_
       refine WAE.take (i := 19) rfl (by kernel_rfl) (by kernel_rfl) (by kernel_rfl) rfl rfl rfl (OpV.idxA rfl rfl se_23 ha23_19 ⟨(upd_some e23_20).1.1, by rw [hn23_19]; exact (upd_some e23_20).1.2⟩) ?_
       refine WAE.all (rs := [20]) (by kernel_rfl) rfl (AllR.cons0 rfl rfl rfl ?_ AllR.nil)
       refine OpH.wkF (fun _ h => St.elFlat tInt_flat x23_17 h) ?_
       refine OpH.setEl (A := tInt) ha23_19 rfl rfl rfl ts_3 e23_20 ?_
       intro f23_20
       refine ⟨[_], rfl, ?_⟩
       refine WAE.rebase (H := []) ?_
       refine WAE.done (by kernel_rfl) ?_ _
       refine En.block_norm (En.next (WC.region ?_))
       refine sp (OpV.move rfl) ?_
       refine sp (OpV.addR rfl rfl) ?_
       refine sp (OpV.assign rfl) ?_
       refine WL.nil ?_
       exact En.backP zb4 zh4 f23_20 (Sub.cons rfl (Sub.cons rfl (Sub.cons rfl (Sub.cons rfl (Sub.cons rfl (Sub.nil _)))))) (fun _ h => (h).perm (List.perm_middle (l₁ := [_])))
      ·
       intro hc_7
       replace zh4 := ifO_f hc_7 zh4
       refine WC.exit (En.then_exit (En.then_exit ?_))
       have hx := exitP ze4 zh4
       exact En.wk _ _ (Sub.cons rfl (Sub.cons rfl (Sub.cons rfl (Sub.cons rfl (Sub.nil _))))) (fun _ h => h) (zK4_0 (v_4, fv_4) hx.symm)
    ·
     intro hc_6
     replace zh3 := ifO_f hc_6 zh3
     refine WC.exit (En.then_exit (En.then_exit ?_))
     have hx := exitP ze3 zh3
     exact En.wk _ _ (Sub.cons rfl (Sub.nil _)) (fun _ h => ((h).perm (List.perm_middle (l₁ := [_]))).sub (.cons_cons _ (.cons _ (.slnil)))) (zK3_0 (v_3, fv_3) hx.symm)

theorem w_spec_l05Ints {a_p0 : List Int} {b_p1 : List Int} {r : Bool} {q0_0 : Option Addr} {n0_0 k0_0 : Nat} {q1_0 : Option Addr} {n1_0 k1_0 : Nat} (h : spec_l05Ints a_p0 b_p1 = some r) {w : World} (r0_0 : Rd tInt w q0_0 n0_0 k0_0 a_p0) (r1_0 : Rd tInt w q1_0 n1_0 k1_0 b_p1)   :
    Calls Tryz.prog 204 #[.slice q0_0 n0_0 k0_0, .slice q1_0 n1_0 k1_0] w (fun en w' => en = .returned (.bool r) ∧ Ext w w') := by
 obtain rfl := r0_0.1
 obtain rfl := r1_0.1
 unfold spec_l05Ints at h
 refine enter (vs := [_, _]) Tryz.func204 rfl rfl rfl rfl ?_
 refine WC.seq (WC.region ?_)
 refine sp (OpV.assign rfl) ?_
 refine WL.nil (En.next (WC.seq (WC.seq (WC.region ?_))))
 refine sp (OpV.move rfl) ?_
 refine sp (OpV.len rfl si_23 rfl) ?_
 refine sp (OpV.move rfl) ?_
 refine sp (OpV.len rfl si_23 rfl) ?_
 refine sp (OpV.neq rfl rfl) ?_
 refine WL.nil (En.next ?_)
 refine WC.cond rfl ?_ ?_
 ·
  intro hc_1
  replace h := ifO_t hc_1 h
  refine WC.seq (WC.region ?_)
  refine sp (OpV.assign rfl) ?_
  refine WL.nil (En.next (WC.ret (En.then_ret ?_)))
  refine En.ret1 rfl (Res.tmp rfl) ?_
  obtain rfl := Option.some.inj h
  intro w' hs
  exact ⟨rfl, hs.below⟩
 ·
  intro hc_1
  replace h := ifO_f hc_1 h
  refine WC.skip (En.next (WC.seq (WC.seq (WC.region ?_))))
  refine sp (OpV.assign rfl) ?_
  refine WL.nil (En.next (WC.block ?_))
  obtain ⟨zy0, ezy0, h⟩ := bnd h
  refine WC.cut (X := (Unit) × (Unit)) (.exit 0) (fun x => zy0 = .inl x.1) (fun x => match x with | ((), ()) => []) (fun x => match x with | ((), ()) => []) ?_ ?_
  ·
   rintro ⟨⟨⟩, ⟨⟩⟩ hx
   replace hx : .inl () = zy0 := hx.symm
   subst hx
   replace h := fork_l h
   show En _ _ _ _ [] []
   refine En.block_exit (En.next (WC.seq (WC.region ?_)))
   refine sp (OpV.assign rfl) ?_
   refine WL.nil (En.next (WC.ret ?_))
   refine En.ret1 rfl (Res.tmp rfl) ?_
   obtain rfl := Option.some.inj h
   intro w' hs
   exact ⟨rfl, hs.below⟩
  ·
   intro zK0_0
   refine WC.loopP (G := Unit) (fun s g => match s, g with | k_0, () => [(0, .slice q0_0 a_p0.length k0_0), (1, .slice q1_0 b_p1.length k1_0), (5, .int .i64 k_0)]) (fun s g => match s, g with | k_0, () => []) 0 () ezy0 (by exact Sub.cons rfl (Sub.cons rfl (Sub.cons rfl (Sub.nil _)))) (by exact (fun _ h => h)) ?_
   rintro zm0 k_0 ⟨⟩ zo0 zf0 zb0 ze0
   have zh0 : spec_l05Ints_L0 a_p0 b_p1 k_0 = some zo0 := zf0
   unfold spec_l05Ints_L0 at zh0
   show WC _ _ _ _ _ [(0, .slice q0_0 a_p0.length k0_0), (1, .slice q1_0 b_p1.length k1_0), (5, .int .i64 k_0)] []
   refine WC.seq (WC.seq (WC.region ?_))
   refine sp (OpV.move rfl) ?_
   refine sp (OpV.move rfl) ?_
   refine sp (OpV.len rfl si_23 rfl) ?_
   refine sp (OpV.lss rfl rfl) ?_
   refine WL.nil (En.next ?_)
   refine WC.cond rfl ?_ ?_
   ·
    intro hc_2
    replace zh0 := ifO_t hc_2 zh0
    refine WC.skip (En.next (WC.seq (WC.block (WC.seq ?_))))
    obtain ⟨x6_2, e6_2, zh0⟩ := bnd zh0
    obtain ⟨g6_2, o6_2, _, ha6_2, rfl, hd6_2⟩ := Rd.atIdx r0_0 e6_2
    replace hd6_2 : ∀ (j : Nat) v, ([.int .i64 x6_2] : List Value)[j]? = some v → w.cell? ⟨g6_2, o6_2 + k_0.toNat * 1 + j, .none⟩ = some v := hd6_2
    obtain ⟨x6_6, e6_6, zh0⟩ := bnd zh0
    obtain ⟨g6_6, o6_6, _, ha6_6, rfl, hd6_6⟩ := Rd.atIdx r1_0 e6_6
    replace hd6_6 : ∀ (j : Nat) v, ([.int .i64 x6_6] : List Value)[j]? = some v → w.cell? ⟨g6_6, o6_6 + k_0.toNat * 1 + j, .none⟩ = some v := hd6_6
    refine WC.drawn [(0, ?r6v0), (1, ?r6v1), (5, ?r6v5), (25, ?r6v25)] (by kernel_rfl) (by kernel_rfl) ?dH6 ?dK6
    case dH6 =>
     intro W hW hk
     refine hW.step rfl rfl rfl (OpV.move rfl) ?_
     refine hW.step rfl rfl rfl (OpV.move rfl) ?_
     refine hW.step rfl rfl rfl (OpV.idxA rfl rfl se_23 ha6_2 ⟨(idx_some e6_2).1, (idx_some e6_2).2.1⟩) ?_
     refine hW.step rfl rfl rfl (OpV.load1 rfl pt_3 (fun w hs => hs.cell (hd6_2 0 _ rfl))) ?_
     refine hW.step rfl rfl rfl (OpV.move rfl) ?_
     refine hW.step rfl rfl rfl (OpV.move rfl) ?_
     refine hW.step rfl rfl rfl (OpV.idxA rfl rfl se_23 ha6_6 ⟨(idx_some e6_6).1, (idx_some e6_6).2.1⟩) ?_
     refine hW.step rfl rfl rfl (OpV.load1 rfl pt_3 (fun w hs => hs.cell (hd6_6 0 _ rfl))) ?_
     refine hW.step rfl rfl rfl (OpV.neq rfl rfl) ?_
     refine hk _ ?_
     refine Sub.cons ?_ (Sub.cons ?_ (Sub.cons ?_ (Sub.cons ?_ (Sub.nil _))))
     all_goals exact rfl
    refine En.next ?_
    refine WC.cond rfl ?_ ?_
    ·
     intro hc_3
     replace zh0 := ifO_t hc_3 zh0
     refine WC.seq (WC.region ?_)
     refine sp (OpV.assign rfl) ?_
     refine WL.nil (En.next (WC.ret (En.block_ret (En.then_ret (En.then_ret (En.block_ret (En.then_ret ?_)))))))
     refine En.ret1 rfl (Res.tmp rfl) ?_
     have hx := exitP ze0 zh0
     subst hx
     replace h := fork_r h
     obtain rfl := Option.some.inj h
     intro w' hs
     exact ⟨rfl, hs.below⟩
    ·
     intro hc_3
     replace zh0 := ifO_f hc_3 zh0
     refine WC.skip (En.block_norm (En.next (WC.region ?_)))
     refine sp (OpV.move rfl) ?_
     refine sp (OpV.addR rfl rfl) ?_
     refine sp (OpV.assign rfl) ?_
     refine WL.nil ?_
     exact En.backP zb0 zh0 () (Sub.cons rfl (Sub.cons rfl (Sub.cons rfl (Sub.nil _)))) (fun _ h => h)
   ·
    intro hc_2
    replace zh0 := ifO_f hc_2 zh0
    refine WC.exit (En.then_exit (En.then_exit ?_))
    have hx := exitP ze0 zh0
    exact En.wk _ _ (Sub.nil _) (fun _ h => h) (zK0_0 ((), ()) hx.symm)

theorem w_spec_LoadImage {a_p0 : List Int} {a_p1 : Int} {a_p2 : Int} {a_p3 : Int} {r : ImageT × Bool} {q0_0 : Option Addr} {n0_0 k0_0 : Nat} (h : spec_LoadImage a_p0 a_p1 a_p2 a_p3 = some r) {w : World} (r0_0 : Rd tInt w q0_0 n0_0 k0_0 a_p0)   :
    Calls Tryz.prog 194 #[.slice q0_0 n0_0 k0_0, .int .i64 a_p1, .int .i64 a_p2, .int .i64 a_p3] w (fun en w' => ∃ rv G, en = .returned rv ∧ (∃ (a0_0 : Option Addr) (n0_0 : Nat) (c0_0 : Nat) (f0_0 : List Nat), rv = .tuple #[.agg #[.int .i64 r.1.W, .int .i64 r.1.H, .slice a0_0 n0_0 c0_0], .bool r.2] ∧ G = [Chunk.own tInt f0_0 a0_0 n0_0 c0_0 r.1.Data]) ∧ St w G w') := by
 obtain rfl := r0_0.1
 unfold spec_LoadImage at h
 refine enter (vs := [_, _, _, _]) Tryz.func194 rfl rfl rfl rfl ?_
 refine WC.seq (WC.region ?_)
 refine WL.heavy rfl rfl rfl (OpH.alloc zc_96 ?_)
 intro b0_0
 refine sp (OpV.assign rfl) ?_
 refine WL.nil (En.next (WC.seq (WC.seq ?_)))
 obtain ⟨x1_1, e1_1, h⟩ := bnd h
 obtain ⟨q1_7, e1_7, h⟩ := bnd h
 refine WC.region ?_
 refine sp (OpV.move rfl) ?_
 refine sp (OpV.call (evs.cons rfl (evs.cons rfl (evs.cons rfl (evs.nil)))) ca_88 (fun w hs => w_spec_l01In e1_1)) ?_
 refine sp (OpV.not rfl) ?_
 refine sp (OpV.move rfl) ?_
 refine Lt.ofWL.orQ 18 22 21 (p := ?pz1) (rest := ?qz1) (B := q1_7) rfl (fun hz => orO_t e1_7 hz) ?Tz1 ?Fz1 ?az1 ?bz1 ?cz1 ?dz1 ?ez1
 case Tz1 =>
  intro hcz1 hkz1
  refine sk ?_
  refine sk ?_
  refine sk ?_
  refine hkz1 _ ?_
  repeat (first | exact Sub.refl _ | refine Sub.skip rfl ?_)
 case Fz1 =>
  intro hcz1 hkz1
  have hqz1 := orO_f e1_7 hcz1
  obtain ⟨x1_5, e1_5, hqz1⟩ := bnd hqz1
  obtain rfl := Option.some.inj hqz1
  refine sp (OpV.move rfl) ?_
  refine sp (OpV.call (evs.cons rfl (evs.cons rfl (evs.cons rfl (evs.nil)))) ca_88 (fun w hs => w_spec_l01In e1_5)) ?_
  refine sp (OpV.not rfl) ?_
  refine hkz1 _ ?_ ?_
  exact rfl
  repeat (first | exact Sub.refl _ | refine Sub.skip rfl ?_)
 case az1 => exact rfl
 case bz1 => exact rfl
 case cz1 => exact rfl
 case dz1 => exact rfl
 refine WL.nil (En.next ?_)
 refine WC.cond rfl ?_ ?_
 ·
  intro hc_1
  replace h := ifO_t hc_1 h
  refine WC.seq (WC.region ?_)
  refine sp (OpV.build (evps.nil) bd_96_) ?_
  refine WL.heavy0 rfl rfl (OpH.storeTo (A := []) [_, _, _] rfl rfl rfl ts_96 rfl rfl rfl ?_)
  refine sp (OpV.assign rfl) ?_
  refine WL.nil (En.next (WC.ret (En.then_ret ?_)))
  refine En.ret2 rfl (Res.cell rfl (.head _) ag_96) (Res.tmp rfl) ?_
  obtain rfl := Option.some.inj h
  intro w' hs
  have hs := ((hs).ownNil (A := tInt)).sub (.cons_cons _ (.cons _ (.slnil)))
  exact ⟨_, _, rfl, ⟨.none, 0, 0, [], rfl, rfl⟩, hs⟩
 ·
  intro hc_1
  replace h := ifO_f hc_1 h
  refine WC.skip (En.next (WC.seq (WC.region ?_)))
  refine sp (OpV.move rfl) ?_
  refine sp (OpV.move rfl) ?_
  refine sp (OpV.build (evps.cons rfl (evps.cons rfl (evps.nil))) (bd_96_0_1 _ _)) ?_
  refine WL.heavy rfl rfl rfl (OpH.alloc zc_96 ?_)
  intro b3_3
  refine WL.heavy0 rfl rfl (OpH.storeTo (A := []) [_, _, _] rfl rfl rfl ts_96 rfl rfl rfl ?_)
  refine WL.nil (En.next (WC.seq ?_))
  obtain ⟨zy0, ej0, h⟩ := bnd h
  refine WC.cut (X := ((List Int)) × ((Option Addr) × Nat × Nat × (List Nat))) .normal (fun x => zy0 = x.1) (fun x => match x with | (x_0j, (ax_0j, nx_0j, cx_0j, fx_0j)) => [(0, .slice q0_0 a_p0.length k0_0), (3, .int .i64 a_p3), (8, .pointer (some ⟨b0_0, 0, .none⟩)), (10, .pointer (some ⟨b3_3, 0, .none⟩))]) (fun x => match x with | (x_0j, (ax_0j, nx_0j, cx_0j, fx_0j)) => [Chunk.box b0_0 96 [.int .i64 0, .int .i64 0, .slice .none 0 0], Chunk.box b3_3 96 [.int .i64 a_p1, .int .i64 a_p2, .slice ax_0j nx_0j cx_0j], Chunk.own tInt fx_0j ax_0j nx_0j cx_0j x_0j]) ?_ ?_
  ·
   rintro ⟨x_0j, ⟨ax_0j, nx_0j, cx_0j, fx_0j⟩⟩ hx
   replace hx : x_0j = zy0 := hx.symm
   subst hx
   show En _ _ _ _ [(0, .slice q0_0 a_p0.length k0_0), (3, .int .i64 a_p3), (8, .pointer (some ⟨b0_0, 0, .none⟩)), (10, .pointer (some ⟨b3_3, 0, .none⟩))] [Chunk.box b0_0 96 [.int .i64 0, .int .i64 0, .slice .none 0 0], Chunk.box b3_3 96 [.int .i64 a_p1, .int .i64 a_p2, .slice ax_0j nx_0j cx_0j], Chunk.own tInt fx_0j ax_0j nx_0j cx_0j x_0j]
   refine En.next (WC.seq ?_)
   obtain ⟨⟨x14_2a, x14_2b⟩, e14_2, h⟩ := bnd h
   refine WC.region ?_
   refine sp (OpV.loadAll rfl (.tail _ (.head _)) ag_96) ?_
   refine sp (OpV.move rfl) ?_
   refine WL.heavy rfl rfl rfl (OpH.callR (evs.cons rfl (evs.cons rfl (evs.nil))) ca_193 (fun w hs => w_spec_StoreImage e14_2 (Ow.rd (hs.mem (.tail _ (.tail _ (.head _)))))) ?_)
   rintro _ _ ⟨a14_200, n14_200, c14_200, f14_200, rfl, rfl⟩
   refine sp (OpV.move rfl) ?_
   refine sp (OpV.extract rfl rfl) ?_
   refine sp (OpV.extract rfl rfl) ?_
   refine sp (OpV.assign rfl) ?_
   refine sp (OpV.assign rfl) ?_
   refine WL.nil (En.next (WC.seq (WC.seq ?_)))
   obtain ⟨q15_7, e15_7, h⟩ := bnd h
   refine WC.region ?_
   refine sp (OpV.move rfl) ?_
   refine sp (OpV.not rfl) ?_
   refine sp (OpV.move rfl) ?_
   refine Lt.ofWL.orQ 76 81 80 (p := ?pz2) (rest := ?qz2) (B := q15_7) rfl (fun hz => orO_t e15_7 hz) ?Tz2 ?Fz2 ?az2 ?bz2 ?cz2 ?dz2 ?ez2
   case Tz2 =>
    intro hcz2 hkz2
    refine sk ?_
    refine sk ?_
    refine sk ?_
    refine sk ?_
    refine hkz2 _ ?_
    repeat (first | exact Sub.refl _ | refine Sub.skip rfl ?_)
   case Fz2 =>
    intro hcz2 hkz2
    have hqz2 := orO_f e15_7 hcz2
    obtain ⟨x15_5, e15_5, hqz2⟩ := bnd hqz2
    obtain rfl := Option.some.inj hqz2
    refine sp (OpV.move rfl) ?_
    refine sp (OpV.move rfl) ?_
    refine sp (OpV.call (evs.cons rfl (evs.cons rfl (evs.nil))) ca_204 (fun w hs => w_spec_l05Ints e15_5 (Ow.rd (hs.mem (.head _))) (r0_0.ext hs.below))) ?_
    refine sp (OpV.not rfl) ?_
    refine hkz2 _ ?_ ?_
    exact rfl
    repeat (first | exact Sub.refl _ | refine Sub.skip rfl ?_)
   case az2 => exact rfl
   case bz2 => exact rfl
   case cz2 => exact rfl
   case dz2 => exact rfl
   refine WL.nil (En.next ?_)
   refine WC.cond rfl ?_ ?_
   ·
    intro hc_2
    replace h := ifO_t hc_2 h
    refine WC.seq (WC.region ?_)
    refine sp (OpV.build (evps.nil) bd_96_) ?_
    refine WL.heavy0 rfl rfl (OpH.storeTo (A := [_]) [_, _, _] rfl rfl rfl ts_96 rfl rfl rfl ?_)
    refine sp (OpV.assign rfl) ?_
    refine WL.nil (En.next (WC.ret (En.then_ret ?_)))
    refine En.ret2 rfl (Res.cell rfl (.tail _ (.head _)) ag_96) (Res.tmp rfl) ?_
    obtain rfl := Option.some.inj h
    intro w' hs
    have hs := ((hs).ownNil (A := tInt)).sub (.cons_cons _ (.cons _ (.cons _ (.cons _ (.cons _ (.slnil))))))
    exact ⟨_, _, rfl, ⟨.none, 0, 0, [], rfl, rfl⟩, hs⟩
   ·
    intro hc_2
    replace h := ifO_f hc_2 h
    refine WC.skip (En.next (WC.seq (WC.region ?_)))
    refine sp (OpV.loadAll rfl (.tail _ (.tail _ (.head _))) ag_96) ?_
    refine WL.heavy0 rfl rfl (OpH.storeTo (A := [_]) [_, _, _] rfl rfl rfl ts_96 rfl rfl rfl ?_)
    refine sp (OpV.assign rfl) ?_
    refine WL.nil (En.next (WC.ret ?_))
    refine En.ret2 rfl (Res.cell rfl (.tail _ (.head _)) ag_96) (Res.tmp rfl) ?_
    obtain rfl := Option.some.inj h
    intro w' hs
    have hs := ((hs).perm (List.perm_middle (l₁ := [_, _, _]))).sub (.cons_cons _ (.cons _ (.cons _ (.cons _ (.slnil)))))
    exact ⟨_, _, rfl, ⟨ax_0j, nx_0j, cx_0j, fx_0j, rfl, rfl⟩, hs⟩
  ·
   intro zK0
   refine WC.block (WC.seq (WC.region ?_))
   refine sp (OpV.move rfl) ?_
   refine sp (OpV.eql rfl rfl) ?_
   refine sp (OpV.assign rfl) ?_
   refine WL.nil (En.next ?_)
   refine WC.cond rfl ?_ ?_
   ·
    intro hc_3
    replace ej0 := ifO_t hc_3 ej0
    obtain ⟨x5_4, e5_4, ej0⟩ := bnd ej0
    refine WC.region ?_
    refine sp (OpV.move rfl) ?_
    refine sp (OpV.move rfl) ?_
    refine sp (OpV.move rfl) ?_
    refine sp (OpV.mulR rfl rfl) ?_
    refine WL.heavy rfl rfl rfl (OpH.callR (evs.cons rfl (evs.cons rfl (evs.nil))) ca_203 (fun w hs => w_spec_l15Expand e5_4 (r0_0.ext hs.below)) ?_)
    rintro _ _ ⟨a5_400, n5_400, c5_400, f5_400, rfl, rfl⟩
    refine sp (OpV.fieldAddr rfl fo_96_2) ?_
    refine WL.heavy0 rfl rfl (OpH.storeTo (A := [_]) [_, _, _] rfl rfl rfl ts_23 rfl rfl rfl ?_)
    refine WL.nil (En.block_norm ?_)
    exact En.wk _ _ (Sub.cons rfl (Sub.cons rfl (Sub.cons rfl (Sub.cons rfl (Sub.nil _))))) (fun _ h => ((h).perm (List.perm_middle (l₁ := [_]))).perm (List.perm_middle (l₁ := [_, _]))) (zK0 (x5_4, (a5_400, n5_400, c5_400, f5_400)) (Option.some.inj ej0).symm)
   ·
    intro hc_3
    replace ej0 := ifO_f hc_3 ej0
    refine WC.seq ?_
    obtain ⟨x6_3, e6_3, ej0⟩ := bnd ej0
    refine WC.region ?_
    refine sp (OpV.move rfl) ?_
    refine sp (OpV.move rfl) ?_
    refine sp (OpV.move rfl) ?_
    refine sp (OpV.call (evs.cons rfl (evs.cons rfl (evs.cons rfl (evs.nil)))) ca_201 (fun w hs => w_spec_WordCount e6_3)) ?_
    refine sp (OpV.move rfl) ?_
    refine sp (OpV.len rfl si_23 rfl) ?_
    refine sp (OpV.eql rfl rfl) ?_
    refine sp (OpV.assign rfl) ?_
    refine WL.nil (En.next ?_)
    refine WC.cond rfl ?_ ?_
    ·
     intro hc_4
     replace ej0 := ifO_t hc_4 ej0
     refine WC.seq (WC.region ?_)
     refine sp (OpV.assign rfl) ?_
     refine WL.nil (En.next (WC.block ?_))
     obtain ⟨zy1, ezy1, ej0⟩ := bnd ej0
     refine WC.cut (X := ((List Int)) × ((Option Addr) × Nat × Nat × (List Nat))) (.exit 1) (fun x => zy1 = x.1) (fun x => match x with | (x_1e, (ax_1e, nx_1e, cx_1e, fx_1e)) => [(0, .slice q0_0 a_p0.length k0_0), (3, .int .i64 a_p3), (8, .pointer (some ⟨b0_0, 0, .none⟩)), (10, .pointer (some ⟨b3_3, 0, .none⟩))]) (fun x => match x with | (x_1e, (ax_1e, nx_1e, cx_1e, fx_1e)) => [Chunk.box b0_0 96 [.int .i64 0, .int .i64 0, .slice .none 0 0], Chunk.box b3_3 96 [.int .i64 a_p1, .int .i64 a_p2, .slice ax_1e nx_1e cx_1e], Chunk.own tInt fx_1e ax_1e nx_1e cx_1e x_1e]) ?_ ?_
     ·
      rintro ⟨x_1e, ⟨ax_1e, nx_1e, cx_1e, fx_1e⟩⟩ hx
      replace hx : x_1e = zy1 := hx.symm
      subst hx
      show En _ _ _ _ [(0, .slice q0_0 a_p0.length k0_0), (3, .int .i64 a_p3), (8, .pointer (some ⟨b0_0, 0, .none⟩)), (10, .pointer (some ⟨b3_3, 0, .none⟩))] [Chunk.box b0_0 96 [.int .i64 0, .int .i64 0, .slice .none 0 0], Chunk.box b3_3 96 [.int .i64 a_p1, .int .i64 a_p2, .slice ax_1e nx_1e cx_1e], Chunk.own tInt fx_1e ax_1e nx_1e cx_1e x_1e]
      refine En.block_exit (En.block_norm ?_)
      exact En.wk _ _ (Sub.cons rfl (Sub.cons rfl (Sub.cons rfl (Sub.cons rfl (Sub.nil _))))) (fun _ h => h) (zK0 (x_1e, (ax_1e, nx_1e, cx_1e, fx_1e)) (Option.some.inj ej0).symm)
     ·
      intro zK1_0
      refine WC.loopP (G := (Option Addr) × Nat × Nat × (List Nat)) (fun s g => match s, g with | (x_1, v_1), (ax_1, nx_1, cx_1, fx_1) => [(0, .slice q0_0 a_p0.length k0_0), (1, .int .i64 a_p1), (2, .int .i64 a_p2), (3, .int .i64 a_p3), (8, .pointer (some ⟨b0_0, 0, .none⟩)), (10, .pointer (some ⟨b3_3, 0, .none⟩)), (11, .int .i64 v_1)]) (fun s g => match s, g with | (x_1, v_1), (ax_1, nx_1, cx_1, fx_1) => [Chunk.box b0_0 96 [.int .i64 0, .int .i64 0, .slice .none 0 0], Chunk.box b3_3 96 [.int .i64 a_p1, .int .i64 a_p2, .slice ax_1 nx_1 cx_1], Chunk.own tInt fx_1 ax_1 nx_1 cx_1 x_1]) ([], 0) (.none, 0, 0, []) ezy1 (by exact Sub.cons rfl (Sub.cons rfl (Sub.cons rfl (Sub.cons rfl (Sub.cons rfl (Sub.cons rfl (Sub.cons rfl (Sub.nil _)))))))) (by exact (fun _ h => (((h).ownNil (A := tInt)).perm (List.perm_middle (l₁ := [_]))).perm (List.perm_middle (l₁ := [_, _])))) ?_
      rintro zm1 ⟨x_1, v_1⟩ ⟨ax_1, nx_1, cx_1, fx_1⟩ zo1 zf1 zb1 ze1
      have zh1 : spec_LoadImage_L1 a_p0 a_p1 a_p2 a_p3 x_1 v_1 = some zo1 := zf1
      unfold spec_LoadImage_L1 at zh1
      show WC _ _ _ _ _ [(0, .slice q0_0 a_p0.length k0_0), (1, .int .i64 a_p1), (2, .int .i64 a_p2), (3, .int .i64 a_p3), (8, .pointer (some ⟨b0_0, 0, .none⟩)), (10, .pointer (some ⟨b3_3, 0, .none⟩)), (11, .int .i64 v_1)] [Chunk.box b0_0 96 [.int .i64 0, .int .i64 0, .slice .none 0 0], Chunk.box b3_3 96 [.int .i64 a_p1, .int .i64 a_p2, .slice ax_1 nx_1 cx_1], Chunk.own tInt fx_1 ax_1 nx_1 cx_1 x_1]
      refine WC.seq (WC.seq (WC.region ?_))
      refine sp (OpV.move rfl) ?_
      refine sp (OpV.move rfl) ?_
      refine sp (OpV.lss rfl rfl) ?_
      refine WL.nil (En.next ?_)
      refine WC.cond rfl ?_ ?_
      ·
       intro hc_5
       replace zh1 := ifO_t hc_5 zh1
       refine WC.skip (En.next (WC.seq (WC.block (WC.seq (WC.region ?_)))))
       refine sp (OpV.assign rfl) ?_
       refine WL.nil (En.next (WC.block ?_))
       obtain ⟨zy2, ezy2, zh1⟩ := bnd zh1
       refine WC.cut (X := ((List Int)) × ((Option Addr) × Nat × Nat × (List Nat))) (.exit 3) (fun x => zy2 = x.1) (fun x => match x with | (x_2e, (ax_2e, nx_2e, cx_2e, fx_2e)) => [(0, .slice q0_0 a_p0.length k0_0), (1, .int .i64 a_p1), (2, .int .i64 a_p2), (3, .int .i64 a_p3), (8, .pointer (some ⟨b0_0, 0, .none⟩)), (10, .pointer (some ⟨b3_3, 0, .none⟩)), (11, .int .i64 v_1)]) (fun x => match x with | (x_2e, (ax_2e, nx_2e, cx_2e, fx_2e)) => [Chunk.box b0_0 96 [.int .i64 0, .int .i64 0, .slice .none 0 0], Chunk.box b3_3 96 [.int .i64 a_p1, .int .i64 a_p2, .slice ax_2e nx_2e cx_2e], Chunk.own tInt fx_2e ax_2e nx_2e cx_2e x_2e]) ?_ ?_
       ·
        rintro ⟨x_2e, ⟨ax_2e, nx_2e, cx_2e, fx_2e⟩⟩ hx
        replace hx : x_2e = zy2 := hx.symm
        subst hx
        show En _ _ _ _ [(0, .slice q0_0 a_p0.length k0_0), (1, .int .i64 a_p1), (2, .int .i64 a_p2), (3, .int .i64 a_p3), (8, .pointer (some ⟨b0_0, 0, .none⟩)), (10, .pointer (some ⟨b3_3, 0, .none⟩)), (11, .int .i64 v_1)] [Chunk.box b0_0 96 [.int .i64 0, .int .i64 0, .slice .none 0 0], Chunk.box b3_3 96 [.int .i64 a_p1, .int .i64 a_p2, .slice ax_2e nx_2e cx_2e], Chunk.own tInt fx_2e ax_2e nx_2e cx_2e x_2e]
        refine En.block_exit (En.block_norm (En.next (WC.region ?_)))
        refine sp (OpV.move rfl) ?_
        refine sp (OpV.addR rfl rfl) ?_
        refine sp (OpV.assign rfl) ?_
        refine WL.nil ?_
        exact En.backP zb1 zh1 (ax_2e, nx_2e, cx_2e, fx_2e) (Sub.cons rfl (Sub.cons rfl (Sub.cons rfl (Sub.cons rfl (Sub.cons rfl (Sub.cons rfl (Sub.cons rfl (Sub.nil _)))))))) (fun _ h => h)
       ·
        intro zK2_0
        refine WC.loopP (G := (Option Addr) × Nat × Nat × (List Nat)) (fun s g => match s, g with | (x_2, v_2), (ax_2, nx_2, cx_2, fx_2) => [(0, .slice q0_0 a_p0.length k0_0), (1, .int .i64 a_p1), (2, .int .i64 a_p2), (3, .int .i64 a_p3), (8, .pointer (some ⟨b0_0, 0, .none⟩)), (10, .pointer (some ⟨b3_3, 0, .none⟩)), (11, .int .i64 v_1), (12, .int .i64 v_2)]) (fun s g => match s, g with | (x_2, v_2), (ax_2, nx_2, cx_2, fx_2) => [Chunk.box b0_0 96 [.int .i64 0, .int .i64 0, .slice .none 0 0], Chunk.box b3_3 96 [.int .i64 a_p1, .int .i64 a_p2, .slice ax_2 nx_2 cx_2], Chunk.own tInt fx_2 ax_2 nx_2 cx_2 x_2]) (x_1, 0) (ax_1, nx_1, cx_1, fx_1) ezy2 (by exact Sub.cons rfl (Sub.cons rfl (Sub.cons rfl (Sub.cons rfl (Sub.cons rfl (Sub.cons rfl (Sub.cons rfl (Sub.cons rfl (Sub.nil _))))))))) (by exact (fun _ h => h)) ?_
        rintro zm2 ⟨x_2, v_2⟩ ⟨ax_2, nx_2, cx_2, fx_2⟩ zo2 zf2 zb2 ze2
        have zh2 : spec_LoadImage_L2 a_p0 a_p1 a_p2 a_p3 v_1 x_2 v_2 = some zo2 := zf2
        unfold spec_LoadImage_L2 at zh2
        show WC _ _ _ _ _ [(0, .slice q0_0 a_p0.length k0_0), (1, .int .i64 a_p1), (2, .int .i64 a_p2), (3, .int .i64 a_p3), (8, .pointer (some ⟨b0_0, 0, .none⟩)), (10, .pointer (some ⟨b3_3, 0, .none⟩)), (11, .int .i64 v_1), (12, .int .i64 v_2)] [Chunk.box b0_0 96 [.int .i64 0, .int .i64 0, .slice .none 0 0], Chunk.box b3_3 96 [.int .i64 a_p1, .int .i64 a_p2, .slice ax_2 nx_2 cx_2], Chunk.own tInt fx_2 ax_2 nx_2 cx_2 x_2]
        refine WC.seq (WC.seq (WC.region ?_))
        refine sp (OpV.move rfl) ?_
        refine sp (OpV.move rfl) ?_
        refine sp (OpV.lss rfl rfl) ?_
        refine WL.nil (En.next ?_)
        refine WC.cond rfl ?_ ?_
        ·
         intro hc_6
         replace zh2 := ifO_t hc_6 zh2
         refine WC.skip (En.next (WC.seq (WC.block ?_)))
         obtain ⟨x13_8, e13_8, zh2⟩ := bnd zh2
         obtain ⟨x13_9, e13_9, zh2⟩ := bnd zh2
         obtain ⟨g13_9, o13_9, _, ha13_9, rfl, hd13_9⟩ := Rd.atIdx r0_0 e13_9
         replace hd13_9 : ∀ (j : Nat) v, ([.int .i64 x13_9] : List Value)[j]? = some v → w.cell? ⟨g13_9, o13_9 + x13_8.toNat * 1 + j, .none⟩ = some v := hd13_9
         obtain ⟨x13_12, e13_12, zh2⟩ := bnd zh2
         refine WC.wkF (fun _ h => h.perm (List.perm_middle (l₁ := [_, _]))) ?_
         refine WC.wkF (fun _ h => h.perm (List.perm_middle (l₁ := [_, _]))) ?_
         refine WC.drawnH [_, _] ([_]) (fun _ h => h) (by kernel_rfl) ?_
         refine WAE.take (i := 0) rfl (by kernel_rfl) (by kernel_rfl) (by kernel_rfl) rfl rfl rfl (OpV.fieldAddr rfl fo_96_2) ?_
         refine WAE.take (i := 2) rfl (by kernel_rfl) (by kernel_rfl) (by kernel_rfl) rfl rfl rfl (OpV.move rfl) ?_
         refine WAE.take (i := 3) rfl (by kernel_rfl) (by kernel_rfl) (by kernel_rfl) rfl rfl rfl (OpV.move rfl) ?_
         refine WAE.take (i := 4) rfl (by kernel_rfl) (by kernel_rfl) (by kernel_rfl) rfl rfl rfl (OpV.move rfl) ?_
         refine WAE.take (i := 5) rfl (by kernel_rfl) (by kernel_rfl) (by kernel_rfl) rfl rfl rfl (OpV.move rfl) ?_
         refine WAE.take (i := 6) rfl (by kernel_rfl) (by kernel_rfl) (by kernel_rfl) rfl rfl rfl (OpV.move rfl) ?_
         refine WAE.take (i := 7) rfl (by kernel_rfl) (by kernel_rfl) (by kernel_rfl) rfl rfl rfl (OpV.move rfl) ?_
         refine WAE.take (i := 8) rfl (by kernel_rfl) (by kernel_rfl) (by kernel_rfl) rfl rfl rfl (OpV.call (evs.cons rfl (evs.cons rfl (evs.cons rfl (evs.cons rfl (evs.cons rfl (evs.nil)))))) ca_202 (fun w hs => w_spec_WordPlace e13_8)) ?_
         refine WAE.take (i := 9) rfl (by kernel_rfl) (by kernel_rfl) (by kernel_rfl) rfl rfl rfl (OpV.idxA rfl rfl se_23 ha13_9 ⟨(idx_some e13_9).1, (idx_some e13_9).2.1⟩) ?_
         refine WAE.take (i := 10) rfl (by kernel_rfl) (by kernel_rfl) (by kernel_rfl) rfl rfl rfl (OpV.load1 rfl pt_3 (fun w hs => hs.cell (hd13_9 0 _ rfl))) ?_
         refine WAE.all (rs := [1, 11]) (by kernel_rfl) rfl (AllR.cons rfl rfl rfl rfl ?_ (AllR.cons rfl rfl rfl rfl ?_ AllR.nil))
         ·
          refine OpH.light (OpV.loadBox rfl pt_23 (.head _) rfl) ?_
          refine ⟨[_, _], rfl, ?_⟩
          refine WAE.all (rs := [11]) (by kernel_rfl) rfl (AllR.cons rfl rfl rfl rfl ?_ AllR.nil)
          refine OpH.litF (A := tInt) (xs := [x13_9]) tInt_flat (evps.cons rfl (evps.nil)) (bs_23_1_0 _) rfl rfl (Nat.le_of_ble_eq_true rfl) ?_
          intro b13_11
          refine ⟨[_, _, _], rfl, ?_⟩
          refine WAE.all (rs := [12]) (by kernel_rfl) rfl (AllR.cons rfl rfl rfl rfl ?_ AllR.nil)
          refine OpH.appS (F := [_, _]) (A := tInt) tInt_flat rfl rfl rfl mi_23 rfl (by decide) (fun w hs => (Ow.rd (hs.mem (.head _)))) e13_12 ?_
          intro f13_12 a13_12 c13_12
          refine ⟨[_, _, _], rfl, ?_⟩
          refine WAE.take (i := 13) rfl (by kernel_rfl) (by kernel_rfl) (by kernel_rfl) rfl rfl rfl (OpV.fieldAddr rfl fo_96_2) ?_
          refine WAE.all (rs := [14]) (by kernel_rfl) rfl (AllR.cons0 rfl rfl rfl ?_ AllR.nil)
          refine OpH.storeTo (A := [_]) [_, _, _] rfl rfl rfl ts_23 rfl rfl rfl ?_
          refine ⟨[_, _, _], rfl, ?_⟩
          refine WAE.rebase (H := []) ?_
          refine WAE.done (by kernel_rfl) ?_ _
          refine En.block_norm (En.next (WC.region ?_))
          refine sp (OpV.move rfl) ?_
          refine sp (OpV.addR rfl rfl) ?_
          refine sp (OpV.assign rfl) ?_
          refine WL.nil ?_
          exact En.backP zb2 zh2 (a13_12, x13_12.length, c13_12, f13_12) (Sub.cons rfl (Sub.cons rfl (Sub.cons rfl (Sub.cons rfl (Sub.cons rfl (Sub.cons rfl (Sub.cons rfl (Sub.cons rfl (Sub.nil _))))))))) (fun _ h => ((((h).perm (List.perm_middle (l₁ := [_, _]))).perm (List.perm_middle (l₁ := [_, _]))).perm (List.perm_middle (l₁ := [_, _, _]))).sub (.cons_cons _ (.cons_cons _ (.cons_cons _ (.cons _ (.slnil))))))
         ·
          refine OpH.litF (A := tInt) (xs := [x13_9]) tInt_flat (evps.cons rfl (evps.nil)) (bs_23_1_0 _) rfl rfl (Nat.le_of_ble_eq_true rfl) ?_
          intro b13_11
          refine ⟨[_, _, _], rfl, ?_⟩
          refine WAE.all (rs := [1]) (by kernel_rfl) rfl (AllR.cons rfl rfl rfl rfl ?_ AllR.nil)
          refine OpH.light (OpV.loadBox rfl pt_23 (.tail _ (.head _)) rfl) ?_
          refine ⟨[_, _, _], rfl, ?_⟩
          refine WAE.all (rs := [12]) (by kernel_rfl) rfl (AllR.cons rfl rfl rfl rfl ?_ AllR.nil)
          refine OpH.appS (F := [_, _]) (A := tInt) tInt_flat rfl rfl rfl mi_23 rfl (by decide) (fun w hs => (Ow.rd (hs.mem (.head _)))) e13_12 ?_
          intro f13_12 a13_12 c13_12
          refine ⟨[_, _, _], rfl, ?_⟩
          refine WAE.take (i := 13) rfl (by kernel_rfl) (by kernel_rfl) (by kernel_rfl) rfl rfl rfl (OpV.fieldAddr rfl fo_96_2) ?_
          refine WAE.all (rs := [14]) (by kernel_rfl) rfl (AllR.cons0 rfl rfl rfl ?_ AllR.nil)
          refine OpH.storeTo (A := [_]) [_, _, _] rfl rfl rfl ts_23 rfl rfl rfl ?_
          refine ⟨[_, _, _], rfl, ?_⟩
          refine WAE.rebase (H := []) ?_
          refine WAE.done (by kernel_rfl) ?_ _
          refine En.block_norm (En.next (WC.region ?_))
          refine sp (OpV.move rfl) ?_
          refine sp (OpV.addR rfl rfl) ?_
          refine sp (OpV.assign rfl) ?_
          refine WL.nil ?_
          exact En.backP zb2 zh2 (a13_12, x13_12.length, c13_12, f13_12) (Sub.cons rfl (Sub.cons rfl (Sub.cons rfl (Sub.cons rfl (Sub.cons rfl (Sub.cons rfl (Sub.cons rfl (Sub.cons rfl (Sub.nil _))))))))) (fun _ h => ((((h).perm (List.perm_middle (l₁ := [_, _]))).perm (List.perm_middle (l₁ := [_, _]))).perm (List.perm_middle (l₁ := [_, _, _]))).sub (.cons_cons _ (.cons_cons _ (.cons_cons _ (.cons _ (.slnil))))))
        ·
         intro hc_6
         replace zh2 := ifO_f hc_6 zh2
         refine WC.exit (En.then_exit (En.then_exit ?_))
         have hx := exitP ze2 zh2
         exact En.wk _ _ (Sub.cons rfl (Sub.cons rfl (Sub.cons rfl (Sub.cons rfl (Sub.cons rfl (Sub.cons rfl (Sub.cons rfl (Sub.nil _)))))))) (fun _ h => h) (zK2_0 (x_2, (ax_2, nx_2, cx_2, fx_2)) hx.symm)
      ·
       intro hc_5
       replace zh1 := ifO_f hc_5 zh1
       refine WC.exit (En.then_exit (En.then_exit ?_))
       have hx := exitP ze1 zh1
       exact En.wk _ _ (Sub.cons rfl (Sub.cons rfl (Sub.cons rfl (Sub.cons rfl (Sub.nil _))))) (fun _ h => h) (zK1_0 (x_1, (ax_1, nx_1, cx_1, fx_1)) hx.symm)
    ·
     intro hc_4
     replace ej0 := ifO_f hc_4 ej0
     refine WC.skip (En.block_norm ?_)
     exact En.wk _ _ (Sub.cons rfl (Sub.cons rfl (Sub.cons rfl (Sub.cons rfl (Sub.nil _))))) (fun _ h => (((h).ownNil (A := tInt)).perm (List.perm_middle (l₁ := [_]))).perm (List.perm_middle (l₁ := [_, _]))) (zK0 ([], (.none, 0, 0, [])) (Option.some.inj ej0).symm)

theorem w_spec_l19Loaded {p_p0 : PlaneT} {r : ImageT × Bool} {q0_0 : Option Addr} {n0_0 k0_0 : Nat} (h : spec_l19Loaded p_p0 = some r) {w : World} (r0_0 : Rd tInt w q0_0 n0_0 k0_0 p_p0.Words)   :
    Calls Tryz.prog 165 #[.agg #[.bool p_p0.On, .int .i64 p_p0.X, .int .i64 p_p0.Y, .int .i64 p_p0.W, .int .i64 p_p0.H, .int .i64 p_p0.Layout, .slice q0_0 n0_0 k0_0, .int .i64 p_p0.Alpha, .int .i64 p_p0.Orient, .int .i64 p_p0.ToW, .int .i64 p_p0.ToH]] w (fun en w' => ∃ rv G, en = .returned rv ∧ (∃ (a0_0 : Option Addr) (n0_0 : Nat) (c0_0 : Nat) (f0_0 : List Nat), rv = .tuple #[.agg #[.int .i64 r.1.W, .int .i64 r.1.H, .slice a0_0 n0_0 c0_0], .bool r.2] ∧ G = [Chunk.own tInt f0_0 a0_0 n0_0 c0_0 r.1.Data]) ∧ St w G w') := by
 obtain rfl := r0_0.1
 unfold spec_l19Loaded at h
 refine enter (vs := [_]) Tryz.func165 rfl rfl rfl rfl ?_
 refine WC.seq (WC.region ?_)
 refine WL.heavy rfl rfl rfl (OpH.box rfl rfl ?_)
 intro b0_0
 refine WL.heavy rfl rfl rfl (OpH.alloc zc_96 ?_)
 intro b0_1
 refine sp (OpV.assign rfl) ?_
 refine WL.nil (En.next (WC.seq (WC.seq (WC.region ?_))))
 refine sp (OpV.fieldAddr rfl fo_82_0) ?_
 refine sp (OpV.loadBox rfl pt_4 (.tail _ (.head _)) rfl) ?_
 refine sp (OpV.not rfl) ?_
 refine WL.nil (En.next ?_)
 refine WC.cond rfl ?_ ?_
 ·
  intro hc_1
  replace h := ifO_t hc_1 h
  refine WC.seq (WC.region ?_)
  refine sp (OpV.build (evps.nil) bd_96_) ?_
  refine WL.heavy0 rfl rfl (OpH.storeTo (A := []) [_, _, _] rfl rfl rfl ts_96 rfl rfl rfl ?_)
  refine sp (OpV.assign rfl) ?_
  refine WL.nil (En.next (WC.ret (En.then_ret ?_)))
  refine En.ret2 rfl (Res.cell rfl (.head _) ag_96) (Res.tmp rfl) ?_
  obtain rfl := Option.some.inj h
  intro w' hs
  have hs := ((hs).ownNil (A := tInt)).sub (.cons_cons _ (.cons _ (.cons _ (.slnil))))
  exact ⟨_, _, rfl, ⟨.none, 0, 0, [], rfl, rfl⟩, hs⟩
 ·
  intro hc_1
  replace h := ifO_f hc_1 h
  refine WC.skip (En.next (WC.seq ?_))
  obtain ⟨⟨x3_8a, x3_8b⟩, e3_8, h⟩ := bnd h
  refine WC.region ?_
  refine sp (OpV.fieldAddr rfl fo_82_6) ?_
  refine sp (OpV.loadBox rfl pt_23 (.tail _ (.head _)) rfl) ?_
  refine sp (OpV.fieldAddr rfl fo_82_3) ?_
  refine sp (OpV.loadBox rfl pt_3 (.tail _ (.head _)) rfl) ?_
  refine sp (OpV.fieldAddr rfl fo_82_4) ?_
  refine sp (OpV.loadBox rfl pt_3 (.tail _ (.head _)) rfl) ?_
  refine sp (OpV.fieldAddr rfl fo_82_5) ?_
  refine sp (OpV.loadBox rfl pt_3 (.tail _ (.head _)) rfl) ?_
  refine WL.heavy rfl rfl rfl (OpH.callR (evs.cons rfl (evs.cons rfl (evs.cons rfl (evs.cons rfl (evs.nil))))) ca_194 (fun w hs => w_spec_LoadImage e3_8 (r0_0.ext hs.below)) ?_)
  rintro _ _ ⟨a3_800, n3_800, c3_800, f3_800, rfl, rfl⟩
  refine sp (OpV.move rfl) ?_
  refine sp (OpV.extract rfl rfl) ?_
  refine sp (OpV.extract rfl rfl) ?_
  refine WL.heavy rfl rfl rfl (OpH.alloc zc_96 ?_)
  intro b3_12
  refine WL.heavy0 rfl rfl (OpH.storeTo (A := []) [_, _, _] rfl rfl rfl ts_96 rfl rfl rfl ?_)
  refine sp (OpV.assign rfl) ?_
  refine WL.nil (En.next (WC.seq (WC.region ?_)))
  refine sp (OpV.loadAll rfl (.head _) ag_96) ?_
  refine sp (OpV.move rfl) ?_
  refine WL.heavy0 rfl rfl (OpH.storeTo (A := [_, _]) [_, _, _] rfl rfl rfl ts_96 rfl rfl rfl ?_)
  refine sp (OpV.assign rfl) ?_
  refine WL.nil (En.next (WC.ret ?_))
  refine En.ret2 rfl (Res.cell rfl (.tail _ (.tail _ (.head _))) ag_96) (Res.tmp rfl) ?_
  obtain rfl := Option.some.inj h
  intro w' hs
  have hs := ((hs).perm (List.perm_middle (l₁ := [_]))).sub (.cons_cons _ (.cons _ (.cons _ (.cons _ (.slnil)))))
  exact ⟨_, _, rfl, ⟨a3_800, n3_800, c3_800, f3_800, rfl, rfl⟩, hs⟩

theorem w_spec_OrientSize {w_p0 : Int} {h_p1 : Int} {o_p2 : Int} {r : Int × Int}  (h : spec_OrientSize w_p0 h_p1 o_p2 = some r) {w : World}    :
    Calls Tryz.prog 195 #[.int .i64 w_p0, .int .i64 h_p1, .int .i64 o_p2] w (fun en w' => en = .returned (.tuple #[.int .i64 r.1, .int .i64 r.2]) ∧ Ext w w') := by
 unfold spec_OrientSize at h
 refine enter (vs := [_, _, _]) Tryz.func195 rfl rfl rfl rfl ?_
 refine WC.seq (WC.region ?_)
 refine sp (OpV.assign rfl) ?_
 refine sp (OpV.assign rfl) ?_
 refine WL.nil (En.next (WC.seq (WC.seq ?_)))
 obtain ⟨x1_1, e1_1, h⟩ := bnd h
 obtain ⟨q1_7, e1_7, h⟩ := bnd h
 obtain ⟨q1_12, e1_12, h⟩ := bnd h
 refine WC.region ?_
 refine sp (OpV.move rfl) ?_
 refine sp (OpV.call (evs.cons rfl (evs.cons rfl (evs.cons rfl (evs.nil)))) ca_88 (fun w hs => w_spec_l01In e1_1)) ?_
 refine sp (OpV.not rfl) ?_
 refine sp (OpV.move rfl) ?_
 refine Lt.ofWL.orQ 11 15 14 (p := ?pz1) (rest := ?qz1) (B := q1_7) rfl (fun hz => orO_t e1_7 hz) ?Tz1 ?Fz1 ?az1 ?bz1 ?cz1 ?dz1 ?ez1
 case Tz1 =>
  intro hcz1 hkz1
  refine sk ?_
  refine sk ?_
  refine sk ?_
  refine hkz1 _ ?_
  repeat (first | exact Sub.refl _ | refine Sub.skip rfl ?_)
 case Fz1 =>
  intro hcz1 hkz1
  have hqz1 := orO_f e1_7 hcz1
  obtain ⟨x1_5, e1_5, hqz1⟩ := bnd hqz1
  obtain rfl := Option.some.inj hqz1
  refine sp (OpV.move rfl) ?_
  refine sp (OpV.call (evs.cons rfl (evs.cons rfl (evs.cons rfl (evs.nil)))) ca_88 (fun w hs => w_spec_l01In e1_5)) ?_
  refine sp (OpV.not rfl) ?_
  refine hkz1 _ ?_ ?_
  exact rfl
  repeat (first | exact Sub.refl _ | refine Sub.skip rfl ?_)
 case az1 => exact rfl
 case bz1 => exact rfl
 case cz1 => exact rfl
 case dz1 => exact rfl
 refine sp (OpV.move rfl) ?_
 refine Lt.ofWL.orQ 16 20 19 (p := ?pz2) (rest := ?qz2) (B := q1_12) rfl (fun hz => orO_t e1_12 hz) ?Tz2 ?Fz2 ?az2 ?bz2 ?cz2 ?dz2 ?ez2
 case Tz2 =>
  intro hcz2 hkz2
  refine sk ?_
  refine sk ?_
  refine sk ?_
  refine hkz2 _ ?_
  repeat (first | exact Sub.refl _ | refine Sub.skip rfl ?_)
 case Fz2 =>
  intro hcz2 hkz2
  have hqz2 := orO_f e1_12 hcz2
  obtain ⟨x1_10, e1_10, hqz2⟩ := bnd hqz2
  obtain rfl := Option.some.inj hqz2
  refine sp (OpV.move rfl) ?_
  refine sp (OpV.call (evs.cons rfl (evs.cons rfl (evs.cons rfl (evs.nil)))) ca_88 (fun w hs => w_spec_l01In e1_10)) ?_
  refine sp (OpV.not rfl) ?_
  refine hkz2 _ ?_ ?_
  exact rfl
  repeat (first | exact Sub.refl _ | refine Sub.skip rfl ?_)
 case az2 => exact rfl
 case bz2 => exact rfl
 case cz2 => exact rfl
 case dz2 => exact rfl
 refine WL.nil (En.next ?_)
 refine WC.cond rfl ?_ ?_
 ·
  intro hc_1
  replace h := ifO_t hc_1 h
  refine WC.seq (WC.region ?_)
  refine sp (OpV.assign rfl) ?_
  refine sp (OpV.assign rfl) ?_
  refine WL.nil (En.next (WC.ret (En.then_ret ?_)))
  refine En.ret2 rfl (Res.tmp rfl) (Res.tmp rfl) ?_
  obtain rfl := Option.some.inj h
  intro w' hs
  exact ⟨rfl, hs.below⟩
 ·
  intro hc_1
  replace h := ifO_f hc_1 h
  refine WC.skip (En.next (WC.seq (WC.seq (WC.region ?_))))
  refine sp (OpV.move rfl) ?_
  refine sp (OpV.remR rfl rfl rfl) ?_
  refine sp (OpV.eql rfl rfl) ?_
  refine WL.nil (En.next ?_)
  refine WC.cond rfl ?_ ?_
  ·
   intro hc_2
   replace h := ifO_t hc_2 h
   refine WC.seq (WC.region ?_)
   refine sp (OpV.move rfl) ?_
   refine sp (OpV.move rfl) ?_
   refine sp (OpV.assign rfl) ?_
   refine sp (OpV.assign rfl) ?_
   refine WL.nil (En.next (WC.ret (En.then_ret ?_)))
   refine En.ret2 rfl (Res.tmp rfl) (Res.tmp rfl) ?_
   obtain rfl := Option.some.inj h
   intro w' hs
   exact ⟨rfl, hs.below⟩
  ·
   intro hc_2
   replace h := ifO_f hc_2 h
   refine WC.skip (En.next (WC.seq (WC.region ?_)))
   refine sp (OpV.move rfl) ?_
   refine sp (OpV.move rfl) ?_
   refine sp (OpV.assign rfl) ?_
   refine sp (OpV.assign rfl) ?_
   refine WL.nil (En.next (WC.ret ?_))
   refine En.ret2 rfl (Res.tmp rfl) (Res.tmp rfl) ?_
   obtain rfl := Option.some.inj h
   intro w' hs
   exact ⟨rfl, hs.below⟩

theorem w_spec_OrientPoint {a_p0 : Int} {a_p1 : Int} {a_p2 : Int} {a_p3 : Int} {a_p4 : Int} {r : Int × Int}  (h : spec_OrientPoint a_p0 a_p1 a_p2 a_p3 a_p4 = some r) {w : World}    :
    Calls Tryz.prog 196 #[.int .i64 a_p0, .int .i64 a_p1, .int .i64 a_p2, .int .i64 a_p3, .int .i64 a_p4] w (fun en w' => en = .returned (.tuple #[.int .i64 r.1, .int .i64 r.2]) ∧ Ext w w') := by
 unfold spec_OrientPoint at h
 refine enter (vs := [_, _, _, _, _]) Tryz.func196 rfl rfl rfl rfl ?_
 refine WC.seq (WC.region ?_)
 refine sp (OpV.assign rfl) ?_
 refine sp (OpV.assign rfl) ?_
 refine WL.nil (En.next (WC.seq (WC.seq ?_)))
 obtain ⟨x1_1, e1_1, h⟩ := bnd h
 obtain ⟨q1_7, e1_7, h⟩ := bnd h
 obtain ⟨q1_12, e1_12, h⟩ := bnd h
 obtain ⟨q1_19, e1_19, h⟩ := bnd h
 obtain ⟨q1_26, e1_26, h⟩ := bnd h
 refine WC.region ?_
 refine sp (OpV.move rfl) ?_
 refine sp (OpV.call (evs.cons rfl (evs.cons rfl (evs.cons rfl (evs.nil)))) ca_88 (fun w hs => w_spec_l01In e1_1)) ?_
 refine sp (OpV.not rfl) ?_
 refine sp (OpV.move rfl) ?_
 refine Lt.ofWL.orQ 18 22 21 (p := ?pz1) (rest := ?qz1) (B := q1_7) rfl (fun hz => orO_t e1_7 hz) ?Tz1 ?Fz1 ?az1 ?bz1 ?cz1 ?dz1 ?ez1
 case Tz1 =>
  intro hcz1 hkz1
  refine sk ?_
  refine sk ?_
  refine sk ?_
  refine hkz1 _ ?_
  repeat (first | exact Sub.refl _ | refine Sub.skip rfl ?_)
 case Fz1 =>
  intro hcz1 hkz1
  have hqz1 := orO_f e1_7 hcz1
  obtain ⟨x1_5, e1_5, hqz1⟩ := bnd hqz1
  obtain rfl := Option.some.inj hqz1
  refine sp (OpV.move rfl) ?_
  refine sp (OpV.call (evs.cons rfl (evs.cons rfl (evs.cons rfl (evs.nil)))) ca_88 (fun w hs => w_spec_l01In e1_5)) ?_
  refine sp (OpV.not rfl) ?_
  refine hkz1 _ ?_ ?_
  exact rfl
  repeat (first | exact Sub.refl _ | refine Sub.skip rfl ?_)
 case az1 => exact rfl
 case bz1 => exact rfl
 case cz1 => exact rfl
 case dz1 => exact rfl
 refine sp (OpV.move rfl) ?_
 refine Lt.ofWL.orQ 23 27 26 (p := ?pz2) (rest := ?qz2) (B := q1_12) rfl (fun hz => orO_t e1_12 hz) ?Tz2 ?Fz2 ?az2 ?bz2 ?cz2 ?dz2 ?ez2
 case Tz2 =>
  intro hcz2 hkz2
  refine sk ?_
  refine sk ?_
  refine sk ?_
  refine hkz2 _ ?_
  repeat (first | exact Sub.refl _ | refine Sub.skip rfl ?_)
 case Fz2 =>
  intro hcz2 hkz2
  have hqz2 := orO_f e1_12 hcz2
  obtain ⟨x1_10, e1_10, hqz2⟩ := bnd hqz2
  obtain rfl := Option.some.inj hqz2
  refine sp (OpV.move rfl) ?_
  refine sp (OpV.call (evs.cons rfl (evs.cons rfl (evs.cons rfl (evs.nil)))) ca_88 (fun w hs => w_spec_l01In e1_10)) ?_
  refine sp (OpV.not rfl) ?_
  refine hkz2 _ ?_ ?_
  exact rfl
  repeat (first | exact Sub.refl _ | refine Sub.skip rfl ?_)
 case az2 => exact rfl
 case bz2 => exact rfl
 case cz2 => exact rfl
 case dz2 => exact rfl
 refine sp (OpV.move rfl) ?_
 refine Lt.ofWL.orQ 28 34 33 (p := ?pz3) (rest := ?qz3) (B := q1_19) rfl (fun hz => orO_t e1_19 hz) ?Tz3 ?Fz3 ?az3 ?bz3 ?cz3 ?dz3 ?ez3
 case Tz3 =>
  intro hcz3 hkz3
  refine sk ?_
  refine sk ?_
  refine sk ?_
  refine sk ?_
  refine sk ?_
  refine hkz3 _ ?_
  repeat (first | exact Sub.refl _ | refine Sub.skip rfl ?_)
 case Fz3 =>
  intro hcz3 hkz3
  have hqz3 := orO_f e1_19 hcz3
  obtain ⟨x1_17, e1_17, hqz3⟩ := bnd hqz3
  obtain rfl := Option.some.inj hqz3
  refine sp (OpV.move rfl) ?_
  refine sp (OpV.move rfl) ?_
  refine sp (OpV.subR rfl rfl) ?_
  refine sp (OpV.call (evs.cons rfl (evs.cons rfl (evs.cons rfl (evs.nil)))) ca_88 (fun w hs => w_spec_l01In e1_17)) ?_
  refine sp (OpV.not rfl) ?_
  refine hkz3 _ ?_ ?_
  exact rfl
  repeat (first | exact Sub.refl _ | refine Sub.skip rfl ?_)
 case az3 => exact rfl
 case bz3 => exact rfl
 case cz3 => exact rfl
 case dz3 => exact rfl
 refine sp (OpV.move rfl) ?_
 refine Lt.ofWL.orQ 35 41 40 (p := ?pz4) (rest := ?qz4) (B := q1_26) rfl (fun hz => orO_t e1_26 hz) ?Tz4 ?Fz4 ?az4 ?bz4 ?cz4 ?dz4 ?ez4
 case Tz4 =>
  intro hcz4 hkz4
  refine sk ?_
  refine sk ?_
  refine sk ?_
  refine sk ?_
  refine sk ?_
  refine hkz4 _ ?_
  repeat (first | exact Sub.refl _ | refine Sub.skip rfl ?_)
 case Fz4 =>
  intro hcz4 hkz4
  have hqz4 := orO_f e1_26 hcz4
  obtain ⟨x1_24, e1_24, hqz4⟩ := bnd hqz4
  obtain rfl := Option.some.inj hqz4
  refine sp (OpV.move rfl) ?_
  refine sp (OpV.move rfl) ?_
  refine sp (OpV.subR rfl rfl) ?_
  refine sp (OpV.call (evs.cons rfl (evs.cons rfl (evs.cons rfl (evs.nil)))) ca_88 (fun w hs => w_spec_l01In e1_24)) ?_
  refine sp (OpV.not rfl) ?_
  refine hkz4 _ ?_ ?_
  exact rfl
  repeat (first | exact Sub.refl _ | refine Sub.skip rfl ?_)
 case az4 => exact rfl
 case bz4 => exact rfl
 case cz4 => exact rfl
 case dz4 => exact rfl
 refine WL.nil (En.next ?_)
 refine WC.cond rfl ?_ ?_
 ·
  intro hc_1
  replace h := ifO_t hc_1 h
  refine WC.seq (WC.region ?_)
  refine sp (OpV.assign rfl) ?_
  refine sp (OpV.assign rfl) ?_
  refine WL.nil (En.next (WC.ret (En.then_ret ?_)))
  refine En.ret2 rfl (Res.tmp rfl) (Res.tmp rfl) ?_
  obtain rfl := Option.some.inj h
  intro w' hs
  exact ⟨rfl, hs.below⟩
 ·
  intro hc_1
  replace h := ifO_f hc_1 h
  refine WC.skip (En.next (WC.seq (WC.seq (WC.region ?_))))
  refine sp (OpV.move rfl) ?_
  refine sp (OpV.geq rfl rfl) ?_
  refine WL.nil (En.next ?_)
  refine WC.cond rfl ?_ ?_
  ·
   intro hc_2
   replace h := ifO_t hc_2 h
   refine WC.region ?_
   refine sp (OpV.move rfl) ?_
   refine sp (OpV.subR rfl rfl) ?_
   refine sp (OpV.move rfl) ?_
   refine sp (OpV.subR rfl rfl) ?_
   refine sp (OpV.assign rfl) ?_
   refine WL.nil (En.next (WC.seq (WC.seq (WC.region ?_))))
   refine sp (OpV.assign rfl) ?_
   refine WL.nil (En.next (WC.block ?_))
   obtain ⟨zy0, ezy0, h⟩ := bnd h
   refine WC.cut (X := (Int × Int) × (Unit)) (.exit 0) (fun x => zy0 = x.1) (fun x => match x with | ((v_0e, v1_0e), ()) => [(3, .int .i64 v_0e), (4, .int .i64 v1_0e)]) (fun x => match x with | ((v_0e, v1_0e), ()) => []) ?_ ?_
   ·
    rintro ⟨⟨v_0e, v1_0e⟩, ⟨⟩⟩ hx
    replace hx : (v_0e, v1_0e) = zy0 := hx.symm
    subst hx
    show En _ _ _ _ [(3, .int .i64 v_0e), (4, .int .i64 v1_0e)] []
    refine En.block_exit (En.next (WC.seq (WC.region ?_)))
    refine sp (OpV.move rfl) ?_
    refine sp (OpV.move rfl) ?_
    refine sp (OpV.assign rfl) ?_
    refine sp (OpV.assign rfl) ?_
    refine WL.nil (En.next (WC.ret ?_))
    refine En.ret2 rfl (Res.tmp rfl) (Res.tmp rfl) ?_
    obtain rfl := Option.some.inj h
    intro w' hs
    exact ⟨rfl, hs.below⟩
   ·
    intro zK0_0
    refine WC.loopP (G := Unit) (fun s g => match s, g with | (v_0, v1_0, v2_0, v3_0, v4_0), () => [(0, .int .i64 v_0), (1, .int .i64 v1_0), (2, .int .i64 a_p2), (3, .int .i64 v2_0), (4, .int .i64 v3_0), (12, .int .i64 v4_0)]) (fun s g => match s, g with | (v_0, v1_0, v2_0, v3_0, v4_0), () => []) (a_p0, a_p1, (wr ((wr (a_p0 - 1)) - a_p3)), a_p4, 0) () ezy0 (by exact Sub.cons rfl (Sub.cons rfl (Sub.cons rfl (Sub.cons rfl (Sub.cons rfl (Sub.cons rfl (Sub.nil _))))))) (by exact (fun _ h => h)) ?_
    rintro zm0 ⟨v_0, v1_0, v2_0, v3_0, v4_0⟩ ⟨⟩ zo0 zf0 zb0 ze0
    have zh0 : spec_OrientPoint_L0 a_p2 v_0 v1_0 v2_0 v3_0 v4_0 = some zo0 := zf0
    unfold spec_OrientPoint_L0 at zh0
    show WC _ _ _ _ _ [(0, .int .i64 v_0), (1, .int .i64 v1_0), (2, .int .i64 a_p2), (3, .int .i64 v2_0), (4, .int .i64 v3_0), (12, .int .i64 v4_0)] []
    refine WC.seq (WC.seq (WC.region ?_))
    refine sp (OpV.move rfl) ?_
    refine sp (OpV.move rfl) ?_
    refine sp (OpV.remR rfl rfl rfl) ?_
    refine sp (OpV.lss rfl rfl) ?_
    refine WL.nil (En.next ?_)
    refine WC.cond rfl ?_ ?_
    ·
     intro hc_3
     replace zh0 := ifO_t hc_3 zh0
     refine WC.skip (En.next (WC.seq (WC.block (WC.seq (WC.region ?_)))))
     refine sp (OpV.move rfl) ?_
     refine sp (OpV.subR rfl rfl) ?_
     refine sp (OpV.move rfl) ?_
     refine sp (OpV.subR rfl rfl) ?_
     refine sp (OpV.assign rfl) ?_
     refine WL.nil (En.next (WC.seq (WC.region ?_)))
     refine sp (OpV.move rfl) ?_
     refine sp (OpV.assign rfl) ?_
     refine WL.nil (En.next (WC.seq (WC.region ?_)))
     refine sp (OpV.move rfl) ?_
     refine sp (OpV.assign rfl) ?_
     refine WL.nil (En.next (WC.seq (WC.region ?_)))
     refine sp (OpV.move rfl) ?_
     refine sp (OpV.assign rfl) ?_
     refine WL.nil (En.next (WC.seq (WC.region ?_)))
     refine sp (OpV.move rfl) ?_
     refine sp (OpV.assign rfl) ?_
     refine WL.nil (En.next (WC.region ?_))
     refine sp (OpV.move rfl) ?_
     refine sp (OpV.assign rfl) ?_
     refine WL.nil (En.block_norm (En.next (WC.region ?_)))
     refine sp (OpV.move rfl) ?_
     refine sp (OpV.addR rfl rfl) ?_
     refine sp (OpV.assign rfl) ?_
     refine WL.nil ?_
     exact En.backP zb0 zh0 () (Sub.cons rfl (Sub.cons rfl (Sub.cons rfl (Sub.cons rfl (Sub.cons rfl (Sub.cons rfl (Sub.nil _))))))) (fun _ h => h)
    ·
     intro hc_3
     replace zh0 := ifO_f hc_3 zh0
     refine WC.exit (En.then_exit (En.then_exit ?_))
     have hx := exitP ze0 zh0
     exact En.wk _ _ (Sub.cons rfl (Sub.cons rfl (Sub.nil _))) (fun _ h => h) (zK0_0 ((v2_0, v3_0), ()) hx.symm)
  ·
   intro hc_2
   replace h := ifO_f hc_2 h
   refine WC.skip (En.next (WC.seq (WC.seq (WC.region ?_))))
   refine sp (OpV.assign rfl) ?_
   refine WL.nil (En.next (WC.block ?_))
   obtain ⟨zy1, ezy1, h⟩ := bnd h
   refine WC.cut (X := (Int × Int) × (Unit)) (.exit 0) (fun x => zy1 = x.1) (fun x => match x with | ((v_1e, v1_1e), ()) => [(3, .int .i64 v_1e), (4, .int .i64 v1_1e)]) (fun x => match x with | ((v_1e, v1_1e), ()) => []) ?_ ?_
   ·
    rintro ⟨⟨v_1e, v1_1e⟩, ⟨⟩⟩ hx
    replace hx : (v_1e, v1_1e) = zy1 := hx.symm
    subst hx
    show En _ _ _ _ [(3, .int .i64 v_1e), (4, .int .i64 v1_1e)] []
    refine En.block_exit (En.next (WC.seq (WC.region ?_)))
    refine sp (OpV.move rfl) ?_
    refine sp (OpV.move rfl) ?_
    refine sp (OpV.assign rfl) ?_
    refine sp (OpV.assign rfl) ?_
    refine WL.nil (En.next (WC.ret ?_))
    refine En.ret2 rfl (Res.tmp rfl) (Res.tmp rfl) ?_
    obtain rfl := Option.some.inj h
    intro w' hs
    exact ⟨rfl, hs.below⟩
   ·
    intro zK1_0
    refine WC.loopP (G := Unit) (fun s g => match s, g with | (v_1, v1_1, v2_1, v3_1, v4_1), () => [(0, .int .i64 v_1), (1, .int .i64 v1_1), (2, .int .i64 a_p2), (3, .int .i64 v2_1), (4, .int .i64 v3_1), (12, .int .i64 v4_1)]) (fun s g => match s, g with | (v_1, v1_1, v2_1, v3_1, v4_1), () => []) (a_p0, a_p1, a_p3, a_p4, 0) () ezy1 (by exact Sub.cons rfl (Sub.cons rfl (Sub.cons rfl (Sub.cons rfl (Sub.cons rfl (Sub.cons rfl (Sub.nil _))))))) (by exact (fun _ h => h)) ?_
    rintro zm1 ⟨v_1, v1_1, v2_1, v3_1, v4_1⟩ ⟨⟩ zo1 zf1 zb1 ze1
    have zh1 : spec_OrientPoint_L1 a_p2 v_1 v1_1 v2_1 v3_1 v4_1 = some zo1 := zf1
    unfold spec_OrientPoint_L1 at zh1
    show WC _ _ _ _ _ [(0, .int .i64 v_1), (1, .int .i64 v1_1), (2, .int .i64 a_p2), (3, .int .i64 v2_1), (4, .int .i64 v3_1), (12, .int .i64 v4_1)] []
    refine WC.seq (WC.seq (WC.region ?_))
    refine sp (OpV.move rfl) ?_
    refine sp (OpV.move rfl) ?_
    refine sp (OpV.remR rfl rfl rfl) ?_
    refine sp (OpV.lss rfl rfl) ?_
    refine WL.nil (En.next ?_)
    refine WC.cond rfl ?_ ?_
    ·
     intro hc_4
     replace zh1 := ifO_t hc_4 zh1
     refine WC.skip (En.next (WC.seq (WC.block (WC.seq (WC.region ?_)))))
     refine sp (OpV.move rfl) ?_
     refine sp (OpV.subR rfl rfl) ?_
     refine sp (OpV.move rfl) ?_
     refine sp (OpV.subR rfl rfl) ?_
     refine sp (OpV.assign rfl) ?_
     refine WL.nil (En.next (WC.seq (WC.region ?_)))
     refine sp (OpV.move rfl) ?_
     refine sp (OpV.assign rfl) ?_
     refine WL.nil (En.next (WC.seq (WC.region ?_)))
     refine sp (OpV.move rfl) ?_
     refine sp (OpV.assign rfl) ?_
     refine WL.nil (En.next (WC.seq (WC.region ?_)))
     refine sp (OpV.move rfl) ?_
     refine sp (OpV.assign rfl) ?_
     refine WL.nil (En.next (WC.seq (WC.region ?_)))
     refine sp (OpV.move rfl) ?_
     refine sp (OpV.assign rfl) ?_
     refine WL.nil (En.next (WC.region ?_))
     refine sp (OpV.move rfl) ?_
     refine sp (OpV.assign rfl) ?_
     refine WL.nil (En.block_norm (En.next (WC.region ?_)))
     refine sp (OpV.move rfl) ?_
     refine sp (OpV.addR rfl rfl) ?_
     refine sp (OpV.assign rfl) ?_
     refine WL.nil ?_
     exact En.backP zb1 zh1 () (Sub.cons rfl (Sub.cons rfl (Sub.cons rfl (Sub.cons rfl (Sub.cons rfl (Sub.cons rfl (Sub.nil _))))))) (fun _ h => h)
    ·
     intro hc_4
     replace zh1 := ifO_f hc_4 zh1
     refine WC.exit (En.then_exit (En.then_exit ?_))
     have hx := exitP ze1 zh1
     exact En.wk _ _ (Sub.cons rfl (Sub.cons rfl (Sub.nil _))) (fun _ h => h) (zK1_0 ((v2_1, v3_1), ()) hx.symm)

theorem w_spec_Oriented {a_p0 : ImageT} {a_p1 : Int} {r : ImageT} {q0_0 : Option Addr} {n0_0 k0_0 : Nat} (h : spec_Oriented a_p0 a_p1 = some r) {w : World} (r0_0 : Rd tInt w q0_0 n0_0 k0_0 a_p0.Data)   :
    Calls Tryz.prog 166 #[.agg #[.int .i64 a_p0.W, .int .i64 a_p0.H, .slice q0_0 n0_0 k0_0], .int .i64 a_p1] w (fun en w' => ∃ rv G, en = .returned rv ∧ (∃ (a0_0 : Option Addr) (n0_0 : Nat) (c0_0 : Nat) (f0_0 : List Nat), rv = .agg #[.int .i64 r.W, .int .i64 r.H, .slice a0_0 n0_0 c0_0] ∧ G = [Chunk.own tInt f0_0 a0_0 n0_0 c0_0 r.Data]) ∧ St w G w') := by
 obtain rfl := r0_0.1
 unfold spec_Oriented at h
 refine enter (vs := [_, _]) Tryz.func166 rfl rfl rfl rfl ?_
 refine WC.seq (WC.region ?_)
 refine WL.heavy rfl rfl rfl (OpH.box rfl rfl ?_)
 intro b0_0
 refine WL.heavy rfl rfl rfl (OpH.alloc zc_96 ?_)
 intro b0_1
 refine WL.nil (En.next (WC.seq (WC.seq ?_)))
 obtain ⟨x1_1, e1_1, h⟩ := bnd h
 obtain ⟨q1_7, e1_7, h⟩ := bnd h
 refine WC.region ?_
 refine sp (OpV.loadAll rfl (.tail _ (.head _)) ag_96) ?_
 refine sp (OpV.call (evs.cons rfl (evs.nil)) ca_168 (fun w hs => w_spec_ImageOk e1_1 (r0_0.ext hs.below))) ?_
 refine sp (OpV.not rfl) ?_
 refine sp (OpV.move rfl) ?_
 refine Lt.ofWL.orQ 15 19 18 (p := ?pz1) (rest := ?qz1) (B := q1_7) rfl (fun hz => orO_t e1_7 hz) ?Tz1 ?Fz1 ?az1 ?bz1 ?cz1 ?dz1 ?ez1
 case Tz1 =>
  intro hcz1 hkz1
  refine sk ?_
  refine sk ?_
  refine sk ?_
  refine hkz1 _ ?_
  repeat (first | exact Sub.refl _ | refine Sub.skip rfl ?_)
 case Fz1 =>
  intro hcz1 hkz1
  have hqz1 := orO_f e1_7 hcz1
  obtain ⟨x1_5, e1_5, hqz1⟩ := bnd hqz1
  obtain rfl := Option.some.inj hqz1
  refine sp (OpV.move rfl) ?_
  refine sp (OpV.call (evs.cons rfl (evs.cons rfl (evs.cons rfl (evs.nil)))) ca_88 (fun w hs => w_spec_l01In e1_5)) ?_
  refine sp (OpV.not rfl) ?_
  refine hkz1 _ ?_ ?_
  exact rfl
  repeat (first | exact Sub.refl _ | refine Sub.skip rfl ?_)
 case az1 => exact rfl
 case bz1 => exact rfl
 case cz1 => exact rfl
 case dz1 => exact rfl
 refine WL.nil (En.next ?_)
 refine WC.cond rfl ?_ ?_
 ·
  intro hc_1
  replace h := ifO_t hc_1 h
  refine WC.seq (WC.region ?_)
  refine sp (OpV.build (evps.nil) bd_96_) ?_
  refine WL.heavy0 rfl rfl (OpH.storeTo (A := []) [_, _, _] rfl rfl rfl ts_96 rfl rfl rfl ?_)
  refine WL.nil (En.next (WC.ret (En.then_ret ?_)))
  refine En.ret1 rfl (Res.cell rfl (.head _) ag_96) ?_
  obtain rfl := Option.some.inj h
  intro w' hs
  have hs := ((hs).ownNil (A := tInt)).sub (.cons_cons _ (.cons _ (.cons _ (.slnil))))
  exact ⟨_, _, rfl, ⟨.none, 0, 0, [], rfl, rfl⟩, hs⟩
 ·
  intro hc_1
  replace h := ifO_f hc_1 h
  refine WC.skip (En.next (WC.seq ?_))
  obtain ⟨⟨x3_5a, x3_5b⟩, e3_5, h⟩ := bnd h
  refine WC.region ?_
  refine sp (OpV.fieldAddr rfl fo_96_0) ?_
  refine sp (OpV.loadBox rfl pt_3 (.tail _ (.head _)) rfl) ?_
  refine sp (OpV.fieldAddr rfl fo_96_1) ?_
  refine sp (OpV.loadBox rfl pt_3 (.tail _ (.head _)) rfl) ?_
  refine sp (OpV.move rfl) ?_
  refine sp (OpV.call (evs.cons rfl (evs.cons rfl (evs.cons rfl (evs.nil)))) ca_195 (fun w hs => w_spec_OrientSize e3_5)) ?_
  refine sp (OpV.move rfl) ?_
  refine sp (OpV.extract rfl rfl) ?_
  refine sp (OpV.extract rfl rfl) ?_
  refine sp (OpV.assign rfl) ?_
  refine sp (OpV.assign rfl) ?_
  refine WL.nil (En.next (WC.seq ?_))
  obtain ⟨x4_5, e4_5, h⟩ := bnd h
  refine WC.region ?_
  refine sp (OpV.move rfl) ?_
  refine sp (OpV.move rfl) ?_
  refine sp (OpV.move rfl) ?_
  refine sp (OpV.move rfl) ?_
  refine sp (OpV.mulR rfl rfl) ?_
  refine WL.heavy rfl rfl rfl (OpH.makeO (A := tInt) rfl rfl mi_23 (fun w => tInt_flat.ow w 0) (by decide) e4_5 ⟨Int.le_refl _, (mkO_some e4_5).1.2⟩ ?_)
  intro b4_5
  refine sp (OpV.build (evps.cons rfl (evps.cons rfl (evps.cons rfl (evps.nil)))) (bd_96_0_1_2 _ _ _ _ _)) ?_
  refine WL.heavy rfl rfl rfl (OpH.alloc zc_96 ?_)
  intro b4_7
  refine WL.heavy0 rfl rfl (OpH.storeTo (A := []) [_, _, _] rfl rfl rfl ts_96 rfl rfl rfl ?_)
  refine WL.nil (En.next (WC.seq (WC.seq (WC.region ?_))))
  refine sp (OpV.assign rfl) ?_
  refine WL.nil (En.next (WC.block ?_))
  obtain ⟨zy0, ezy0, h⟩ := bnd h
  refine WC.cut (X := ((List Int)) × ((List Nat))) (.exit 0) (fun x => zy0 = x.1) (fun x => match x with | (x_0e, fx_0e) => [(4, .pointer (some ⟨b0_1, 0, .none⟩)), (7, .pointer (some ⟨b4_7, 0, .none⟩))]) (fun x => match x with | (x_0e, fx_0e) => [Chunk.box b0_1 96 [.int .i64 0, .int .i64 0, .slice .none 0 0], Chunk.box b4_7 96 [.int .i64 x3_5a, .int .i64 x3_5b, .slice (some ⟨b4_5, 0, .none⟩) x4_5.length ((wr (x3_5a * x3_5b)).toNat)], Chunk.own tInt fx_0e (some ⟨b4_5, 0, .none⟩) x4_5.length ((wr (x3_5a * x3_5b)).toNat) x_0e]) ?_ ?_
  ·
   rintro ⟨x_0e, fx_0e⟩ hx
   replace hx : x_0e = zy0 := hx.symm
   subst hx
   show En _ _ _ _ [(4, .pointer (some ⟨b0_1, 0, .none⟩)), (7, .pointer (some ⟨b4_7, 0, .none⟩))] [Chunk.box b0_1 96 [.int .i64 0, .int .i64 0, .slice .none 0 0], Chunk.box b4_7 96 [.int .i64 x3_5a, .int .i64 x3_5b, .slice (some ⟨b4_5, 0, .none⟩) x4_5.length ((wr (x3_5a * x3_5b)).toNat)], Chunk.own tInt fx_0e (some ⟨b4_5, 0, .none⟩) x4_5.length ((wr (x3_5a * x3_5b)).toNat) x_0e]
   refine En.block_exit (En.next (WC.seq (WC.region ?_)))
   refine sp (OpV.loadAll rfl (.tail _ (.head _)) ag_96) ?_
   refine WL.heavy0 rfl rfl (OpH.storeTo (A := []) [_, _, _] rfl rfl rfl ts_96 rfl rfl rfl ?_)
   refine WL.nil (En.next (WC.ret ?_))
   refine En.ret1 rfl (Res.cell rfl (.head _) ag_96) ?_
   obtain rfl := Option.some.inj h
   intro w' hs
   have hs := ((hs).perm (List.perm_middle (l₁ := [_, _]))).sub (.cons_cons _ (.cons _ (.cons _ (.slnil))))
   exact ⟨_, _, rfl, ⟨(some ⟨b4_5, 0, .none⟩), x4_5.length, ((wr (x3_5a * x3_5b)).toNat), fx_0e, rfl, rfl⟩, hs⟩
  ·
   intro zK0_0
   refine WC.loopP (G := (List Nat)) (fun s g => match s, g with | (x_0, v_0), fx_0 => [(1, .int .i64 a_p1), (2, .pointer (some ⟨b0_0, 0, .none⟩)), (4, .pointer (some ⟨b0_1, 0, .none⟩)), (5, .int .i64 x3_5a), (7, .pointer (some ⟨b4_7, 0, .none⟩)), (8, .int .i64 v_0)]) (fun s g => match s, g with | (x_0, v_0), fx_0 => [Chunk.box b0_0 96 [.int .i64 a_p0.W, .int .i64 a_p0.H, .slice q0_0 a_p0.Data.length k0_0], Chunk.box b0_1 96 [.int .i64 0, .int .i64 0, .slice .none 0 0], Chunk.box b4_7 96 [.int .i64 x3_5a, .int .i64 x3_5b, .slice (some ⟨b4_5, 0, .none⟩) x4_5.length ((wr (x3_5a * x3_5b)).toNat)], Chunk.own tInt fx_0 (some ⟨b4_5, 0, .none⟩) x4_5.length ((wr (x3_5a * x3_5b)).toNat) x_0]) (x4_5, 0) [b4_5] ezy0 (by exact Sub.cons rfl (Sub.cons rfl (Sub.cons rfl (Sub.cons rfl (Sub.cons rfl (Sub.cons rfl (Sub.nil _))))))) (by exact (fun _ h => ((((h).perm (List.perm_middle (l₁ := [_]))).perm (List.perm_middle (l₁ := [_]))).perm (List.perm_middle (l₁ := [_, _]))).perm (List.perm_middle (l₁ := [_, _, _])))) ?_
   rintro zm0 ⟨x_0, v_0⟩ fx_0 zo0 zf0 zb0 ze0
   have zh0 : spec_Oriented_L0 a_p0 a_p1 x3_5a x_0 v_0 = some zo0 := zf0
   unfold spec_Oriented_L0 at zh0
   show WC _ _ _ _ _ [(1, .int .i64 a_p1), (2, .pointer (some ⟨b0_0, 0, .none⟩)), (4, .pointer (some ⟨b0_1, 0, .none⟩)), (5, .int .i64 x3_5a), (7, .pointer (some ⟨b4_7, 0, .none⟩)), (8, .int .i64 v_0)] [Chunk.box b0_0 96 [.int .i64 a_p0.W, .int .i64 a_p0.H, .slice q0_0 a_p0.Data.length k0_0], Chunk.box b0_1 96 [.int .i64 0, .int .i64 0, .slice .none 0 0], Chunk.box b4_7 96 [.int .i64 x3_5a, .int .i64 x3_5b, .slice (some ⟨b4_5, 0, .none⟩) x4_5.length ((wr (x3_5a * x3_5b)).toNat)], Chunk.own tInt fx_0 (some ⟨b4_5, 0, .none⟩) x4_5.length ((wr (x3_5a * x3_5b)).toNat) x_0]
   refine WC.seq (WC.seq (WC.region ?_))
   refine sp (OpV.move rfl) ?_
   refine sp (OpV.fieldAddr rfl fo_96_1) ?_
   refine sp (OpV.loadBox rfl pt_3 (.head _) rfl) ?_
   refine sp (OpV.lss rfl rfl) ?_
   refine WL.nil (En.next ?_)
   refine WC.cond rfl ?_ ?_
   ·
    intro hc_2
    replace zh0 := ifO_t hc_2 zh0
    refine WC.skip (En.next (WC.seq (WC.block (WC.seq (WC.region ?_)))))
    refine sp (OpV.assign rfl) ?_
    refine WL.nil (En.next (WC.block ?_))
    obtain ⟨zy1, ezy1, zh0⟩ := bnd zh0
    refine WC.cut (X := ((List Int)) × ((List Nat))) (.exit 2) (fun x => zy1 = x.1) (fun x => match x with | (x_1e, fx_1e) => [(1, .int .i64 a_p1), (2, .pointer (some ⟨b0_0, 0, .none⟩)), (4, .pointer (some ⟨b0_1, 0, .none⟩)), (5, .int .i64 x3_5a), (7, .pointer (some ⟨b4_7, 0, .none⟩)), (8, .int .i64 v_0)]) (fun x => match x with | (x_1e, fx_1e) => [Chunk.box b0_0 96 [.int .i64 a_p0.W, .int .i64 a_p0.H, .slice q0_0 a_p0.Data.length k0_0], Chunk.box b0_1 96 [.int .i64 0, .int .i64 0, .slice .none 0 0], Chunk.box b4_7 96 [.int .i64 x3_5a, .int .i64 x3_5b, .slice (some ⟨b4_5, 0, .none⟩) x4_5.length ((wr (x3_5a * x3_5b)).toNat)], Chunk.own tInt fx_1e (some ⟨b4_5, 0, .none⟩) x4_5.length ((wr (x3_5a * x3_5b)).toNat) x_1e]) ?_ ?_
    ·
     rintro ⟨x_1e, fx_1e⟩ hx
     replace hx : x_1e = zy1 := hx.symm
     subst hx
     show En _ _ _ _ [(1, .int .i64 a_p1), (2, .pointer (some ⟨b0_0, 0, .none⟩)), (4, .pointer (some ⟨b0_1, 0, .none⟩)), (5, .int .i64 x3_5a), (7, .pointer (some ⟨b4_7, 0, .none⟩)), (8, .int .i64 v_0)] [Chunk.box b0_0 96 [.int .i64 a_p0.W, .int .i64 a_p0.H, .slice q0_0 a_p0.Data.length k0_0], Chunk.box b0_1 96 [.int .i64 0, .int .i64 0, .slice .none 0 0], Chunk.box b4_7 96 [.int .i64 x3_5a, .int .i64 x3_5b, .slice (some ⟨b4_5, 0, .none⟩) x4_5.length ((wr (x3_5a * x3_5b)).toNat)], Chunk.own tInt fx_1e (some ⟨b4_5, 0, .none⟩) x4_5.length ((wr (x3_5a * x3_5b)).toNat) x_1e]
     refine En.block_exit (En.block_norm (En.next (WC.region ?_)))
     refine sp (OpV.move rfl) ?_
     refine sp (OpV.addR rfl rfl) ?_
     refine sp (OpV.assign rfl) ?_
     refine WL.nil ?_
     exact En.backP zb0 zh0 fx_1e (Sub.cons rfl (Sub.cons rfl (Sub.cons rfl (Sub.cons rfl (Sub.cons rfl (Sub.cons rfl (Sub.nil _))))))) (fun _ h => h)
    ·
     intro zK1_0
     refine WC.loopP (G := (List Nat)) (fun s g => match s, g with | (x_1, v_1), fx_1 => [(1, .int .i64 a_p1), (2, .pointer (some ⟨b0_0, 0, .none⟩)), (4, .pointer (some ⟨b0_1, 0, .none⟩)), (5, .int .i64 x3_5a), (7, .pointer (some ⟨b4_7, 0, .none⟩)), (8, .int .i64 v_0), (9, .int .i64 v_1)]) (fun s g => match s, g with | (x_1, v_1), fx_1 => [Chunk.box b0_0 96 [.int .i64 a_p0.W, .int .i64 a_p0.H, .slice q0_0 a_p0.Data.length k0_0], Chunk.box b0_1 96 [.int .i64 0, .int .i64 0, .slice .none 0 0], Chunk.box b4_7 96 [.int .i64 x3_5a, .int .i64 x3_5b, .slice (some ⟨b4_5, 0, .none⟩) x4_5.length ((wr (x3_5a * x3_5b)).toNat)], Chunk.own tInt fx_1 (some ⟨b4_5, 0, .none⟩) x4_5.length ((wr (x3_5a * x3_5b)).toNat) x_1]) (x_0, 0) fx_0 ezy1 (by exact Sub.cons rfl (Sub.cons rfl (Sub.cons rfl (Sub.cons rfl (Sub.cons rfl (Sub.cons rfl (Sub.cons rfl (Sub.nil _)))))))) (by exact (fun _ h => h)) ?_
     rintro zm1 ⟨x_1, v_1⟩ fx_1 zo1 zf1 zb1 ze1
     have zh1 : spec_Oriented_L1 a_p0 a_p1 x3_5a v_0 x_1 v_1 = some zo1 := zf1
     unfold spec_Oriented_L1 at zh1
     show WC _ _ _ _ _ [(1, .int .i64 a_p1), (2, .pointer (some ⟨b0_0, 0, .none⟩)), (4, .pointer (some ⟨b0_1, 0, .none⟩)), (5, .int .i64 x3_5a), (7, .pointer (some ⟨b4_7, 0, .none⟩)), (8, .int .i64 v_0), (9, .int .i64 v_1)] [Chunk.box b0_0 96 [.int .i64 a_p0.W, .int .i64 a_p0.H, .slice q0_0 a_p0.Data.length k0_0], Chunk.box b0_1 96 [.int .i64 0, .int .i64 0, .slice .none 0 0], Chunk.box b4_7 96 [.int .i64 x3_5a, .int .i64 x3_5b, .slice (some ⟨b4_5, 0, .none⟩) x4_5.length ((wr (x3_5a * x3_5b)).toNat)], Chunk.own tInt fx_1 (some ⟨b4_5, 0, .none⟩) x4_5.length ((wr (x3_5a * x3_5b)).toNat) x_1]
     refine WC.seq (WC.seq (WC.region ?_))
     refine sp (OpV.move rfl) ?_
     refine sp (OpV.fieldAddr rfl fo_96_0) ?_
     refine sp (OpV.loadBox rfl pt_3 (.head _) rfl) ?_
     refine sp (OpV.lss rfl rfl) ?_
     refine WL.nil (En.next ?_)
     refine WC.cond rfl ?_ ?_
     ·
      intro hc_3
      replace zh1 := ifO_t hc_3 zh1
      refine WC.skip (En.next (WC.seq (WC.block (WC.seq ?_))))
      obtain ⟨⟨x11_7a, x11_7b⟩, e11_7, zh1⟩ := bnd zh1
      refine WC.region ?_
      refine sp (OpV.fieldAddr rfl fo_96_0) ?_
      refine sp (OpV.loadBox rfl pt_3 (.head _) rfl) ?_
      refine sp (OpV.fieldAddr rfl fo_96_1) ?_
      refine sp (OpV.loadBox rfl pt_3 (.head _) rfl) ?_
      refine sp (OpV.move rfl) ?_
      refine sp (OpV.move rfl) ?_
      refine sp (OpV.move rfl) ?_
      refine sp (OpV.call (evs.cons rfl (evs.cons rfl (evs.cons rfl (evs.cons rfl (evs.cons rfl (evs.nil)))))) ca_196 (fun w hs => w_spec_OrientPoint e11_7)) ?_
      refine sp (OpV.move rfl) ?_
      refine sp (OpV.extract rfl rfl) ?_
      refine sp (OpV.extract rfl rfl) ?_
      refine sp (OpV.assign rfl) ?_
      refine sp (OpV.assign rfl) ?_
      refine WL.nil (En.next ?_)
      refine WC.inh fun hin12 => ?_
      obtain ⟨x12_15, e12_15, zh1⟩ := bnd zh1
      obtain ⟨g12_15, o12_15, _, ha12_15, rfl, hd12_15⟩ := Rd.atIdx r0_0 e12_15
      replace hd12_15 : ∀ (j : Nat) v, ([.int .i64 x12_15] : List Value)[j]? = some v → w.cell? ⟨g12_15, o12_15 + (wr ((wr (v_0 * a_p0.W)) + v_1)).toNat * 1 + j, .none⟩ = some v := hd12_15
      have hn12_17 := ownLen hin12 (.tail _ (.tail _ (.tail _ (.head _))))
      obtain ⟨x12_18, e12_18, zh1⟩ := bnd zh1
      obtain ⟨g12_17, ha12_17⟩ := ownAddrU hin12 (.tail _ (.tail _ (.tail _ (.head _)))) e12_18
      refine WC.wkF (fun _ h => h.perm (List.perm_middle (l₁ := [_, _, _]))) ?_
      refine WC.drawnH [_] ([_, _, _]) (fun _ h => h) (by kernel_rfl) ?_
      refine WAE.take (i := 0) rfl (by kernel_rfl) (by kernel_rfl) (by kernel_rfl) rfl rfl rfl (OpV.fieldAddr rfl fo_96_2) ?_
      refine WAE.take (i := 1) rfl (by kernel_rfl) (by kernel_rfl) (by kernel_rfl) rfl rfl rfl (OpV.loadBox rfl pt_23 (.tail _ (.tail _ (.head _))) rfl) ?_
      refine WAE.take (i := 2) rfl (by kernel_rfl) (by kernel_rfl) (by kernel_rfl) rfl rfl rfl (OpV.move rfl) ?_
      refine WAE.take (i := 3) rfl (by kernel_rfl) (by kernel_rfl) (by kernel_rfl) rfl rfl rfl (OpV.move rfl) ?_
      refine WAE.take (i := 4) rfl (by kernel_rfl) (by kernel_rfl) (by kernel_rfl) rfl rfl rfl (OpV.mulR rfl rfl) ?_
      refine WAE.take (i := 5) rfl (by kernel_rfl) (by kernel_rfl) (by kernel_rfl) rfl rfl rfl (OpV.move rfl) ?_
      refine WAE.take (i := 6) rfl (by kernel_rfl) (by kernel_rfl) (by kernel_rfl) rfl rfl rfl (OpV.addR rfl rfl) ?_
      refine WAE.take (i := 7) rfl (by kernel_rfl) (by kernel_rfl) (by kernel_rfl) rfl rfl rfl (OpV.fieldAddr rfl fo_96_2) ?_
      refine WAE.take (i := 8) rfl (by kernel_rfl) (by kernel_rfl) (by kernel_rfl) rfl rfl rfl (OpV.loadBox rfl pt_23 (.head _) rfl) ?_
      refine WAE.take (i := 9) rfl (by kernel_rfl) (by kernel_rfl) (by kernel_rfl) rfl rfl rfl (OpV.move rfl) ?_
      refine WAE.take (i := 10) rfl (by kernel_rfl) (by kernel_rfl) (by kernel_rfl) rfl rfl rfl (OpV.fieldAddr rfl fo_96_0) ?_
      refine WAE.take (i := 11) rfl (by kernel_rfl) (by kernel_rfl) (by kernel_rfl) rfl rfl rfl (OpV.loadBox rfl pt_3 (.head _) rfl) ?_
      refine WAE.take (i := 12) rfl (by kernel_rfl) (by kernel_rfl) (by kernel_rfl) rfl rfl rfl (OpV.mulR rfl rfl) ?_
      refine WAE.take (i := 13) rfl (by kernel_rfl) (by kernel_rfl) (by kernel_rfl) rfl rfl rfl (OpV.move rfl) ?_
      refine WAE.take (i := 14) rfl (by kernel_rfl) (by kernel_rfl) (by kernel_rfl) rfl rfl rfl (OpV.addR rfl rfl) ?_
      refine WAE.take (i := 15) rfl (by kernel_rfl) (by kernel_rfl) (by kernel_rfl) rfl rfl rfl (OpV.idxA rfl rfl se_23 ha12_15 ⟨(idx_some e12_15).1, (idx_some e12_15).2.1⟩) ?_
      refine WAE.take (i := 16) rfl (by kernel_rfl) (by kernel_rfl) (by kernel_rfl) rfl rfl rfl (OpV.load1 rfl pt_3 (fun w hs => hs.cell (hd12_15 0 _ rfl))) ?_
      refine WAE.take (i := 17) rfl (by kernel_rfl) (by kernel_rfl) (by kernel_rfl) rfl rfl rfl (OpV.idxA rfl rfl se_23 ha12_17 ⟨(upd_some e12_18).1.1, by rw [hn12_17]; exact (upd_some e12_18).1.2⟩) ?_
      refine WAE.all (rs := [18]) (by kernel_rfl) rfl (AllR.cons0 rfl rfl rfl ?_ AllR.nil)
      refine OpH.wkF (fun _ h => St.elFlat tInt_flat x12_15 h) ?_
      refine OpH.setEl (A := tInt) ha12_17 rfl rfl rfl ts_3 e12_18 ?_
      intro f12_18
      refine ⟨[_], rfl, ?_⟩
      refine WAE.rebase (H := []) ?_
      refine WAE.done (by kernel_rfl) ?_ _
      refine En.block_norm (En.next (WC.region ?_))
      refine sp (OpV.move rfl) ?_
      refine sp (OpV.addR rfl rfl) ?_
      refine sp (OpV.assign rfl) ?_
      refine WL.nil ?_
      exact En.backP zb1 zh1 f12_18 (Sub.cons rfl (Sub.cons rfl (Sub.cons rfl (Sub.cons rfl (Sub.cons rfl (Sub.cons rfl (Sub.cons rfl (Sub.nil _)))))))) (fun _ h => (((h).perm (List.perm_middle (l₁ := [_, _, _]))).perm (List.perm_middle (l₁ := [_, _, _]))).perm (List.perm_middle (l₁ := [_, _, _])))
     ·
      intro hc_3
      replace zh1 := ifO_f hc_3 zh1
      refine WC.exit (En.then_exit (En.then_exit ?_))
      have hx := exitP ze1 zh1
      exact En.wk _ _ (Sub.cons rfl (Sub.cons rfl (Sub.cons rfl (Sub.cons rfl (Sub.cons rfl (Sub.cons rfl (Sub.nil _))))))) (fun _ h => h) (zK1_0 (x_1, fx_1) hx.symm)
   ·
    intro hc_2
    replace zh0 := ifO_f hc_2 zh0
    refine WC.exit (En.then_exit (En.then_exit ?_))
    have hx := exitP ze0 zh0
    exact En.wk _ _ (Sub.cons rfl (Sub.cons rfl (Sub.nil _))) (fun _ h => ((((h).perm (List.perm_middle (l₁ := [_, _, _]))).perm (List.perm_middle (l₁ := [_, _, _]))).perm (List.perm_middle (l₁ := [_, _, _]))).sub (.cons_cons _ (.cons_cons _ (.cons_cons _ (.cons _ (.slnil)))))) (zK0_0 (x_0, fx_0) hx.symm)

theorem w_spec_ScalePoint {from_p0 : Int} {to_p1 : Int} {k_p2 : Int} {r : Int}  (h : spec_ScalePoint from_p0 to_p1 k_p2 = some r) {w : World}    :
    Calls Tryz.prog 197 #[.int .i64 from_p0, .int .i64 to_p1, .int .i64 k_p2] w (fun en w' => en = .returned (.int .i64 r) ∧ Ext w w') := by
 unfold spec_ScalePoint at h
 refine enter (vs := [_, _, _]) Tryz.func197 rfl rfl rfl rfl ?_
 refine WC.seq (WC.region ?_)
 refine sp (OpV.assign rfl) ?_
 refine WL.nil (En.next (WC.seq (WC.seq ?_)))
 obtain ⟨x1_1, e1_1, h⟩ := bnd h
 obtain ⟨q1_7, e1_7, h⟩ := bnd h
 obtain ⟨q1_14, e1_14, h⟩ := bnd h
 refine WC.region ?_
 refine sp (OpV.move rfl) ?_
 refine sp (OpV.call (evs.cons rfl (evs.cons rfl (evs.cons rfl (evs.nil)))) ca_88 (fun w hs => w_spec_l01In e1_1)) ?_
 refine sp (OpV.not rfl) ?_
 refine sp (OpV.move rfl) ?_
 refine Lt.ofWL.orQ 10 14 13 (p := ?pz1) (rest := ?qz1) (B := q1_7) rfl (fun hz => orO_t e1_7 hz) ?Tz1 ?Fz1 ?az1 ?bz1 ?cz1 ?dz1 ?ez1
 case Tz1 =>
  intro hcz1 hkz1
  refine sk ?_
  refine sk ?_
  refine sk ?_
  refine hkz1 _ ?_
  repeat (first | exact Sub.refl _ | refine Sub.skip rfl ?_)
 case Fz1 =>
  intro hcz1 hkz1
  have hqz1 := orO_f e1_7 hcz1
  obtain ⟨x1_5, e1_5, hqz1⟩ := bnd hqz1
  obtain rfl := Option.some.inj hqz1
  refine sp (OpV.move rfl) ?_
  refine sp (OpV.call (evs.cons rfl (evs.cons rfl (evs.cons rfl (evs.nil)))) ca_88 (fun w hs => w_spec_l01In e1_5)) ?_
  refine sp (OpV.not rfl) ?_
  refine hkz1 _ ?_ ?_
  exact rfl
  repeat (first | exact Sub.refl _ | refine Sub.skip rfl ?_)
 case az1 => exact rfl
 case bz1 => exact rfl
 case cz1 => exact rfl
 case dz1 => exact rfl
 refine sp (OpV.move rfl) ?_
 refine Lt.ofWL.orQ 15 21 20 (p := ?pz2) (rest := ?qz2) (B := q1_14) rfl (fun hz => orO_t e1_14 hz) ?Tz2 ?Fz2 ?az2 ?bz2 ?cz2 ?dz2 ?ez2
 case Tz2 =>
  intro hcz2 hkz2
  refine sk ?_
  refine sk ?_
  refine sk ?_
  refine sk ?_
  refine sk ?_
  refine hkz2 _ ?_
  repeat (first | exact Sub.refl _ | refine Sub.skip rfl ?_)
 case Fz2 =>
  intro hcz2 hkz2
  have hqz2 := orO_f e1_14 hcz2
  obtain ⟨x1_12, e1_12, hqz2⟩ := bnd hqz2
  obtain rfl := Option.some.inj hqz2
  refine sp (OpV.move rfl) ?_
  refine sp (OpV.move rfl) ?_
  refine sp (OpV.subR rfl rfl) ?_
  refine sp (OpV.call (evs.cons rfl (evs.cons rfl (evs.cons rfl (evs.nil)))) ca_88 (fun w hs => w_spec_l01In e1_12)) ?_
  refine sp (OpV.not rfl) ?_
  refine hkz2 _ ?_ ?_
  exact rfl
  repeat (first | exact Sub.refl _ | refine Sub.skip rfl ?_)
 case az2 => exact rfl
 case bz2 => exact rfl
 case cz2 => exact rfl
 case dz2 => exact rfl
 refine WL.nil (En.next ?_)
 refine WC.cond rfl ?_ ?_
 ·
  intro hc_1
  replace h := ifO_t hc_1 h
  refine WC.seq (WC.region ?_)
  refine sp (OpV.assign rfl) ?_
  refine WL.nil (En.next (WC.ret (En.then_ret ?_)))
  refine En.ret1 rfl (Res.tmp rfl) ?_
  obtain rfl := Option.some.inj h
  intro w' hs
  exact ⟨rfl, hs.below⟩
 ·
  intro hc_1
  replace h := ifO_f hc_1 h
  refine WC.skip (En.next (WC.seq ?_))
  obtain ⟨x3_4, e3_4, h⟩ := bnd h
  refine WC.region ?_
  refine sp (OpV.move rfl) ?_
  refine sp (OpV.move rfl) ?_
  refine sp (OpV.mulR rfl rfl) ?_
  refine sp (OpV.move rfl) ?_
  refine sp (OpV.quoR rfl rfl e3_4) ?_
  refine sp (OpV.assign rfl) ?_
  refine WL.nil (En.next (WC.ret ?_))
  refine En.ret1 rfl (Res.tmp rfl) ?_
  obtain rfl := Option.some.inj h
  intro w' hs
  exact ⟨rfl, hs.below⟩

theorem w_spec_Scaled {i_p0 : ImageT} {w_p1 : Int} {h_p2 : Int} {r : ImageT} {q0_0 : Option Addr} {n0_0 k0_0 : Nat} (h : spec_Scaled i_p0 w_p1 h_p2 = some r) {w : World} (r0_0 : Rd tInt w q0_0 n0_0 k0_0 i_p0.Data)   :
    Calls Tryz.prog 167 #[.agg #[.int .i64 i_p0.W, .int .i64 i_p0.H, .slice q0_0 n0_0 k0_0], .int .i64 w_p1, .int .i64 h_p2] w (fun en w' => ∃ rv G, en = .returned rv ∧ (∃ (a0_0 : Option Addr) (n0_0 : Nat) (c0_0 : Nat) (f0_0 : List Nat), rv = .agg #[.int .i64 r.W, .int .i64 r.H, .slice a0_0 n0_0 c0_0] ∧ G = [Chunk.own tInt f0_0 a0_0 n0_0 c0_0 r.Data]) ∧ St w G w') := by
 obtain rfl := r0_0.1
 unfold spec_Scaled at h
 refine enter (vs := [_, _, _]) Tryz.func167 rfl rfl rfl rfl ?_
 refine WC.seq (WC.region ?_)
 refine WL.heavy rfl rfl rfl (OpH.box rfl rfl ?_)
 intro b0_0
 refine WL.heavy rfl rfl rfl (OpH.alloc zc_96 ?_)
 intro b0_1
 refine WL.nil (En.next (WC.seq (WC.seq ?_)))
 obtain ⟨x1_1, e1_1, h⟩ := bnd h
 obtain ⟨q1_7, e1_7, h⟩ := bnd h
 obtain ⟨q1_12, e1_12, h⟩ := bnd h
 refine WC.region ?_
 refine sp (OpV.loadAll rfl (.tail _ (.head _)) ag_96) ?_
 refine sp (OpV.call (evs.cons rfl (evs.nil)) ca_168 (fun w hs => w_spec_ImageOk e1_1 (r0_0.ext hs.below))) ?_
 refine sp (OpV.not rfl) ?_
 refine sp (OpV.move rfl) ?_
 refine Lt.ofWL.orQ 13 17 16 (p := ?pz1) (rest := ?qz1) (B := q1_7) rfl (fun hz => orO_t e1_7 hz) ?Tz1 ?Fz1 ?az1 ?bz1 ?cz1 ?dz1 ?ez1
 case Tz1 =>
  intro hcz1 hkz1
  refine sk ?_
  refine sk ?_
  refine sk ?_
  refine hkz1 _ ?_
  repeat (first | exact Sub.refl _ | refine Sub.skip rfl ?_)
 case Fz1 =>
  intro hcz1 hkz1
  have hqz1 := orO_f e1_7 hcz1
  obtain ⟨x1_5, e1_5, hqz1⟩ := bnd hqz1
  obtain rfl := Option.some.inj hqz1
  refine sp (OpV.move rfl) ?_
  refine sp (OpV.call (evs.cons rfl (evs.cons rfl (evs.cons rfl (evs.nil)))) ca_88 (fun w hs => w_spec_l01In e1_5)) ?_
  refine sp (OpV.not rfl) ?_
  refine hkz1 _ ?_ ?_
  exact rfl
  repeat (first | exact Sub.refl _ | refine Sub.skip rfl ?_)
 case az1 => exact rfl
 case bz1 => exact rfl
 case cz1 => exact rfl
 case dz1 => exact rfl
 refine sp (OpV.move rfl) ?_
 refine Lt.ofWL.orQ 18 22 21 (p := ?pz2) (rest := ?qz2) (B := q1_12) rfl (fun hz => orO_t e1_12 hz) ?Tz2 ?Fz2 ?az2 ?bz2 ?cz2 ?dz2 ?ez2
 case Tz2 =>
  intro hcz2 hkz2
  refine sk ?_
  refine sk ?_
  refine sk ?_
  refine hkz2 _ ?_
  repeat (first | exact Sub.refl _ | refine Sub.skip rfl ?_)
 case Fz2 =>
  intro hcz2 hkz2
  have hqz2 := orO_f e1_12 hcz2
  obtain ⟨x1_10, e1_10, hqz2⟩ := bnd hqz2
  obtain rfl := Option.some.inj hqz2
  refine sp (OpV.move rfl) ?_
  refine sp (OpV.call (evs.cons rfl (evs.cons rfl (evs.cons rfl (evs.nil)))) ca_88 (fun w hs => w_spec_l01In e1_10)) ?_
  refine sp (OpV.not rfl) ?_
  refine hkz2 _ ?_ ?_
  exact rfl
  repeat (first | exact Sub.refl _ | refine Sub.skip rfl ?_)
 case az2 => exact rfl
 case bz2 => exact rfl
 case cz2 => exact rfl
 case dz2 => exact rfl
 refine WL.nil (En.next ?_)
 refine WC.cond rfl ?_ ?_
 ·
  intro hc_1
  replace h := ifO_t hc_1 h
  refine WC.seq (WC.region ?_)
  refine sp (OpV.build (evps.nil) bd_96_) ?_
  refine WL.heavy0 rfl rfl (OpH.storeTo (A := []) [_, _, _] rfl rfl rfl ts_96 rfl rfl rfl ?_)
  refine WL.nil (En.next (WC.ret (En.then_ret ?_)))
  refine En.ret1 rfl (Res.cell rfl (.head _) ag_96) ?_
  obtain rfl := Option.some.inj h
  intro w' hs
  have hs := ((hs).ownNil (A := tInt)).sub (.cons_cons _ (.cons _ (.cons _ (.slnil))))
  exact ⟨_, _, rfl, ⟨.none, 0, 0, [], rfl, rfl⟩, hs⟩
 ·
  intro hc_1
  replace h := ifO_f hc_1 h
  refine WC.skip (En.next (WC.seq (WC.region ?_)))
  refine sp (OpV.move rfl) ?_
  refine sp (OpV.move rfl) ?_
  refine sp (OpV.build (evps.cons rfl (evps.cons rfl (evps.nil))) (bd_96_0_1 _ _)) ?_
  refine WL.heavy rfl rfl rfl (OpH.alloc zc_96 ?_)
  intro b3_3
  refine WL.heavy0 rfl rfl (OpH.storeTo (A := []) [_, _, _] rfl rfl rfl ts_96 rfl rfl rfl ?_)
  refine WL.nil (En.next (WC.seq (WC.seq (WC.region ?_))))
  refine sp (OpV.assign rfl) ?_
  refine WL.nil (En.next (WC.block ?_))
  obtain ⟨zy0, ezy0, h⟩ := bnd h
  refine WC.cut (X := ((List Int)) × ((Option Addr) × Nat × Nat × (List Nat))) (.exit 0) (fun x => zy0 = x.1) (fun x => match x with | (out_0e, (aout_0e, nout_0e, cout_0e, fout_0e)) => [(6, .pointer (some ⟨b0_1, 0, .none⟩)), (7, .pointer (some ⟨b3_3, 0, .none⟩))]) (fun x => match x with | (out_0e, (aout_0e, nout_0e, cout_0e, fout_0e)) => [Chunk.box b0_1 96 [.int .i64 0, .int .i64 0, .slice .none 0 0], Chunk.box b3_3 96 [.int .i64 w_p1, .int .i64 h_p2, .slice aout_0e nout_0e cout_0e], Chunk.own tInt fout_0e aout_0e nout_0e cout_0e out_0e]) ?_ ?_
  ·
   rintro ⟨out_0e, ⟨aout_0e, nout_0e, cout_0e, fout_0e⟩⟩ hx
   replace hx : out_0e = zy0 := hx.symm
   subst hx
   show En _ _ _ _ [(6, .pointer (some ⟨b0_1, 0, .none⟩)), (7, .pointer (some ⟨b3_3, 0, .none⟩))] [Chunk.box b0_1 96 [.int .i64 0, .int .i64 0, .slice .none 0 0], Chunk.box b3_3 96 [.int .i64 w_p1, .int .i64 h_p2, .slice aout_0e nout_0e cout_0e], Chunk.own tInt fout_0e aout_0e nout_0e cout_0e out_0e]
   refine En.block_exit (En.next (WC.seq (WC.region ?_)))
   refine sp (OpV.loadAll rfl (.tail _ (.head _)) ag_96) ?_
   refine WL.heavy0 rfl rfl (OpH.storeTo (A := []) [_, _, _] rfl rfl rfl ts_96 rfl rfl rfl ?_)
   refine WL.nil (En.next (WC.ret ?_))
   refine En.ret1 rfl (Res.cell rfl (.head _) ag_96) ?_
   obtain rfl := Option.some.inj h
   intro w' hs
   have hs := ((hs).perm (List.perm_middle (l₁ := [_, _]))).sub (.cons_cons _ (.cons _ (.cons _ (.slnil))))
   exact ⟨_, _, rfl, ⟨aout_0e, nout_0e, cout_0e, fout_0e, rfl, rfl⟩, hs⟩
  ·
   intro zK0_0
   refine WC.loopP (G := (Option Addr) × Nat × Nat × (List Nat)) (fun s g => match s, g with | (out_0, y_0), (aout_0, nout_0, cout_0, fout_0) => [(1, .int .i64 w_p1), (2, .int .i64 h_p2), (3, .pointer (some ⟨b0_0, 0, .none⟩)), (6, .pointer (some ⟨b0_1, 0, .none⟩)), (7, .pointer (some ⟨b3_3, 0, .none⟩)), (8, .int .i64 y_0)]) (fun s g => match s, g with | (out_0, y_0), (aout_0, nout_0, cout_0, fout_0) => [Chunk.box b0_0 96 [.int .i64 i_p0.W, .int .i64 i_p0.H, .slice q0_0 i_p0.Data.length k0_0], Chunk.box b0_1 96 [.int .i64 0, .int .i64 0, .slice .none 0 0], Chunk.box b3_3 96 [.int .i64 w_p1, .int .i64 h_p2, .slice aout_0 nout_0 cout_0], Chunk.own tInt fout_0 aout_0 nout_0 cout_0 out_0]) ([], 0) (.none, 0, 0, []) ezy0 (by exact Sub.cons rfl (Sub.cons rfl (Sub.cons rfl (Sub.cons rfl (Sub.cons rfl (Sub.cons rfl (Sub.nil _))))))) (by exact (fun _ h => ((((h).ownNil (A := tInt)).perm (List.perm_middle (l₁ := [_]))).perm (List.perm_middle (l₁ := [_, _]))).perm (List.perm_middle (l₁ := [_, _, _])))) ?_
   rintro zm0 ⟨out_0, y_0⟩ ⟨aout_0, nout_0, cout_0, fout_0⟩ zo0 zf0 zb0 ze0
   have zh0 : spec_Scaled_L0 i_p0 w_p1 h_p2 out_0 y_0 = some zo0 := zf0
   unfold spec_Scaled_L0 at zh0
   show WC _ _ _ _ _ [(1, .int .i64 w_p1), (2, .int .i64 h_p2), (3, .pointer (some ⟨b0_0, 0, .none⟩)), (6, .pointer (some ⟨b0_1, 0, .none⟩)), (7, .pointer (some ⟨b3_3, 0, .none⟩)), (8, .int .i64 y_0)] [Chunk.box b0_0 96 [.int .i64 i_p0.W, .int .i64 i_p0.H, .slice q0_0 i_p0.Data.length k0_0], Chunk.box b0_1 96 [.int .i64 0, .int .i64 0, .slice .none 0 0], Chunk.box b3_3 96 [.int .i64 w_p1, .int .i64 h_p2, .slice aout_0 nout_0 cout_0], Chunk.own tInt fout_0 aout_0 nout_0 cout_0 out_0]
   refine WC.seq (WC.seq (WC.region ?_))
   refine sp (OpV.move rfl) ?_
   refine sp (OpV.move rfl) ?_
   refine sp (OpV.lss rfl rfl) ?_
   refine WL.nil (En.next ?_)
   refine WC.cond rfl ?_ ?_
   ·
    intro hc_2
    replace zh0 := ifO_t hc_2 zh0
    refine WC.skip (En.next (WC.seq (WC.block (WC.seq (WC.region ?_)))))
    refine sp (OpV.assign rfl) ?_
    refine WL.nil (En.next (WC.block ?_))
    obtain ⟨zy1, ezy1, zh0⟩ := bnd zh0
    refine WC.cut (X := ((List Int)) × ((Option Addr) × Nat × Nat × (List Nat))) (.exit 2) (fun x => zy1 = x.1) (fun x => match x with | (out_1e, (aout_1e, nout_1e, cout_1e, fout_1e)) => [(1, .int .i64 w_p1), (2, .int .i64 h_p2), (3, .pointer (some ⟨b0_0, 0, .none⟩)), (6, .pointer (some ⟨b0_1, 0, .none⟩)), (7, .pointer (some ⟨b3_3, 0, .none⟩)), (8, .int .i64 y_0)]) (fun x => match x with | (out_1e, (aout_1e, nout_1e, cout_1e, fout_1e)) => [Chunk.box b0_0 96 [.int .i64 i_p0.W, .int .i64 i_p0.H, .slice q0_0 i_p0.Data.length k0_0], Chunk.box b0_1 96 [.int .i64 0, .int .i64 0, .slice .none 0 0], Chunk.box b3_3 96 [.int .i64 w_p1, .int .i64 h_p2, .slice aout_1e nout_1e cout_1e], Chunk.own tInt fout_1e aout_1e nout_1e cout_1e out_1e]) ?_ ?_
    ·
     rintro ⟨out_1e, ⟨aout_1e, nout_1e, cout_1e, fout_1e⟩⟩ hx
     replace hx : out_1e = zy1 := hx.symm
     subst hx
     show En _ _ _ _ [(1, .int .i64 w_p1), (2, .int .i64 h_p2), (3, .pointer (some ⟨b0_0, 0, .none⟩)), (6, .pointer (some ⟨b0_1, 0, .none⟩)), (7, .pointer (some ⟨b3_3, 0, .none⟩)), (8, .int .i64 y_0)] [Chunk.box b0_0 96 [.int .i64 i_p0.W, .int .i64 i_p0.H, .slice q0_0 i_p0.Data.length k0_0], Chunk.box b0_1 96 [.int .i64 0, .int .i64 0, .slice .none 0 0], Chunk.box b3_3 96 [.int .i64 w_p1, .int .i64 h_p2, .slice aout_1e nout_1e cout_1e], Chunk.own tInt fout_1e aout_1e nout_1e cout_1e out_1e]
     refine En.block_exit (En.block_norm (En.next (WC.region ?_)))
     refine sp (OpV.move rfl) ?_
     refine sp (OpV.addR rfl rfl) ?_
     refine sp (OpV.assign rfl) ?_
     refine WL.nil ?_
     exact En.backP zb0 zh0 (aout_1e, nout_1e, cout_1e, fout_1e) (Sub.cons rfl (Sub.cons rfl (Sub.cons rfl (Sub.cons rfl (Sub.cons rfl (Sub.cons rfl (Sub.nil _))))))) (fun _ h => h)
    ·
     intro zK1_0
     refine WC.loopP (G := (Option Addr) × Nat × Nat × (List Nat)) (fun s g => match s, g with | (out_1, x_1), (aout_1, nout_1, cout_1, fout_1) => [(1, .int .i64 w_p1), (2, .int .i64 h_p2), (3, .pointer (some ⟨b0_0, 0, .none⟩)), (6, .pointer (some ⟨b0_1, 0, .none⟩)), (7, .pointer (some ⟨b3_3, 0, .none⟩)), (8, .int .i64 y_0), (9, .int .i64 x_1)]) (fun s g => match s, g with | (out_1, x_1), (aout_1, nout_1, cout_1, fout_1) => [Chunk.box b0_0 96 [.int .i64 i_p0.W, .int .i64 i_p0.H, .slice q0_0 i_p0.Data.length k0_0], Chunk.box b0_1 96 [.int .i64 0, .int .i64 0, .slice .none 0 0], Chunk.box b3_3 96 [.int .i64 w_p1, .int .i64 h_p2, .slice aout_1 nout_1 cout_1], Chunk.own tInt fout_1 aout_1 nout_1 cout_1 out_1]) (out_0, 0) (aout_0, nout_0, cout_0, fout_0) ezy1 (by exact Sub.cons rfl (Sub.cons rfl (Sub.cons rfl (Sub.cons rfl (Sub.cons rfl (Sub.cons rfl (Sub.cons rfl (Sub.nil _)))))))) (by exact (fun _ h => h)) ?_
     rintro zm1 ⟨out_1, x_1⟩ ⟨aout_1, nout_1, cout_1, fout_1⟩ zo1 zf1 zb1 ze1
     have zh1 : spec_Scaled_L1 i_p0 w_p1 h_p2 y_0 out_1 x_1 = some zo1 := zf1
     unfold spec_Scaled_L1 at zh1
     show WC _ _ _ _ _ [(1, .int .i64 w_p1), (2, .int .i64 h_p2), (3, .pointer (some ⟨b0_0, 0, .none⟩)), (6, .pointer (some ⟨b0_1, 0, .none⟩)), (7, .pointer (some ⟨b3_3, 0, .none⟩)), (8, .int .i64 y_0), (9, .int .i64 x_1)] [Chunk.box b0_0 96 [.int .i64 i_p0.W, .int .i64 i_p0.H, .slice q0_0 i_p0.Data.length k0_0], Chunk.box b0_1 96 [.int .i64 0, .int .i64 0, .slice .none 0 0], Chunk.box b3_3 96 [.int .i64 w_p1, .int .i64 h_p2, .slice aout_1 nout_1 cout_1], Chunk.own tInt fout_1 aout_1 nout_1 cout_1 out_1]
     refine WC.seq (WC.seq (WC.region ?_))
     refine sp (OpV.move rfl) ?_
     refine sp (OpV.move rfl) ?_
     refine sp (OpV.lss rfl rfl) ?_
     refine WL.nil (En.next ?_)
     refine WC.cond rfl ?_ ?_
     ·
      intro hc_3
      replace zh1 := ifO_t hc_3 zh1
      refine WC.skip (En.next (WC.seq (WC.block ?_)))
      obtain ⟨x10_8, e10_8, zh1⟩ := bnd zh1
      obtain ⟨x10_16, e10_16, zh1⟩ := bnd zh1
      obtain ⟨x10_18, e10_18, zh1⟩ := bnd zh1
      obtain ⟨g10_18, o10_18, _, ha10_18, rfl, hd10_18⟩ := Rd.atIdx r0_0 e10_18
      replace hd10_18 : ∀ (j : Nat) v, ([.int .i64 x10_18] : List Value)[j]? = some v → w.cell? ⟨g10_18, o10_18 + (wr ((wr (x10_8 * i_p0.W)) + x10_16)).toNat * 1 + j, .none⟩ = some v := hd10_18
      obtain ⟨x10_21, e10_21, zh1⟩ := bnd zh1
      refine WC.wkF (fun _ h => h.perm (List.perm_middle (l₁ := [_, _, _]))) ?_
      refine WC.wkF (fun _ h => h.perm (List.perm_middle (l₁ := [_, _, _]))) ?_
      refine WC.drawnH [_, _] ([_, _]) (fun _ h => h) (by kernel_rfl) ?_
      refine WAE.take (i := 0) rfl (by kernel_rfl) (by kernel_rfl) (by kernel_rfl) rfl rfl rfl (OpV.fieldAddr rfl fo_96_2) ?_
      refine WAE.take (i := 2) rfl (by kernel_rfl) (by kernel_rfl) (by kernel_rfl) rfl rfl rfl (OpV.fieldAddr rfl fo_96_2) ?_
      refine WAE.take (i := 3) rfl (by kernel_rfl) (by kernel_rfl) (by kernel_rfl) rfl rfl rfl (OpV.loadBox rfl pt_23 (.head _) rfl) ?_
      refine WAE.take (i := 4) rfl (by kernel_rfl) (by kernel_rfl) (by kernel_rfl) rfl rfl rfl (OpV.fieldAddr rfl fo_96_1) ?_
      refine WAE.take (i := 5) rfl (by kernel_rfl) (by kernel_rfl) (by kernel_rfl) rfl rfl rfl (OpV.loadBox rfl pt_3 (.head _) rfl) ?_
      refine WAE.take (i := 6) rfl (by kernel_rfl) (by kernel_rfl) (by kernel_rfl) rfl rfl rfl (OpV.move rfl) ?_
      refine WAE.take (i := 7) rfl (by kernel_rfl) (by kernel_rfl) (by kernel_rfl) rfl rfl rfl (OpV.move rfl) ?_
      refine WAE.take (i := 8) rfl (by kernel_rfl) (by kernel_rfl) (by kernel_rfl) rfl rfl rfl (OpV.call (evs.cons rfl (evs.cons rfl (evs.cons rfl (evs.nil)))) ca_197 (fun w hs => w_spec_ScalePoint e10_8)) ?_
      refine WAE.take (i := 9) rfl (by kernel_rfl) (by kernel_rfl) (by kernel_rfl) rfl rfl rfl (OpV.fieldAddr rfl fo_96_0) ?_
      refine WAE.take (i := 10) rfl (by kernel_rfl) (by kernel_rfl) (by kernel_rfl) rfl rfl rfl (OpV.loadBox rfl pt_3 (.head _) rfl) ?_
      refine WAE.take (i := 11) rfl (by kernel_rfl) (by kernel_rfl) (by kernel_rfl) rfl rfl rfl (OpV.mulR rfl rfl) ?_
      refine WAE.take (i := 12) rfl (by kernel_rfl) (by kernel_rfl) (by kernel_rfl) rfl rfl rfl (OpV.fieldAddr rfl fo_96_0) ?_
      refine WAE.take (i := 13) rfl (by kernel_rfl) (by kernel_rfl) (by kernel_rfl) rfl rfl rfl (OpV.loadBox rfl pt_3 (.head _) rfl) ?_
      refine WAE.take (i := 14) rfl (by kernel_rfl) (by kernel_rfl) (by kernel_rfl) rfl rfl rfl (OpV.move rfl) ?_
      refine WAE.take (i := 15) rfl (by kernel_rfl) (by kernel_rfl) (by kernel_rfl) rfl rfl rfl (OpV.move rfl) ?_
      refine WAE.take (i := 16) rfl (by kernel_rfl) (by kernel_rfl) (by kernel_rfl) rfl rfl rfl (OpV.call (evs.cons rfl (evs.cons rfl (evs.cons rfl (evs.nil)))) ca_197 (fun w hs => w_spec_ScalePoint e10_16)) ?_
      refine WAE.take (i := 17) rfl (by kernel_rfl) (by kernel_rfl) (by kernel_rfl) rfl rfl rfl (OpV.addR rfl rfl) ?_
      refine WAE.take (i := 18) rfl (by kernel_rfl) (by kernel_rfl) (by kernel_rfl) rfl rfl rfl (OpV.idxA rfl rfl se_23 ha10_18 ⟨(idx_some e10_18).1, (idx_some e10_18).2.1⟩) ?_
      refine WAE.take (i := 19) rfl (by kernel_rfl) (by kernel_rfl) (by kernel_rfl) rfl rfl rfl (OpV.load1 rfl pt_3 (fun w hs => hs.cell (hd10_18 0 _ rfl))) ?_
      refine WAE.all (rs := [1, 20]) (by kernel_rfl) rfl (AllR.cons rfl rfl rfl rfl ?_ (AllR.cons rfl rfl rfl rfl ?_ AllR.nil))
      ·
       refine OpH.light (OpV.loadBox rfl pt_23 (.head _) rfl) ?_
       refine ⟨[_, _], rfl, ?_⟩
       refine WAE.all (rs := [20]) (by kernel_rfl) rfl (AllR.cons rfl rfl rfl rfl ?_ AllR.nil)
       refine OpH.litF (A := tInt) (xs := [x10_18]) tInt_flat (evps.cons rfl (evps.nil)) (bs_23_1_0 _) rfl rfl (Nat.le_of_ble_eq_true rfl) ?_
       intro b10_20
       refine ⟨[_, _, _], rfl, ?_⟩
       refine WAE.all (rs := [21]) (by kernel_rfl) rfl (AllR.cons rfl rfl rfl rfl ?_ AllR.nil)
       refine OpH.appS (F := [_, _]) (A := tInt) tInt_flat rfl rfl rfl mi_23 rfl (by decide) (fun w hs => (Ow.rd (hs.mem (.head _)))) e10_21 ?_
       intro f10_21 a10_21 c10_21
       refine ⟨[_, _, _], rfl, ?_⟩
       refine WAE.take (i := 22) rfl (by kernel_rfl) (by kernel_rfl) (by kernel_rfl) rfl rfl rfl (OpV.fieldAddr rfl fo_96_2) ?_
       refine WAE.all (rs := [23]) (by kernel_rfl) rfl (AllR.cons0 rfl rfl rfl ?_ AllR.nil)
       refine OpH.storeTo (A := [_]) [_, _, _] rfl rfl rfl ts_23 rfl rfl rfl ?_
       refine ⟨[_, _, _], rfl, ?_⟩
       refine WAE.rebase (H := []) ?_
       refine WAE.done (by kernel_rfl) ?_ _
       refine En.block_norm (En.next (WC.region ?_))
       refine sp (OpV.move rfl) ?_
       refine sp (OpV.addR rfl rfl) ?_
       refine sp (OpV.assign rfl) ?_
       refine WL.nil ?_
       exact En.backP zb1 zh1 (a10_21, x10_21.length, c10_21, f10_21) (Sub.cons rfl (Sub.cons rfl (Sub.cons rfl (Sub.cons rfl (Sub.cons rfl (Sub.cons rfl (Sub.cons rfl (Sub.nil _)))))))) (fun _ h => (((((h).perm (List.perm_middle (l₁ := [_, _]))).perm (List.perm_middle (l₁ := [_, _]))).perm (List.perm_middle (l₁ := [_, _, _, _]))).perm (List.perm_middle (l₁ := [_, _, _, _]))).sub (.cons_cons _ (.cons_cons _ (.cons_cons _ (.cons_cons _ (.cons _ (.slnil)))))))
      ·
       refine OpH.litF (A := tInt) (xs := [x10_18]) tInt_flat (evps.cons rfl (evps.nil)) (bs_23_1_0 _) rfl rfl (Nat.le_of_ble_eq_true rfl) ?_
       intro b10_20
       refine ⟨[_, _, _], rfl, ?_⟩
       refine WAE.all (rs := [1]) (by kernel_rfl) rfl (AllR.cons rfl rfl rfl rfl ?_ AllR.nil)
       refine OpH.light (OpV.loadBox rfl pt_23 (.tail _ (.head _)) rfl) ?_
       refine ⟨[_, _, _], rfl, ?_⟩
       refine WAE.all (rs := [21]) (by kernel_rfl) rfl (AllR.cons rfl rfl rfl rfl ?_ AllR.nil)
       refine OpH.appS (F := [_, _]) (A := tInt) tInt_flat rfl rfl rfl mi_23 rfl (by decide) (fun w hs => (Ow.rd (hs.mem (.head _)))) e10_21 ?_
       intro f10_21 a10_21 c10_21
       refine ⟨[_, _, _], rfl, ?_⟩
       refine WAE.take (i := 22) rfl (by kernel_rfl) (by kernel_rfl) (by kernel_rfl) rfl rfl rfl (OpV.fieldAddr rfl fo_96_2) ?_
       refine WAE.all (rs := [23]) (by kernel_rfl) rfl (AllR.cons0 rfl rfl rfl ?_ AllR.nil)
       refine OpH.storeTo (A := [_]) [_, _, _] rfl rfl rfl ts_23 rfl rfl rfl ?_
       refine ⟨[_, _, _], rfl, ?_⟩
       refine WAE.rebase (H := []) ?_
       refine WAE.done (by kernel_rfl) ?_ _
       refine En.block_norm (En.next (WC.region ?_))
       refine sp (OpV.move rfl) ?_
       refine sp (OpV.addR rfl rfl) ?_
       refine sp (OpV.assign rfl) ?_
       refine WL.nil ?_
       exact En.backP zb1 zh1 (a10_21, x10_21.length, c10_21, f10_21) (Sub.cons rfl (Sub.cons rfl (Sub.cons rfl (Sub.cons rfl (Sub.cons rfl (Sub.cons rfl (Sub.cons rfl (Sub.nil _)))))))) (fun _ h => (((((h).perm (List.perm_middle (l₁ := [_, _]))).perm (List.perm_middle (l₁ := [_, _]))).perm (List.perm_middle (l₁ := [_, _, _, _]))).perm (List.perm_middle (l₁ := [_, _, _, _]))).sub (.cons_cons _ (.cons_cons _ (.cons_cons _ (.cons_cons _ (.cons _ (.slnil)))))))
     ·
      intro hc_3
      replace zh1 := ifO_f hc_3 zh1
      refine WC.exit (En.then_exit (En.then_exit ?_))
      have hx := exitP ze1 zh1
      exact En.wk _ _ (Sub.cons rfl (Sub.cons rfl (Sub.cons rfl (Sub.cons rfl (Sub.cons rfl (Sub.cons rfl (Sub.nil _))))))) (fun _ h => h) (zK1_0 (out_1, (aout_1, nout_1, cout_1, fout_1)) hx.symm)
   ·
    intro hc_2
    replace zh0 := ifO_f hc_2 zh0
    refine WC.exit (En.then_exit (En.then_exit ?_))
    have hx := exitP ze0 zh0
    exact En.wk _ _ (Sub.cons rfl (Sub.cons rfl (Sub.nil _))) (fun _ h => ((((h).perm (List.perm_middle (l₁ := [_, _, _]))).perm (List.perm_middle (l₁ := [_, _, _]))).perm (List.perm_middle (l₁ := [_, _, _]))).sub (.cons_cons _ (.cons_cons _ (.cons_cons _ (.cons _ (.slnil)))))) (zK0_0 (out_0, (aout_0, nout_0, cout_0, fout_0)) hx.symm)

end Go.Proofs.YtdbnoiiacpmbpaaGreat
