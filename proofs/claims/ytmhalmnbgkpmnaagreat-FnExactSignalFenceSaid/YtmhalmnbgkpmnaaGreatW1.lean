/- Walks: the program computes the pure functions. -/
import Derived.Test.YtmhalmnbgkpmnaaGreatDefs
import Derived.Test.YtmhalmnbgkpmnaaGreatFacts
import Derived.Test.YtmhalmnbgkpmnaaGreatRepeat
import Derived.Test.YtmhalmnbgkpmnaaGreatPlanes
import Derived.Test.YtmhalmnbgkpmnaaGreatInsert
namespace Go.Proofs.YtmhalmnbgkpmnaaGreat
open Go.RowKit K
set_option maxRecDepth 100000
set_option maxHeartbeats 4000000

theorem w_laws_szIntS {a_p0 : List Int} {left_p1 : Int} {r : Int} {q0_0 : Option Addr} {l0_0 k0_0 : Nat} (h : laws_szIntS a_p0 left_p1 = some r) {w : World} (r0_0 : Rd tInt w q0_0 l0_0 k0_0 a_p0)   :
    Calls Tryz.prog 39 #[.slice q0_0 l0_0 k0_0, .int .i64 left_p1] w (fun en w' => en = .returned (.int .i64 r) ∧ Ext w w') := by
 obtain rfl := r0_0.1
 unfold laws_szIntS at h
 refine enter (vs := [_, _]) Tryz.func39 rfl rfl rfl rfl ?_
 refine WC.sr ?_
 refine ag ?_
 refine WL.nil (En.next (WC.sr ?_))
 refine mv ?_
 refine mv ?_
 refine sp (OpV.len rfl si_23 rfl) ?_
 refine sp (OpV.subR rfl rfl) ?_
 refine ag ?_
 refine WL.nil (En.next (WC.seq (WC.sr ?_)))
 refine mv ?_
 refine sp (OpV.lss rfl rfl) ?_
 refine WL.nil (En.next ?_)
 refine WC.cond rfl ?_ ?_
 ·
  intro hc_1
  replace h := ifO_t hc_1 h
  refine WC.sr ?_
  refine ag ?_
  refine WL.nil (En.next (WC.ret (En.then_ret ?_)))
  refine En.ret1 rfl (Res.tmp rfl) ?_
  obtain rfl := Option.some.inj h
  intro w' hs
  exact ⟨rfl, hs.below⟩
 ·
  intro hc_1
  replace h := ifO_f hc_1 h
  refine WC.skip (En.next (WC.sr ?_))
  refine mv ?_
  refine ag ?_
  refine WL.nil (En.next (WC.ret ?_))
  refine En.ret1 rfl (Res.tmp rfl) ?_
  obtain rfl := Option.some.inj h
  intro w' hs
  exact ⟨rfl, hs.below⟩

theorem w_laws_szPlane {a_p0 : PlaneT} {left_p1 : Int} {r : Int} {q0_0 : Option Addr} {l0_0 k0_0 : Nat} (h : laws_szPlane a_p0 left_p1 = some r) {w : World} (r0_0 : Rd tInt w q0_0 l0_0 k0_0 a_p0.Words)   :
    Calls Tryz.prog 93 #[.agg #[.bool a_p0.On, .int .i64 a_p0.X, .int .i64 a_p0.Y, .int .i64 a_p0.W, .int .i64 a_p0.H, .int .i64 a_p0.Layout, .slice q0_0 l0_0 k0_0, .int .i64 a_p0.Alpha, .int .i64 a_p0.Orient, .int .i64 a_p0.ToW, .int .i64 a_p0.ToH], .int .i64 left_p1] w (fun en w' => en = .returned (.int .i64 r) ∧ Ext w w') := by
 obtain rfl := r0_0.1
 unfold laws_szPlane at h
 refine enter (vs := [_, _]) Tryz.func93 rfl rfl rfl rfl ?_
 refine WC.sr ?_
 refine WL.heavy rfl rfl rfl (OpH.box rfl rfl ?_)
 intro b0_0
 refine ag ?_
 refine WL.nil (En.next (WC.seq ?_))
 obtain ⟨x1_3, e1_3, h⟩ := bnd h
 refine WC.region ?_
 refine sp (OpV.fieldAddr rfl fo_118_6) ?_
 refine sp (OpV.loadBox rfl pt_23 mq0 rfl) ?_
 refine mv ?_
 refine sp (OpV.call (ec rfl (ec rfl e0)) ca_39 (fun w hs => w_laws_szIntS e1_3 (r0_0.ext hs.below))) ?_
 refine ag ?_
 refine WL.nil (En.next (WC.seq (WC.sr ?_)))
 refine mv ?_
 refine sp (OpV.lss rfl rfl) ?_
 refine WL.nil (En.next ?_)
 refine WC.cond rfl ?_ ?_
 ·
  intro hc_1
  replace h := ifO_t hc_1 h
  refine WC.sr ?_
  refine ag ?_
  refine WL.nil (En.next (WC.ret (En.then_ret ?_)))
  refine En.ret1 rfl (Res.tmp rfl) ?_
  obtain rfl := Option.some.inj h
  intro w' hs
  exact ⟨rfl, hs.below⟩
 ·
  intro hc_1
  replace h := ifO_f hc_1 h
  refine WC.skip (En.next (WC.sr ?_))
  refine mv ?_
  refine ag ?_
  refine WL.nil (En.next (WC.ret ?_))
  refine En.ret1 rfl (Res.tmp rfl) ?_
  obtain rfl := Option.some.inj h
  intro w' hs
  exact ⟨rfl, hs.below⟩

theorem w_laws_szPlaneS {a_p0 : List PlaneT} {left_p1 : Int} {r : Int} {q0_0 : Option Addr} {l0_0 k0_0 : Nat} (h : laws_szPlaneS a_p0 left_p1 = some r) {w : World} (r0_0 : Rd tPlane w q0_0 l0_0 k0_0 a_p0)   :
    Calls Tryz.prog 40 #[.slice q0_0 l0_0 k0_0, .int .i64 left_p1] w (fun en w' => en = .returned (.int .i64 r) ∧ Ext w w') := by
 obtain rfl := r0_0.1
 unfold laws_szPlaneS at h
 refine enter (vs := [_, _]) Tryz.func40 rfl rfl rfl rfl ?_
 refine WC.sr ?_
 refine ag ?_
 refine WL.nil (En.next (WC.sr ?_))
 refine mv ?_
 refine mv ?_
 refine sp (OpV.len rfl si_26 rfl) ?_
 refine sp (OpV.subR rfl rfl) ?_
 refine ag ?_
 refine WL.nil (En.next (WC.seq (WC.sr ?_)))
 refine mv ?_
 refine sp (OpV.lss rfl rfl) ?_
 refine WL.nil (En.next ?_)
 refine WC.cond rfl ?_ ?_
 ·
  intro hc_1
  replace h := ifO_t hc_1 h
  refine WC.sr ?_
  refine ag ?_
  refine WL.nil (En.next (WC.ret (En.then_ret ?_)))
  refine En.ret1 rfl (Res.tmp rfl) ?_
  obtain rfl := Option.some.inj h
  intro w' hs
  exact ⟨rfl, hs.below⟩
 ·
  intro hc_1
  replace h := ifO_f hc_1 h
  refine WC.skip (En.next (WC.seq (WC.sr ?_)))
  refine ag ?_
  refine WL.nil (En.next (WC.block ?_))
  obtain ⟨zy0, ezy0, h⟩ := bnd h
  refine WC.cut (X := (Int) × (Unit)) (.exit 0) (fun x => zy0 = .inl x.1) (fun x => match x with | (left_0e, ()) => [(1, .int .i64 left_0e)]) (fun x => match x with | (left_0e, ()) => []) ?_ ?_
  ·
   rintro ⟨left_0e, ⟨⟩⟩ hx
   replace hx : .inl left_0e = zy0 := hx.symm
   subst hx
   replace h := fork_l h
   show En _ _ _ _ [(1, .int .i64 left_0e)] []
   refine En.block_exit (En.next (WC.sr ?_))
   refine mv ?_
   refine ag ?_
   refine WL.nil (En.next (WC.ret ?_))
   refine En.ret1 rfl (Res.tmp rfl) ?_
   obtain rfl := Option.some.inj h
   intro w' hs
   exact ⟨rfl, hs.below⟩
  ·
   intro zK0_0
   refine WC.loopP (G := Unit) (fun s g => match s, g with | (left_0, i_0), () => [(0, .slice q0_0 a_p0.length k0_0), (1, .int .i64 left_0), (5, .int .i64 i_0)]) (fun s g => match s, g with | (left_0, i_0), () => []) ((wr (left_p1 - (a_p0.length : Int))), 0) () ezy0 (by exact sc (sc (sc sn))) (by exact (fun _ h => h)) ?_
   rintro zm0 ⟨left_0, i_0⟩ ⟨⟩ zo0 zf0 zb0 ze0
   have zh0 : laws_szPlaneS_L0 a_p0 left_0 i_0 = some zo0 := zf0
   unfold laws_szPlaneS_L0 at zh0
   show WC _ _ _ _ _ [(0, .slice q0_0 a_p0.length k0_0), (1, .int .i64 left_0), (5, .int .i64 i_0)] []
   refine WC.seq (WC.sr ?_)
   refine mv ?_
   refine mv ?_
   refine sp (OpV.len rfl si_26 rfl) ?_
   refine sp (OpV.lss rfl rfl) ?_
   refine WL.nil (En.next ?_)
   refine WC.cond rfl ?_ ?_
   ·
    intro hc_2
    replace zh0 := ifO_t hc_2 zh0
    refine WC.skip (En.next (WC.seq (WC.block (WC.seq ?_))))
    obtain ⟨x7_2, e7_2, zh0⟩ := bnd zh0
    obtain ⟨g7_2, o7_2, _, ha7_2, ⟨a7_2_1, c7_2_1, rfl, r7_2_1⟩, hd7_2⟩ := Rd.atIdx r0_0 e7_2
    replace hd7_2 : ∀ (j : Nat) v, ([.bool x7_2.On, .int .i64 x7_2.X, .int .i64 x7_2.Y, .int .i64 x7_2.W, .int .i64 x7_2.H, .int .i64 x7_2.Layout, .slice a7_2_1 x7_2.Words.length c7_2_1, .int .i64 x7_2.Alpha, .int .i64 x7_2.Orient, .int .i64 x7_2.ToW, .int .i64 x7_2.ToH] : List Value)[j]? = some v → w.cell? ⟨g7_2, o7_2 + i_0.toNat * 11 + j, .none⟩ = some v := hd7_2
    obtain ⟨x7_5, e7_5, zh0⟩ := bnd zh0
    refine WC.region ?_
    refine mv ?_
    refine mv ?_
    refine sp (OpV.idxA rfl rfl se_26 ha7_2 ⟨(idx_some e7_2).1, (idx_some e7_2).2.1⟩) ?_
    refine sp (OpV.loadN rfl ag_118 rfl (fun w hs => hs.cellsAt hd7_2)) ?_
    refine mv ?_
    refine sp (OpV.call (ec rfl (ec rfl e0)) ca_93 (fun w hs => w_laws_szPlane e7_5 (r7_2_1.ext hs.below))) ?_
    refine ag ?_
    refine WL.nil (En.next (WC.sr ?_))
    refine mv ?_
    refine sp (OpV.lss rfl rfl) ?_
    refine WL.nil (En.next ?_)
    refine WC.cond rfl ?_ ?_
    ·
     intro hc_3
     replace zh0 := ifO_t hc_3 zh0
     refine WC.sr ?_
     refine ag ?_
     refine WL.nil (En.next (WC.ret (En.block_ret (En.then_ret (En.then_ret (En.block_ret (En.then_ret ?_)))))))
     refine En.ret1 rfl (Res.tmp rfl) ?_
     have hx := exitP ze0 zh0
     subst hx
     replace h := fork_r h
     obtain rfl := Option.some.inj h
     intro w' hs
     exact ⟨rfl, hs.below⟩
    ·
     intro hc_3
     replace zh0 := ifO_f hc_3 zh0
     refine WC.skip (En.block_norm (En.next (WC.region ?_)))
     refine mv ?_
     refine sp (OpV.addR rfl rfl) ?_
     refine ag ?_
     refine WL.nil ?_
     exact En.backP zb0 zh0 () (sc (sc (sc sn))) (fun _ h => h)
   ·
    intro hc_2
    replace zh0 := ifO_f hc_2 zh0
    refine WC.exit (En.then_exit (En.then_exit ?_))
    have hx := exitP ze0 zh0
    exact En.wk _ _ (sc sn) (fun _ h => h) (zK0_0 (left_0, ()) hx.symm)

theorem w_laws_szColorMap {a_p0 : ColorMapT} {left_p1 : Int} {r : Int} {q0_0 : Option Addr} {l0_0 k0_0 : Nat} {q0_1 : Option Addr} {l0_1 k0_1 : Nat} (h : laws_szColorMap a_p0 left_p1 = some r) {w : World} (r0_0 : Rd tInt w q0_0 l0_0 k0_0 a_p0.Matrix) (r0_1 : Rd tInt w q0_1 l0_1 k0_1 a_p0.Curve)   :
    Calls Tryz.prog 41 #[.agg #[.slice q0_0 l0_0 k0_0, .slice q0_1 l0_1 k0_1], .int .i64 left_p1] w (fun en w' => en = .returned (.int .i64 r) ∧ Ext w w') := by
 obtain rfl := r0_0.1
 obtain rfl := r0_1.1
 unfold laws_szColorMap at h
 refine enter (vs := [_, _]) Tryz.func41 rfl rfl rfl rfl ?_
 refine WC.sr ?_
 refine WL.heavy rfl rfl rfl (OpH.box rfl rfl ?_)
 intro b0_0
 refine ag ?_
 refine WL.nil (En.next (WC.seq ?_))
 obtain ⟨x1_3, e1_3, h⟩ := bnd h
 refine WC.region ?_
 refine sp (OpV.fieldAddr rfl fo_28_0) ?_
 refine sp (OpV.loadBox rfl pt_23 mq0 rfl) ?_
 refine mv ?_
 refine sp (OpV.call (ec rfl (ec rfl e0)) ca_39 (fun w hs => w_laws_szIntS e1_3 (r0_0.ext hs.below))) ?_
 refine ag ?_
 refine WL.nil (En.next (WC.seq (WC.sr ?_)))
 refine mv ?_
 refine sp (OpV.lss rfl rfl) ?_
 refine WL.nil (En.next ?_)
 refine WC.cond rfl ?_ ?_
 ·
  intro hc_1
  replace h := ifO_t hc_1 h
  refine WC.sr ?_
  refine ag ?_
  refine WL.nil (En.next (WC.ret (En.then_ret ?_)))
  refine En.ret1 rfl (Res.tmp rfl) ?_
  obtain rfl := Option.some.inj h
  intro w' hs
  exact ⟨rfl, hs.below⟩
 ·
  intro hc_1
  replace h := ifO_f hc_1 h
  refine WC.skip (En.next (WC.seq ?_))
  obtain ⟨x4_3, e4_3, h⟩ := bnd h
  refine WC.region ?_
  refine sp (OpV.fieldAddr rfl fo_28_1) ?_
  refine sp (OpV.loadBox rfl pt_23 mq0 rfl) ?_
  refine mv ?_
  refine sp (OpV.call (ec rfl (ec rfl e0)) ca_39 (fun w hs => w_laws_szIntS e4_3 (r0_1.ext hs.below))) ?_
  refine ag ?_
  refine WL.nil (En.next (WC.seq (WC.sr ?_)))
  refine mv ?_
  refine sp (OpV.lss rfl rfl) ?_
  refine WL.nil (En.next ?_)
  refine WC.cond rfl ?_ ?_
  ·
   intro hc_2
   replace h := ifO_t hc_2 h
   refine WC.sr ?_
   refine ag ?_
   refine WL.nil (En.next (WC.ret (En.then_ret ?_)))
   refine En.ret1 rfl (Res.tmp rfl) ?_
   obtain rfl := Option.some.inj h
   intro w' hs
   exact ⟨rfl, hs.below⟩
  ·
   intro hc_2
   replace h := ifO_f hc_2 h
   refine WC.skip (En.next (WC.sr ?_))
   refine mv ?_
   refine ag ?_
   refine WL.nil (En.next (WC.ret ?_))
   refine En.ret1 rfl (Res.tmp rfl) ?_
   obtain rfl := Option.some.inj h
   intro w' hs
   exact ⟨rfl, hs.below⟩

theorem w_laws_szCrtc {a_p0 : CrtcT} {left_p1 : Int} {r : Int} {q0_0 : Option Addr} {l0_0 k0_0 : Nat} {q0_1 : Option Addr} {l0_1 k0_1 : Nat} {q0_2 : Option Addr} {l0_2 k0_2 : Nat} (h : laws_szCrtc a_p0 left_p1 = some r) {w : World} (r0_0 : Rd tPlane w q0_0 l0_0 k0_0 a_p0.Planes) (r0_1 : Rd tInt w q0_1 l0_1 k0_1 a_p0.Color.Matrix) (r0_2 : Rd tInt w q0_2 l0_2 k0_2 a_p0.Color.Curve)   :
    Calls Tryz.prog 8 #[.agg #[.int .i64 a_p0.W, .int .i64 a_p0.H, .slice q0_0 l0_0 k0_0, .slice q0_1 l0_1 k0_1, .slice q0_2 l0_2 k0_2], .int .i64 left_p1] w (fun en w' => en = .returned (.int .i64 r) ∧ Ext w w') := by
 obtain rfl := r0_0.1
 obtain rfl := r0_1.1
 obtain rfl := r0_2.1
 unfold laws_szCrtc at h
 refine enter (vs := [_, _]) Tryz.func8 rfl rfl rfl rfl ?_
 refine WC.sr ?_
 refine WL.heavy rfl rfl rfl (OpH.box rfl rfl ?_)
 intro b0_0
 refine ag ?_
 refine WL.nil (En.next (WC.seq ?_))
 obtain ⟨x1_3, e1_3, h⟩ := bnd h
 refine WC.region ?_
 refine sp (OpV.fieldAddr rfl fo_30_2) ?_
 refine sp (OpV.loadBox rfl pt_26 mq0 rfl) ?_
 refine mv ?_
 refine sp (OpV.call (ec rfl (ec rfl e0)) ca_40 (fun w hs => w_laws_szPlaneS e1_3 (r0_0.ext hs.below))) ?_
 refine ag ?_
 refine WL.nil (En.next (WC.seq (WC.sr ?_)))
 refine mv ?_
 refine sp (OpV.lss rfl rfl) ?_
 refine WL.nil (En.next ?_)
 refine WC.cond rfl ?_ ?_
 ·
  intro hc_1
  replace h := ifO_t hc_1 h
  refine WC.sr ?_
  refine ag ?_
  refine WL.nil (En.next (WC.ret (En.then_ret ?_)))
  refine En.ret1 rfl (Res.tmp rfl) ?_
  obtain rfl := Option.some.inj h
  intro w' hs
  exact ⟨rfl, hs.below⟩
 ·
  intro hc_1
  replace h := ifO_f hc_1 h
  refine WC.skip (En.next (WC.seq ?_))
  obtain ⟨x4_3, e4_3, h⟩ := bnd h
  refine WC.region ?_
  refine sp (OpV.fieldAddr rfl fo_30_3) ?_
  refine sp (OpV.loadPart rfl mq0 ag_28 rfl rfl) ?_
  refine mv ?_
  refine sp (OpV.call (ec rfl (ec rfl e0)) ca_41 (fun w hs => w_laws_szColorMap e4_3 (r0_1.ext hs.below) (r0_2.ext hs.below))) ?_
  refine ag ?_
  refine WL.nil (En.next (WC.seq (WC.sr ?_)))
  refine mv ?_
  refine sp (OpV.lss rfl rfl) ?_
  refine WL.nil (En.next ?_)
  refine WC.cond rfl ?_ ?_
  ·
   intro hc_2
   replace h := ifO_t hc_2 h
   refine WC.sr ?_
   refine ag ?_
   refine WL.nil (En.next (WC.ret (En.then_ret ?_)))
   refine En.ret1 rfl (Res.tmp rfl) ?_
   obtain rfl := Option.some.inj h
   intro w' hs
   exact ⟨rfl, hs.below⟩
  ·
   intro hc_2
   replace h := ifO_f hc_2 h
   refine WC.skip (En.next (WC.sr ?_))
   refine mv ?_
   refine ag ?_
   refine WL.nil (En.next (WC.ret ?_))
   refine En.ret1 rfl (Res.tmp rfl) ?_
   obtain rfl := Option.some.inj h
   intro w' hs
   exact ⟨rfl, hs.below⟩

theorem w_laws_szFlip {a_p0 : FlipT} {left_p1 : Int} {r : Int} {q0_0 : Option Addr} {l0_0 k0_0 : Nat} {q0_1 : Option Addr} {l0_1 k0_1 : Nat} {q0_2 : Option Addr} {l0_2 k0_2 : Nat} (h : laws_szFlip a_p0 left_p1 = some r) {w : World} (r0_0 : Rd tPlane w q0_0 l0_0 k0_0 a_p0.State.Planes) (r0_1 : Rd tInt w q0_1 l0_1 k0_1 a_p0.State.Color.Matrix) (r0_2 : Rd tInt w q0_2 l0_2 k0_2 a_p0.State.Color.Curve)   :
    Calls Tryz.prog 92 #[.agg #[.int .i64 a_p0.Seq, .int .i64 a_p0.Fence, .int .i64 a_p0.State.W, .int .i64 a_p0.State.H, .slice q0_0 l0_0 k0_0, .slice q0_1 l0_1 k0_1, .slice q0_2 l0_2 k0_2], .int .i64 left_p1] w (fun en w' => en = .returned (.int .i64 r) ∧ Ext w w') := by
 obtain rfl := r0_0.1
 obtain rfl := r0_1.1
 obtain rfl := r0_2.1
 unfold laws_szFlip at h
 refine enter (vs := [_, _]) Tryz.func92 rfl rfl rfl rfl ?_
 refine WC.sr ?_
 refine WL.heavy rfl rfl rfl (OpH.box rfl rfl ?_)
 intro b0_0
 refine ag ?_
 refine WL.nil (En.next (WC.seq ?_))
 obtain ⟨x1_3, e1_3, h⟩ := bnd h
 refine WC.region ?_
 refine sp (OpV.fieldAddr rfl fo_116_2) ?_
 refine sp (OpV.loadPart rfl mq0 ag_30 rfl rfl) ?_
 refine mv ?_
 refine sp (OpV.call (ec rfl (ec rfl e0)) ca_8 (fun w hs => w_laws_szCrtc e1_3 (r0_0.ext hs.below) (r0_1.ext hs.below) (r0_2.ext hs.below))) ?_
 refine ag ?_
 refine WL.nil (En.next (WC.seq (WC.sr ?_)))
 refine mv ?_
 refine sp (OpV.lss rfl rfl) ?_
 refine WL.nil (En.next ?_)
 refine WC.cond rfl ?_ ?_
 ·
  intro hc_1
  replace h := ifO_t hc_1 h
  refine WC.sr ?_
  refine ag ?_
  refine WL.nil (En.next (WC.ret (En.then_ret ?_)))
  refine En.ret1 rfl (Res.tmp rfl) ?_
  obtain rfl := Option.some.inj h
  intro w' hs
  exact ⟨rfl, hs.below⟩
 ·
  intro hc_1
  replace h := ifO_f hc_1 h
  refine WC.skip (En.next (WC.sr ?_))
  refine mv ?_
  refine ag ?_
  refine WL.nil (En.next (WC.ret ?_))
  refine En.ret1 rfl (Res.tmp rfl) ?_
  obtain rfl := Option.some.inj h
  intro w' hs
  exact ⟨rfl, hs.below⟩

theorem w_laws_szFlipS {a_p0 : List FlipT} {left_p1 : Int} {r : Int} {q0_0 : Option Addr} {l0_0 k0_0 : Nat} (h : laws_szFlipS a_p0 left_p1 = some r) {w : World} (r0_0 : Rd tFlip w q0_0 l0_0 k0_0 a_p0)   :
    Calls Tryz.prog 38 #[.slice q0_0 l0_0 k0_0, .int .i64 left_p1] w (fun en w' => en = .returned (.int .i64 r) ∧ Ext w w') := by
 obtain rfl := r0_0.1
 unfold laws_szFlipS at h
 refine enter (vs := [_, _]) Tryz.func38 rfl rfl rfl rfl ?_
 refine WC.sr ?_
 refine ag ?_
 refine WL.nil (En.next (WC.sr ?_))
 refine mv ?_
 refine mv ?_
 refine sp (OpV.len rfl si_22 rfl) ?_
 refine sp (OpV.subR rfl rfl) ?_
 refine ag ?_
 refine WL.nil (En.next (WC.seq (WC.sr ?_)))
 refine mv ?_
 refine sp (OpV.lss rfl rfl) ?_
 refine WL.nil (En.next ?_)
 refine WC.cond rfl ?_ ?_
 ·
  intro hc_1
  replace h := ifO_t hc_1 h
  refine WC.sr ?_
  refine ag ?_
  refine WL.nil (En.next (WC.ret (En.then_ret ?_)))
  refine En.ret1 rfl (Res.tmp rfl) ?_
  obtain rfl := Option.some.inj h
  intro w' hs
  exact ⟨rfl, hs.below⟩
 ·
  intro hc_1
  replace h := ifO_f hc_1 h
  refine WC.skip (En.next (WC.seq (WC.sr ?_)))
  refine ag ?_
  refine WL.nil (En.next (WC.block ?_))
  obtain ⟨zy0, ezy0, h⟩ := bnd h
  refine WC.cut (X := (Int) × (Unit)) (.exit 0) (fun x => zy0 = .inl x.1) (fun x => match x with | (left_0e, ()) => [(1, .int .i64 left_0e)]) (fun x => match x with | (left_0e, ()) => []) ?_ ?_
  ·
   rintro ⟨left_0e, ⟨⟩⟩ hx
   replace hx : .inl left_0e = zy0 := hx.symm
   subst hx
   replace h := fork_l h
   show En _ _ _ _ [(1, .int .i64 left_0e)] []
   refine En.block_exit (En.next (WC.sr ?_))
   refine mv ?_
   refine ag ?_
   refine WL.nil (En.next (WC.ret ?_))
   refine En.ret1 rfl (Res.tmp rfl) ?_
   obtain rfl := Option.some.inj h
   intro w' hs
   exact ⟨rfl, hs.below⟩
  ·
   intro zK0_0
   refine WC.loopP (G := Unit) (fun s g => match s, g with | (left_0, i_0), () => [(0, .slice q0_0 a_p0.length k0_0), (1, .int .i64 left_0), (5, .int .i64 i_0)]) (fun s g => match s, g with | (left_0, i_0), () => []) ((wr (left_p1 - (a_p0.length : Int))), 0) () ezy0 (by exact sc (sc (sc sn))) (by exact (fun _ h => h)) ?_
   rintro zm0 ⟨left_0, i_0⟩ ⟨⟩ zo0 zf0 zb0 ze0
   have zh0 : laws_szFlipS_L0 a_p0 left_0 i_0 = some zo0 := zf0
   unfold laws_szFlipS_L0 at zh0
   show WC _ _ _ _ _ [(0, .slice q0_0 a_p0.length k0_0), (1, .int .i64 left_0), (5, .int .i64 i_0)] []
   refine WC.seq (WC.sr ?_)
   refine mv ?_
   refine mv ?_
   refine sp (OpV.len rfl si_22 rfl) ?_
   refine sp (OpV.lss rfl rfl) ?_
   refine WL.nil (En.next ?_)
   refine WC.cond rfl ?_ ?_
   ·
    intro hc_2
    replace zh0 := ifO_t hc_2 zh0
    refine WC.skip (En.next (WC.seq (WC.block (WC.seq ?_))))
    obtain ⟨x7_2, e7_2, zh0⟩ := bnd zh0
    obtain ⟨g7_2, o7_2, _, ha7_2, ⟨a7_2_1, c7_2_1, a7_2_2, c7_2_2, a7_2_3, c7_2_3, rfl, r7_2_1, r7_2_2, r7_2_3⟩, hd7_2⟩ := Rd.atIdx r0_0 e7_2
    replace hd7_2 : ∀ (j : Nat) v, ([.int .i64 x7_2.Seq, .int .i64 x7_2.Fence, .int .i64 x7_2.State.W, .int .i64 x7_2.State.H, .slice a7_2_1 x7_2.State.Planes.length c7_2_1, .slice a7_2_2 x7_2.State.Color.Matrix.length c7_2_2, .slice a7_2_3 x7_2.State.Color.Curve.length c7_2_3] : List Value)[j]? = some v → w.cell? ⟨g7_2, o7_2 + i_0.toNat * 7 + j, .none⟩ = some v := hd7_2
    obtain ⟨x7_5, e7_5, zh0⟩ := bnd zh0
    refine WC.region ?_
    refine mv ?_
    refine mv ?_
    refine sp (OpV.idxA rfl rfl se_22 ha7_2 ⟨(idx_some e7_2).1, (idx_some e7_2).2.1⟩) ?_
    refine sp (OpV.loadN rfl ag_116 rfl (fun w hs => hs.cellsAt hd7_2)) ?_
    refine mv ?_
    refine sp (OpV.call (ec rfl (ec rfl e0)) ca_92 (fun w hs => w_laws_szFlip e7_5 (r7_2_1.ext hs.below) (r7_2_2.ext hs.below) (r7_2_3.ext hs.below))) ?_
    refine ag ?_
    refine WL.nil (En.next (WC.sr ?_))
    refine mv ?_
    refine sp (OpV.lss rfl rfl) ?_
    refine WL.nil (En.next ?_)
    refine WC.cond rfl ?_ ?_
    ·
     intro hc_3
     replace zh0 := ifO_t hc_3 zh0
     refine WC.sr ?_
     refine ag ?_
     refine WL.nil (En.next (WC.ret (En.block_ret (En.then_ret (En.then_ret (En.block_ret (En.then_ret ?_)))))))
     refine En.ret1 rfl (Res.tmp rfl) ?_
     have hx := exitP ze0 zh0
     subst hx
     replace h := fork_r h
     obtain rfl := Option.some.inj h
     intro w' hs
     exact ⟨rfl, hs.below⟩
    ·
     intro hc_3
     replace zh0 := ifO_f hc_3 zh0
     refine WC.skip (En.block_norm (En.next (WC.region ?_)))
     refine mv ?_
     refine sp (OpV.addR rfl rfl) ?_
     refine ag ?_
     refine WL.nil ?_
     exact En.backP zb0 zh0 () (sc (sc (sc sn))) (fun _ h => h)
   ·
    intro hc_2
    replace zh0 := ifO_f hc_2 zh0
    refine WC.exit (En.then_exit (En.then_exit ?_))
    have hx := exitP ze0 zh0
    exact En.wk _ _ (sc sn) (fun _ h => h) (zK0_0 (left_0, ()) hx.symm)

theorem w_laws_szFlips {a_p0 : FlipsT} {left_p1 : Int} {r : Int} {q0_0 : Option Addr} {l0_0 k0_0 : Nat} {q0_1 : Option Addr} {l0_1 k0_1 : Nat} {q0_2 : Option Addr} {l0_2 k0_2 : Nat} (h : laws_szFlips a_p0 left_p1 = some r) {w : World} (r0_0 : Rd tFlip w q0_0 l0_0 k0_0 a_p0.Pending) (r0_1 : Rd tInt w q0_1 l0_1 k0_1 a_p0.Signalled) (r0_2 : Rd tInt w q0_2 l0_2 k0_2 a_p0.Events)   :
    Calls Tryz.prog 7 #[.agg #[.slice q0_0 l0_0 k0_0, .slice q0_1 l0_1 k0_1, .int .i64 a_p0.Next, .slice q0_2 l0_2 k0_2], .int .i64 left_p1] w (fun en w' => en = .returned (.int .i64 r) ∧ Ext w w') := by
 obtain rfl := r0_0.1
 obtain rfl := r0_1.1
 obtain rfl := r0_2.1
 unfold laws_szFlips at h
 refine enter (vs := [_, _]) Tryz.func7 rfl rfl rfl rfl ?_
 refine WC.sr ?_
 refine WL.heavy rfl rfl rfl (OpH.box rfl rfl ?_)
 intro b0_0
 refine ag ?_
 refine WL.nil (En.next (WC.seq ?_))
 obtain ⟨x1_3, e1_3, h⟩ := bnd h
 refine WC.region ?_
 refine sp (OpV.fieldAddr rfl fo_25_0) ?_
 refine sp (OpV.loadBox rfl pt_22 mq0 rfl) ?_
 refine mv ?_
 refine sp (OpV.call (ec rfl (ec rfl e0)) ca_38 (fun w hs => w_laws_szFlipS e1_3 (r0_0.ext hs.below))) ?_
 refine ag ?_
 refine WL.nil (En.next (WC.seq (WC.sr ?_)))
 refine mv ?_
 refine sp (OpV.lss rfl rfl) ?_
 refine WL.nil (En.next ?_)
 refine WC.cond rfl ?_ ?_
 ·
  intro hc_1
  replace h := ifO_t hc_1 h
  refine WC.sr ?_
  refine ag ?_
  refine WL.nil (En.next (WC.ret (En.then_ret ?_)))
  refine En.ret1 rfl (Res.tmp rfl) ?_
  obtain rfl := Option.some.inj h
  intro w' hs
  exact ⟨rfl, hs.below⟩
 ·
  intro hc_1
  replace h := ifO_f hc_1 h
  refine WC.skip (En.next (WC.seq ?_))
  obtain ⟨x4_3, e4_3, h⟩ := bnd h
  refine WC.region ?_
  refine sp (OpV.fieldAddr rfl fo_25_1) ?_
  refine sp (OpV.loadBox rfl pt_23 mq0 rfl) ?_
  refine mv ?_
  refine sp (OpV.call (ec rfl (ec rfl e0)) ca_39 (fun w hs => w_laws_szIntS e4_3 (r0_1.ext hs.below))) ?_
  refine ag ?_
  refine WL.nil (En.next (WC.seq (WC.sr ?_)))
  refine mv ?_
  refine sp (OpV.lss rfl rfl) ?_
  refine WL.nil (En.next ?_)
  refine WC.cond rfl ?_ ?_
  ·
   intro hc_2
   replace h := ifO_t hc_2 h
   refine WC.sr ?_
   refine ag ?_
   refine WL.nil (En.next (WC.ret (En.then_ret ?_)))
   refine En.ret1 rfl (Res.tmp rfl) ?_
   obtain rfl := Option.some.inj h
   intro w' hs
   exact ⟨rfl, hs.below⟩
  ·
   intro hc_2
   replace h := ifO_f hc_2 h
   refine WC.skip (En.next (WC.seq ?_))
   obtain ⟨x7_3, e7_3, h⟩ := bnd h
   refine WC.region ?_
   refine sp (OpV.fieldAddr rfl fo_25_3) ?_
   refine sp (OpV.loadBox rfl pt_23 mq0 rfl) ?_
   refine mv ?_
   refine sp (OpV.call (ec rfl (ec rfl e0)) ca_39 (fun w hs => w_laws_szIntS e7_3 (r0_2.ext hs.below))) ?_
   refine ag ?_
   refine WL.nil (En.next (WC.seq (WC.sr ?_)))
   refine mv ?_
   refine sp (OpV.lss rfl rfl) ?_
   refine WL.nil (En.next ?_)
   refine WC.cond rfl ?_ ?_
   ·
    intro hc_3
    replace h := ifO_t hc_3 h
    refine WC.sr ?_
    refine ag ?_
    refine WL.nil (En.next (WC.ret (En.then_ret ?_)))
    refine En.ret1 rfl (Res.tmp rfl) ?_
    obtain rfl := Option.some.inj h
    intro w' hs
    exact ⟨rfl, hs.below⟩
   ·
    intro hc_3
    replace h := ifO_f hc_3 h
    refine WC.skip (En.next (WC.sr ?_))
    refine mv ?_
    refine ag ?_
    refine WL.nil (En.next (WC.ret ?_))
    refine En.ret1 rfl (Res.tmp rfl) ?_
    obtain rfl := Option.some.inj h
    intro w' hs
    exact ⟨rfl, hs.below⟩

theorem w_laws_toIntS {a_p0 : List Int} {r : (List Int)} {q0_0 : Option Addr} {l0_0 k0_0 : Nat} (h : laws_toIntS a_p0 = some r) {w : World} (r0_0 : Rd tInt w q0_0 l0_0 k0_0 a_p0)   :
    Calls Tryz.prog 46 #[.slice q0_0 l0_0 k0_0] w (fun en w' => ∃ rv G, en = .returned rv ∧ (∃ (a0_0 : Option Addr) (n0_0 : Nat) (c0_0 : Nat) (f0_0 : List Nat), rv = .slice a0_0 n0_0 c0_0 ∧ G = [Chunk.own tInt f0_0 a0_0 n0_0 c0_0 r]) ∧ St w G w') := by
 obtain rfl := r0_0.1
 unfold laws_toIntS at h
 refine enter (vs := [_]) Tryz.func46 rfl rfl rfl rfl ?_
 refine WC.sr ?_
 refine ag ?_
 refine WL.nil (En.next (WC.seq ?_))
 obtain ⟨x1_2, e1_2, h⟩ := bnd h
 refine WC.region ?_
 refine mv ?_
 refine sp (OpV.len rfl si_23 rfl) ?_
 refine WL.heavy rfl rfl rfl (OpH.makeO (A := tInt) rfl rfl mi_23 (fun w => tInt_flat.ow w 0) (by decide) e1_2 ⟨Int.le_refl _, (mkO_some e1_2).1.2⟩ ?_)
 intro b1_2
 refine ag ?_
 refine WL.nil (En.next (WC.seq (WC.sr ?_)))
 refine ag ?_
 refine WL.nil (En.next (WC.block ?_))
 obtain ⟨zy0, ezy0, h⟩ := bnd h
 refine WC.cut (X := ((List Int)) × ((List Nat))) (.exit 0) (fun x => zy0 = x.1) (fun x => match x with | (out_0e, fout_0e) => [(3, .slice (some ⟨b1_2, 0, .none⟩) x1_2.length ((a_p0.length : Int).toNat))]) (fun x => match x with | (out_0e, fout_0e) => [Chunk.own tInt fout_0e (some ⟨b1_2, 0, .none⟩) x1_2.length ((a_p0.length : Int).toNat) out_0e]) ?_ ?_
 ·
  rintro ⟨out_0e, fout_0e⟩ hx
  replace hx : out_0e = zy0 := hx.symm
  subst hx
  show En _ _ _ _ [(3, .slice (some ⟨b1_2, 0, .none⟩) x1_2.length ((a_p0.length : Int).toNat))] [Chunk.own tInt fout_0e (some ⟨b1_2, 0, .none⟩) x1_2.length ((a_p0.length : Int).toNat) out_0e]
  refine En.block_exit (En.next (WC.sr ?_))
  refine mv ?_
  refine ag ?_
  refine WL.nil (En.next (WC.ret ?_))
  refine En.ret1 rfl (Res.tmp rfl) ?_
  obtain rfl := Option.some.inj h
  intro w' hs
  have hs := hs
  exact ⟨_, _, rfl, ⟨(some ⟨b1_2, 0, .none⟩), x1_2.length, ((a_p0.length : Int).toNat), fout_0e, rfl, rfl⟩, hs⟩
 ·
  intro zK0_0
  refine WC.loopP (G := (List Nat)) (fun s g => match s, g with | (out_0, i_0), fout_0 => [(0, .slice q0_0 a_p0.length k0_0), (3, .slice (some ⟨b1_2, 0, .none⟩) x1_2.length ((a_p0.length : Int).toNat)), (4, .int .i64 i_0)]) (fun s g => match s, g with | (out_0, i_0), fout_0 => [Chunk.own tInt fout_0 (some ⟨b1_2, 0, .none⟩) x1_2.length ((a_p0.length : Int).toNat) out_0]) (x1_2, 0) [b1_2] ezy0 (by exact sc (sc (sc sn))) (by exact (fun _ h => h)) ?_
  rintro zm0 ⟨out_0, i_0⟩ fout_0 zo0 zf0 zb0 ze0
  have zh0 : laws_toIntS_L0 a_p0 out_0 i_0 = some zo0 := zf0
  unfold laws_toIntS_L0 at zh0
  show WC _ _ _ _ _ [(0, .slice q0_0 a_p0.length k0_0), (3, .slice (some ⟨b1_2, 0, .none⟩) x1_2.length ((a_p0.length : Int).toNat)), (4, .int .i64 i_0)] [Chunk.own tInt fout_0 (some ⟨b1_2, 0, .none⟩) x1_2.length ((a_p0.length : Int).toNat) out_0]
  refine WC.seq (WC.sr ?_)
  refine mv ?_
  refine mv ?_
  refine sp (OpV.len rfl si_23 rfl) ?_
  refine sp (OpV.lss rfl rfl) ?_
  refine WL.nil (En.next ?_)
  refine WC.cond rfl ?_ ?_
  ·
   intro hc_1
   replace zh0 := ifO_t hc_1 zh0
   refine WC.skip (En.next (WC.seq (WC.block ?_)))
   refine WC.inh fun hin5 => ?_
   obtain ⟨x5_4, e5_4, zh0⟩ := bnd zh0
   obtain ⟨g5_4, o5_4, _, ha5_4, rfl, hd5_4⟩ := Rd.atIdx r0_0 e5_4
   replace hd5_4 : ∀ (j : Nat) v, ([.int .i64 x5_4] : List Value)[j]? = some v → w.cell? ⟨g5_4, o5_4 + i_0.toNat * 1 + j, .none⟩ = some v := hd5_4
   have hn5_6 := ownLen hin5 mq0
   obtain ⟨x5_7, e5_7, zh0⟩ := bnd zh0
   obtain ⟨g5_6, o5_6, ha5_6⟩ := ownAddrU hin5 mq0 e5_7
   refine WC.region ?_
   refine mv ?_
   refine mv ?_
   refine mv ?_
   refine mv ?_
   refine sp (OpV.idxA rfl rfl se_23 ha5_4 ⟨(idx_some e5_4).1, (idx_some e5_4).2.1⟩) ?_
   refine sp (OpV.load1 rfl pt_3 (fun w hs => hs.cell (hd5_4 0 _ rfl))) ?_
   refine sp (OpV.idxA rfl rfl se_23 ha5_6 ⟨(upd_some e5_7).1.1, by rw [hn5_6]; exact (upd_some e5_7).1.2⟩) ?_
   refine WL.wkF (fun _ h => St.elFlat tInt_flat x5_4 h) ?_
   refine WL.heavy0 rfl rfl (OpH.setEl (A := tInt) ha5_6 rfl rfl rfl ts_3 e5_7 ?_)
   intro f5_7
   refine WL.nil (En.block_norm (En.next (WC.region ?_)))
   refine mv ?_
   refine sp (OpV.addR rfl rfl) ?_
   refine ag ?_
   refine WL.nil ?_
   exact En.backP zb0 zh0 f5_7 (sc (sc (sc sn))) (fun _ h => h)
  ·
   intro hc_1
   replace zh0 := ifO_f hc_1 zh0
   refine WC.exit (En.then_exit (En.then_exit ?_))
   have hx := exitP ze0 zh0
   exact En.wk _ _ (sc sn) (fun _ h => h) (zK0_0 (out_0, fout_0) hx.symm)

theorem w_laws_toPlane {a_p0 : PlaneT} {r : PlaneT} {q0_0 : Option Addr} {l0_0 k0_0 : Nat} (h : laws_toPlane a_p0 = some r) {w : World} (r0_0 : Rd tInt w q0_0 l0_0 k0_0 a_p0.Words)   :
    Calls Tryz.prog 97 #[.agg #[.bool a_p0.On, .int .i64 a_p0.X, .int .i64 a_p0.Y, .int .i64 a_p0.W, .int .i64 a_p0.H, .int .i64 a_p0.Layout, .slice q0_0 l0_0 k0_0, .int .i64 a_p0.Alpha, .int .i64 a_p0.Orient, .int .i64 a_p0.ToW, .int .i64 a_p0.ToH]] w (fun en w' => ∃ rv G, en = .returned rv ∧ (∃ (a0_0 : Option Addr) (n0_0 : Nat) (c0_0 : Nat) (f0_0 : List Nat), rv = .agg #[.bool r.On, .int .i64 r.X, .int .i64 r.Y, .int .i64 r.W, .int .i64 r.H, .int .i64 r.Layout, .slice a0_0 n0_0 c0_0, .int .i64 r.Alpha, .int .i64 r.Orient, .int .i64 r.ToW, .int .i64 r.ToH] ∧ G = [Chunk.own tInt f0_0 a0_0 n0_0 c0_0 r.Words]) ∧ St w G w') := by
 obtain rfl := r0_0.1
 unfold laws_toPlane at h
 refine enter (vs := [_]) Tryz.func97 rfl rfl rfl rfl ?_
 refine WC.sr ?_
 refine WL.heavy rfl rfl rfl (OpH.box rfl rfl ?_)
 intro b0_0
 refine WL.heavy rfl rfl rfl (OpH.alloc zc_61 ?_)
 intro b0_1
 refine WL.nil (En.next (WC.sr ?_))
 refine WL.heavy rfl rfl rfl (OpH.alloc zc_61 ?_)
 intro b1_0
 refine WL.nil (En.next (WC.sr ?_))
 refine sp (OpV.fieldAddr rfl fo_118_0) ?_
 refine sp (OpV.loadBox rfl pt_4 mq2 rfl) ?_
 refine sp (OpV.fieldAddr rfl fo_61_0) ?_
 refine WL.heavy0 rfl rfl (OpH.storeTo (A := []) [_, _, _, _, _, _, _, _, _, _, _] rfl rfl rfl ts_4 rfl rfl rfl ?_)
 refine WL.nil (En.next (WC.sr ?_))
 refine sp (OpV.fieldAddr rfl fo_118_1) ?_
 refine sp (OpV.loadBox rfl pt_3 mq2 rfl) ?_
 refine sp (OpV.fieldAddr rfl fo_61_1) ?_
 refine WL.heavy0 rfl rfl (OpH.storeTo (A := []) [_, _, _, _, _, _, _, _, _, _, _] rfl rfl rfl ts_3 rfl rfl rfl ?_)
 refine WL.nil (En.next (WC.sr ?_))
 refine sp (OpV.fieldAddr rfl fo_118_2) ?_
 refine sp (OpV.loadBox rfl pt_3 mq2 rfl) ?_
 refine sp (OpV.fieldAddr rfl fo_61_2) ?_
 refine WL.heavy0 rfl rfl (OpH.storeTo (A := []) [_, _, _, _, _, _, _, _, _, _, _] rfl rfl rfl ts_3 rfl rfl rfl ?_)
 refine WL.nil (En.next (WC.sr ?_))
 refine sp (OpV.fieldAddr rfl fo_118_3) ?_
 refine sp (OpV.loadBox rfl pt_3 mq2 rfl) ?_
 refine sp (OpV.fieldAddr rfl fo_61_3) ?_
 refine WL.heavy0 rfl rfl (OpH.storeTo (A := []) [_, _, _, _, _, _, _, _, _, _, _] rfl rfl rfl ts_3 rfl rfl rfl ?_)
 refine WL.nil (En.next (WC.sr ?_))
 refine sp (OpV.fieldAddr rfl fo_118_4) ?_
 refine sp (OpV.loadBox rfl pt_3 mq2 rfl) ?_
 refine sp (OpV.fieldAddr rfl fo_61_4) ?_
 refine WL.heavy0 rfl rfl (OpH.storeTo (A := []) [_, _, _, _, _, _, _, _, _, _, _] rfl rfl rfl ts_3 rfl rfl rfl ?_)
 refine WL.nil (En.next (WC.sr ?_))
 refine sp (OpV.fieldAddr rfl fo_118_5) ?_
 refine sp (OpV.loadBox rfl pt_3 mq2 rfl) ?_
 refine sp (OpV.fieldAddr rfl fo_61_5) ?_
 refine WL.heavy0 rfl rfl (OpH.storeTo (A := []) [_, _, _, _, _, _, _, _, _, _, _] rfl rfl rfl ts_3 rfl rfl rfl ?_)
 refine WL.nil (En.next (WC.seq ?_))
 obtain ⟨x8_2, e8_2, h⟩ := bnd h
 refine WC.region ?_
 refine sp (OpV.fieldAddr rfl fo_118_6) ?_
 refine sp (OpV.loadBox rfl pt_23 mq2 rfl) ?_
 refine WL.heavy rfl rfl rfl (OpH.callR (ec rfl e0) ca_46 (fun w hs => w_laws_toIntS e8_2 (r0_0.ext hs.below)) ?_)
 rintro _ _ ⟨a8_200, n8_200, c8_200, f8_200, rfl, rfl⟩
 refine sp (OpV.fieldAddr rfl fo_61_6) ?_
 refine WL.heavy0 rfl rfl (OpH.storeTo (A := [_]) [_, _, _, _, _, _, _, _, _, _, _] rfl rfl rfl ts_23 rfl rfl rfl ?_)
 refine WL.nil (En.next (WC.sr ?_))
 refine sp (OpV.fieldAddr rfl fo_118_7) ?_
 refine sp (OpV.loadBox rfl pt_3 mq3 rfl) ?_
 refine sp (OpV.fieldAddr rfl fo_61_7) ?_
 refine WL.heavy0 rfl rfl (OpH.storeTo (A := [_]) [_, _, _, _, _, _, _, _, _, _, _] rfl rfl rfl ts_3 rfl rfl rfl ?_)
 refine WL.nil (En.next (WC.sr ?_))
 refine sp (OpV.fieldAddr rfl fo_118_8) ?_
 refine sp (OpV.loadBox rfl pt_3 mq3 rfl) ?_
 refine sp (OpV.fieldAddr rfl fo_61_8) ?_
 refine WL.heavy0 rfl rfl (OpH.storeTo (A := [_]) [_, _, _, _, _, _, _, _, _, _, _] rfl rfl rfl ts_3 rfl rfl rfl ?_)
 refine WL.nil (En.next (WC.sr ?_))
 refine sp (OpV.fieldAddr rfl fo_118_9) ?_
 refine sp (OpV.loadBox rfl pt_3 mq3 rfl) ?_
 refine sp (OpV.fieldAddr rfl fo_61_9) ?_
 refine WL.heavy0 rfl rfl (OpH.storeTo (A := [_]) [_, _, _, _, _, _, _, _, _, _, _] rfl rfl rfl ts_3 rfl rfl rfl ?_)
 refine WL.nil (En.next (WC.sr ?_))
 refine sp (OpV.fieldAddr rfl fo_118_10) ?_
 refine sp (OpV.loadBox rfl pt_3 mq3 rfl) ?_
 refine sp (OpV.fieldAddr rfl fo_61_10) ?_
 refine WL.heavy0 rfl rfl (OpH.storeTo (A := [_]) [_, _, _, _, _, _, _, _, _, _, _] rfl rfl rfl ts_3 rfl rfl rfl ?_)
 refine WL.nil (En.next (WC.sr ?_))
 refine sp (OpV.loadAll rfl mq1 ag_61) ?_
 refine WL.heavy0 rfl rfl (OpH.storeTo (A := [_, _]) [_, _, _, _, _, _, _, _, _, _, _] rfl rfl rfl ts_61 rfl rfl rfl ?_)
 refine WL.nil (En.next (WC.ret ?_))
 refine En.ret1 rfl (Res.cell rfl mq2 ag_61) ?_
 obtain rfl := Option.some.inj h
 intro w' hs
 have hs := (hs).sub (.cons_cons _ (.cons _ (.cons _ (.cons _ (.slnil)))))
 exact ⟨_, _, rfl, ⟨a8_200, n8_200, c8_200, f8_200, rfl, rfl⟩, hs⟩

theorem w_laws_toPlaneS {a_p0 : List PlaneT} {r : (List PlaneT)} {q0_0 : Option Addr} {l0_0 k0_0 : Nat} (h : laws_toPlaneS a_p0 = some r) {w : World} (r0_0 : Rd tPlane w q0_0 l0_0 k0_0 a_p0)   :
    Calls Tryz.prog 47 #[.slice q0_0 l0_0 k0_0] w (fun en w' => ∃ rv G, en = .returned rv ∧ (∃ (a0_0 : Option Addr) (n0_0 : Nat) (c0_0 : Nat) (f0_0 : List Nat), rv = .slice a0_0 n0_0 c0_0 ∧ G = [Chunk.own tPlane f0_0 a0_0 n0_0 c0_0 r]) ∧ St w G w') := by
 obtain rfl := r0_0.1
 unfold laws_toPlaneS at h
 refine enter (vs := [_]) Tryz.func47 rfl rfl rfl rfl ?_
 refine WC.sr ?_
 refine ag ?_
 refine WL.nil (En.next (WC.seq ?_))
 obtain ⟨x1_2, e1_2, h⟩ := bnd h
 refine WC.region ?_
 refine mv ?_
 refine sp (OpV.len rfl si_26 rfl) ?_
 refine WL.heavy rfl rfl rfl (OpH.makeO (A := tPlane) rfl rfl mi_36 tPlane_zero (by decide) e1_2 ⟨Int.le_refl _, (mkO_some e1_2).1.2⟩ ?_)
 intro b1_2
 refine ag ?_
 refine WL.nil (En.next (WC.seq (WC.sr ?_)))
 refine ag ?_
 refine WL.nil (En.next (WC.block ?_))
 obtain ⟨zy0, ezy0, h⟩ := bnd h
 refine WC.cut (X := ((List PlaneT)) × ((List Nat))) (.exit 0) (fun x => zy0 = x.1) (fun x => match x with | (out_0e, fout_0e) => [(3, .slice (some ⟨b1_2, 0, .none⟩) x1_2.length ((a_p0.length : Int).toNat))]) (fun x => match x with | (out_0e, fout_0e) => [Chunk.own tPlane fout_0e (some ⟨b1_2, 0, .none⟩) x1_2.length ((a_p0.length : Int).toNat) out_0e]) ?_ ?_
 ·
  rintro ⟨out_0e, fout_0e⟩ hx
  replace hx : out_0e = zy0 := hx.symm
  subst hx
  show En _ _ _ _ [(3, .slice (some ⟨b1_2, 0, .none⟩) x1_2.length ((a_p0.length : Int).toNat))] [Chunk.own tPlane fout_0e (some ⟨b1_2, 0, .none⟩) x1_2.length ((a_p0.length : Int).toNat) out_0e]
  refine En.block_exit (En.next (WC.sr ?_))
  refine mv ?_
  refine ag ?_
  refine WL.nil (En.next (WC.ret ?_))
  refine En.ret1 rfl (Res.tmp rfl) ?_
  obtain rfl := Option.some.inj h
  intro w' hs
  have hs := hs
  exact ⟨_, _, rfl, ⟨(some ⟨b1_2, 0, .none⟩), x1_2.length, ((a_p0.length : Int).toNat), fout_0e, rfl, rfl⟩, hs⟩
 ·
  intro zK0_0
  refine WC.loopP (G := (List Nat)) (fun s g => match s, g with | (out_0, i_0), fout_0 => [(0, .slice q0_0 a_p0.length k0_0), (3, .slice (some ⟨b1_2, 0, .none⟩) x1_2.length ((a_p0.length : Int).toNat)), (4, .int .i64 i_0)]) (fun s g => match s, g with | (out_0, i_0), fout_0 => [Chunk.own tPlane fout_0 (some ⟨b1_2, 0, .none⟩) x1_2.length ((a_p0.length : Int).toNat) out_0]) (x1_2, 0) [b1_2] ezy0 (by exact sc (sc (sc sn))) (by exact (fun _ h => h)) ?_
  rintro zm0 ⟨out_0, i_0⟩ fout_0 zo0 zf0 zb0 ze0
  have zh0 : laws_toPlaneS_L0 a_p0 out_0 i_0 = some zo0 := zf0
  unfold laws_toPlaneS_L0 at zh0
  show WC _ _ _ _ _ [(0, .slice q0_0 a_p0.length k0_0), (3, .slice (some ⟨b1_2, 0, .none⟩) x1_2.length ((a_p0.length : Int).toNat)), (4, .int .i64 i_0)] [Chunk.own tPlane fout_0 (some ⟨b1_2, 0, .none⟩) x1_2.length ((a_p0.length : Int).toNat) out_0]
  refine WC.seq (WC.sr ?_)
  refine mv ?_
  refine mv ?_
  refine sp (OpV.len rfl si_26 rfl) ?_
  refine sp (OpV.lss rfl rfl) ?_
  refine WL.nil (En.next ?_)
  refine WC.cond rfl ?_ ?_
  ·
   intro hc_1
   replace zh0 := ifO_t hc_1 zh0
   refine WC.skip (En.next (WC.seq (WC.block ?_)))
   refine WC.inh fun hin5 => ?_
   obtain ⟨x5_4, e5_4, zh0⟩ := bnd zh0
   obtain ⟨g5_4, o5_4, _, ha5_4, ⟨a5_4_1, c5_4_1, rfl, r5_4_1⟩, hd5_4⟩ := Rd.atIdx r0_0 e5_4
   replace hd5_4 : ∀ (j : Nat) v, ([.bool x5_4.On, .int .i64 x5_4.X, .int .i64 x5_4.Y, .int .i64 x5_4.W, .int .i64 x5_4.H, .int .i64 x5_4.Layout, .slice a5_4_1 x5_4.Words.length c5_4_1, .int .i64 x5_4.Alpha, .int .i64 x5_4.Orient, .int .i64 x5_4.ToW, .int .i64 x5_4.ToH] : List Value)[j]? = some v → w.cell? ⟨g5_4, o5_4 + i_0.toNat * 11 + j, .none⟩ = some v := hd5_4
   obtain ⟨x5_6, e5_6, zh0⟩ := bnd zh0
   have hn5_7 := ownLen hin5 mq0
   obtain ⟨x5_8, e5_8, zh0⟩ := bnd zh0
   obtain ⟨g5_7, o5_7, ha5_7⟩ := ownAddrU hin5 mq0 e5_8
   refine WC.region ?_
   refine mv ?_
   refine mv ?_
   refine mv ?_
   refine mv ?_
   refine sp (OpV.idxA rfl rfl se_26 ha5_4 ⟨(idx_some e5_4).1, (idx_some e5_4).2.1⟩) ?_
   refine sp (OpV.loadN rfl ag_118 rfl (fun w hs => hs.cellsAt hd5_4)) ?_
   refine WL.heavy rfl rfl rfl (OpH.callR (ec rfl e0) ca_97 (fun w hs => w_laws_toPlane e5_6 (r5_4_1.ext hs.below)) ?_)
   rintro _ _ ⟨a5_600, n5_600, c5_600, f5_600, rfl, rfl⟩
   refine sp (OpV.idxA rfl rfl se_36 ha5_7 ⟨(upd_some e5_8).1.1, by rw [hn5_7]; exact (upd_some e5_8).1.2⟩) ?_
   refine WL.wkF (fun _ h => tPlane_mk x5_6.On x5_6.X x5_6.Y x5_6.W x5_6.H x5_6.Layout x5_6.Words x5_6.Alpha x5_6.Orient x5_6.ToW x5_6.ToH h) ?_
   refine WL.heavy0 rfl rfl (OpH.setEl (A := tPlane) ha5_7 rfl rfl rfl ts_61 e5_8 ?_)
   intro f5_8
   refine WL.nil (En.block_norm (En.next (WC.region ?_)))
   refine mv ?_
   refine sp (OpV.addR rfl rfl) ?_
   refine ag ?_
   refine WL.nil ?_
   exact En.backP zb0 zh0 f5_8 (sc (sc (sc sn))) (fun _ h => h)
  ·
   intro hc_1
   replace zh0 := ifO_f hc_1 zh0
   refine WC.exit (En.then_exit (En.then_exit ?_))
   have hx := exitP ze0 zh0
   exact En.wk _ _ (sc sn) (fun _ h => h) (zK0_0 (out_0, fout_0) hx.symm)

theorem w_laws_toColorMap {a_p0 : ColorMapT} {r : ColorMapT} {q0_0 : Option Addr} {l0_0 k0_0 : Nat} {q0_1 : Option Addr} {l0_1 k0_1 : Nat} (h : laws_toColorMap a_p0 = some r) {w : World} (r0_0 : Rd tInt w q0_0 l0_0 k0_0 a_p0.Matrix) (r0_1 : Rd tInt w q0_1 l0_1 k0_1 a_p0.Curve)   :
    Calls Tryz.prog 48 #[.agg #[.slice q0_0 l0_0 k0_0, .slice q0_1 l0_1 k0_1]] w (fun en w' => ∃ rv G, en = .returned rv ∧ (∃ (a0_0 : Option Addr) (n0_0 : Nat) (c0_0 : Nat) (f0_0 : List Nat) (a0_1 : Option Addr) (n0_1 : Nat) (c0_1 : Nat) (f0_1 : List Nat), rv = .agg #[.slice a0_0 n0_0 c0_0, .slice a0_1 n0_1 c0_1] ∧ G = [Chunk.own tInt f0_0 a0_0 n0_0 c0_0 r.Matrix, Chunk.own tInt f0_1 a0_1 n0_1 c0_1 r.Curve]) ∧ St w G w') := by
 obtain rfl := r0_0.1
 obtain rfl := r0_1.1
 unfold laws_toColorMap at h
 refine enter (vs := [_]) Tryz.func48 rfl rfl rfl rfl ?_
 refine WC.sr ?_
 refine WL.heavy rfl rfl rfl (OpH.box rfl rfl ?_)
 intro b0_0
 refine WL.heavy rfl rfl rfl (OpH.alloc zc_37 ?_)
 intro b0_1
 refine WL.nil (En.next (WC.sr ?_))
 refine WL.heavy rfl rfl rfl (OpH.alloc zc_37 ?_)
 intro b1_0
 refine WL.nil (En.next (WC.seq ?_))
 obtain ⟨x2_2, e2_2, h⟩ := bnd h
 refine WC.region ?_
 refine sp (OpV.fieldAddr rfl fo_28_0) ?_
 refine sp (OpV.loadBox rfl pt_23 mq2 rfl) ?_
 refine WL.heavy rfl rfl rfl (OpH.callR (ec rfl e0) ca_46 (fun w hs => w_laws_toIntS e2_2 (r0_0.ext hs.below)) ?_)
 rintro _ _ ⟨a2_200, n2_200, c2_200, f2_200, rfl, rfl⟩
 refine sp (OpV.fieldAddr rfl fo_37_0) ?_
 refine WL.heavy0 rfl rfl (OpH.storeTo (A := [_]) [_, _] rfl rfl rfl ts_23 rfl rfl rfl ?_)
 refine WL.nil (En.next (WC.seq ?_))
 obtain ⟨x3_2, e3_2, h⟩ := bnd h
 refine WC.region ?_
 refine sp (OpV.fieldAddr rfl fo_28_1) ?_
 refine sp (OpV.loadBox rfl pt_23 mq3 rfl) ?_
 refine WL.heavy rfl rfl rfl (OpH.callR (ec rfl e0) ca_46 (fun w hs => w_laws_toIntS e3_2 (r0_1.ext hs.below)) ?_)
 rintro _ _ ⟨a3_200, n3_200, c3_200, f3_200, rfl, rfl⟩
 refine sp (OpV.fieldAddr rfl fo_37_1) ?_
 refine WL.heavy0 rfl rfl (OpH.storeTo (A := [_, _]) [_, _] rfl rfl rfl ts_23 rfl rfl rfl ?_)
 refine WL.nil (En.next (WC.sr ?_))
 refine sp (OpV.loadAll rfl mq2 ag_37) ?_
 refine WL.heavy0 rfl rfl (OpH.storeTo (A := [_, _, _]) [_, _] rfl rfl rfl ts_37 rfl rfl rfl ?_)
 refine WL.nil (En.next (WC.ret ?_))
 refine En.ret1 rfl (Res.cell rfl mq3 ag_37) ?_
 obtain rfl := Option.some.inj h
 intro w' hs
 have hs := ((hs).pm 1).sub (.cons_cons _ (.cons_cons _ (.cons _ (.cons _ (.cons _ (.slnil))))))
 exact ⟨_, _, rfl, ⟨a2_200, n2_200, c2_200, f2_200, a3_200, n3_200, c3_200, f3_200, rfl, rfl⟩, hs⟩

theorem w_laws_toCrtc {a_p0 : CrtcT} {r : CrtcT} {q0_0 : Option Addr} {l0_0 k0_0 : Nat} {q0_1 : Option Addr} {l0_1 k0_1 : Nat} {q0_2 : Option Addr} {l0_2 k0_2 : Nat} (h : laws_toCrtc a_p0 = some r) {w : World} (r0_0 : Rd tPlane w q0_0 l0_0 k0_0 a_p0.Planes) (r0_1 : Rd tInt w q0_1 l0_1 k0_1 a_p0.Color.Matrix) (r0_2 : Rd tInt w q0_2 l0_2 k0_2 a_p0.Color.Curve)   :
    Calls Tryz.prog 11 #[.agg #[.int .i64 a_p0.W, .int .i64 a_p0.H, .slice q0_0 l0_0 k0_0, .slice q0_1 l0_1 k0_1, .slice q0_2 l0_2 k0_2]] w (fun en w' => ∃ rv G, en = .returned rv ∧ (∃ (a0_0 : Option Addr) (n0_0 : Nat) (c0_0 : Nat) (f0_0 : List Nat) (a0_1 : Option Addr) (n0_1 : Nat) (c0_1 : Nat) (f0_1 : List Nat) (a0_2 : Option Addr) (n0_2 : Nat) (c0_2 : Nat) (f0_2 : List Nat), rv = .agg #[.int .i64 r.W, .int .i64 r.H, .slice a0_0 n0_0 c0_0, .slice a0_1 n0_1 c0_1, .slice a0_2 n0_2 c0_2] ∧ G = [Chunk.own tPlane f0_0 a0_0 n0_0 c0_0 r.Planes, Chunk.own tInt f0_1 a0_1 n0_1 c0_1 r.Color.Matrix, Chunk.own tInt f0_2 a0_2 n0_2 c0_2 r.Color.Curve]) ∧ St w G w') := by
 obtain rfl := r0_0.1
 obtain rfl := r0_1.1
 obtain rfl := r0_2.1
 unfold laws_toCrtc at h
 refine enter (vs := [_]) Tryz.func11 rfl rfl rfl rfl ?_
 refine WC.sr ?_
 refine WL.heavy rfl rfl rfl (OpH.box rfl rfl ?_)
 intro b0_0
 refine WL.heavy rfl rfl rfl (OpH.alloc zc_39 ?_)
 intro b0_1
 refine WL.nil (En.next (WC.sr ?_))
 refine WL.heavy rfl rfl rfl (OpH.alloc zc_39 ?_)
 intro b1_0
 refine WL.nil (En.next (WC.sr ?_))
 refine sp (OpV.fieldAddr rfl fo_30_0) ?_
 refine sp (OpV.loadBox rfl pt_3 mq2 rfl) ?_
 refine sp (OpV.fieldAddr rfl fo_39_0) ?_
 refine WL.heavy0 rfl rfl (OpH.storeTo (A := []) [_, _, _, _, _] rfl rfl rfl ts_3 rfl rfl rfl ?_)
 refine WL.nil (En.next (WC.sr ?_))
 refine sp (OpV.fieldAddr rfl fo_30_1) ?_
 refine sp (OpV.loadBox rfl pt_3 mq2 rfl) ?_
 refine sp (OpV.fieldAddr rfl fo_39_1) ?_
 refine WL.heavy0 rfl rfl (OpH.storeTo (A := []) [_, _, _, _, _] rfl rfl rfl ts_3 rfl rfl rfl ?_)
 refine WL.nil (En.next (WC.seq ?_))
 obtain ⟨x4_2, e4_2, h⟩ := bnd h
 refine WC.region ?_
 refine sp (OpV.fieldAddr rfl fo_30_2) ?_
 refine sp (OpV.loadBox rfl pt_26 mq2 rfl) ?_
 refine WL.heavy rfl rfl rfl (OpH.callR (ec rfl e0) ca_47 (fun w hs => w_laws_toPlaneS e4_2 (r0_0.ext hs.below)) ?_)
 rintro _ _ ⟨a4_200, n4_200, c4_200, f4_200, rfl, rfl⟩
 refine sp (OpV.fieldAddr rfl fo_39_2) ?_
 refine WL.heavy0 rfl rfl (OpH.storeTo (A := [_]) [_, _, _, _, _] rfl rfl rfl ts_36 rfl rfl rfl ?_)
 refine WL.nil (En.next (WC.seq ?_))
 obtain ⟨x5_2, e5_2, h⟩ := bnd h
 refine WC.region ?_
 refine sp (OpV.fieldAddr rfl fo_30_3) ?_
 refine sp (OpV.loadPart rfl mq3 ag_28 rfl rfl) ?_
 refine WL.heavy rfl rfl rfl (OpH.callR (ec rfl e0) ca_48 (fun w hs => w_laws_toColorMap e5_2 (r0_1.ext hs.below) (r0_2.ext hs.below)) ?_)
 rintro _ _ ⟨a5_200, n5_200, c5_200, f5_200, a5_201, n5_201, c5_201, f5_201, rfl, rfl⟩
 refine sp (OpV.fieldAddr rfl fo_39_3) ?_
 refine WL.heavy0 rfl rfl (OpH.storeTo (A := [_, _, _]) [_, _, _, _, _] rfl rfl rfl ts_37 rfl rfl rfl ?_)
 refine WL.nil (En.next (WC.sr ?_))
 refine sp (OpV.loadAll rfl mq3 ag_39) ?_
 refine WL.heavy0 rfl rfl (OpH.storeTo (A := [_, _, _, _]) [_, _, _, _, _] rfl rfl rfl ts_39 rfl rfl rfl ?_)
 refine WL.nil (En.next (WC.ret ?_))
 refine En.ret1 rfl (Res.cell rfl mq4 ag_39) ?_
 obtain rfl := Option.some.inj h
 intro w' hs
 have hs := ((((hs).pm 1).pm 1).pm 2).sub (.cons_cons _ (.cons_cons _ (.cons_cons _ (.cons _ (.cons _ (.cons _ (.slnil)))))))
 exact ⟨_, _, rfl, ⟨a4_200, n4_200, c4_200, f4_200, a5_200, n5_200, c5_200, f5_200, a5_201, n5_201, c5_201, f5_201, rfl, rfl⟩, hs⟩

theorem w_laws_toFlip {a_p0 : FlipT} {r : FlipT} {q0_0 : Option Addr} {l0_0 k0_0 : Nat} {q0_1 : Option Addr} {l0_1 k0_1 : Nat} {q0_2 : Option Addr} {l0_2 k0_2 : Nat} (h : laws_toFlip a_p0 = some r) {w : World} (r0_0 : Rd tPlane w q0_0 l0_0 k0_0 a_p0.State.Planes) (r0_1 : Rd tInt w q0_1 l0_1 k0_1 a_p0.State.Color.Matrix) (r0_2 : Rd tInt w q0_2 l0_2 k0_2 a_p0.State.Color.Curve)   :
    Calls Tryz.prog 96 #[.agg #[.int .i64 a_p0.Seq, .int .i64 a_p0.Fence, .int .i64 a_p0.State.W, .int .i64 a_p0.State.H, .slice q0_0 l0_0 k0_0, .slice q0_1 l0_1 k0_1, .slice q0_2 l0_2 k0_2]] w (fun en w' => ∃ rv G, en = .returned rv ∧ (∃ (a0_0 : Option Addr) (n0_0 : Nat) (c0_0 : Nat) (f0_0 : List Nat) (a0_1 : Option Addr) (n0_1 : Nat) (c0_1 : Nat) (f0_1 : List Nat) (a0_2 : Option Addr) (n0_2 : Nat) (c0_2 : Nat) (f0_2 : List Nat), rv = .agg #[.int .i64 r.Seq, .int .i64 r.Fence, .int .i64 r.State.W, .int .i64 r.State.H, .slice a0_0 n0_0 c0_0, .slice a0_1 n0_1 c0_1, .slice a0_2 n0_2 c0_2] ∧ G = [Chunk.own tPlane f0_0 a0_0 n0_0 c0_0 r.State.Planes, Chunk.own tInt f0_1 a0_1 n0_1 c0_1 r.State.Color.Matrix, Chunk.own tInt f0_2 a0_2 n0_2 c0_2 r.State.Color.Curve]) ∧ St w G w') := by
 obtain rfl := r0_0.1
 obtain rfl := r0_1.1
 obtain rfl := r0_2.1
 unfold laws_toFlip at h
 refine enter (vs := [_]) Tryz.func96 rfl rfl rfl rfl ?_
 refine WC.sr ?_
 refine WL.heavy rfl rfl rfl (OpH.box rfl rfl ?_)
 intro b0_0
 refine WL.heavy rfl rfl rfl (OpH.alloc zc_79 ?_)
 intro b0_1
 refine WL.nil (En.next (WC.sr ?_))
 refine WL.heavy rfl rfl rfl (OpH.alloc zc_79 ?_)
 intro b1_0
 refine WL.nil (En.next (WC.sr ?_))
 refine sp (OpV.fieldAddr rfl fo_116_0) ?_
 refine sp (OpV.loadBox rfl pt_3 mq2 rfl) ?_
 refine sp (OpV.fieldAddr rfl fo_79_0) ?_
 refine WL.heavy0 rfl rfl (OpH.storeTo (A := []) [_, _, _, _, _, _, _] rfl rfl rfl ts_3 rfl rfl rfl ?_)
 refine WL.nil (En.next (WC.sr ?_))
 refine sp (OpV.fieldAddr rfl fo_116_1) ?_
 refine sp (OpV.loadBox rfl pt_3 mq2 rfl) ?_
 refine sp (OpV.fieldAddr rfl fo_79_1) ?_
 refine WL.heavy0 rfl rfl (OpH.storeTo (A := []) [_, _, _, _, _, _, _] rfl rfl rfl ts_3 rfl rfl rfl ?_)
 refine WL.nil (En.next (WC.seq ?_))
 obtain ⟨x4_2, e4_2, h⟩ := bnd h
 refine WC.region ?_
 refine sp (OpV.fieldAddr rfl fo_116_2) ?_
 refine sp (OpV.loadPart rfl mq2 ag_30 rfl rfl) ?_
 refine WL.heavy rfl rfl rfl (OpH.callR (ec rfl e0) ca_11 (fun w hs => w_laws_toCrtc e4_2 (r0_0.ext hs.below) (r0_1.ext hs.below) (r0_2.ext hs.below)) ?_)
 rintro _ _ ⟨a4_200, n4_200, c4_200, f4_200, a4_201, n4_201, c4_201, f4_201, a4_202, n4_202, c4_202, f4_202, rfl, rfl⟩
 refine sp (OpV.fieldAddr rfl fo_79_2) ?_
 refine WL.heavy0 rfl rfl (OpH.storeTo (A := [_, _, _]) [_, _, _, _, _, _, _] rfl rfl rfl ts_39 rfl rfl rfl ?_)
 refine WL.nil (En.next (WC.sr ?_))
 refine sp (OpV.loadAll rfl mq3 ag_79) ?_
 refine WL.heavy0 rfl rfl (OpH.storeTo (A := [_, _, _, _]) [_, _, _, _, _, _, _] rfl rfl rfl ts_79 rfl rfl rfl ?_)
 refine WL.nil (En.next (WC.ret ?_))
 refine En.ret1 rfl (Res.cell rfl mq4 ag_79) ?_
 obtain rfl := Option.some.inj h
 intro w' hs
 have hs := (hs).sub (.cons_cons _ (.cons_cons _ (.cons_cons _ (.cons _ (.cons _ (.cons _ (.slnil)))))))
 exact ⟨_, _, rfl, ⟨a4_200, n4_200, c4_200, f4_200, a4_201, n4_201, c4_201, f4_201, a4_202, n4_202, c4_202, f4_202, rfl, rfl⟩, hs⟩

theorem w_laws_toFlipS {a_p0 : List FlipT} {r : (List FlipT)} {q0_0 : Option Addr} {l0_0 k0_0 : Nat} (h : laws_toFlipS a_p0 = some r) {w : World} (r0_0 : Rd tFlip w q0_0 l0_0 k0_0 a_p0)   :
    Calls Tryz.prog 45 #[.slice q0_0 l0_0 k0_0] w (fun en w' => ∃ rv G, en = .returned rv ∧ (∃ (a0_0 : Option Addr) (n0_0 : Nat) (c0_0 : Nat) (f0_0 : List Nat), rv = .slice a0_0 n0_0 c0_0 ∧ G = [Chunk.own tFlip f0_0 a0_0 n0_0 c0_0 r]) ∧ St w G w') := by
 obtain rfl := r0_0.1
 unfold laws_toFlipS at h
 refine enter (vs := [_]) Tryz.func45 rfl rfl rfl rfl ?_
 refine WC.sr ?_
 refine ag ?_
 refine WL.nil (En.next (WC.seq ?_))
 obtain ⟨x1_2, e1_2, h⟩ := bnd h
 refine WC.region ?_
 refine mv ?_
 refine sp (OpV.len rfl si_22 rfl) ?_
 refine WL.heavy rfl rfl rfl (OpH.makeO (A := tFlip) rfl rfl mi_33 tFlip_zero (by decide) e1_2 ⟨Int.le_refl _, (mkO_some e1_2).1.2⟩ ?_)
 intro b1_2
 refine ag ?_
 refine WL.nil (En.next (WC.seq (WC.sr ?_)))
 refine ag ?_
 refine WL.nil (En.next (WC.block ?_))
 obtain ⟨zy0, ezy0, h⟩ := bnd h
 refine WC.cut (X := ((List FlipT)) × ((List Nat))) (.exit 0) (fun x => zy0 = x.1) (fun x => match x with | (out_0e, fout_0e) => [(3, .slice (some ⟨b1_2, 0, .none⟩) x1_2.length ((a_p0.length : Int).toNat))]) (fun x => match x with | (out_0e, fout_0e) => [Chunk.own tFlip fout_0e (some ⟨b1_2, 0, .none⟩) x1_2.length ((a_p0.length : Int).toNat) out_0e]) ?_ ?_
 ·
  rintro ⟨out_0e, fout_0e⟩ hx
  replace hx : out_0e = zy0 := hx.symm
  subst hx
  show En _ _ _ _ [(3, .slice (some ⟨b1_2, 0, .none⟩) x1_2.length ((a_p0.length : Int).toNat))] [Chunk.own tFlip fout_0e (some ⟨b1_2, 0, .none⟩) x1_2.length ((a_p0.length : Int).toNat) out_0e]
  refine En.block_exit (En.next (WC.sr ?_))
  refine mv ?_
  refine ag ?_
  refine WL.nil (En.next (WC.ret ?_))
  refine En.ret1 rfl (Res.tmp rfl) ?_
  obtain rfl := Option.some.inj h
  intro w' hs
  have hs := hs
  exact ⟨_, _, rfl, ⟨(some ⟨b1_2, 0, .none⟩), x1_2.length, ((a_p0.length : Int).toNat), fout_0e, rfl, rfl⟩, hs⟩
 ·
  intro zK0_0
  refine WC.loopP (G := (List Nat)) (fun s g => match s, g with | (out_0, i_0), fout_0 => [(0, .slice q0_0 a_p0.length k0_0), (3, .slice (some ⟨b1_2, 0, .none⟩) x1_2.length ((a_p0.length : Int).toNat)), (4, .int .i64 i_0)]) (fun s g => match s, g with | (out_0, i_0), fout_0 => [Chunk.own tFlip fout_0 (some ⟨b1_2, 0, .none⟩) x1_2.length ((a_p0.length : Int).toNat) out_0]) (x1_2, 0) [b1_2] ezy0 (by exact sc (sc (sc sn))) (by exact (fun _ h => h)) ?_
  rintro zm0 ⟨out_0, i_0⟩ fout_0 zo0 zf0 zb0 ze0
  have zh0 : laws_toFlipS_L0 a_p0 out_0 i_0 = some zo0 := zf0
  unfold laws_toFlipS_L0 at zh0
  show WC _ _ _ _ _ [(0, .slice q0_0 a_p0.length k0_0), (3, .slice (some ⟨b1_2, 0, .none⟩) x1_2.length ((a_p0.length : Int).toNat)), (4, .int .i64 i_0)] [Chunk.own tFlip fout_0 (some ⟨b1_2, 0, .none⟩) x1_2.length ((a_p0.length : Int).toNat) out_0]
  refine WC.seq (WC.sr ?_)
  refine mv ?_
  refine mv ?_
  refine sp (OpV.len rfl si_22 rfl) ?_
  refine sp (OpV.lss rfl rfl) ?_
  refine WL.nil (En.next ?_)
  refine WC.cond rfl ?_ ?_
  ·
   intro hc_1
   replace zh0 := ifO_t hc_1 zh0
   refine WC.skip (En.next (WC.seq (WC.block ?_)))
   refine WC.inh fun hin5 => ?_
   obtain ⟨x5_4, e5_4, zh0⟩ := bnd zh0
   obtain ⟨g5_4, o5_4, _, ha5_4, ⟨a5_4_1, c5_4_1, a5_4_2, c5_4_2, a5_4_3, c5_4_3, rfl, r5_4_1, r5_4_2, r5_4_3⟩, hd5_4⟩ := Rd.atIdx r0_0 e5_4
   replace hd5_4 : ∀ (j : Nat) v, ([.int .i64 x5_4.Seq, .int .i64 x5_4.Fence, .int .i64 x5_4.State.W, .int .i64 x5_4.State.H, .slice a5_4_1 x5_4.State.Planes.length c5_4_1, .slice a5_4_2 x5_4.State.Color.Matrix.length c5_4_2, .slice a5_4_3 x5_4.State.Color.Curve.length c5_4_3] : List Value)[j]? = some v → w.cell? ⟨g5_4, o5_4 + i_0.toNat * 7 + j, .none⟩ = some v := hd5_4
   obtain ⟨x5_6, e5_6, zh0⟩ := bnd zh0
   have hn5_7 := ownLen hin5 mq0
   obtain ⟨x5_8, e5_8, zh0⟩ := bnd zh0
   obtain ⟨g5_7, o5_7, ha5_7⟩ := ownAddrU hin5 mq0 e5_8
   refine WC.region ?_
   refine mv ?_
   refine mv ?_
   refine mv ?_
   refine mv ?_
   refine sp (OpV.idxA rfl rfl se_22 ha5_4 ⟨(idx_some e5_4).1, (idx_some e5_4).2.1⟩) ?_
   refine sp (OpV.loadN rfl ag_116 rfl (fun w hs => hs.cellsAt hd5_4)) ?_
   refine WL.heavy rfl rfl rfl (OpH.callR (ec rfl e0) ca_96 (fun w hs => w_laws_toFlip e5_6 (r5_4_1.ext hs.below) (r5_4_2.ext hs.below) (r5_4_3.ext hs.below)) ?_)
   rintro _ _ ⟨a5_600, n5_600, c5_600, f5_600, a5_601, n5_601, c5_601, f5_601, a5_602, n5_602, c5_602, f5_602, rfl, rfl⟩
   refine sp (OpV.idxA rfl rfl se_33 ha5_7 ⟨(upd_some e5_8).1.1, by rw [hn5_7]; exact (upd_some e5_8).1.2⟩) ?_
   refine WL.wkF (fun _ h => tFlip_mk x5_6.Seq x5_6.Fence x5_6.State h) ?_
   refine WL.heavy0 rfl rfl (OpH.setEl (A := tFlip) ha5_7 rfl rfl rfl ts_79 e5_8 ?_)
   intro f5_8
   refine WL.nil (En.block_norm (En.next (WC.region ?_)))
   refine mv ?_
   refine sp (OpV.addR rfl rfl) ?_
   refine ag ?_
   refine WL.nil ?_
   exact En.backP zb0 zh0 f5_8 (sc (sc (sc sn))) (fun _ h => h)
  ·
   intro hc_1
   replace zh0 := ifO_f hc_1 zh0
   refine WC.exit (En.then_exit (En.then_exit ?_))
   have hx := exitP ze0 zh0
   exact En.wk _ _ (sc sn) (fun _ h => h) (zK0_0 (out_0, fout_0) hx.symm)

theorem w_laws_toFlips {a_p0 : FlipsT} {r : FlipsT} {q0_0 : Option Addr} {l0_0 k0_0 : Nat} {q0_1 : Option Addr} {l0_1 k0_1 : Nat} {q0_2 : Option Addr} {l0_2 k0_2 : Nat} (h : laws_toFlips a_p0 = some r) {w : World} (r0_0 : Rd tFlip w q0_0 l0_0 k0_0 a_p0.Pending) (r0_1 : Rd tInt w q0_1 l0_1 k0_1 a_p0.Signalled) (r0_2 : Rd tInt w q0_2 l0_2 k0_2 a_p0.Events)   :
    Calls Tryz.prog 10 #[.agg #[.slice q0_0 l0_0 k0_0, .slice q0_1 l0_1 k0_1, .int .i64 a_p0.Next, .slice q0_2 l0_2 k0_2]] w (fun en w' => ∃ rv G, en = .returned rv ∧ (∃ (a0_0 : Option Addr) (n0_0 : Nat) (c0_0 : Nat) (f0_0 : List Nat) (a0_1 : Option Addr) (n0_1 : Nat) (c0_1 : Nat) (f0_1 : List Nat) (a0_2 : Option Addr) (n0_2 : Nat) (c0_2 : Nat) (f0_2 : List Nat), rv = .agg #[.slice a0_0 n0_0 c0_0, .slice a0_1 n0_1 c0_1, .int .i64 r.Next, .slice a0_2 n0_2 c0_2] ∧ G = [Chunk.own tFlip f0_0 a0_0 n0_0 c0_0 r.Pending, Chunk.own tInt f0_1 a0_1 n0_1 c0_1 r.Signalled, Chunk.own tInt f0_2 a0_2 n0_2 c0_2 r.Events]) ∧ St w G w') := by
 obtain rfl := r0_0.1
 obtain rfl := r0_1.1
 obtain rfl := r0_2.1
 unfold laws_toFlips at h
 refine enter (vs := [_]) Tryz.func10 rfl rfl rfl rfl ?_
 refine WC.sr ?_
 refine WL.heavy rfl rfl rfl (OpH.box rfl rfl ?_)
 intro b0_0
 refine WL.heavy rfl rfl rfl (OpH.alloc zc_35 ?_)
 intro b0_1
 refine WL.nil (En.next (WC.sr ?_))
 refine WL.heavy rfl rfl rfl (OpH.alloc zc_35 ?_)
 intro b1_0
 refine WL.nil (En.next (WC.seq ?_))
 obtain ⟨x2_2, e2_2, h⟩ := bnd h
 refine WC.region ?_
 refine sp (OpV.fieldAddr rfl fo_25_0) ?_
 refine sp (OpV.loadBox rfl pt_22 mq2 rfl) ?_
 refine WL.heavy rfl rfl rfl (OpH.callR (ec rfl e0) ca_45 (fun w hs => w_laws_toFlipS e2_2 (r0_0.ext hs.below)) ?_)
 rintro _ _ ⟨a2_200, n2_200, c2_200, f2_200, rfl, rfl⟩
 refine sp (OpV.fieldAddr rfl fo_35_0) ?_
 refine WL.heavy0 rfl rfl (OpH.storeTo (A := [_]) [_, _, _, _] rfl rfl rfl ts_33 rfl rfl rfl ?_)
 refine WL.nil (En.next (WC.seq ?_))
 obtain ⟨x3_2, e3_2, h⟩ := bnd h
 refine WC.region ?_
 refine sp (OpV.fieldAddr rfl fo_25_1) ?_
 refine sp (OpV.loadBox rfl pt_23 mq3 rfl) ?_
 refine WL.heavy rfl rfl rfl (OpH.callR (ec rfl e0) ca_46 (fun w hs => w_laws_toIntS e3_2 (r0_1.ext hs.below)) ?_)
 rintro _ _ ⟨a3_200, n3_200, c3_200, f3_200, rfl, rfl⟩
 refine sp (OpV.fieldAddr rfl fo_35_1) ?_
 refine WL.heavy0 rfl rfl (OpH.storeTo (A := [_, _]) [_, _, _, _] rfl rfl rfl ts_23 rfl rfl rfl ?_)
 refine WL.nil (En.next (WC.sr ?_))
 refine sp (OpV.fieldAddr rfl fo_25_2) ?_
 refine sp (OpV.loadBox rfl pt_3 mq4 rfl) ?_
 refine sp (OpV.fieldAddr rfl fo_35_2) ?_
 refine WL.heavy0 rfl rfl (OpH.storeTo (A := [_, _]) [_, _, _, _] rfl rfl rfl ts_3 rfl rfl rfl ?_)
 refine WL.nil (En.next (WC.seq ?_))
 obtain ⟨x5_2, e5_2, h⟩ := bnd h
 refine WC.region ?_
 refine sp (OpV.fieldAddr rfl fo_25_3) ?_
 refine sp (OpV.loadBox rfl pt_23 mq4 rfl) ?_
 refine WL.heavy rfl rfl rfl (OpH.callR (ec rfl e0) ca_46 (fun w hs => w_laws_toIntS e5_2 (r0_2.ext hs.below)) ?_)
 rintro _ _ ⟨a5_200, n5_200, c5_200, f5_200, rfl, rfl⟩
 refine sp (OpV.fieldAddr rfl fo_35_3) ?_
 refine WL.heavy0 rfl rfl (OpH.storeTo (A := [_, _, _]) [_, _, _, _] rfl rfl rfl ts_23 rfl rfl rfl ?_)
 refine WL.nil (En.next (WC.sr ?_))
 refine sp (OpV.loadAll rfl mq3 ag_35) ?_
 refine WL.heavy0 rfl rfl (OpH.storeTo (A := [_, _, _, _]) [_, _, _, _] rfl rfl rfl ts_35 rfl rfl rfl ?_)
 refine WL.nil (En.next (WC.ret ?_))
 refine En.ret1 rfl (Res.cell rfl mq4 ag_35) ?_
 obtain rfl := Option.some.inj h
 intro w' hs
 have hs := (((hs).pm 1).pm 2).sub (.cons_cons _ (.cons_cons _ (.cons_cons _ (.cons _ (.cons _ (.cons _ (.slnil)))))))
 exact ⟨_, _, rfl, ⟨a2_200, n2_200, c2_200, f2_200, a3_200, n3_200, c3_200, f3_200, a5_200, n5_200, c5_200, f5_200, rfl, rfl⟩, hs⟩

theorem w_spec_l19Copy {p_p0 : PlaneT} {r : PlaneT} {q0_0 : Option Addr} {l0_0 k0_0 : Nat} (h : spec_l19Copy p_p0 = some r) {w : World} (r0_0 : Rd tInt w q0_0 l0_0 k0_0 p_p0.Words)   :
    Calls Tryz.prog 75 #[.agg #[.bool p_p0.On, .int .i64 p_p0.X, .int .i64 p_p0.Y, .int .i64 p_p0.W, .int .i64 p_p0.H, .int .i64 p_p0.Layout, .slice q0_0 l0_0 k0_0, .int .i64 p_p0.Alpha, .int .i64 p_p0.Orient, .int .i64 p_p0.ToW, .int .i64 p_p0.ToH]] w (fun en w' => ∃ rv G, en = .returned rv ∧ (∃ (a0_0 : Option Addr) (n0_0 : Nat) (c0_0 : Nat) (f0_0 : List Nat), rv = .agg #[.bool r.On, .int .i64 r.X, .int .i64 r.Y, .int .i64 r.W, .int .i64 r.H, .int .i64 r.Layout, .slice a0_0 n0_0 c0_0, .int .i64 r.Alpha, .int .i64 r.Orient, .int .i64 r.ToW, .int .i64 r.ToH] ∧ G = [Chunk.own tInt f0_0 a0_0 n0_0 c0_0 r.Words]) ∧ St w G w') := by
 obtain rfl := r0_0.1
 unfold spec_l19Copy at h
 refine enter (vs := [_]) Tryz.func75 rfl rfl rfl rfl ?_
 refine WC.sr ?_
 refine WL.heavy rfl rfl rfl (OpH.box rfl rfl ?_)
 intro b0_0
 refine WL.heavy rfl rfl rfl (OpH.alloc zc_61 ?_)
 intro b0_1
 refine WL.nil (En.next (WC.seq ?_))
 obtain ⟨x1_3, e1_3, h⟩ := bnd h
 refine WC.region ?_
 refine WL.heavy rfl rfl rfl (OpH.lit0 (A := tInt) (evps.nil) bs_23_0_ ?_)
 intro b1_0
 refine sp (OpV.fieldAddr rfl fo_61_6) ?_
 refine sp (OpV.loadBox rfl pt_23 mq2 rfl) ?_
 refine WL.heavy rfl rfl rfl (OpH.appS (F := []) (A := tInt) tInt_flat rfl rfl rfl mi_23 rfl (by decide) (fun w hs => (r0_0.ext hs.below)) e1_3 ?_)
 intro f1_3 a1_3 c1_3
 refine sp (OpV.fieldAddr rfl fo_61_6) ?_
 refine WL.heavy0 rfl rfl (OpH.storeTo (A := [_, _]) [_, _, _, _, _, _, _, _, _, _, _] rfl rfl rfl ts_23 rfl rfl rfl ?_)
 refine WL.nil (En.next (WC.sr ?_))
 refine sp (OpV.loadAll rfl mq2 ag_61) ?_
 refine WL.heavy0 rfl rfl (OpH.storeTo (A := [_]) [_, _, _, _, _, _, _, _, _, _, _] rfl rfl rfl ts_61 rfl rfl rfl ?_)
 refine WL.nil (En.next (WC.ret ?_))
 refine En.ret1 rfl (Res.cell rfl mq1 ag_61) ?_
 obtain rfl := Option.some.inj h
 intro w' hs
 have hs := (hs).sub (.cons_cons _ (.cons _ (.cons _ (.slnil))))
 exact ⟨_, _, rfl, ⟨a1_3, x1_3.length, c1_3, f1_3, rfl, rfl⟩, hs⟩

theorem w_spec_l19CopyAll {list_p0 : List PlaneT} {r : (List PlaneT)} {q0_0 : Option Addr} {l0_0 k0_0 : Nat} (h : spec_l19CopyAll list_p0 = some r) {w : World} (r0_0 : Rd tPlane w q0_0 l0_0 k0_0 list_p0)   :
    Calls Tryz.prog 95 #[.slice q0_0 l0_0 k0_0] w (fun en w' => ∃ rv G, en = .returned rv ∧ (∃ (a0_0 : Option Addr) (n0_0 : Nat) (c0_0 : Nat) (f0_0 : List Nat), rv = .slice a0_0 n0_0 c0_0 ∧ G = [Chunk.own tPlane f0_0 a0_0 n0_0 c0_0 r]) ∧ St w G w') := by
 obtain rfl := r0_0.1
 unfold spec_l19CopyAll at h
 refine enter (vs := [_]) Tryz.func95 rfl rfl rfl rfl ?_
 refine WC.sr ?_
 refine ag ?_
 refine WL.nil (En.next (WC.sr ?_))
 refine WL.heavy rfl rfl rfl (OpH.lit0 (A := tPlane) (evps.nil) bs_36_0_ ?_)
 intro b1_0
 refine ag ?_
 refine WL.nil (En.next (WC.seq (WC.sr ?_)))
 refine ag ?_
 refine WL.nil (En.next (WC.block ?_))
 obtain ⟨zy0, ezy0, h⟩ := bnd h
 refine WC.cut (X := ((List PlaneT)) × ((Option Addr) × Nat × Nat × (List Nat))) (.exit 0) (fun x => zy0 = x.1) (fun x => match x with | (out_0e, (aout_0e, nout_0e, cout_0e, fout_0e)) => [(3, .slice aout_0e nout_0e cout_0e)]) (fun x => match x with | (out_0e, (aout_0e, nout_0e, cout_0e, fout_0e)) => [Chunk.own tPlane fout_0e aout_0e nout_0e cout_0e out_0e]) ?_ ?_
 ·
  rintro ⟨out_0e, ⟨aout_0e, nout_0e, cout_0e, fout_0e⟩⟩ hx
  replace hx : out_0e = zy0 := hx.symm
  subst hx
  show En _ _ _ _ [(3, .slice aout_0e nout_0e cout_0e)] [Chunk.own tPlane fout_0e aout_0e nout_0e cout_0e out_0e]
  refine En.block_exit (En.next (WC.sr ?_))
  refine mv ?_
  refine ag ?_
  refine WL.nil (En.next (WC.ret ?_))
  refine En.ret1 rfl (Res.tmp rfl) ?_
  obtain rfl := Option.some.inj h
  intro w' hs
  have hs := hs
  exact ⟨_, _, rfl, ⟨aout_0e, nout_0e, cout_0e, fout_0e, rfl, rfl⟩, hs⟩
 ·
  intro zK0_0
  refine WC.loopP (G := (Option Addr) × Nat × Nat × (List Nat)) (fun s g => match s, g with | (out_0, k_0), (aout_0, nout_0, cout_0, fout_0) => [(0, .slice q0_0 list_p0.length k0_0), (3, .slice aout_0 nout_0 cout_0), (4, .int .i64 k_0)]) (fun s g => match s, g with | (out_0, k_0), (aout_0, nout_0, cout_0, fout_0) => [Chunk.own tPlane fout_0 aout_0 nout_0 cout_0 out_0]) (([] : List PlaneT), 0) ((some ⟨b1_0, 0, .none⟩), 0, 0, [b1_0]) ezy0 (by exact sc (sc (sc sn))) (by exact (fun _ h => h)) ?_
  rintro zm0 ⟨out_0, k_0⟩ ⟨aout_0, nout_0, cout_0, fout_0⟩ zo0 zf0 zb0 ze0
  have zh0 : spec_l19CopyAll_L0 list_p0 out_0 k_0 = some zo0 := zf0
  unfold spec_l19CopyAll_L0 at zh0
  show WC _ _ _ _ _ [(0, .slice q0_0 list_p0.length k0_0), (3, .slice aout_0 nout_0 cout_0), (4, .int .i64 k_0)] [Chunk.own tPlane fout_0 aout_0 nout_0 cout_0 out_0]
  refine WC.seq (WC.sr ?_)
  refine mv ?_
  refine mv ?_
  refine sp (OpV.len rfl si_36 rfl) ?_
  refine sp (OpV.lss rfl rfl) ?_
  refine WL.nil (En.next ?_)
  refine WC.cond rfl ?_ ?_
  ·
   intro hc_1
   replace zh0 := ifO_t hc_1 zh0
   refine WC.skip (En.next (WC.seq (WC.block ?_)))
   obtain ⟨x5_3, e5_3, zh0⟩ := bnd zh0
   obtain ⟨g5_3, o5_3, _, ha5_3, ⟨a5_3_1, c5_3_1, rfl, r5_3_1⟩, hd5_3⟩ := Rd.atIdx r0_0 e5_3
   replace hd5_3 : ∀ (j : Nat) v, ([.bool x5_3.On, .int .i64 x5_3.X, .int .i64 x5_3.Y, .int .i64 x5_3.W, .int .i64 x5_3.H, .int .i64 x5_3.Layout, .slice a5_3_1 x5_3.Words.length c5_3_1, .int .i64 x5_3.Alpha, .int .i64 x5_3.Orient, .int .i64 x5_3.ToW, .int .i64 x5_3.ToH] : List Value)[j]? = some v → w.cell? ⟨g5_3, o5_3 + k_0.toNat * 11 + j, .none⟩ = some v := hd5_3
   obtain ⟨x5_5, e5_5, zh0⟩ := bnd zh0
   obtain ⟨x5_7, e5_7, zh0⟩ := bnd zh0
   refine WC.region ?_
   refine mv ?_
   refine mv ?_
   refine mv ?_
   refine sp (OpV.idxA rfl rfl se_36 ha5_3 ⟨(idx_some e5_3).1, (idx_some e5_3).2.1⟩) ?_
   refine sp (OpV.loadN rfl ag_61 rfl (fun w hs => hs.cellsAt hd5_3)) ?_
   refine WL.heavy rfl rfl rfl (OpH.callR (ec rfl e0) ca_75 (fun w hs => w_spec_l19Copy e5_5 (r5_3_1.ext hs.below)) ?_)
   rintro _ _ ⟨a5_500, n5_500, c5_500, f5_500, rfl, rfl⟩
   refine WL.heavy rfl rfl rfl (OpH.buildSlice (evps.cons rfl (evps.nil)) (bs_36_1_0 _ _ _ _ _ _ _ _ _ _ _ _ _) ?_)
   intro b5_6
   refine WL.wkF (fun _ h => h.pm 1) ?_
   refine WL.wkF (fun _ h => tPlane_mk x5_5.On x5_5.X x5_5.Y x5_5.W x5_5.H x5_5.Layout x5_5.Words x5_5.Alpha x5_5.Orient x5_5.ToW x5_5.ToH h) ?_
   refine WL.wkF (fun _ h => h.pm 2) ?_
   refine WL.wkF (fun _ h => h.pm 1) ?_
   refine WL.heavy rfl rfl rfl (OpH.push (A := tPlane) rfl rfl rfl mi_36 rfl (by decide) mq0 e5_7 ?_)
   intro f5_7 a5_7 c5_7
   refine ag ?_
   refine WL.nil (En.block_norm (En.next (WC.region ?_)))
   refine mv ?_
   refine sp (OpV.addR rfl rfl) ?_
   refine ag ?_
   refine WL.nil ?_
   exact En.backP zb0 zh0 (a5_7, x5_7.length, c5_7, f5_7) (sc (sc (sc sn))) (fun _ h => (h).sub (.cons_cons _ (.cons _ (.slnil))))
  ·
   intro hc_1
   replace zh0 := ifO_f hc_1 zh0
   refine WC.exit (En.then_exit (En.then_exit ?_))
   have hx := exitP ze0 zh0
   exact En.wk _ _ (sc sn) (fun _ h => h) (zK0_0 (out_0, (aout_0, nout_0, cout_0, fout_0)) hx.symm)

theorem w_spec_l22CopyColor {m_p0 : ColorMapT} {r : ColorMapT} {q0_0 : Option Addr} {l0_0 k0_0 : Nat} {q0_1 : Option Addr} {l0_1 k0_1 : Nat} (h : spec_l22CopyColor m_p0 = some r) {w : World} (r0_0 : Rd tInt w q0_0 l0_0 k0_0 m_p0.Matrix) (r0_1 : Rd tInt w q0_1 l0_1 k0_1 m_p0.Curve)   :
    Calls Tryz.prog 74 #[.agg #[.slice q0_0 l0_0 k0_0, .slice q0_1 l0_1 k0_1]] w (fun en w' => ∃ rv G, en = .returned rv ∧ (∃ (a0_0 : Option Addr) (n0_0 : Nat) (c0_0 : Nat) (f0_0 : List Nat) (a0_1 : Option Addr) (n0_1 : Nat) (c0_1 : Nat) (f0_1 : List Nat), rv = .agg #[.slice a0_0 n0_0 c0_0, .slice a0_1 n0_1 c0_1] ∧ G = [Chunk.own tInt f0_0 a0_0 n0_0 c0_0 r.Matrix, Chunk.own tInt f0_1 a0_1 n0_1 c0_1 r.Curve]) ∧ St w G w') := by
 obtain rfl := r0_0.1
 obtain rfl := r0_1.1
 unfold spec_l22CopyColor at h
 refine enter (vs := [_]) Tryz.func74 rfl rfl rfl rfl ?_
 refine WC.sr ?_
 refine WL.heavy rfl rfl rfl (OpH.box rfl rfl ?_)
 intro b0_0
 refine WL.heavy rfl rfl rfl (OpH.alloc zc_37 ?_)
 intro b0_1
 refine WL.nil (En.next (WC.seq ?_))
 obtain ⟨x1_3, e1_3, h⟩ := bnd h
 obtain ⟨x1_7, e1_7, h⟩ := bnd h
 refine WC.cut (X := (List Nat) × (Option Addr) × Nat × (List Nat) × (Option Addr) × Nat) .normal (fun _ => True) (fun x => match x with | (f1_7, a1_7, c1_7, f1_3, a1_3, c1_3) => [(2, .pointer (some ⟨b0_1, 0, .none⟩))]) (fun x => match x with | (f1_7, a1_7, c1_7, f1_3, a1_3, c1_3) => [Chunk.own tInt f1_7 a1_7 x1_7.length c1_7 x1_7, Chunk.own tInt f1_3 a1_3 x1_3.length c1_3 x1_3, Chunk.box b0_1 37 [.slice a1_3 x1_3.length c1_3, .slice a1_7 x1_7.length c1_7]]) ?_ ?_
 ·
  rintro ⟨f1_7, a1_7, c1_7, f1_3, a1_3, c1_3⟩ _
  show En _ _ _ _ [(2, .pointer (some ⟨b0_1, 0, .none⟩))] [Chunk.own tInt f1_7 a1_7 x1_7.length c1_7 x1_7, Chunk.own tInt f1_3 a1_3 x1_3.length c1_3 x1_3, Chunk.box b0_1 37 [.slice a1_3 x1_3.length c1_3, .slice a1_7 x1_7.length c1_7]]
  refine En.next (WC.ret ?_)
  refine En.ret1 rfl (Res.cell rfl mq2 ag_37) ?_
  obtain rfl := Option.some.inj h
  intro w' hs
  have hs := ((hs).pm 1).sub (.cons_cons _ (.cons_cons _ (.cons _ (.slnil))))
  exact ⟨_, _, rfl, ⟨a1_3, x1_3.length, c1_3, f1_3, a1_7, x1_7.length, c1_7, f1_7, rfl, rfl⟩, hs⟩
 ·
  intro KR1
  refine WC.drawnH [_] ([_]) (fun _ h => h) (by kernel_rfl) ?_
  refine tk 1 rfl (OpV.fieldAddr rfl fo_37_0) ?_
  refine tk 2 rfl (OpV.loadBox rfl pt_23 mq0 rfl) ?_
  refine tk 5 rfl (OpV.fieldAddr rfl fo_37_1) ?_
  refine tk 6 rfl (OpV.loadBox rfl pt_23 mq0 rfl) ?_
  refine WAE.all (rs := [0, 4]) (by kernel_rfl) rfl (AllR.cons rfl rfl rfl rfl ?_ (AllR.cons rfl rfl rfl rfl ?_ AllR.nil))
  ·
   refine OpH.lit0 (A := tInt) (evps.nil) bs_23_0_ ?_
   intro b1_0
   refine ⟨[_, _], rfl, ?_⟩
   refine WAE.all (rs := [3, 4]) (by kernel_rfl) rfl (AllR.cons rfl rfl rfl rfl ?_ (AllR.cons rfl rfl rfl rfl ?_ AllR.nil))
   ·
    refine OpH.appS (F := []) (A := tInt) tInt_flat rfl rfl rfl mi_23 rfl (by decide) (fun w hs => (r0_0.ext hs.below)) e1_3 ?_
    intro f1_3 a1_3 c1_3
    refine ⟨[_, _], rfl, ?_⟩
    refine al1 4 rfl ?_
    refine OpH.lit0 (A := tInt) (evps.nil) bs_23_0_ ?_
    intro b1_4
    refine ⟨[_, _, _], rfl, ?_⟩
    refine al1 7 rfl ?_
    refine OpH.appS (F := []) (A := tInt) tInt_flat rfl rfl rfl mi_23 rfl (by decide) (fun w hs => (r0_1.ext hs.below)) e1_7 ?_
    intro f1_7 a1_7 c1_7
    refine ⟨[_, _, _], rfl, ?_⟩
    refine tk 8 rfl (OpV.build (evps.cons rfl (evps.cons rfl (evps.nil))) (bd_37_0_1 _ _ _ _ _ _)) ?_
    refine al0 9 rfl ?_
    refine OpH.storeTo (A := [_, _]) [_, _] rfl rfl rfl ts_37 rfl rfl rfl ?_
    refine ⟨[_, _, _], rfl, ?_⟩
    refine WAE.rebase (H := []) ?_
    refine WAE.done (by kernel_rfl) ?_ _
    exact En.wk _ _ (sc sn) (fun _ h => (h).sub (.cons_cons _ (.cons_cons _ (.cons_cons _ (.cons _ (.slnil)))))) (KR1 (f1_7, a1_7, c1_7, f1_3, a1_3, c1_3) trivial)
   ·
    refine OpH.lit0 (A := tInt) (evps.nil) bs_23_0_ ?_
    intro b1_4
    refine ⟨[_, _, _], rfl, ?_⟩
    refine al1 3 rfl ?_
    refine OpH.appS (F := [_]) (A := tInt) tInt_flat rfl rfl rfl mi_23 rfl (by decide) (fun w hs => (r0_0.ext hs.below)) e1_3 ?_
    intro f1_3 a1_3 c1_3
    refine ⟨[_, _, _], rfl, ?_⟩
    refine al1 7 rfl ?_
    refine OpH.appS (F := []) (A := tInt) tInt_flat rfl rfl rfl mi_23 rfl (by decide) (fun w hs => (r0_1.ext hs.below)) e1_7 ?_
    intro f1_7 a1_7 c1_7
    refine ⟨[_, _, _], rfl, ?_⟩
    refine tk 8 rfl (OpV.build (evps.cons rfl (evps.cons rfl (evps.nil))) (bd_37_0_1 _ _ _ _ _ _)) ?_
    refine al0 9 rfl ?_
    refine OpH.storeTo (A := [_, _]) [_, _] rfl rfl rfl ts_37 rfl rfl rfl ?_
    refine ⟨[_, _, _], rfl, ?_⟩
    refine WAE.rebase (H := []) ?_
    refine WAE.done (by kernel_rfl) ?_ _
    exact En.wk _ _ (sc sn) (fun _ h => (h).sub (.cons_cons _ (.cons_cons _ (.cons_cons _ (.cons _ (.slnil)))))) (KR1 (f1_7, a1_7, c1_7, f1_3, a1_3, c1_3) trivial)
  ·
   refine OpH.lit0 (A := tInt) (evps.nil) bs_23_0_ ?_
   intro b1_4
   refine ⟨[_, _], rfl, ?_⟩
   refine al1 0 rfl ?_
   refine OpH.lit0 (A := tInt) (evps.nil) bs_23_0_ ?_
   intro b1_0
   refine ⟨[_, _, _], rfl, ?_⟩
   refine al1 3 rfl ?_
   refine OpH.appS (F := []) (A := tInt) tInt_flat rfl rfl rfl mi_23 rfl (by decide) (fun w hs => (r0_0.ext hs.below)) e1_3 ?_
   intro f1_3 a1_3 c1_3
   refine ⟨[_, _, _], rfl, ?_⟩
   refine al1 7 rfl ?_
   refine OpH.appS (F := [_]) (A := tInt) tInt_flat rfl rfl rfl mi_23 rfl (by decide) (fun w hs => (r0_1.ext hs.below)) e1_7 ?_
   intro f1_7 a1_7 c1_7
   refine ⟨[_, _, _], rfl, ?_⟩
   refine tk 8 rfl (OpV.build (evps.cons rfl (evps.cons rfl (evps.nil))) (bd_37_0_1 _ _ _ _ _ _)) ?_
   refine al0 9 rfl ?_
   refine OpH.storeTo (A := [_, _]) [_, _] rfl rfl rfl ts_37 rfl rfl rfl ?_
   refine ⟨[_, _, _], rfl, ?_⟩
   refine WAE.rebase (H := []) ?_
   refine WAE.done (by kernel_rfl) ?_ _
   exact En.wk _ _ (sc sn) (fun _ h => ((((h).pm 2).pm 1).pm 2).sub (.cons_cons _ (.cons_cons _ (.cons_cons _ (.cons _ (.slnil)))))) (KR1 (f1_7, a1_7, c1_7, f1_3, a1_3, c1_3) trivial)

theorem w_spec_l22Copy {c_p0 : CrtcT} {r : CrtcT} {q0_0 : Option Addr} {l0_0 k0_0 : Nat} {q0_1 : Option Addr} {l0_1 k0_1 : Nat} {q0_2 : Option Addr} {l0_2 k0_2 : Nat} (h : spec_l22Copy c_p0 = some r) {w : World} (r0_0 : Rd tPlane w q0_0 l0_0 k0_0 c_p0.Planes) (r0_1 : Rd tInt w q0_1 l0_1 k0_1 c_p0.Color.Matrix) (r0_2 : Rd tInt w q0_2 l0_2 k0_2 c_p0.Color.Curve)   :
    Calls Tryz.prog 44 #[.agg #[.int .i64 c_p0.W, .int .i64 c_p0.H, .slice q0_0 l0_0 k0_0, .slice q0_1 l0_1 k0_1, .slice q0_2 l0_2 k0_2]] w (fun en w' => ∃ rv G, en = .returned rv ∧ (∃ (a0_0 : Option Addr) (n0_0 : Nat) (c0_0 : Nat) (f0_0 : List Nat) (a0_1 : Option Addr) (n0_1 : Nat) (c0_1 : Nat) (f0_1 : List Nat) (a0_2 : Option Addr) (n0_2 : Nat) (c0_2 : Nat) (f0_2 : List Nat), rv = .agg #[.int .i64 r.W, .int .i64 r.H, .slice a0_0 n0_0 c0_0, .slice a0_1 n0_1 c0_1, .slice a0_2 n0_2 c0_2] ∧ G = [Chunk.own tPlane f0_0 a0_0 n0_0 c0_0 r.Planes, Chunk.own tInt f0_1 a0_1 n0_1 c0_1 r.Color.Matrix, Chunk.own tInt f0_2 a0_2 n0_2 c0_2 r.Color.Curve]) ∧ St w G w') := by
 obtain rfl := r0_0.1
 obtain rfl := r0_1.1
 obtain rfl := r0_2.1
 unfold spec_l22Copy at h
 refine enter (vs := [_]) Tryz.func44 rfl rfl rfl rfl ?_
 refine WC.sr ?_
 refine WL.heavy rfl rfl rfl (OpH.box rfl rfl ?_)
 intro b0_0
 refine WL.heavy rfl rfl rfl (OpH.alloc zc_39 ?_)
 intro b0_1
 refine WL.nil (En.next (WC.seq ?_))
 obtain ⟨x1_6, e1_6, h⟩ := bnd h
 obtain ⟨x1_9, e1_9, h⟩ := bnd h
 refine WC.drawnH [_] ([_]) (fun _ h => h) (by kernel_rfl) ?_
 refine tk 0 rfl (OpV.fieldAddr rfl fo_39_0) ?_
 refine tk 1 rfl (OpV.loadBox rfl pt_3 mq0 rfl) ?_
 refine tk 2 rfl (OpV.fieldAddr rfl fo_39_1) ?_
 refine tk 3 rfl (OpV.loadBox rfl pt_3 mq0 rfl) ?_
 refine tk 4 rfl (OpV.fieldAddr rfl fo_39_2) ?_
 refine tk 5 rfl (OpV.loadBox rfl pt_36 mq0 rfl) ?_
 refine tk 7 rfl (OpV.fieldAddr rfl fo_39_3) ?_
 refine tk 8 rfl (OpV.loadPart rfl mq0 ag_37 rfl rfl) ?_
 refine al1 6 rfl ?_
 refine OpH.callR (ec rfl e0) ca_95 (fun w hs => w_spec_l19CopyAll e1_6 (r0_0.ext hs.below)) ?_
 rintro _ _ ⟨a1_600, n1_600, c1_600, f1_600, rfl, rfl⟩
 refine ⟨[_, _], rfl, ?_⟩
 refine al1 9 rfl ?_
 refine OpH.callR (ec rfl e0) ca_74 (fun w hs => w_spec_l22CopyColor e1_9 (r0_1.ext hs.below) (r0_2.ext hs.below)) ?_
 rintro _ _ ⟨a1_900, n1_900, c1_900, f1_900, a1_901, n1_901, c1_901, f1_901, rfl, rfl⟩
 refine ⟨[_, _, _, _], rfl, ?_⟩
 refine tk 10 rfl (OpV.build (evps.cons rfl (evps.cons rfl (evps.cons rfl (evps.cons rfl (evps.nil))))) (bd_39_0_1_2_3 _ _ _ _ _ _ _ _ _ _ _)) ?_
 refine al0 11 rfl ?_
 refine OpH.storeTo (A := [_, _, _]) [_, _, _, _, _] rfl rfl rfl ts_39 rfl rfl rfl ?_
 refine ⟨[_, _, _, _], rfl, ?_⟩
 refine WAE.rebase (H := []) ?_
 refine WAE.done (by kernel_rfl) ?_ _
 refine En.next (WC.ret ?_)
 refine En.ret1 rfl (Res.cell rfl mq3 ag_39) ?_
 obtain rfl := Option.some.inj h
 intro w' hs
 have hs := ((((hs).pm 1).pm 1).pm 2).sub (.cons_cons _ (.cons_cons _ (.cons_cons _ (.cons _ (.cons _ (.slnil))))))
 exact ⟨_, _, rfl, ⟨a1_600, n1_600, c1_600, f1_600, a1_900, n1_900, c1_900, f1_900, a1_901, n1_901, c1_901, f1_901, rfl, rfl⟩, hs⟩

theorem w_spec_l23CopyFlip {x_p0 : FlipT} {r : FlipT} {q0_0 : Option Addr} {l0_0 k0_0 : Nat} {q0_1 : Option Addr} {l0_1 k0_1 : Nat} {q0_2 : Option Addr} {l0_2 k0_2 : Nat} (h : spec_l23CopyFlip x_p0 = some r) {w : World} (r0_0 : Rd tPlane w q0_0 l0_0 k0_0 x_p0.State.Planes) (r0_1 : Rd tInt w q0_1 l0_1 k0_1 x_p0.State.Color.Matrix) (r0_2 : Rd tInt w q0_2 l0_2 k0_2 x_p0.State.Color.Curve)   :
    Calls Tryz.prog 94 #[.agg #[.int .i64 x_p0.Seq, .int .i64 x_p0.Fence, .int .i64 x_p0.State.W, .int .i64 x_p0.State.H, .slice q0_0 l0_0 k0_0, .slice q0_1 l0_1 k0_1, .slice q0_2 l0_2 k0_2]] w (fun en w' => ∃ rv G, en = .returned rv ∧ (∃ (a0_0 : Option Addr) (n0_0 : Nat) (c0_0 : Nat) (f0_0 : List Nat) (a0_1 : Option Addr) (n0_1 : Nat) (c0_1 : Nat) (f0_1 : List Nat) (a0_2 : Option Addr) (n0_2 : Nat) (c0_2 : Nat) (f0_2 : List Nat), rv = .agg #[.int .i64 r.Seq, .int .i64 r.Fence, .int .i64 r.State.W, .int .i64 r.State.H, .slice a0_0 n0_0 c0_0, .slice a0_1 n0_1 c0_1, .slice a0_2 n0_2 c0_2] ∧ G = [Chunk.own tPlane f0_0 a0_0 n0_0 c0_0 r.State.Planes, Chunk.own tInt f0_1 a0_1 n0_1 c0_1 r.State.Color.Matrix, Chunk.own tInt f0_2 a0_2 n0_2 c0_2 r.State.Color.Curve]) ∧ St w G w') := by
 obtain rfl := r0_0.1
 obtain rfl := r0_1.1
 obtain rfl := r0_2.1
 unfold spec_l23CopyFlip at h
 refine enter (vs := [_]) Tryz.func94 rfl rfl rfl rfl ?_
 refine WC.sr ?_
 refine WL.heavy rfl rfl rfl (OpH.box rfl rfl ?_)
 intro b0_0
 refine WL.heavy rfl rfl rfl (OpH.alloc zc_79 ?_)
 intro b0_1
 refine WL.nil (En.next (WC.seq ?_))
 obtain ⟨x1_6, e1_6, h⟩ := bnd h
 refine WC.drawnH [_] ([_]) (fun _ h => h) (by kernel_rfl) ?_
 refine tk 0 rfl (OpV.fieldAddr rfl fo_79_0) ?_
 refine tk 1 rfl (OpV.loadBox rfl pt_3 mq0 rfl) ?_
 refine tk 2 rfl (OpV.fieldAddr rfl fo_79_1) ?_
 refine tk 3 rfl (OpV.loadBox rfl pt_3 mq0 rfl) ?_
 refine tk 4 rfl (OpV.fieldAddr rfl fo_79_2) ?_
 refine tk 5 rfl (OpV.loadPart rfl mq0 ag_39 rfl rfl) ?_
 refine al1 6 rfl ?_
 refine OpH.callR (ec rfl e0) ca_44 (fun w hs => w_spec_l22Copy e1_6 (r0_0.ext hs.below) (r0_1.ext hs.below) (r0_2.ext hs.below)) ?_
 rintro _ _ ⟨a1_600, n1_600, c1_600, f1_600, a1_601, n1_601, c1_601, f1_601, a1_602, n1_602, c1_602, f1_602, rfl, rfl⟩
 refine ⟨[_, _, _, _], rfl, ?_⟩
 refine tk 7 rfl (OpV.build (evps.cons rfl (evps.cons rfl (evps.cons rfl (evps.nil)))) (bd_79_0_1_2 _ _ _ _ _ _ _ _ _ _ _ _ _)) ?_
 refine al0 8 rfl ?_
 refine OpH.storeTo (A := [_, _, _]) [_, _, _, _, _, _, _] rfl rfl rfl ts_79 rfl rfl rfl ?_
 refine ⟨[_, _, _, _], rfl, ?_⟩
 refine WAE.rebase (H := []) ?_
 refine WAE.done (by kernel_rfl) ?_ _
 refine En.next (WC.ret ?_)
 refine En.ret1 rfl (Res.cell rfl mq3 ag_79) ?_
 obtain rfl := Option.some.inj h
 intro w' hs
 have hs := (hs).sub (.cons_cons _ (.cons_cons _ (.cons_cons _ (.cons _ (.cons _ (.slnil))))))
 exact ⟨_, _, rfl, ⟨a1_600, n1_600, c1_600, f1_600, a1_601, n1_601, c1_601, f1_601, a1_602, n1_602, c1_602, f1_602, rfl, rfl⟩, hs⟩

theorem w_spec_l23Copy {f_p0 : FlipsT} {r : FlipsT} {q0_0 : Option Addr} {l0_0 k0_0 : Nat} {q0_1 : Option Addr} {l0_1 k0_1 : Nat} {q0_2 : Option Addr} {l0_2 k0_2 : Nat} (h : spec_l23Copy f_p0 = some r) {w : World} (r0_0 : Rd tFlip w q0_0 l0_0 k0_0 f_p0.Pending) (r0_1 : Rd tInt w q0_1 l0_1 k0_1 f_p0.Signalled) (r0_2 : Rd tInt w q0_2 l0_2 k0_2 f_p0.Events)   :
    Calls Tryz.prog 42 #[.agg #[.slice q0_0 l0_0 k0_0, .slice q0_1 l0_1 k0_1, .int .i64 f_p0.Next, .slice q0_2 l0_2 k0_2]] w (fun en w' => ∃ rv G, en = .returned rv ∧ (∃ (a0_0 : Option Addr) (n0_0 : Nat) (c0_0 : Nat) (f0_0 : List Nat) (a0_1 : Option Addr) (n0_1 : Nat) (c0_1 : Nat) (f0_1 : List Nat) (a0_2 : Option Addr) (n0_2 : Nat) (c0_2 : Nat) (f0_2 : List Nat), rv = .agg #[.slice a0_0 n0_0 c0_0, .slice a0_1 n0_1 c0_1, .int .i64 r.Next, .slice a0_2 n0_2 c0_2] ∧ G = [Chunk.own tFlip f0_0 a0_0 n0_0 c0_0 r.Pending, Chunk.own tInt f0_1 a0_1 n0_1 c0_1 r.Signalled, Chunk.own tInt f0_2 a0_2 n0_2 c0_2 r.Events]) ∧ St w G w') := by
 obtain rfl := r0_0.1
 obtain rfl := r0_1.1
 obtain rfl := r0_2.1
 unfold spec_l23Copy at h
 refine enter (vs := [_]) Tryz.func42 rfl rfl rfl rfl ?_
 refine WC.sr ?_
 refine WL.heavy rfl rfl rfl (OpH.box rfl rfl ?_)
 intro b0_0
 refine WL.heavy rfl rfl rfl (OpH.alloc zc_35 ?_)
 intro b0_1
 refine WL.nil (En.next (WC.seq ?_))
 obtain ⟨x1_3, e1_3, h⟩ := bnd h
 obtain ⟨x1_9, e1_9, h⟩ := bnd h
 refine WC.cut (X := Nat × (Option Addr) × Nat × (Option Addr) × Nat × (List Nat) × (List Nat)) .normal (fun _ => True) (fun x => match x with | (b1_11, a1_3, c1_3, a1_9, c1_9, f1_9, f1_3) => [(1, .pointer (some ⟨b0_0, 0, .none⟩)), (2, .pointer (some ⟨b0_1, 0, .none⟩)), (3, .pointer (some ⟨b1_11, 0, .none⟩))]) (fun x => match x with | (b1_11, a1_3, c1_3, a1_9, c1_9, f1_9, f1_3) => [Chunk.box b1_11 35 [.slice .none 0 0, .slice a1_3 x1_3.length c1_3, .int .i64 f_p0.Next, .slice a1_9 x1_9.length c1_9], Chunk.own tInt f1_9 a1_9 x1_9.length c1_9 x1_9, Chunk.own tInt f1_3 a1_3 x1_3.length c1_3 x1_3, Chunk.box b0_1 35 [.slice .none 0 0, .slice .none 0 0, .int .i64 0, .slice .none 0 0], Chunk.box b0_0 35 [.slice q0_0 f_p0.Pending.length k0_0, .slice q0_1 f_p0.Signalled.length k0_1, .int .i64 f_p0.Next, .slice q0_2 f_p0.Events.length k0_2]]) ?_ ?_
 ·
  rintro ⟨b1_11, a1_3, c1_3, a1_9, c1_9, f1_9, f1_3⟩ _
  show En _ _ _ _ [(1, .pointer (some ⟨b0_0, 0, .none⟩)), (2, .pointer (some ⟨b0_1, 0, .none⟩)), (3, .pointer (some ⟨b1_11, 0, .none⟩))] [Chunk.box b1_11 35 [.slice .none 0 0, .slice a1_3 x1_3.length c1_3, .int .i64 f_p0.Next, .slice a1_9 x1_9.length c1_9], Chunk.own tInt f1_9 a1_9 x1_9.length c1_9 x1_9, Chunk.own tInt f1_3 a1_3 x1_3.length c1_3 x1_3, Chunk.box b0_1 35 [.slice .none 0 0, .slice .none 0 0, .int .i64 0, .slice .none 0 0], Chunk.box b0_0 35 [.slice q0_0 f_p0.Pending.length k0_0, .slice q0_1 f_p0.Signalled.length k0_1, .int .i64 f_p0.Next, .slice q0_2 f_p0.Events.length k0_2]]
  refine En.next (WC.seq (WC.sr ?_))
  refine ag ?_
  refine WL.nil (En.next (WC.block ?_))
  obtain ⟨zy0, ezy0, h⟩ := bnd h
  refine WC.cut (X := ((List FlipT)) × ((Option Addr) × Nat × Nat × (List Nat))) (.exit 0) (fun x => zy0 = x.1) (fun x => match x with | (out_0e, (aout_0e, nout_0e, cout_0e, fout_0e)) => [(2, .pointer (some ⟨b0_1, 0, .none⟩)), (3, .pointer (some ⟨b1_11, 0, .none⟩))]) (fun x => match x with | (out_0e, (aout_0e, nout_0e, cout_0e, fout_0e)) => [Chunk.box b0_1 35 [.slice .none 0 0, .slice .none 0 0, .int .i64 0, .slice .none 0 0], Chunk.box b1_11 35 [.slice aout_0e nout_0e cout_0e, .slice a1_3 x1_3.length c1_3, .int .i64 f_p0.Next, .slice a1_9 x1_9.length c1_9], Chunk.own tFlip fout_0e aout_0e nout_0e cout_0e out_0e, Chunk.own tInt f1_3 a1_3 x1_3.length c1_3 x1_3, Chunk.own tInt f1_9 a1_9 x1_9.length c1_9 x1_9]) ?_ ?_
  ·
   rintro ⟨out_0e, ⟨aout_0e, nout_0e, cout_0e, fout_0e⟩⟩ hx
   replace hx : out_0e = zy0 := hx.symm
   subst hx
   show En _ _ _ _ [(2, .pointer (some ⟨b0_1, 0, .none⟩)), (3, .pointer (some ⟨b1_11, 0, .none⟩))] [Chunk.box b0_1 35 [.slice .none 0 0, .slice .none 0 0, .int .i64 0, .slice .none 0 0], Chunk.box b1_11 35 [.slice aout_0e nout_0e cout_0e, .slice a1_3 x1_3.length c1_3, .int .i64 f_p0.Next, .slice a1_9 x1_9.length c1_9], Chunk.own tFlip fout_0e aout_0e nout_0e cout_0e out_0e, Chunk.own tInt f1_3 a1_3 x1_3.length c1_3 x1_3, Chunk.own tInt f1_9 a1_9 x1_9.length c1_9 x1_9]
   refine En.block_exit (En.next (WC.sr ?_))
   refine sp (OpV.loadAll rfl mq1 ag_35) ?_
   refine WL.heavy0 rfl rfl (OpH.storeTo (A := []) [_, _, _, _] rfl rfl rfl ts_35 rfl rfl rfl ?_)
   refine WL.nil (En.next (WC.ret ?_))
   refine En.ret1 rfl (Res.cell rfl mq0 ag_35) ?_
   obtain rfl := Option.some.inj h
   intro w' hs
   have hs := ((((hs).pm 4).pm 4).pm 4).sub (.cons_cons _ (.cons_cons _ (.cons_cons _ (.cons _ (.cons _ (.slnil))))))
   exact ⟨_, _, rfl, ⟨aout_0e, nout_0e, cout_0e, fout_0e, a1_3, x1_3.length, c1_3, f1_3, a1_9, x1_9.length, c1_9, f1_9, rfl, rfl⟩, hs⟩
  ·
   intro zK0_0
   refine WC.loopP (G := (Option Addr) × Nat × Nat × (List Nat)) (fun s g => match s, g with | (out_0, k_0), (aout_0, nout_0, cout_0, fout_0) => [(1, .pointer (some ⟨b0_0, 0, .none⟩)), (2, .pointer (some ⟨b0_1, 0, .none⟩)), (3, .pointer (some ⟨b1_11, 0, .none⟩)), (4, .int .i64 k_0)]) (fun s g => match s, g with | (out_0, k_0), (aout_0, nout_0, cout_0, fout_0) => [Chunk.box b0_0 35 [.slice q0_0 f_p0.Pending.length k0_0, .slice q0_1 f_p0.Signalled.length k0_1, .int .i64 f_p0.Next, .slice q0_2 f_p0.Events.length k0_2], Chunk.box b0_1 35 [.slice .none 0 0, .slice .none 0 0, .int .i64 0, .slice .none 0 0], Chunk.box b1_11 35 [.slice aout_0 nout_0 cout_0, .slice a1_3 x1_3.length c1_3, .int .i64 f_p0.Next, .slice a1_9 x1_9.length c1_9], Chunk.own tFlip fout_0 aout_0 nout_0 cout_0 out_0, Chunk.own tInt f1_3 a1_3 x1_3.length c1_3 x1_3, Chunk.own tInt f1_9 a1_9 x1_9.length c1_9 x1_9]) ([], 0) (.none, 0, 0, []) ezy0 (by exact sc (sc (sc (sc sn)))) (by exact (fun _ h => (((((((h).ownNil (A := tFlip)).pm 2).pm 3).pm 2).pm 3).pm 4).pm 5)) ?_
   rintro zm0 ⟨out_0, k_0⟩ ⟨aout_0, nout_0, cout_0, fout_0⟩ zo0 zf0 zb0 ze0
   have zh0 : spec_l23Copy_L0 f_p0 out_0 k_0 = some zo0 := zf0
   unfold spec_l23Copy_L0 at zh0
   show WC _ _ _ _ _ [(1, .pointer (some ⟨b0_0, 0, .none⟩)), (2, .pointer (some ⟨b0_1, 0, .none⟩)), (3, .pointer (some ⟨b1_11, 0, .none⟩)), (4, .int .i64 k_0)] [Chunk.box b0_0 35 [.slice q0_0 f_p0.Pending.length k0_0, .slice q0_1 f_p0.Signalled.length k0_1, .int .i64 f_p0.Next, .slice q0_2 f_p0.Events.length k0_2], Chunk.box b0_1 35 [.slice .none 0 0, .slice .none 0 0, .int .i64 0, .slice .none 0 0], Chunk.box b1_11 35 [.slice aout_0 nout_0 cout_0, .slice a1_3 x1_3.length c1_3, .int .i64 f_p0.Next, .slice a1_9 x1_9.length c1_9], Chunk.own tFlip fout_0 aout_0 nout_0 cout_0 out_0, Chunk.own tInt f1_3 a1_3 x1_3.length c1_3 x1_3, Chunk.own tInt f1_9 a1_9 x1_9.length c1_9 x1_9]
   refine WC.seq (WC.sr ?_)
   refine mv ?_
   refine sp (OpV.fieldAddr rfl fo_35_0) ?_
   refine sp (OpV.loadBox rfl pt_33 mq0 rfl) ?_
   refine sp (OpV.len rfl si_33 rfl) ?_
   refine sp (OpV.lss rfl rfl) ?_
   refine WL.nil (En.next ?_)
   refine WC.cond rfl ?_ ?_
   ·
    intro hc_1
    replace zh0 := ifO_t hc_1 zh0
    refine WC.skip (En.next (WC.seq (WC.block ?_)))
    obtain ⟨x5_5, e5_5, zh0⟩ := bnd zh0
    obtain ⟨g5_5, o5_5, _, ha5_5, ⟨a5_5_1, c5_5_1, a5_5_2, c5_5_2, a5_5_3, c5_5_3, rfl, r5_5_1, r5_5_2, r5_5_3⟩, hd5_5⟩ := Rd.atIdx r0_0 e5_5
    replace hd5_5 : ∀ (j : Nat) v, ([.int .i64 x5_5.Seq, .int .i64 x5_5.Fence, .int .i64 x5_5.State.W, .int .i64 x5_5.State.H, .slice a5_5_1 x5_5.State.Planes.length c5_5_1, .slice a5_5_2 x5_5.State.Color.Matrix.length c5_5_2, .slice a5_5_3 x5_5.State.Color.Curve.length c5_5_3] : List Value)[j]? = some v → w.cell? ⟨g5_5, o5_5 + k_0.toNat * 7 + j, .none⟩ = some v := hd5_5
    obtain ⟨x5_7, e5_7, zh0⟩ := bnd zh0
    obtain ⟨x5_9, e5_9, zh0⟩ := bnd zh0
    refine WC.wkF (fun _ h => h.pm 3) ?_
    refine WC.wkF (fun _ h => h.pm 3) ?_
    refine WC.drawnH [_, _] ([_, _, _, _]) (fun _ h => h) (by kernel_rfl) ?_
    refine tk 0 rfl (OpV.fieldAddr rfl fo_35_0) ?_
    refine tk 2 rfl (OpV.fieldAddr rfl fo_35_0) ?_
    refine tk 3 rfl (OpV.loadBox rfl pt_33 mq0 rfl) ?_
    refine tk 4 rfl (OpV.move rfl) ?_
    refine tk 5 rfl (OpV.idxA rfl rfl se_33 ha5_5 ⟨(idx_some e5_5).1, (idx_some e5_5).2.1⟩) ?_
    refine tk 6 rfl (OpV.loadN rfl ag_79 rfl (fun w hs => hs.cellsAt hd5_5)) ?_
    refine WAE.all (rs := [1, 7]) (by kernel_rfl) rfl (AllR.cons rfl rfl rfl rfl ?_ (AllR.cons rfl rfl rfl rfl ?_ AllR.nil))
    ·
     refine OpH.light (OpV.loadBox rfl pt_33 mq0 rfl) ?_
     refine ⟨[_, _], rfl, ?_⟩
     refine al1 7 rfl ?_
     refine OpH.callR (ec rfl e0) ca_94 (fun w hs => w_spec_l23CopyFlip e5_7 (r5_5_1.ext hs.below) (r5_5_2.ext hs.below) (r5_5_3.ext hs.below)) ?_
     rintro _ _ ⟨a5_700, n5_700, c5_700, f5_700, a5_701, n5_701, c5_701, f5_701, a5_702, n5_702, c5_702, f5_702, rfl, rfl⟩
     refine ⟨[_, _, _, _, _], rfl, ?_⟩
     refine al1 8 rfl ?_
     refine OpH.buildSlice (evps.cons rfl (evps.nil)) (bs_33_1_0 _ _ _ _ _ _ _ _ _ _ _ _ _) ?_
     intro b5_8
     refine ⟨[_, _, _, _, _, _], rfl, ?_⟩
     refine al1 9 rfl ?_
     refine OpH.wkF (fun _ h => h.pm 3) ?_
     refine OpH.wkF (fun _ h => h.pm 3) ?_
     refine OpH.wkF (fun _ h => h.pm 3) ?_
     refine OpH.wkF (fun _ h => tFlip_mk x5_7.Seq x5_7.Fence x5_7.State h) ?_
     refine OpH.wkF (fun _ h => h.pm 3) ?_
     refine OpH.wkF (fun _ h => h.pm 1) ?_
     refine OpH.push (A := tFlip) rfl rfl rfl mi_33 rfl (by decide) mq0 e5_9 ?_
     intro f5_9 a5_9 c5_9
     refine ⟨[_, _, _], rfl, ?_⟩
     refine tk 10 rfl (OpV.fieldAddr rfl fo_35_0) ?_
     refine al0 11 rfl ?_
     refine OpH.storeTo (A := [_, _]) [_, _, _, _] rfl rfl rfl ts_33 rfl rfl rfl ?_
     refine ⟨[_, _, _], rfl, ?_⟩
     refine WAE.rebase (H := []) ?_
     refine WAE.done (by kernel_rfl) ?_ _
     refine En.block_norm (En.next (WC.region ?_))
     refine mv ?_
     refine sp (OpV.addR rfl rfl) ?_
     refine ag ?_
     refine WL.nil ?_
     exact En.backP zb0 zh0 (a5_9, x5_9.length, c5_9, f5_9) (sc (sc (sc (sc sn)))) (fun _ h => (((((((h).pm 6).pm 6).pm 2).pm 4).pm 6).pm 6).sub (.cons_cons _ (.cons_cons _ (.cons_cons _ (.cons_cons _ (.cons_cons _ (.cons_cons _ (.cons _ (.slnil)))))))))
    ·
     refine OpH.callR (ec rfl e0) ca_94 (fun w hs => w_spec_l23CopyFlip e5_7 (r5_5_1.ext hs.below) (r5_5_2.ext hs.below) (r5_5_3.ext hs.below)) ?_
     rintro _ _ ⟨a5_700, n5_700, c5_700, f5_700, a5_701, n5_701, c5_701, f5_701, a5_702, n5_702, c5_702, f5_702, rfl, rfl⟩
     refine ⟨[_, _, _, _, _], rfl, ?_⟩
     refine WAE.all (rs := [1, 8]) (by kernel_rfl) rfl (AllR.cons rfl rfl rfl rfl ?_ (AllR.cons rfl rfl rfl rfl ?_ AllR.nil))
     ·
      refine OpH.light (OpV.loadBox rfl pt_33 mq3 rfl) ?_
      refine ⟨[_, _, _, _, _], rfl, ?_⟩
      refine al1 8 rfl ?_
      refine OpH.buildSlice (evps.cons rfl (evps.nil)) (bs_33_1_0 _ _ _ _ _ _ _ _ _ _ _ _ _) ?_
      intro b5_8
      refine ⟨[_, _, _, _, _, _], rfl, ?_⟩
      refine al1 9 rfl ?_
      refine OpH.wkF (fun _ h => h.pm 3) ?_
      refine OpH.wkF (fun _ h => h.pm 3) ?_
      refine OpH.wkF (fun _ h => h.pm 3) ?_
      refine OpH.wkF (fun _ h => tFlip_mk x5_7.Seq x5_7.Fence x5_7.State h) ?_
      refine OpH.wkF (fun _ h => h.pm 3) ?_
      refine OpH.wkF (fun _ h => h.pm 1) ?_
      refine OpH.push (A := tFlip) rfl rfl rfl mi_33 rfl (by decide) mq0 e5_9 ?_
      intro f5_9 a5_9 c5_9
      refine ⟨[_, _, _], rfl, ?_⟩
      refine tk 10 rfl (OpV.fieldAddr rfl fo_35_0) ?_
      refine al0 11 rfl ?_
      refine OpH.storeTo (A := [_, _]) [_, _, _, _] rfl rfl rfl ts_33 rfl rfl rfl ?_
      refine ⟨[_, _, _], rfl, ?_⟩
      refine WAE.rebase (H := []) ?_
      refine WAE.done (by kernel_rfl) ?_ _
      refine En.block_norm (En.next (WC.region ?_))
      refine mv ?_
      refine sp (OpV.addR rfl rfl) ?_
      refine ag ?_
      refine WL.nil ?_
      exact En.backP zb0 zh0 (a5_9, x5_9.length, c5_9, f5_9) (sc (sc (sc (sc sn)))) (fun _ h => (((((((h).pm 6).pm 6).pm 2).pm 4).pm 6).pm 6).sub (.cons_cons _ (.cons_cons _ (.cons_cons _ (.cons_cons _ (.cons_cons _ (.cons_cons _ (.cons _ (.slnil)))))))))
     ·
      refine OpH.buildSlice (evps.cons rfl (evps.nil)) (bs_33_1_0 _ _ _ _ _ _ _ _ _ _ _ _ _) ?_
      intro b5_8
      refine ⟨[_, _, _, _, _, _], rfl, ?_⟩
      refine al1 1 rfl ?_
      refine OpH.light (OpV.loadBox rfl pt_33 mq4 rfl) ?_
      refine ⟨[_, _, _, _, _, _], rfl, ?_⟩
      refine al1 9 rfl ?_
      refine OpH.wkF (fun _ h => h.pm 3) ?_
      refine OpH.wkF (fun _ h => h.pm 3) ?_
      refine OpH.wkF (fun _ h => h.pm 3) ?_
      refine OpH.wkF (fun _ h => tFlip_mk x5_7.Seq x5_7.Fence x5_7.State h) ?_
      refine OpH.wkF (fun _ h => h.pm 3) ?_
      refine OpH.wkF (fun _ h => h.pm 1) ?_
      refine OpH.push (A := tFlip) rfl rfl rfl mi_33 rfl (by decide) mq0 e5_9 ?_
      intro f5_9 a5_9 c5_9
      refine ⟨[_, _, _], rfl, ?_⟩
      refine tk 10 rfl (OpV.fieldAddr rfl fo_35_0) ?_
      refine al0 11 rfl ?_
      refine OpH.storeTo (A := [_, _]) [_, _, _, _] rfl rfl rfl ts_33 rfl rfl rfl ?_
      refine ⟨[_, _, _], rfl, ?_⟩
      refine WAE.rebase (H := []) ?_
      refine WAE.done (by kernel_rfl) ?_ _
      refine En.block_norm (En.next (WC.region ?_))
      refine mv ?_
      refine sp (OpV.addR rfl rfl) ?_
      refine ag ?_
      refine WL.nil ?_
      exact En.backP zb0 zh0 (a5_9, x5_9.length, c5_9, f5_9) (sc (sc (sc (sc sn)))) (fun _ h => (((((((h).pm 6).pm 6).pm 2).pm 4).pm 6).pm 6).sub (.cons_cons _ (.cons_cons _ (.cons_cons _ (.cons_cons _ (.cons_cons _ (.cons_cons _ (.cons _ (.slnil)))))))))
   ·
    intro hc_1
    replace zh0 := ifO_f hc_1 zh0
    refine WC.exit (En.then_exit (En.then_exit ?_))
    have hx := exitP ze0 zh0
    exact En.wk _ _ (sc (sc sn)) (fun _ h => ((((((h).pm 5).pm 5).pm 5).pm 5).pm 5).sub (.cons_cons _ (.cons_cons _ (.cons_cons _ (.cons_cons _ (.cons_cons _ (.cons _ (.slnil)))))))) (zK0_0 (out_0, (aout_0, nout_0, cout_0, fout_0)) hx.symm)
 ·
  intro KR1
  refine WC.drawnH [] ([_, _]) (fun _ h => h) (by kernel_rfl) ?_
  refine tk 1 rfl (OpV.fieldAddr rfl fo_35_1) ?_
  refine tk 2 rfl (OpV.loadBox rfl pt_23 mq1 rfl) ?_
  refine tk 4 rfl (OpV.fieldAddr rfl fo_35_2) ?_
  refine tk 5 rfl (OpV.loadBox rfl pt_3 mq1 rfl) ?_
  refine tk 7 rfl (OpV.fieldAddr rfl fo_35_3) ?_
  refine tk 8 rfl (OpV.loadBox rfl pt_23 mq1 rfl) ?_
  refine WAE.all (rs := [0, 6, 11]) (by kernel_rfl) rfl (AllR.cons rfl rfl rfl rfl ?_ (AllR.cons rfl rfl rfl rfl ?_ (AllR.cons rfl rfl rfl rfl ?_ AllR.nil)))
  ·
   refine OpH.lit0 (A := tInt) (evps.nil) bs_23_0_ ?_
   intro b1_0
   refine ⟨[_], rfl, ?_⟩
   refine WAE.all (rs := [3, 6, 11]) (by kernel_rfl) rfl (AllR.cons rfl rfl rfl rfl ?_ (AllR.cons rfl rfl rfl rfl ?_ (AllR.cons rfl rfl rfl rfl ?_ AllR.nil)))
   ·
    refine OpH.appS (F := []) (A := tInt) tInt_flat rfl rfl rfl mi_23 rfl (by decide) (fun w hs => (r0_1.ext hs.below)) e1_3 ?_
    intro f1_3 a1_3 c1_3
    refine ⟨[_], rfl, ?_⟩
    refine WAE.rebase (H := []) ?_
    refine WAE.all (rs := [6, 11]) (by kernel_rfl) rfl (AllR.cons rfl rfl rfl rfl ?_ (AllR.cons rfl rfl rfl rfl ?_ AllR.nil))
    ·
     refine OpH.lit0 (A := tInt) (evps.nil) bs_23_0_ ?_
     intro b1_6
     refine ⟨[_], rfl, ?_⟩
     refine WAE.all (rs := [9, 11]) (by kernel_rfl) rfl (AllR.cons rfl rfl rfl rfl ?_ (AllR.cons rfl rfl rfl rfl ?_ AllR.nil))
     ·
      refine OpH.appS (F := []) (A := tInt) tInt_flat rfl rfl rfl mi_23 rfl (by decide) (fun w hs => (r0_2.ext hs.below)) e1_9 ?_
      intro f1_9 a1_9 c1_9
      refine ⟨[_], rfl, ?_⟩
      refine WAE.rebase (H := []) ?_
      refine tk 10 rfl (OpV.build (evps.cons rfl (evps.cons rfl (evps.cons rfl (evps.nil)))) (bd_35_1_2_3 _ _ _ _ _ _ _)) ?_
      refine al1 11 rfl ?_
      refine OpH.alloc zc_35 ?_
      intro b1_11
      refine ⟨[_], rfl, ?_⟩
      refine al0 12 rfl ?_
      refine OpH.storeTo (A := []) [_, _, _, _] rfl rfl rfl ts_35 rfl rfl rfl ?_
      refine ⟨[_], rfl, ?_⟩
      refine WAE.rebase (H := []) ?_
      refine WAE.done (by kernel_rfl) ?_ _
      exact En.wk _ _ (sc (sc (sc sn))) (fun _ h => h) (KR1 (b1_11, a1_3, c1_3, a1_9, c1_9, f1_9, f1_3) trivial)
     ·
      refine OpH.alloc zc_35 ?_
      intro b1_11
      refine ⟨[_, _], rfl, ?_⟩
      refine al1 9 rfl ?_
      refine OpH.appS (F := [_]) (A := tInt) tInt_flat rfl rfl rfl mi_23 rfl (by decide) (fun w hs => (r0_2.ext hs.below)) e1_9 ?_
      intro f1_9 a1_9 c1_9
      refine ⟨[_, _], rfl, ?_⟩
      refine tk 10 rfl (OpV.build (evps.cons rfl (evps.cons rfl (evps.cons rfl (evps.nil)))) (bd_35_1_2_3 _ _ _ _ _ _ _)) ?_
      refine al0 12 rfl ?_
      refine OpH.storeTo (A := []) [_, _, _, _] rfl rfl rfl ts_35 rfl rfl rfl ?_
      refine ⟨[_, _], rfl, ?_⟩
      refine WAE.rebase (H := []) ?_
      refine WAE.done (by kernel_rfl) ?_ _
      exact En.wk _ _ (sc (sc (sc sn))) (fun _ h => h) (KR1 (b1_11, a1_3, c1_3, a1_9, c1_9, f1_9, f1_3) trivial)
    ·
     refine OpH.alloc zc_35 ?_
     intro b1_11
     refine ⟨[_], rfl, ?_⟩
     refine al1 6 rfl ?_
     refine OpH.lit0 (A := tInt) (evps.nil) bs_23_0_ ?_
     intro b1_6
     refine ⟨[_, _], rfl, ?_⟩
     refine al1 9 rfl ?_
     refine OpH.appS (F := []) (A := tInt) tInt_flat rfl rfl rfl mi_23 rfl (by decide) (fun w hs => (r0_2.ext hs.below)) e1_9 ?_
     intro f1_9 a1_9 c1_9
     refine ⟨[_, _], rfl, ?_⟩
     refine tk 10 rfl (OpV.build (evps.cons rfl (evps.cons rfl (evps.cons rfl (evps.nil)))) (bd_35_1_2_3 _ _ _ _ _ _ _)) ?_
     refine al0 12 rfl ?_
     refine OpH.storeTo (A := [_]) [_, _, _, _] rfl rfl rfl ts_35 rfl rfl rfl ?_
     refine ⟨[_, _], rfl, ?_⟩
     refine WAE.rebase (H := []) ?_
     refine WAE.done (by kernel_rfl) ?_ _
     exact En.wk _ _ (sc (sc (sc sn))) (fun _ h => (((((h).pm 4).pm 4).pm 4).pm 3).pm 4) (KR1 (b1_11, a1_3, c1_3, a1_9, c1_9, f1_9, f1_3) trivial)
   ·
    refine OpH.lit0 (A := tInt) (evps.nil) bs_23_0_ ?_
    intro b1_6
    refine ⟨[_, _], rfl, ?_⟩
    refine WAE.all (rs := [3, 11]) (by kernel_rfl) rfl (AllR.cons rfl rfl rfl rfl ?_ (AllR.cons rfl rfl rfl rfl ?_ AllR.nil))
    ·
     refine OpH.appS (F := [_]) (A := tInt) tInt_flat rfl rfl rfl mi_23 rfl (by decide) (fun w hs => (r0_1.ext hs.below)) e1_3 ?_
     intro f1_3 a1_3 c1_3
     refine ⟨[_, _], rfl, ?_⟩
     refine WAE.all (rs := [9, 11]) (by kernel_rfl) rfl (AllR.cons rfl rfl rfl rfl ?_ (AllR.cons rfl rfl rfl rfl ?_ AllR.nil))
     ·
      refine OpH.appS (F := []) (A := tInt) tInt_flat rfl rfl rfl mi_23 rfl (by decide) (fun w hs => (r0_2.ext hs.below)) e1_9 ?_
      intro f1_9 a1_9 c1_9
      refine ⟨[_, _], rfl, ?_⟩
      refine WAE.rebase (H := []) ?_
      refine tk 10 rfl (OpV.build (evps.cons rfl (evps.cons rfl (evps.cons rfl (evps.nil)))) (bd_35_1_2_3 _ _ _ _ _ _ _)) ?_
      refine al1 11 rfl ?_
      refine OpH.alloc zc_35 ?_
      intro b1_11
      refine ⟨[_], rfl, ?_⟩
      refine al0 12 rfl ?_
      refine OpH.storeTo (A := []) [_, _, _, _] rfl rfl rfl ts_35 rfl rfl rfl ?_
      refine ⟨[_], rfl, ?_⟩
      refine WAE.rebase (H := []) ?_
      refine WAE.done (by kernel_rfl) ?_ _
      exact En.wk _ _ (sc (sc (sc sn))) (fun _ h => h) (KR1 (b1_11, a1_3, c1_3, a1_9, c1_9, f1_9, f1_3) trivial)
     ·
      refine OpH.alloc zc_35 ?_
      intro b1_11
      refine ⟨[_, _, _], rfl, ?_⟩
      refine al1 9 rfl ?_
      refine OpH.appS (F := [_]) (A := tInt) tInt_flat rfl rfl rfl mi_23 rfl (by decide) (fun w hs => (r0_2.ext hs.below)) e1_9 ?_
      intro f1_9 a1_9 c1_9
      refine ⟨[_, _, _], rfl, ?_⟩
      refine tk 10 rfl (OpV.build (evps.cons rfl (evps.cons rfl (evps.cons rfl (evps.nil)))) (bd_35_1_2_3 _ _ _ _ _ _ _)) ?_
      refine al0 12 rfl ?_
      refine OpH.storeTo (A := []) [_, _, _, _] rfl rfl rfl ts_35 rfl rfl rfl ?_
      refine ⟨[_, _, _], rfl, ?_⟩
      refine WAE.rebase (H := []) ?_
      refine WAE.done (by kernel_rfl) ?_ _
      exact En.wk _ _ (sc (sc (sc sn))) (fun _ h => h) (KR1 (b1_11, a1_3, c1_3, a1_9, c1_9, f1_9, f1_3) trivial)
    ·
     refine OpH.alloc zc_35 ?_
     intro b1_11
     refine ⟨[_, _, _], rfl, ?_⟩
     refine al1 3 rfl ?_
     refine OpH.appS (F := [_, _]) (A := tInt) tInt_flat rfl rfl rfl mi_23 rfl (by decide) (fun w hs => (r0_1.ext hs.below)) e1_3 ?_
     intro f1_3 a1_3 c1_3
     refine ⟨[_, _, _], rfl, ?_⟩
     refine al1 9 rfl ?_
     refine OpH.appS (F := [_]) (A := tInt) tInt_flat rfl rfl rfl mi_23 rfl (by decide) (fun w hs => (r0_2.ext hs.below)) e1_9 ?_
     intro f1_9 a1_9 c1_9
     refine ⟨[_, _, _], rfl, ?_⟩
     refine tk 10 rfl (OpV.build (evps.cons rfl (evps.cons rfl (evps.cons rfl (evps.nil)))) (bd_35_1_2_3 _ _ _ _ _ _ _)) ?_
     refine al0 12 rfl ?_
     refine OpH.storeTo (A := []) [_, _, _, _] rfl rfl rfl ts_35 rfl rfl rfl ?_
     refine ⟨[_, _, _], rfl, ?_⟩
     refine WAE.rebase (H := []) ?_
     refine WAE.done (by kernel_rfl) ?_ _
     exact En.wk _ _ (sc (sc (sc sn))) (fun _ h => h) (KR1 (b1_11, a1_3, c1_3, a1_9, c1_9, f1_9, f1_3) trivial)
   ·
    refine OpH.alloc zc_35 ?_
    intro b1_11
    refine ⟨[_, _], rfl, ?_⟩
    refine WAE.all (rs := [3, 6]) (by kernel_rfl) rfl (AllR.cons rfl rfl rfl rfl ?_ (AllR.cons rfl rfl rfl rfl ?_ AllR.nil))
    ·
     refine OpH.appS (F := [_]) (A := tInt) tInt_flat rfl rfl rfl mi_23 rfl (by decide) (fun w hs => (r0_1.ext hs.below)) e1_3 ?_
     intro f1_3 a1_3 c1_3
     refine ⟨[_, _], rfl, ?_⟩
     refine al1 6 rfl ?_
     refine OpH.lit0 (A := tInt) (evps.nil) bs_23_0_ ?_
     intro b1_6
     refine ⟨[_, _, _], rfl, ?_⟩
     refine al1 9 rfl ?_
     refine OpH.appS (F := []) (A := tInt) tInt_flat rfl rfl rfl mi_23 rfl (by decide) (fun w hs => (r0_2.ext hs.below)) e1_9 ?_
     intro f1_9 a1_9 c1_9
     refine ⟨[_, _, _], rfl, ?_⟩
     refine tk 10 rfl (OpV.build (evps.cons rfl (evps.cons rfl (evps.cons rfl (evps.nil)))) (bd_35_1_2_3 _ _ _ _ _ _ _)) ?_
     refine al0 12 rfl ?_
     refine OpH.storeTo (A := [_]) [_, _, _, _] rfl rfl rfl ts_35 rfl rfl rfl ?_
     refine ⟨[_, _, _], rfl, ?_⟩
     refine WAE.rebase (H := []) ?_
     refine WAE.done (by kernel_rfl) ?_ _
     exact En.wk _ _ (sc (sc (sc sn))) (fun _ h => (((((h).pm 4).pm 4).pm 4).pm 3).pm 4) (KR1 (b1_11, a1_3, c1_3, a1_9, c1_9, f1_9, f1_3) trivial)
    ·
     refine OpH.lit0 (A := tInt) (evps.nil) bs_23_0_ ?_
     intro b1_6
     refine ⟨[_, _, _], rfl, ?_⟩
     refine al1 3 rfl ?_
     refine OpH.appS (F := [_, _]) (A := tInt) tInt_flat rfl rfl rfl mi_23 rfl (by decide) (fun w hs => (r0_1.ext hs.below)) e1_3 ?_
     intro f1_3 a1_3 c1_3
     refine ⟨[_, _, _], rfl, ?_⟩
     refine al1 9 rfl ?_
     refine OpH.appS (F := []) (A := tInt) tInt_flat rfl rfl rfl mi_23 rfl (by decide) (fun w hs => (r0_2.ext hs.below)) e1_9 ?_
     intro f1_9 a1_9 c1_9
     refine ⟨[_, _, _], rfl, ?_⟩
     refine tk 10 rfl (OpV.build (evps.cons rfl (evps.cons rfl (evps.cons rfl (evps.nil)))) (bd_35_1_2_3 _ _ _ _ _ _ _)) ?_
     refine al0 12 rfl ?_
     refine OpH.storeTo (A := [_]) [_, _, _, _] rfl rfl rfl ts_35 rfl rfl rfl ?_
     refine ⟨[_, _, _], rfl, ?_⟩
     refine WAE.rebase (H := []) ?_
     refine WAE.done (by kernel_rfl) ?_ _
     exact En.wk _ _ (sc (sc (sc sn))) (fun _ h => (((((h).pm 4).pm 4).pm 4).pm 3).pm 4) (KR1 (b1_11, a1_3, c1_3, a1_9, c1_9, f1_9, f1_3) trivial)
  ·
   refine OpH.lit0 (A := tInt) (evps.nil) bs_23_0_ ?_
   intro b1_6
   refine ⟨[_], rfl, ?_⟩
   refine WAE.all (rs := [0, 11]) (by kernel_rfl) rfl (AllR.cons rfl rfl rfl rfl ?_ (AllR.cons rfl rfl rfl rfl ?_ AllR.nil))
   ·
    refine OpH.lit0 (A := tInt) (evps.nil) bs_23_0_ ?_
    intro b1_0
    refine ⟨[_, _], rfl, ?_⟩
    refine WAE.all (rs := [3, 11]) (by kernel_rfl) rfl (AllR.cons rfl rfl rfl rfl ?_ (AllR.cons rfl rfl rfl rfl ?_ AllR.nil))
    ·
     refine OpH.appS (F := []) (A := tInt) tInt_flat rfl rfl rfl mi_23 rfl (by decide) (fun w hs => (r0_1.ext hs.below)) e1_3 ?_
     intro f1_3 a1_3 c1_3
     refine ⟨[_, _], rfl, ?_⟩
     refine WAE.all (rs := [9, 11]) (by kernel_rfl) rfl (AllR.cons rfl rfl rfl rfl ?_ (AllR.cons rfl rfl rfl rfl ?_ AllR.nil))
     ·
      refine OpH.appS (F := [_]) (A := tInt) tInt_flat rfl rfl rfl mi_23 rfl (by decide) (fun w hs => (r0_2.ext hs.below)) e1_9 ?_
      intro f1_9 a1_9 c1_9
      refine ⟨[_, _], rfl, ?_⟩
      refine WAE.rebase (H := []) ?_
      refine tk 10 rfl (OpV.build (evps.cons rfl (evps.cons rfl (evps.cons rfl (evps.nil)))) (bd_35_1_2_3 _ _ _ _ _ _ _)) ?_
      refine al1 11 rfl ?_
      refine OpH.alloc zc_35 ?_
      intro b1_11
      refine ⟨[_], rfl, ?_⟩
      refine al0 12 rfl ?_
      refine OpH.storeTo (A := []) [_, _, _, _] rfl rfl rfl ts_35 rfl rfl rfl ?_
      refine ⟨[_], rfl, ?_⟩
      refine WAE.rebase (H := []) ?_
      refine WAE.done (by kernel_rfl) ?_ _
      exact En.wk _ _ (sc (sc (sc sn))) (fun _ h => (((((h).pm 4).pm 4).pm 3).pm 4).pm 4) (KR1 (b1_11, a1_3, c1_3, a1_9, c1_9, f1_9, f1_3) trivial)
     ·
      refine OpH.alloc zc_35 ?_
      intro b1_11
      refine ⟨[_, _, _], rfl, ?_⟩
      refine al1 9 rfl ?_
      refine OpH.appS (F := [_, _]) (A := tInt) tInt_flat rfl rfl rfl mi_23 rfl (by decide) (fun w hs => (r0_2.ext hs.below)) e1_9 ?_
      intro f1_9 a1_9 c1_9
      refine ⟨[_, _, _], rfl, ?_⟩
      refine tk 10 rfl (OpV.build (evps.cons rfl (evps.cons rfl (evps.cons rfl (evps.nil)))) (bd_35_1_2_3 _ _ _ _ _ _ _)) ?_
      refine al0 12 rfl ?_
      refine OpH.storeTo (A := []) [_, _, _, _] rfl rfl rfl ts_35 rfl rfl rfl ?_
      refine ⟨[_, _, _], rfl, ?_⟩
      refine WAE.rebase (H := []) ?_
      refine WAE.done (by kernel_rfl) ?_ _
      exact En.wk _ _ (sc (sc (sc sn))) (fun _ h => (((((h).pm 4).pm 4).pm 3).pm 4).pm 4) (KR1 (b1_11, a1_3, c1_3, a1_9, c1_9, f1_9, f1_3) trivial)
    ·
     refine OpH.alloc zc_35 ?_
     intro b1_11
     refine ⟨[_, _, _], rfl, ?_⟩
     refine al1 3 rfl ?_
     refine OpH.appS (F := [_]) (A := tInt) tInt_flat rfl rfl rfl mi_23 rfl (by decide) (fun w hs => (r0_1.ext hs.below)) e1_3 ?_
     intro f1_3 a1_3 c1_3
     refine ⟨[_, _, _], rfl, ?_⟩
     refine al1 9 rfl ?_
     refine OpH.appS (F := [_, _]) (A := tInt) tInt_flat rfl rfl rfl mi_23 rfl (by decide) (fun w hs => (r0_2.ext hs.below)) e1_9 ?_
     intro f1_9 a1_9 c1_9
     refine ⟨[_, _, _], rfl, ?_⟩
     refine tk 10 rfl (OpV.build (evps.cons rfl (evps.cons rfl (evps.cons rfl (evps.nil)))) (bd_35_1_2_3 _ _ _ _ _ _ _)) ?_
     refine al0 12 rfl ?_
     refine OpH.storeTo (A := []) [_, _, _, _] rfl rfl rfl ts_35 rfl rfl rfl ?_
     refine ⟨[_, _, _], rfl, ?_⟩
     refine WAE.rebase (H := []) ?_
     refine WAE.done (by kernel_rfl) ?_ _
     exact En.wk _ _ (sc (sc (sc sn))) (fun _ h => (((((h).pm 4).pm 4).pm 3).pm 4).pm 4) (KR1 (b1_11, a1_3, c1_3, a1_9, c1_9, f1_9, f1_3) trivial)
   ·
    refine OpH.alloc zc_35 ?_
    intro b1_11
    refine ⟨[_, _], rfl, ?_⟩
    refine al1 0 rfl ?_
    refine OpH.lit0 (A := tInt) (evps.nil) bs_23_0_ ?_
    intro b1_0
    refine ⟨[_, _, _], rfl, ?_⟩
    refine al1 3 rfl ?_
    refine OpH.appS (F := []) (A := tInt) tInt_flat rfl rfl rfl mi_23 rfl (by decide) (fun w hs => (r0_1.ext hs.below)) e1_3 ?_
    intro f1_3 a1_3 c1_3
    refine ⟨[_, _, _], rfl, ?_⟩
    refine al1 9 rfl ?_
    refine OpH.appS (F := [_, _]) (A := tInt) tInt_flat rfl rfl rfl mi_23 rfl (by decide) (fun w hs => (r0_2.ext hs.below)) e1_9 ?_
    intro f1_9 a1_9 c1_9
    refine ⟨[_, _, _], rfl, ?_⟩
    refine tk 10 rfl (OpV.build (evps.cons rfl (evps.cons rfl (evps.cons rfl (evps.nil)))) (bd_35_1_2_3 _ _ _ _ _ _ _)) ?_
    refine al0 12 rfl ?_
    refine OpH.storeTo (A := [_]) [_, _, _, _] rfl rfl rfl ts_35 rfl rfl rfl ?_
    refine ⟨[_, _, _], rfl, ?_⟩
    refine WAE.rebase (H := []) ?_
    refine WAE.done (by kernel_rfl) ?_ _
    exact En.wk _ _ (sc (sc (sc sn))) (fun _ h => (((((h).pm 4).pm 4).pm 2).pm 4).pm 4) (KR1 (b1_11, a1_3, c1_3, a1_9, c1_9, f1_9, f1_3) trivial)
  ·
   refine OpH.alloc zc_35 ?_
   intro b1_11
   refine ⟨[_], rfl, ?_⟩
   refine WAE.all (rs := [0, 6]) (by kernel_rfl) rfl (AllR.cons rfl rfl rfl rfl ?_ (AllR.cons rfl rfl rfl rfl ?_ AllR.nil))
   ·
    refine OpH.lit0 (A := tInt) (evps.nil) bs_23_0_ ?_
    intro b1_0
    refine ⟨[_, _], rfl, ?_⟩
    refine WAE.all (rs := [3, 6]) (by kernel_rfl) rfl (AllR.cons rfl rfl rfl rfl ?_ (AllR.cons rfl rfl rfl rfl ?_ AllR.nil))
    ·
     refine OpH.appS (F := []) (A := tInt) tInt_flat rfl rfl rfl mi_23 rfl (by decide) (fun w hs => (r0_1.ext hs.below)) e1_3 ?_
     intro f1_3 a1_3 c1_3
     refine ⟨[_, _], rfl, ?_⟩
     refine al1 6 rfl ?_
     refine OpH.lit0 (A := tInt) (evps.nil) bs_23_0_ ?_
     intro b1_6
     refine ⟨[_, _, _], rfl, ?_⟩
     refine al1 9 rfl ?_
     refine OpH.appS (F := []) (A := tInt) tInt_flat rfl rfl rfl mi_23 rfl (by decide) (fun w hs => (r0_2.ext hs.below)) e1_9 ?_
     intro f1_9 a1_9 c1_9
     refine ⟨[_, _, _], rfl, ?_⟩
     refine tk 10 rfl (OpV.build (evps.cons rfl (evps.cons rfl (evps.cons rfl (evps.nil)))) (bd_35_1_2_3 _ _ _ _ _ _ _)) ?_
     refine al0 12 rfl ?_
     refine OpH.storeTo (A := [_, _]) [_, _, _, _] rfl rfl rfl ts_35 rfl rfl rfl ?_
     refine ⟨[_, _, _], rfl, ?_⟩
     refine WAE.rebase (H := []) ?_
     refine WAE.done (by kernel_rfl) ?_ _
     exact En.wk _ _ (sc (sc (sc sn))) (fun _ h => (((((h).pm 4).pm 4).pm 3).pm 3).pm 4) (KR1 (b1_11, a1_3, c1_3, a1_9, c1_9, f1_9, f1_3) trivial)
    ·
     refine OpH.lit0 (A := tInt) (evps.nil) bs_23_0_ ?_
     intro b1_6
     refine ⟨[_, _, _], rfl, ?_⟩
     refine al1 3 rfl ?_
     refine OpH.appS (F := [_]) (A := tInt) tInt_flat rfl rfl rfl mi_23 rfl (by decide) (fun w hs => (r0_1.ext hs.below)) e1_3 ?_
     intro f1_3 a1_3 c1_3
     refine ⟨[_, _, _], rfl, ?_⟩
     refine al1 9 rfl ?_
     refine OpH.appS (F := []) (A := tInt) tInt_flat rfl rfl rfl mi_23 rfl (by decide) (fun w hs => (r0_2.ext hs.below)) e1_9 ?_
     intro f1_9 a1_9 c1_9
     refine ⟨[_, _, _], rfl, ?_⟩
     refine tk 10 rfl (OpV.build (evps.cons rfl (evps.cons rfl (evps.cons rfl (evps.nil)))) (bd_35_1_2_3 _ _ _ _ _ _ _)) ?_
     refine al0 12 rfl ?_
     refine OpH.storeTo (A := [_, _]) [_, _, _, _] rfl rfl rfl ts_35 rfl rfl rfl ?_
     refine ⟨[_, _, _], rfl, ?_⟩
     refine WAE.rebase (H := []) ?_
     refine WAE.done (by kernel_rfl) ?_ _
     exact En.wk _ _ (sc (sc (sc sn))) (fun _ h => (((((h).pm 4).pm 4).pm 3).pm 3).pm 4) (KR1 (b1_11, a1_3, c1_3, a1_9, c1_9, f1_9, f1_3) trivial)
   ·
    refine OpH.lit0 (A := tInt) (evps.nil) bs_23_0_ ?_
    intro b1_6
    refine ⟨[_, _], rfl, ?_⟩
    refine al1 0 rfl ?_
    refine OpH.lit0 (A := tInt) (evps.nil) bs_23_0_ ?_
    intro b1_0
    refine ⟨[_, _, _], rfl, ?_⟩
    refine al1 3 rfl ?_
    refine OpH.appS (F := []) (A := tInt) tInt_flat rfl rfl rfl mi_23 rfl (by decide) (fun w hs => (r0_1.ext hs.below)) e1_3 ?_
    intro f1_3 a1_3 c1_3
    refine ⟨[_, _, _], rfl, ?_⟩
    refine al1 9 rfl ?_
    refine OpH.appS (F := [_]) (A := tInt) tInt_flat rfl rfl rfl mi_23 rfl (by decide) (fun w hs => (r0_2.ext hs.below)) e1_9 ?_
    intro f1_9 a1_9 c1_9
    refine ⟨[_, _, _], rfl, ?_⟩
    refine tk 10 rfl (OpV.build (evps.cons rfl (evps.cons rfl (evps.cons rfl (evps.nil)))) (bd_35_1_2_3 _ _ _ _ _ _ _)) ?_
    refine al0 12 rfl ?_
    refine OpH.storeTo (A := [_, _]) [_, _, _, _] rfl rfl rfl ts_35 rfl rfl rfl ?_
    refine ⟨[_, _, _], rfl, ?_⟩
    refine WAE.rebase (H := []) ?_
    refine WAE.done (by kernel_rfl) ?_ _
    exact En.wk _ _ (sc (sc (sc sn))) (fun _ h => (((((h).pm 4).pm 4).pm 2).pm 3).pm 4) (KR1 (b1_11, a1_3, c1_3, a1_9, c1_9, f1_9, f1_3) trivial)

theorem w_spec_l01In {x_p0 : Int} {least_p1 : Int} {most_p2 : Int} {r : Bool}  (h : spec_l01In x_p0 least_p1 most_p2 = some r) {w : World}    :
    Calls Tryz.prog 64 #[.int .i64 x_p0, .int .i64 least_p1, .int .i64 most_p2] w (fun en w' => en = .returned (.bool r) ∧ Ext w w') := by
 unfold spec_l01In at h
 refine enter (vs := [_, _, _]) Tryz.func64 rfl rfl rfl rfl ?_
 refine WC.sr ?_
 refine ag ?_
 refine WL.nil (En.next (WC.sr ?_))
 refine mv ?_
 refine mv ?_
 refine sp (OpV.geq rfl rfl) ?_
 refine mv ?_
 refine Lt.ofWL.and 10 14 13 (p := ?pz1) (rest := ?qz1) (B := ?Bz1) rfl ?Tz1 ?Fz1 ?az1 ?bz1 ?cz1 ?dz1 ?ez1
 case Tz1 =>
  intro hcz1 hkz1
  refine mv ?_
  refine mv ?_
  refine sp (OpV.leq rfl rfl) ?_
  refine hkz1 _ ?_ ?_
  exact rfl
  repeat (first | exact Sub.refl _ | refine Sub.skip rfl ?_)
 case Fz1 =>
  intro hcz1 hkz1
  refine sk ?_
  refine sk ?_
  refine sk ?_
  refine hkz1 _ ?_
  repeat (first | exact Sub.refl _ | refine Sub.skip rfl ?_)
 case az1 => exact rfl
 case bz1 => exact rfl
 case cz1 => exact rfl
 case dz1 => exact rfl
 refine ag ?_
 refine WL.nil (En.next (WC.ret ?_))
 refine En.ret1 rfl (Res.tmp rfl) ?_
 obtain rfl := Option.some.inj h
 intro w' hs
 exact ⟨rfl, hs.below⟩

theorem w_spec_l19Zero {p_p0 : PlaneT} {r : Bool} {q0_0 : Option Addr} {l0_0 k0_0 : Nat} (h : spec_l19Zero p_p0 = some r) {w : World} (r0_0 : Rd tInt w q0_0 l0_0 k0_0 p_p0.Words)   :
    Calls Tryz.prog 112 #[.agg #[.bool p_p0.On, .int .i64 p_p0.X, .int .i64 p_p0.Y, .int .i64 p_p0.W, .int .i64 p_p0.H, .int .i64 p_p0.Layout, .slice q0_0 l0_0 k0_0, .int .i64 p_p0.Alpha, .int .i64 p_p0.Orient, .int .i64 p_p0.ToW, .int .i64 p_p0.ToH]] w (fun en w' => en = .returned (.bool r) ∧ Ext w w') := by
 obtain rfl := r0_0.1
 unfold spec_l19Zero at h
 refine enter (vs := [_]) Tryz.func112 rfl rfl rfl rfl ?_
 refine WC.sr ?_
 refine WL.heavy rfl rfl rfl (OpH.box rfl rfl ?_)
 intro b0_0
 refine ag ?_
 refine WL.nil (En.next (WC.sr ?_))
 refine sp (OpV.fieldAddr rfl fo_61_1) ?_
 refine sp (OpV.loadBox rfl pt_3 mq0 rfl) ?_
 refine sp (OpV.eql rfl rfl) ?_
 refine mv ?_
 refine Lt.ofWL.and 6 10 9 (p := ?pz1) (rest := ?qz1) (B := ?Bz1) rfl ?Tz1 ?Fz1 ?az1 ?bz1 ?cz1 ?dz1 ?ez1
 case Tz1 =>
  intro hcz1 hkz1
  refine sp (OpV.fieldAddr rfl fo_61_2) ?_
  refine sp (OpV.loadBox rfl pt_3 mq0 rfl) ?_
  refine sp (OpV.eql rfl rfl) ?_
  refine hkz1 _ ?_ ?_
  exact rfl
  repeat (first | exact Sub.refl _ | refine Sub.skip rfl ?_)
 case Fz1 =>
  intro hcz1 hkz1
  refine sk ?_
  refine sk ?_
  refine sk ?_
  refine hkz1 _ ?_
  repeat (first | exact Sub.refl _ | refine Sub.skip rfl ?_)
 case az1 => exact rfl
 case bz1 => exact rfl
 case cz1 => exact rfl
 case dz1 => exact rfl
 refine mv ?_
 refine Lt.ofWL.and 11 15 14 (p := ?pz2) (rest := ?qz2) (B := ?Bz2) rfl ?Tz2 ?Fz2 ?az2 ?bz2 ?cz2 ?dz2 ?ez2
 case Tz2 =>
  intro hcz2 hkz2
  refine sp (OpV.fieldAddr rfl fo_61_3) ?_
  refine sp (OpV.loadBox rfl pt_3 mq0 rfl) ?_
  refine sp (OpV.eql rfl rfl) ?_
  refine hkz2 _ ?_ ?_
  exact rfl
  repeat (first | exact Sub.refl _ | refine Sub.skip rfl ?_)
 case Fz2 =>
  intro hcz2 hkz2
  refine sk ?_
  refine sk ?_
  refine sk ?_
  refine hkz2 _ ?_
  repeat (first | exact Sub.refl _ | refine Sub.skip rfl ?_)
 case az2 => exact rfl
 case bz2 => exact rfl
 case cz2 => exact rfl
 case dz2 => exact rfl
 refine mv ?_
 refine Lt.ofWL.and 16 20 19 (p := ?pz3) (rest := ?qz3) (B := ?Bz3) rfl ?Tz3 ?Fz3 ?az3 ?bz3 ?cz3 ?dz3 ?ez3
 case Tz3 =>
  intro hcz3 hkz3
  refine sp (OpV.fieldAddr rfl fo_61_4) ?_
  refine sp (OpV.loadBox rfl pt_3 mq0 rfl) ?_
  refine sp (OpV.eql rfl rfl) ?_
  refine hkz3 _ ?_ ?_
  exact rfl
  repeat (first | exact Sub.refl _ | refine Sub.skip rfl ?_)
 case Fz3 =>
  intro hcz3 hkz3
  refine sk ?_
  refine sk ?_
  refine sk ?_
  refine hkz3 _ ?_
  repeat (first | exact Sub.refl _ | refine Sub.skip rfl ?_)
 case az3 => exact rfl
 case bz3 => exact rfl
 case cz3 => exact rfl
 case dz3 => exact rfl
 refine mv ?_
 refine Lt.ofWL.and 21 25 24 (p := ?pz4) (rest := ?qz4) (B := ?Bz4) rfl ?Tz4 ?Fz4 ?az4 ?bz4 ?cz4 ?dz4 ?ez4
 case Tz4 =>
  intro hcz4 hkz4
  refine sp (OpV.fieldAddr rfl fo_61_5) ?_
  refine sp (OpV.loadBox rfl pt_3 mq0 rfl) ?_
  refine sp (OpV.eql rfl rfl) ?_
  refine hkz4 _ ?_ ?_
  exact rfl
  repeat (first | exact Sub.refl _ | refine Sub.skip rfl ?_)
 case Fz4 =>
  intro hcz4 hkz4
  refine sk ?_
  refine sk ?_
  refine sk ?_
  refine hkz4 _ ?_
  repeat (first | exact Sub.refl _ | refine Sub.skip rfl ?_)
 case az4 => exact rfl
 case bz4 => exact rfl
 case cz4 => exact rfl
 case dz4 => exact rfl
 refine mv ?_
 refine Lt.ofWL.and 26 31 30 (p := ?pz5) (rest := ?qz5) (B := ?Bz5) rfl ?Tz5 ?Fz5 ?az5 ?bz5 ?cz5 ?dz5 ?ez5
 case Tz5 =>
  intro hcz5 hkz5
  refine sp (OpV.fieldAddr rfl fo_61_6) ?_
  refine sp (OpV.loadBox rfl pt_23 mq0 rfl) ?_
  refine sp (OpV.len rfl si_23 rfl) ?_
  refine sp (OpV.eql rfl rfl) ?_
  refine hkz5 _ ?_ ?_
  exact rfl
  repeat (first | exact Sub.refl _ | refine Sub.skip rfl ?_)
 case Fz5 =>
  intro hcz5 hkz5
  refine sk ?_
  refine sk ?_
  refine sk ?_
  refine sk ?_
  refine hkz5 _ ?_
  repeat (first | exact Sub.refl _ | refine Sub.skip rfl ?_)
 case az5 => exact rfl
 case bz5 => exact rfl
 case cz5 => exact rfl
 case dz5 => exact rfl
 refine mv ?_
 refine Lt.ofWL.and 32 36 35 (p := ?pz6) (rest := ?qz6) (B := ?Bz6) rfl ?Tz6 ?Fz6 ?az6 ?bz6 ?cz6 ?dz6 ?ez6
 case Tz6 =>
  intro hcz6 hkz6
  refine sp (OpV.fieldAddr rfl fo_61_7) ?_
  refine sp (OpV.loadBox rfl pt_3 mq0 rfl) ?_
  refine sp (OpV.eql rfl rfl) ?_
  refine hkz6 _ ?_ ?_
  exact rfl
  repeat (first | exact Sub.refl _ | refine Sub.skip rfl ?_)
 case Fz6 =>
  intro hcz6 hkz6
  refine sk ?_
  refine sk ?_
  refine sk ?_
  refine hkz6 _ ?_
  repeat (first | exact Sub.refl _ | refine Sub.skip rfl ?_)
 case az6 => exact rfl
 case bz6 => exact rfl
 case cz6 => exact rfl
 case dz6 => exact rfl
 refine mv ?_
 refine Lt.ofWL.and 37 41 40 (p := ?pz7) (rest := ?qz7) (B := ?Bz7) rfl ?Tz7 ?Fz7 ?az7 ?bz7 ?cz7 ?dz7 ?ez7
 case Tz7 =>
  intro hcz7 hkz7
  refine sp (OpV.fieldAddr rfl fo_61_8) ?_
  refine sp (OpV.loadBox rfl pt_3 mq0 rfl) ?_
  refine sp (OpV.eql rfl rfl) ?_
  refine hkz7 _ ?_ ?_
  exact rfl
  repeat (first | exact Sub.refl _ | refine Sub.skip rfl ?_)
 case Fz7 =>
  intro hcz7 hkz7
  refine sk ?_
  refine sk ?_
  refine sk ?_
  refine hkz7 _ ?_
  repeat (first | exact Sub.refl _ | refine Sub.skip rfl ?_)
 case az7 => exact rfl
 case bz7 => exact rfl
 case cz7 => exact rfl
 case dz7 => exact rfl
 refine mv ?_
 refine Lt.ofWL.and 42 46 45 (p := ?pz8) (rest := ?qz8) (B := ?Bz8) rfl ?Tz8 ?Fz8 ?az8 ?bz8 ?cz8 ?dz8 ?ez8
 case Tz8 =>
  intro hcz8 hkz8
  refine sp (OpV.fieldAddr rfl fo_61_9) ?_
  refine sp (OpV.loadBox rfl pt_3 mq0 rfl) ?_
  refine sp (OpV.eql rfl rfl) ?_
  refine hkz8 _ ?_ ?_
  exact rfl
  repeat (first | exact Sub.refl _ | refine Sub.skip rfl ?_)
 case Fz8 =>
  intro hcz8 hkz8
  refine sk ?_
  refine sk ?_
  refine sk ?_
  refine hkz8 _ ?_
  repeat (first | exact Sub.refl _ | refine Sub.skip rfl ?_)
 case az8 => exact rfl
 case bz8 => exact rfl
 case cz8 => exact rfl
 case dz8 => exact rfl
 refine mv ?_
 refine Lt.ofWL.and 47 51 50 (p := ?pz9) (rest := ?qz9) (B := ?Bz9) rfl ?Tz9 ?Fz9 ?az9 ?bz9 ?cz9 ?dz9 ?ez9
 case Tz9 =>
  intro hcz9 hkz9
  refine sp (OpV.fieldAddr rfl fo_61_10) ?_
  refine sp (OpV.loadBox rfl pt_3 mq0 rfl) ?_
  refine sp (OpV.eql rfl rfl) ?_
  refine hkz9 _ ?_ ?_
  exact rfl
  repeat (first | exact Sub.refl _ | refine Sub.skip rfl ?_)
 case Fz9 =>
  intro hcz9 hkz9
  refine sk ?_
  refine sk ?_
  refine sk ?_
  refine hkz9 _ ?_
  repeat (first | exact Sub.refl _ | refine Sub.skip rfl ?_)
 case az9 => exact rfl
 case bz9 => exact rfl
 case cz9 => exact rfl
 case dz9 => exact rfl
 refine ag ?_
 refine WL.nil (En.next (WC.ret ?_))
 refine En.ret1 rfl (Res.tmp rfl) ?_
 obtain rfl := Option.some.inj h
 intro w' hs
 exact ⟨rfl, hs.below⟩

theorem w_spec_l15Expand {words_p0 : List Int} {most_p1 : Int} {r : (List Int)} {q0_0 : Option Addr} {l0_0 k0_0 : Nat} (h : spec_l15Expand words_p0 most_p1 = some r) {w : World} (r0_0 : Rd tInt w q0_0 l0_0 k0_0 words_p0)   :
    Calls Tryz.prog 166 #[.slice q0_0 l0_0 k0_0, .int .i64 most_p1] w (fun en w' => ∃ rv G, en = .returned rv ∧ (∃ (a0_0 : Option Addr) (n0_0 : Nat) (c0_0 : Nat) (f0_0 : List Nat), rv = .slice a0_0 n0_0 c0_0 ∧ G = [Chunk.own tInt f0_0 a0_0 n0_0 c0_0 r]) ∧ St w G w') := by
 obtain rfl := r0_0.1
 unfold spec_l15Expand at h
 refine enter (vs := [_, _]) Tryz.func166 rfl rfl rfl rfl ?_
 refine WC.sr ?_
 refine ag ?_
 refine WL.nil (En.next (WC.sr ?_))
 refine WL.heavy rfl rfl rfl (OpH.lit0 (A := tInt) (evps.nil) bs_23_0_ ?_)
 intro b1_0
 refine ag ?_
 refine WL.nil (En.next (WC.seq (WC.sr ?_)))
 refine ag ?_
 refine WL.nil (En.next (WC.block ?_))
 obtain ⟨zy0, ezy0, h⟩ := bnd h
 refine WC.cut (X := ((List Int)) × ((Option Addr) × Nat × Nat × (List Nat))) (.exit 0) (fun x => zy0 = .inl x.1) (fun x => match x with | (out_0e, (aout_0e, nout_0e, cout_0e, fout_0e)) => [(5, .slice aout_0e nout_0e cout_0e)]) (fun x => match x with | (out_0e, (aout_0e, nout_0e, cout_0e, fout_0e)) => [Chunk.own tInt fout_0e aout_0e nout_0e cout_0e out_0e]) ?_ ?_
 ·
  rintro ⟨out_0e, ⟨aout_0e, nout_0e, cout_0e, fout_0e⟩⟩ hx
  replace hx : .inl out_0e = zy0 := hx.symm
  subst hx
  replace h := fork_l h
  show En _ _ _ _ [(5, .slice aout_0e nout_0e cout_0e)] [Chunk.own tInt fout_0e aout_0e nout_0e cout_0e out_0e]
  refine En.block_exit (En.next (WC.sr ?_))
  refine mv ?_
  refine ag ?_
  refine WL.nil (En.next (WC.ret ?_))
  refine En.ret1 rfl (Res.tmp rfl) ?_
  obtain rfl := Option.some.inj h
  intro w' hs
  have hs := hs
  exact ⟨_, _, rfl, ⟨aout_0e, nout_0e, cout_0e, fout_0e, rfl, rfl⟩, hs⟩
 ·
  intro zK0_0
  refine WC.loopP (G := (Option Addr) × Nat × Nat × (List Nat)) (fun s g => match s, g with | (out_0, k_0), (aout_0, nout_0, cout_0, fout_0) => [(0, .slice q0_0 words_p0.length k0_0), (1, .int .i64 most_p1), (5, .slice aout_0 nout_0 cout_0), (6, .int .i64 k_0)]) (fun s g => match s, g with | (out_0, k_0), (aout_0, nout_0, cout_0, fout_0) => [Chunk.own tInt fout_0 aout_0 nout_0 cout_0 out_0]) (([] : List Int), 0) ((some ⟨b1_0, 0, .none⟩), 0, 0, [b1_0]) ezy0 (by exact sc (sc (sc (sc sn)))) (by exact (fun _ h => h)) ?_
  rintro zm0 ⟨out_0, k_0⟩ ⟨aout_0, nout_0, cout_0, fout_0⟩ zo0 zf0 zb0 ze0
  have zh0 : spec_l15Expand_L0 words_p0 most_p1 out_0 k_0 = some zo0 := zf0
  unfold spec_l15Expand_L0 at zh0
  show WC _ _ _ _ _ [(0, .slice q0_0 words_p0.length k0_0), (1, .int .i64 most_p1), (5, .slice aout_0 nout_0 cout_0), (6, .int .i64 k_0)] [Chunk.own tInt fout_0 aout_0 nout_0 cout_0 out_0]
  refine WC.seq (WC.sr ?_)
  refine mv ?_
  refine sp (OpV.addR rfl rfl) ?_
  refine mv ?_
  refine sp (OpV.len rfl si_23 rfl) ?_
  refine sp (OpV.lss rfl rfl) ?_
  refine WL.nil (En.next ?_)
  refine WC.cond rfl ?_ ?_
  ·
   intro hc_1
   replace zh0 := ifO_t hc_1 zh0
   refine WC.skip (En.next (WC.seq (WC.block (WC.seq (WC.seq ?_)))))
   obtain ⟨x5_2, e5_2, zh0⟩ := bnd zh0
   obtain ⟨g5_2, o5_2, _, ha5_2, rfl, hd5_2⟩ := Rd.atIdx r0_0 e5_2
   replace hd5_2 : ∀ (j : Nat) v, ([.int .i64 x5_2] : List Value)[j]? = some v → w.cell? ⟨g5_2, o5_2 + k_0.toNat * 1 + j, .none⟩ = some v := hd5_2
   obtain ⟨x5_8, e5_8, zh0⟩ := bnd zh0
   refine WC.region ?_
   refine mv ?_
   refine mv ?_
   refine sp (OpV.idxA rfl rfl se_23 ha5_2 ⟨(idx_some e5_2).1, (idx_some e5_2).2.1⟩) ?_
   refine sp (OpV.load1 rfl pt_3 (fun w hs => hs.cell (hd5_2 0 _ rfl))) ?_
   refine mv ?_
   refine mv ?_
   refine sp (OpV.inhF fun hin => OpV.lenO (xs := out_0) rfl si_23 rfl (ownLen hin mq0)) ?_
   refine sp (OpV.subR rfl rfl) ?_
   refine sp (OpV.call (ec rfl (ec rfl (ec rfl e0))) ca_64 (fun w hs => w_spec_l01In e5_8)) ?_
   refine sp (OpV.not rfl) ?_
   refine WL.nil (En.next ?_)
   refine WC.cond rfl ?_ ?_
   ·
    intro hc_2
    replace zh0 := ifO_t hc_2 zh0
    refine WC.sr ?_
    refine WL.heavy rfl rfl rfl (OpH.lit0 (A := tInt) (evps.nil) bs_23_0_ ?_)
    intro b6_0
    refine ag ?_
    refine WL.nil (En.next (WC.ret (En.then_ret (En.block_ret (En.then_ret (En.then_ret (En.block_ret (En.then_ret ?_))))))))
    refine En.ret1 rfl (Res.tmp rfl) ?_
    have hx := exitP ze0 zh0
    subst hx
    replace h := fork_r h
    obtain rfl := Option.some.inj h
    intro w' hs
    have hs := (hs).sub (.cons_cons _ (.cons _ (.slnil)))
    exact ⟨_, _, rfl, ⟨(some ⟨b6_0, 0, .none⟩), 0, 0, [b6_0], rfl, rfl⟩, hs⟩
   ·
    intro hc_2
    replace zh0 := ifO_f hc_2 zh0
    refine WC.skip (En.next (WC.seq ?_))
    obtain ⟨x7_2, e7_2, zh0⟩ := bnd zh0
    obtain ⟨g7_2, o7_2, _, ha7_2, rfl, hd7_2⟩ := Rd.atIdx r0_0 e7_2
    replace hd7_2 : ∀ (j : Nat) v, ([.int .i64 x7_2] : List Value)[j]? = some v → w.cell? ⟨g7_2, o7_2 + k_0.toNat * 1 + j, .none⟩ = some v := hd7_2
    refine WC.region ?_
    refine mv ?_
    refine mv ?_
    refine sp (OpV.idxA rfl rfl se_23 ha7_2 ⟨(idx_some e7_2).1, (idx_some e7_2).2.1⟩) ?_
    refine sp (OpV.load1 rfl pt_3 (fun w hs => hs.cell (hd7_2 0 _ rfl))) ?_
    refine ag ?_
    refine WL.nil (En.next (WC.block ?_))
    obtain ⟨zy1, ezy1, zh0⟩ := bnd zh0
    refine WC.cut (X := ((List Int)) × ((Option Addr) × Nat × Nat × (List Nat))) (.exit 2) (fun x => zy1 = x.1) (fun x => match x with | (out_1e, (aout_1e, nout_1e, cout_1e, fout_1e)) => [(0, .slice q0_0 words_p0.length k0_0), (1, .int .i64 most_p1), (5, .slice aout_1e nout_1e cout_1e), (6, .int .i64 k_0)]) (fun x => match x with | (out_1e, (aout_1e, nout_1e, cout_1e, fout_1e)) => [Chunk.own tInt fout_1e aout_1e nout_1e cout_1e out_1e]) ?_ ?_
    ·
     rintro ⟨out_1e, ⟨aout_1e, nout_1e, cout_1e, fout_1e⟩⟩ hx
     replace hx : out_1e = zy1 := hx.symm
     subst hx
     show En _ _ _ _ [(0, .slice q0_0 words_p0.length k0_0), (1, .int .i64 most_p1), (5, .slice aout_1e nout_1e cout_1e), (6, .int .i64 k_0)] [Chunk.own tInt fout_1e aout_1e nout_1e cout_1e out_1e]
     refine En.block_exit (En.block_norm (En.next (WC.region ?_)))
     refine mv ?_
     refine sp (OpV.addR rfl rfl) ?_
     refine ag ?_
     refine WL.nil ?_
     exact En.backP zb0 zh0 (aout_1e, nout_1e, cout_1e, fout_1e) (sc (sc (sc (sc sn)))) (fun _ h => h)
    ·
     intro zK1_0
     refine WC.loopP (G := (Option Addr) × Nat × Nat × (List Nat)) (fun s g => match s, g with | (out_1, n_1), (aout_1, nout_1, cout_1, fout_1) => [(0, .slice q0_0 words_p0.length k0_0), (1, .int .i64 most_p1), (5, .slice aout_1 nout_1 cout_1), (6, .int .i64 k_0), (7, .int .i64 n_1)]) (fun s g => match s, g with | (out_1, n_1), (aout_1, nout_1, cout_1, fout_1) => [Chunk.own tInt fout_1 aout_1 nout_1 cout_1 out_1]) (out_0, x7_2) (aout_0, nout_0, cout_0, fout_0) ezy1 (by exact sc (sc (sc (sc (sc sn))))) (by exact (fun _ h => h)) ?_
     rintro zm1 ⟨out_1, n_1⟩ ⟨aout_1, nout_1, cout_1, fout_1⟩ zo1 zf1 zb1 ze1
     have zh1 : spec_l15Expand_L1 words_p0 k_0 out_1 n_1 = some zo1 := zf1
     unfold spec_l15Expand_L1 at zh1
     show WC _ _ _ _ _ [(0, .slice q0_0 words_p0.length k0_0), (1, .int .i64 most_p1), (5, .slice aout_1 nout_1 cout_1), (6, .int .i64 k_0), (7, .int .i64 n_1)] [Chunk.own tInt fout_1 aout_1 nout_1 cout_1 out_1]
     refine WC.seq (WC.sr ?_)
     refine mv ?_
     refine sp (OpV.gtr rfl rfl) ?_
     refine WL.nil (En.next ?_)
     refine WC.cond rfl ?_ ?_
     ·
      intro hc_3
      replace zh1 := ifO_t hc_3 zh1
      refine WC.skip (En.next (WC.seq (WC.block ?_)))
      obtain ⟨x10_4, e10_4, zh1⟩ := bnd zh1
      obtain ⟨g10_4, o10_4, _, ha10_4, rfl, hd10_4⟩ := Rd.atIdx r0_0 e10_4
      replace hd10_4 : ∀ (j : Nat) v, ([.int .i64 x10_4] : List Value)[j]? = some v → w.cell? ⟨g10_4, o10_4 + (wr (k_0 + 1)).toNat * 1 + j, .none⟩ = some v := hd10_4
      obtain ⟨x10_7, e10_7, zh1⟩ := bnd zh1
      refine WC.region ?_
      refine mv ?_
      refine mv ?_
      refine mv ?_
      refine sp (OpV.addR rfl rfl) ?_
      refine sp (OpV.idxA rfl rfl se_23 ha10_4 ⟨(idx_some e10_4).1, (idx_some e10_4).2.1⟩) ?_
      refine sp (OpV.load1 rfl pt_3 (fun w hs => hs.cell (hd10_4 0 _ rfl))) ?_
      refine WL.heavy rfl rfl rfl (OpH.litF (A := tInt) (xs := [x10_4]) tInt_flat (evps.cons rfl (evps.nil)) (bs_23_1_0 _) rfl rfl (Nat.le_of_ble_eq_true rfl) ?_)
      intro b10_6
      refine WL.heavy rfl rfl rfl (OpH.appS (F := [_]) (A := tInt) tInt_flat rfl rfl rfl mi_23 rfl (by decide) (fun w hs => (Ow.rd (hs.mem mq0))) e10_7 ?_)
      intro f10_7 a10_7 c10_7
      refine ag ?_
      refine WL.nil (En.block_norm (En.next (WC.region ?_)))
      refine mv ?_
      refine sp (OpV.subR rfl rfl) ?_
      refine ag ?_
      refine WL.nil ?_
      exact En.backP zb1 zh1 (a10_7, x10_7.length, c10_7, f10_7) (sc (sc (sc (sc (sc sn))))) (fun _ h => ((h).pm 1).sub (.cons_cons _ (.cons _ (.slnil))))
     ·
      intro hc_3
      replace zh1 := ifO_f hc_3 zh1
      refine WC.exit (En.then_exit (En.then_exit ?_))
      have hx := exitP ze1 zh1
      exact En.wk _ _ (sc (sc (sc (sc sn)))) (fun _ h => h) (zK1_0 (out_1, (aout_1, nout_1, cout_1, fout_1)) hx.symm)
  ·
   intro hc_1
   replace zh0 := ifO_f hc_1 zh0
   refine WC.exit (En.then_exit (En.then_exit ?_))
   have hx := exitP ze0 zh0
   exact En.wk _ _ (sc sn) (fun _ h => h) (zK0_0 (out_0, (aout_0, nout_0, cout_0, fout_0)) hx.symm)

theorem w_spec_WordCount {w_p0 : Int} {h_p1 : Int} {layout_p2 : Int} {r : Int}  (h : spec_WordCount w_p0 h_p1 layout_p2 = some r) {w : World}    :
    Calls Tryz.prog 134 #[.int .i64 w_p0, .int .i64 h_p1, .int .i64 layout_p2] w (fun en w' => en = .returned (.int .i64 r) ∧ Ext w w') := by
 unfold spec_WordCount at h
 refine enter (vs := [_, _, _]) Tryz.func134 rfl rfl rfl rfl ?_
 refine WC.sr ?_
 refine ag ?_
 refine WL.nil (En.next (WC.seq (WC.seq ?_)))
 obtain ⟨x1_1, e1_1, h⟩ := bnd h
 obtain ⟨q1_7, e1_7, h⟩ := bnd h
 refine WC.region ?_
 refine mv ?_
 refine sp (OpV.call (ec rfl (ec rfl (ec rfl e0))) ca_64 (fun w hs => w_spec_l01In e1_1)) ?_
 refine sp (OpV.not rfl) ?_
 refine mv ?_
 refine Lt.ofWL.orQ 10 14 13 (p := ?pz1) (rest := ?qz1) (B := q1_7) rfl (fun hz => orO_t e1_7 hz) ?Tz1 ?Fz1 ?az1 ?bz1 ?cz1 ?dz1 ?ez1
 case Tz1 =>
  intro hcz1 hkz1
  refine sk ?_
  refine sk ?_
  refine sk ?_
  refine hkz1 _ ?_
  repeat (first | exact Sub.refl _ | refine Sub.skip rfl ?_)
 case Fz1 =>
  intro hcz1 hkz1
  have hqz1 := orO_f e1_7 hcz1
  obtain ⟨x1_5, e1_5, hqz1⟩ := bnd hqz1
  obtain rfl := Option.some.inj hqz1
  refine mv ?_
  refine sp (OpV.call (ec rfl (ec rfl (ec rfl e0))) ca_64 (fun w hs => w_spec_l01In e1_5)) ?_
  refine sp (OpV.not rfl) ?_
  refine hkz1 _ ?_ ?_
  exact rfl
  repeat (first | exact Sub.refl _ | refine Sub.skip rfl ?_)
 case az1 => exact rfl
 case bz1 => exact rfl
 case cz1 => exact rfl
 case dz1 => exact rfl
 refine WL.nil (En.next ?_)
 refine WC.cond rfl ?_ ?_
 ·
  intro hc_1
  replace h := ifO_t hc_1 h
  refine WC.sr ?_
  refine ag ?_
  refine WL.nil (En.next (WC.ret (En.then_ret ?_)))
  refine En.ret1 rfl (Res.tmp rfl) ?_
  obtain rfl := Option.some.inj h
  intro w' hs
  exact ⟨rfl, hs.below⟩
 ·
  intro hc_1
  replace h := ifO_f hc_1 h
  refine WC.skip (En.next (WC.seq (WC.sr ?_)))
  refine mv ?_
  refine WL.nil (En.next (WC.block (WC.sr ?_)))
  refine sp (OpV.eql rfl rfl) ?_
  refine ag ?_
  refine WL.nil (En.next ?_)
  refine WC.cond rfl ?_ ?_
  ·
   intro hc_2
   replace h := ifO_t hc_2 h
   refine WC.sr ?_
   refine mv ?_
   refine mv ?_
   refine sp (OpV.mulR rfl rfl) ?_
   refine ag ?_
   refine WL.nil (En.next (WC.ret (En.block_ret (En.then_ret ?_))))
   refine En.ret1 rfl (Res.tmp rfl) ?_
   obtain rfl := Option.some.inj h
   intro w' hs
   exact ⟨rfl, hs.below⟩
  ·
   intro hc_2
   replace h := ifO_f hc_2 h
   refine WC.sr ?_
   refine sp (OpV.eql rfl rfl) ?_
   refine ag ?_
   refine WL.nil (En.next ?_)
   refine WC.cond rfl ?_ ?_
   ·
    intro hc_3
    replace h := ifO_t hc_3 h
    refine WC.sr ?_
    refine mv ?_
    refine sp (OpV.addR rfl rfl) ?_
    refine sp (OpV.quoR rfl rfl rfl) ?_
    refine sp (OpV.mulR rfl rfl) ?_
    refine mv ?_
    refine sp (OpV.addR rfl rfl) ?_
    refine sp (OpV.quoR rfl rfl rfl) ?_
    refine sp (OpV.mulR rfl rfl) ?_
    refine sp (OpV.mulR rfl rfl) ?_
    refine ag ?_
    refine WL.nil (En.next (WC.ret (En.block_ret (En.then_ret ?_))))
    refine En.ret1 rfl (Res.tmp rfl) ?_
    obtain rfl := Option.some.inj h
    intro w' hs
    exact ⟨rfl, hs.below⟩
   ·
    intro hc_3
    replace h := ifO_f hc_3 h
    refine WC.skip (En.block_norm (En.next (WC.sr ?_)))
    refine ag ?_
    refine WL.nil (En.next (WC.ret ?_))
    refine En.ret1 rfl (Res.tmp rfl) ?_
    obtain rfl := Option.some.inj h
    intro w' hs
    exact ⟨rfl, hs.below⟩

theorem w_spec_WordPlace {w_p0 : Int} {h_p1 : Int} {layout_p2 : Int} {x_p3 : Int} {y_p4 : Int} {r : Int}  (h : spec_WordPlace w_p0 h_p1 layout_p2 x_p3 y_p4 = some r) {w : World}    :
    Calls Tryz.prog 135 #[.int .i64 w_p0, .int .i64 h_p1, .int .i64 layout_p2, .int .i64 x_p3, .int .i64 y_p4] w (fun en w' => en = .returned (.int .i64 r) ∧ Ext w w') := by
 unfold spec_WordPlace at h
 refine enter (vs := [_, _, _, _, _]) Tryz.func135 rfl rfl rfl rfl ?_
 refine WC.sr ?_
 refine ag ?_
 refine WL.nil (En.next (WC.seq (WC.seq ?_)))
 obtain ⟨x1_3, e1_3, h⟩ := bnd h
 obtain ⟨q1_11, e1_11, h⟩ := bnd h
 obtain ⟨q1_18, e1_18, h⟩ := bnd h
 refine WC.region ?_
 refine mv ?_
 refine mv ?_
 refine mv ?_
 refine sp (OpV.call (ec rfl (ec rfl (ec rfl e0))) ca_134 (fun w hs => w_spec_WordCount e1_3)) ?_
 refine sp (OpV.lss rfl rfl) ?_
 refine mv ?_
 refine Lt.ofWL.orQ 16 22 21 (p := ?pz1) (rest := ?qz1) (B := q1_11) rfl (fun hz => orO_t e1_11 hz) ?Tz1 ?Fz1 ?az1 ?bz1 ?cz1 ?dz1 ?ez1
 case Tz1 =>
  intro hcz1 hkz1
  refine sk ?_
  refine sk ?_
  refine sk ?_
  refine sk ?_
  refine sk ?_
  refine hkz1 _ ?_
  repeat (first | exact Sub.refl _ | refine Sub.skip rfl ?_)
 case Fz1 =>
  intro hcz1 hkz1
  have hqz1 := orO_f e1_11 hcz1
  obtain ⟨x1_9, e1_9, hqz1⟩ := bnd hqz1
  obtain rfl := Option.some.inj hqz1
  refine mv ?_
  refine mv ?_
  refine sp (OpV.subR rfl rfl) ?_
  refine sp (OpV.call (ec rfl (ec rfl (ec rfl e0))) ca_64 (fun w hs => w_spec_l01In e1_9)) ?_
  refine sp (OpV.not rfl) ?_
  refine hkz1 _ ?_ ?_
  exact rfl
  repeat (first | exact Sub.refl _ | refine Sub.skip rfl ?_)
 case az1 => exact rfl
 case bz1 => exact rfl
 case cz1 => exact rfl
 case dz1 => exact rfl
 refine mv ?_
 refine Lt.ofWL.orQ 23 29 28 (p := ?pz2) (rest := ?qz2) (B := q1_18) rfl (fun hz => orO_t e1_18 hz) ?Tz2 ?Fz2 ?az2 ?bz2 ?cz2 ?dz2 ?ez2
 case Tz2 =>
  intro hcz2 hkz2
  refine sk ?_
  refine sk ?_
  refine sk ?_
  refine sk ?_
  refine sk ?_
  refine hkz2 _ ?_
  repeat (first | exact Sub.refl _ | refine Sub.skip rfl ?_)
 case Fz2 =>
  intro hcz2 hkz2
  have hqz2 := orO_f e1_18 hcz2
  obtain ⟨x1_16, e1_16, hqz2⟩ := bnd hqz2
  obtain rfl := Option.some.inj hqz2
  refine mv ?_
  refine mv ?_
  refine sp (OpV.subR rfl rfl) ?_
  refine sp (OpV.call (ec rfl (ec rfl (ec rfl e0))) ca_64 (fun w hs => w_spec_l01In e1_16)) ?_
  refine sp (OpV.not rfl) ?_
  refine hkz2 _ ?_ ?_
  exact rfl
  repeat (first | exact Sub.refl _ | refine Sub.skip rfl ?_)
 case az2 => exact rfl
 case bz2 => exact rfl
 case cz2 => exact rfl
 case dz2 => exact rfl
 refine WL.nil (En.next ?_)
 refine WC.cond rfl ?_ ?_
 ·
  intro hc_1
  replace h := ifO_t hc_1 h
  refine WC.sr ?_
  refine ag ?_
  refine WL.nil (En.next (WC.ret (En.then_ret ?_)))
  refine En.ret1 rfl (Res.tmp rfl) ?_
  obtain rfl := Option.some.inj h
  intro w' hs
  exact ⟨rfl, hs.below⟩
 ·
  intro hc_1
  replace h := ifO_f hc_1 h
  refine WC.skip (En.next (WC.seq (WC.sr ?_)))
  refine mv ?_
  refine sp (OpV.eql rfl rfl) ?_
  refine WL.nil (En.next ?_)
  refine WC.cond rfl ?_ ?_
  ·
   intro hc_2
   replace h := ifO_t hc_2 h
   refine WC.sr ?_
   refine mv ?_
   refine mv ?_
   refine sp (OpV.mulR rfl rfl) ?_
   refine mv ?_
   refine sp (OpV.addR rfl rfl) ?_
   refine ag ?_
   refine WL.nil (En.next (WC.ret (En.then_ret ?_)))
   refine En.ret1 rfl (Res.tmp rfl) ?_
   obtain rfl := Option.some.inj h
   intro w' hs
   exact ⟨rfl, hs.below⟩
  ·
   intro hc_2
   replace h := ifO_f hc_2 h
   refine WC.skip (En.next (WC.sr ?_))
   refine mv ?_
   refine sp (OpV.quoR rfl rfl rfl) ?_
   refine mv ?_
   refine sp (OpV.addR rfl rfl) ?_
   refine sp (OpV.quoR rfl rfl rfl) ?_
   refine sp (OpV.mulR rfl rfl) ?_
   refine mv ?_
   refine sp (OpV.quoR rfl rfl rfl) ?_
   refine sp (OpV.addR rfl rfl) ?_
   refine sp (OpV.mulR rfl rfl) ?_
   refine mv ?_
   refine sp (OpV.remR rfl rfl rfl) ?_
   refine sp (OpV.mulR rfl rfl) ?_
   refine sp (OpV.addR rfl rfl) ?_
   refine mv ?_
   refine sp (OpV.remR rfl rfl rfl) ?_
   refine sp (OpV.addR rfl rfl) ?_
   refine ag ?_
   refine WL.nil (En.next (WC.ret ?_))
   refine En.ret1 rfl (Res.tmp rfl) ?_
   obtain rfl := Option.some.inj h
   intro w' hs
   exact ⟨rfl, hs.below⟩

theorem w_spec_l04Pixel {p_p0 : Int} {r : Bool}  (h : spec_l04Pixel p_p0 = some r) {w : World}    :
    Calls Tryz.prog 118 #[.int .i64 p_p0] w (fun en w' => en = .returned (.bool r) ∧ Ext w w') := by
 unfold spec_l04Pixel at h
 refine enter (vs := [_]) Tryz.func118 rfl rfl rfl rfl ?_
 refine WC.sr ?_
 refine ag ?_
 refine WL.nil (En.next (WC.seq ?_))
 obtain ⟨x1_1, e1_1, h⟩ := bnd h
 refine WC.region ?_
 refine mv ?_
 refine sp (OpV.call (ec rfl (ec rfl (ec rfl e0))) ca_64 (fun w hs => w_spec_l01In e1_1)) ?_
 refine ag ?_
 refine WL.nil (En.next (WC.ret ?_))
 refine En.ret1 rfl (Res.tmp rfl) ?_
 obtain rfl := Option.some.inj h
 intro w' hs
 exact ⟨rfl, hs.below⟩

theorem w_spec_ImageOk {i_p0 : ImageT} {r : Bool} {q0_0 : Option Addr} {l0_0 k0_0 : Nat} (h : spec_ImageOk i_p0 = some r) {w : World} (r0_0 : Rd tInt w q0_0 l0_0 k0_0 i_p0.Data)   :
    Calls Tryz.prog 133 #[.agg #[.int .i64 i_p0.W, .int .i64 i_p0.H, .slice q0_0 l0_0 k0_0]] w (fun en w' => en = .returned (.bool r) ∧ Ext w w') := by
 obtain rfl := r0_0.1
 unfold spec_ImageOk at h
 refine enter (vs := [_]) Tryz.func133 rfl rfl rfl rfl ?_
 refine WC.sr ?_
 refine WL.heavy rfl rfl rfl (OpH.box rfl rfl ?_)
 intro b0_0
 refine ag ?_
 refine WL.nil (En.next (WC.seq (WC.seq ?_)))
 obtain ⟨x1_2, e1_2, h⟩ := bnd h
 obtain ⟨q1_9, e1_9, h⟩ := bnd h
 refine WC.region ?_
 refine sp (OpV.fieldAddr rfl fo_107_0) ?_
 refine sp (OpV.loadBox rfl pt_3 mq0 rfl) ?_
 refine sp (OpV.call (ec rfl (ec rfl (ec rfl e0))) ca_64 (fun w hs => w_spec_l01In e1_2)) ?_
 refine sp (OpV.not rfl) ?_
 refine mv ?_
 refine Lt.ofWL.orQ 8 13 12 (p := ?pz1) (rest := ?qz1) (B := q1_9) rfl (fun hz => orO_t e1_9 hz) ?Tz1 ?Fz1 ?az1 ?bz1 ?cz1 ?dz1 ?ez1
 case Tz1 =>
  intro hcz1 hkz1
  refine sk ?_
  refine sk ?_
  refine sk ?_
  refine sk ?_
  refine hkz1 _ ?_
  repeat (first | exact Sub.refl _ | refine Sub.skip rfl ?_)
 case Fz1 =>
  intro hcz1 hkz1
  have hqz1 := orO_f e1_9 hcz1
  obtain ⟨x1_7, e1_7, hqz1⟩ := bnd hqz1
  obtain rfl := Option.some.inj hqz1
  refine sp (OpV.fieldAddr rfl fo_107_1) ?_
  refine sp (OpV.loadBox rfl pt_3 mq0 rfl) ?_
  refine sp (OpV.call (ec rfl (ec rfl (ec rfl e0))) ca_64 (fun w hs => w_spec_l01In e1_7)) ?_
  refine sp (OpV.not rfl) ?_
  refine hkz1 _ ?_ ?_
  exact rfl
  repeat (first | exact Sub.refl _ | refine Sub.skip rfl ?_)
 case az1 => exact rfl
 case bz1 => exact rfl
 case cz1 => exact rfl
 case dz1 => exact rfl
 refine mv ?_
 refine Lt.ofWL.or 14 24 23 (p := ?pz2) (rest := ?qz2) (B := ?Bz2) rfl ?Tz2 ?Fz2 ?az2 ?bz2 ?cz2 ?dz2 ?ez2
 case Tz2 =>
  intro hcz2 hkz2
  refine sk ?_
  refine sk ?_
  refine sk ?_
  refine sk ?_
  refine sk ?_
  refine sk ?_
  refine sk ?_
  refine sk ?_
  refine sk ?_
  refine hkz2 _ ?_
  repeat (first | exact Sub.refl _ | refine Sub.skip rfl ?_)
 case Fz2 =>
  intro hcz2 hkz2
  refine sp (OpV.fieldAddr rfl fo_107_2) ?_
  refine sp (OpV.loadBox rfl pt_23 mq0 rfl) ?_
  refine sp (OpV.len rfl si_23 rfl) ?_
  refine sp (OpV.fieldAddr rfl fo_107_0) ?_
  refine sp (OpV.loadBox rfl pt_3 mq0 rfl) ?_
  refine sp (OpV.fieldAddr rfl fo_107_1) ?_
  refine sp (OpV.loadBox rfl pt_3 mq0 rfl) ?_
  refine sp (OpV.mulR rfl rfl) ?_
  refine sp (OpV.neq rfl rfl) ?_
  refine hkz2 _ ?_ ?_
  exact rfl
  repeat (first | exact Sub.refl _ | refine Sub.skip rfl ?_)
 case az2 => exact rfl
 case bz2 => exact rfl
 case cz2 => exact rfl
 case dz2 => exact rfl
 refine WL.nil (En.next ?_)
 refine WC.cond rfl ?_ ?_
 ·
  intro hc_1
  replace h := ifO_t hc_1 h
  refine WC.sr ?_
  refine ag ?_
  refine WL.nil (En.next (WC.ret (En.then_ret ?_)))
  refine En.ret1 rfl (Res.tmp rfl) ?_
  obtain rfl := Option.some.inj h
  intro w' hs
  exact ⟨rfl, hs.below⟩
 ·
  intro hc_1
  replace h := ifO_f hc_1 h
  refine WC.skip (En.next (WC.seq (WC.sr ?_)))
  refine ag ?_
  refine WL.nil (En.next (WC.block ?_))
  obtain ⟨zy0, ezy0, h⟩ := bnd h
  refine WC.cut (X := (Unit) × (Unit)) (.exit 0) (fun x => zy0 = .inl x.1) (fun x => match x with | ((), ()) => []) (fun x => match x with | ((), ()) => []) ?_ ?_
  ·
   rintro ⟨⟨⟩, ⟨⟩⟩ hx
   replace hx : .inl () = zy0 := hx.symm
   subst hx
   replace h := fork_l h
   show En _ _ _ _ [] []
   refine En.block_exit (En.next (WC.sr ?_))
   refine ag ?_
   refine WL.nil (En.next (WC.ret ?_))
   refine En.ret1 rfl (Res.tmp rfl) ?_
   obtain rfl := Option.some.inj h
   intro w' hs
   exact ⟨rfl, hs.below⟩
  ·
   intro zK0_0
   refine WC.loopP (G := Unit) (fun s g => match s, g with | k_0, () => [(1, .pointer (some ⟨b0_0, 0, .none⟩)), (3, .int .i64 k_0)]) (fun s g => match s, g with | k_0, () => [Chunk.box b0_0 107 [.int .i64 i_p0.W, .int .i64 i_p0.H, .slice q0_0 i_p0.Data.length k0_0]]) 0 () ezy0 (by exact sc (sc sn)) (by exact (fun _ h => h)) ?_
   rintro zm0 k_0 ⟨⟩ zo0 zf0 zb0 ze0
   have zh0 : spec_ImageOk_L0 i_p0 k_0 = some zo0 := zf0
   unfold spec_ImageOk_L0 at zh0
   show WC _ _ _ _ _ [(1, .pointer (some ⟨b0_0, 0, .none⟩)), (3, .int .i64 k_0)] [Chunk.box b0_0 107 [.int .i64 i_p0.W, .int .i64 i_p0.H, .slice q0_0 i_p0.Data.length k0_0]]
   refine WC.seq (WC.sr ?_)
   refine mv ?_
   refine sp (OpV.fieldAddr rfl fo_107_2) ?_
   refine sp (OpV.loadBox rfl pt_23 mq0 rfl) ?_
   refine sp (OpV.len rfl si_23 rfl) ?_
   refine sp (OpV.lss rfl rfl) ?_
   refine WL.nil (En.next ?_)
   refine WC.cond rfl ?_ ?_
   ·
    intro hc_2
    replace zh0 := ifO_t hc_2 zh0
    refine WC.skip (En.next (WC.seq (WC.block (WC.seq ?_))))
    obtain ⟨x6_3, e6_3, zh0⟩ := bnd zh0
    obtain ⟨g6_3, o6_3, _, ha6_3, rfl, hd6_3⟩ := Rd.atIdx r0_0 e6_3
    replace hd6_3 : ∀ (j : Nat) v, ([.int .i64 x6_3] : List Value)[j]? = some v → w.cell? ⟨g6_3, o6_3 + k_0.toNat * 1 + j, .none⟩ = some v := hd6_3
    obtain ⟨x6_5, e6_5, zh0⟩ := bnd zh0
    refine WC.region ?_
    refine sp (OpV.fieldAddr rfl fo_107_2) ?_
    refine sp (OpV.loadBox rfl pt_23 mq0 rfl) ?_
    refine mv ?_
    refine sp (OpV.idxA rfl rfl se_23 ha6_3 ⟨(idx_some e6_3).1, (idx_some e6_3).2.1⟩) ?_
    refine sp (OpV.load1 rfl pt_3 (fun w hs => hs.cell (hd6_3 0 _ rfl))) ?_
    refine sp (OpV.call (ec rfl e0) ca_118 (fun w hs => w_spec_l04Pixel e6_5)) ?_
    refine sp (OpV.not rfl) ?_
    refine WL.nil (En.next ?_)
    refine WC.cond rfl ?_ ?_
    ·
     intro hc_3
     replace zh0 := ifO_t hc_3 zh0
     refine WC.sr ?_
     refine ag ?_
     refine WL.nil (En.next (WC.ret (En.block_ret (En.then_ret (En.then_ret (En.block_ret (En.then_ret ?_)))))))
     refine En.ret1 rfl (Res.tmp rfl) ?_
     have hx := exitP ze0 zh0
     subst hx
     replace h := fork_r h
     obtain rfl := Option.some.inj h
     intro w' hs
     exact ⟨rfl, hs.below⟩
    ·
     intro hc_3
     replace zh0 := ifO_f hc_3 zh0
     refine WC.skip (En.block_norm (En.next (WC.region ?_)))
     refine mv ?_
     refine sp (OpV.addR rfl rfl) ?_
     refine ag ?_
     refine WL.nil ?_
     exact En.backP zb0 zh0 () (sc (sc sn)) (fun _ h => h)
   ·
    intro hc_2
    replace zh0 := ifO_f hc_2 zh0
    refine WC.exit (En.then_exit (En.then_exit ?_))
    have hx := exitP ze0 zh0
    exact En.wk _ _ sn (fun _ h => (h).sub (.cons _ (.slnil))) (zK0_0 ((), ()) hx.symm)

theorem w_spec_StoreImage {a_p0 : ImageT} {a_p1 : Int} {r : (List Int) × Bool} {q0_0 : Option Addr} {l0_0 k0_0 : Nat} (h : spec_StoreImage a_p0 a_p1 = some r) {w : World} (r0_0 : Rd tInt w q0_0 l0_0 k0_0 a_p0.Data)   :
    Calls Tryz.prog 117 #[.agg #[.int .i64 a_p0.W, .int .i64 a_p0.H, .slice q0_0 l0_0 k0_0], .int .i64 a_p1] w (fun en w' => ∃ rv G, en = .returned rv ∧ (∃ (a0_0 : Option Addr) (n0_0 : Nat) (c0_0 : Nat) (f0_0 : List Nat), rv = .tuple #[.slice a0_0 n0_0 c0_0, .bool r.2] ∧ G = [Chunk.own tInt f0_0 a0_0 n0_0 c0_0 r.1]) ∧ St w G w') := by
 obtain rfl := r0_0.1
 unfold spec_StoreImage at h
 refine enter (vs := [_, _]) Tryz.func117 rfl rfl rfl rfl ?_
 refine WC.sr ?_
 refine WL.heavy rfl rfl rfl (OpH.box rfl rfl ?_)
 intro b0_0
 refine ag ?_
 refine ag ?_
 refine WL.nil (En.next (WC.seq (WC.seq ?_)))
 obtain ⟨x1_1, e1_1, h⟩ := bnd h
 obtain ⟨q1_7, e1_7, h⟩ := bnd h
 refine WC.region ?_
 refine sp (OpV.loadAll rfl mq0 ag_107) ?_
 refine sp (OpV.call (ec rfl e0) ca_133 (fun w hs => w_spec_ImageOk e1_1 (r0_0.ext hs.below))) ?_
 refine sp (OpV.not rfl) ?_
 refine mv ?_
 refine Lt.ofWL.orQ 16 20 19 (p := ?pz1) (rest := ?qz1) (B := q1_7) rfl (fun hz => orO_t e1_7 hz) ?Tz1 ?Fz1 ?az1 ?bz1 ?cz1 ?dz1 ?ez1
 case Tz1 =>
  intro hcz1 hkz1
  refine sk ?_
  refine sk ?_
  refine sk ?_
  refine hkz1 _ ?_
  repeat (first | exact Sub.refl _ | refine Sub.skip rfl ?_)
 case Fz1 =>
  intro hcz1 hkz1
  have hqz1 := orO_f e1_7 hcz1
  obtain ⟨x1_5, e1_5, hqz1⟩ := bnd hqz1
  obtain rfl := Option.some.inj hqz1
  refine mv ?_
  refine sp (OpV.call (ec rfl (ec rfl (ec rfl e0))) ca_64 (fun w hs => w_spec_l01In e1_5)) ?_
  refine sp (OpV.not rfl) ?_
  refine hkz1 _ ?_ ?_
  exact rfl
  repeat (first | exact Sub.refl _ | refine Sub.skip rfl ?_)
 case az1 => exact rfl
 case bz1 => exact rfl
 case cz1 => exact rfl
 case dz1 => exact rfl
 refine WL.nil (En.next ?_)
 refine WC.cond rfl ?_ ?_
 ·
  intro hc_1
  replace h := ifO_t hc_1 h
  refine WC.sr ?_
  refine WL.heavy rfl rfl rfl (OpH.lit0 (A := tInt) (evps.nil) bs_23_0_ ?_)
  intro b2_0
  refine ag ?_
  refine ag ?_
  refine WL.nil (En.next (WC.ret (En.then_ret ?_)))
  refine En.ret2 rfl (Res.tmp rfl) (Res.tmp rfl) ?_
  obtain rfl := Option.some.inj h
  intro w' hs
  have hs := (hs).sub (.cons_cons _ (.cons _ (.slnil)))
  exact ⟨_, _, rfl, ⟨(some ⟨b2_0, 0, .none⟩), 0, 0, [b2_0], rfl, rfl⟩, hs⟩
 ·
  intro hc_1
  replace h := ifO_f hc_1 h
  refine WC.skip (En.next (WC.seq (WC.sr ?_)))
  refine mv ?_
  refine sp (OpV.eql rfl rfl) ?_
  refine WL.nil (En.next ?_)
  refine WC.cond rfl ?_ ?_
  ·
   intro hc_2
   replace h := ifO_t hc_2 h
   refine WC.sr ?_
   refine WL.heavy rfl rfl rfl (OpH.lit0 (A := tInt) (evps.nil) bs_23_0_ ?_)
   intro b4_0
   refine ag ?_
   refine WL.nil (En.next (WC.seq (WC.sr ?_)))
   refine ag ?_
   refine WL.nil (En.next (WC.block ?_))
   obtain ⟨zy0, ezy0, h⟩ := bnd h
   refine WC.cut (X := ((List Int)) × ((Option Addr) × Nat × Nat × (List Nat))) (.exit 0) (fun x => zy0 = x.1) (fun x => match x with | (v_0e, (av_0e, nv_0e, cv_0e, fv_0e)) => [(6, .slice av_0e nv_0e cv_0e)]) (fun x => match x with | (v_0e, (av_0e, nv_0e, cv_0e, fv_0e)) => [Chunk.own tInt fv_0e av_0e nv_0e cv_0e v_0e]) ?_ ?_
   ·
    rintro ⟨v_0e, ⟨av_0e, nv_0e, cv_0e, fv_0e⟩⟩ hx
    replace hx : v_0e = zy0 := hx.symm
    subst hx
    show En _ _ _ _ [(6, .slice av_0e nv_0e cv_0e)] [Chunk.own tInt fv_0e av_0e nv_0e cv_0e v_0e]
    refine En.block_exit (En.next (WC.sr ?_))
    refine mv ?_
    refine ag ?_
    refine ag ?_
    refine WL.nil (En.next (WC.ret (En.then_ret ?_)))
    refine En.ret2 rfl (Res.tmp rfl) (Res.tmp rfl) ?_
    obtain rfl := Option.some.inj h
    intro w' hs
    have hs := hs
    exact ⟨_, _, rfl, ⟨av_0e, nv_0e, cv_0e, fv_0e, rfl, rfl⟩, hs⟩
   ·
    intro zK0_0
    refine WC.loopP (G := (Option Addr) × Nat × Nat × (List Nat)) (fun s g => match s, g with | (v_0, v1_0), (av_0, nv_0, cv_0, fv_0) => [(2, .pointer (some ⟨b0_0, 0, .none⟩)), (6, .slice av_0 nv_0 cv_0), (7, .int .i64 v1_0)]) (fun s g => match s, g with | (v_0, v1_0), (av_0, nv_0, cv_0, fv_0) => [Chunk.box b0_0 107 [.int .i64 a_p0.W, .int .i64 a_p0.H, .slice q0_0 a_p0.Data.length k0_0], Chunk.own tInt fv_0 av_0 nv_0 cv_0 v_0]) (([] : List Int), 0) ((some ⟨b4_0, 0, .none⟩), 0, 0, [b4_0]) ezy0 (by exact sc (sc (sc sn))) (by exact (fun _ h => (h).pm 1)) ?_
    rintro zm0 ⟨v_0, v1_0⟩ ⟨av_0, nv_0, cv_0, fv_0⟩ zo0 zf0 zb0 ze0
    have zh0 : spec_StoreImage_L0 a_p0 v_0 v1_0 = some zo0 := zf0
    unfold spec_StoreImage_L0 at zh0
    show WC _ _ _ _ _ [(2, .pointer (some ⟨b0_0, 0, .none⟩)), (6, .slice av_0 nv_0 cv_0), (7, .int .i64 v1_0)] [Chunk.box b0_0 107 [.int .i64 a_p0.W, .int .i64 a_p0.H, .slice q0_0 a_p0.Data.length k0_0], Chunk.own tInt fv_0 av_0 nv_0 cv_0 v_0]
    refine WC.seq (WC.sr ?_)
    refine mv ?_
    refine sp (OpV.fieldAddr rfl fo_107_1) ?_
    refine sp (OpV.loadBox rfl pt_3 mq0 rfl) ?_
    refine sp (OpV.lss rfl rfl) ?_
    refine WL.nil (En.next ?_)
    refine WC.cond rfl ?_ ?_
    ·
     intro hc_3
     replace zh0 := ifO_t hc_3 zh0
     refine WC.skip (En.next (WC.seq (WC.block (WC.sr ?_))))
     refine ag ?_
     refine WL.nil (En.next (WC.block ?_))
     obtain ⟨zy1, ezy1, zh0⟩ := bnd zh0
     refine WC.cut (X := ((List Int)) × ((Option Addr) × Nat × Nat × (List Nat))) (.exit 2) (fun x => zy1 = x.1) (fun x => match x with | (v_1e, (av_1e, nv_1e, cv_1e, fv_1e)) => [(2, .pointer (some ⟨b0_0, 0, .none⟩)), (6, .slice av_1e nv_1e cv_1e), (7, .int .i64 v1_0)]) (fun x => match x with | (v_1e, (av_1e, nv_1e, cv_1e, fv_1e)) => [Chunk.box b0_0 107 [.int .i64 a_p0.W, .int .i64 a_p0.H, .slice q0_0 a_p0.Data.length k0_0], Chunk.own tInt fv_1e av_1e nv_1e cv_1e v_1e]) ?_ ?_
     ·
      rintro ⟨v_1e, ⟨av_1e, nv_1e, cv_1e, fv_1e⟩⟩ hx
      replace hx : v_1e = zy1 := hx.symm
      subst hx
      show En _ _ _ _ [(2, .pointer (some ⟨b0_0, 0, .none⟩)), (6, .slice av_1e nv_1e cv_1e), (7, .int .i64 v1_0)] [Chunk.box b0_0 107 [.int .i64 a_p0.W, .int .i64 a_p0.H, .slice q0_0 a_p0.Data.length k0_0], Chunk.own tInt fv_1e av_1e nv_1e cv_1e v_1e]
      refine En.block_exit (En.block_norm (En.next (WC.region ?_)))
      refine mv ?_
      refine sp (OpV.addR rfl rfl) ?_
      refine ag ?_
      refine WL.nil ?_
      exact En.backP zb0 zh0 (av_1e, nv_1e, cv_1e, fv_1e) (sc (sc (sc sn))) (fun _ h => h)
     ·
      intro zK1_0
      refine WC.loopP (G := (Option Addr) × Nat × Nat × (List Nat)) (fun s g => match s, g with | (v_1, v1_1), (av_1, nv_1, cv_1, fv_1) => [(2, .pointer (some ⟨b0_0, 0, .none⟩)), (6, .slice av_1 nv_1 cv_1), (7, .int .i64 v1_0), (8, .int .i64 v1_1)]) (fun s g => match s, g with | (v_1, v1_1), (av_1, nv_1, cv_1, fv_1) => [Chunk.box b0_0 107 [.int .i64 a_p0.W, .int .i64 a_p0.H, .slice q0_0 a_p0.Data.length k0_0], Chunk.own tInt fv_1 av_1 nv_1 cv_1 v_1]) (v_0, 0) (av_0, nv_0, cv_0, fv_0) ezy1 (by exact sc (sc (sc (sc sn)))) (by exact (fun _ h => h)) ?_
      rintro zm1 ⟨v_1, v1_1⟩ ⟨av_1, nv_1, cv_1, fv_1⟩ zo1 zf1 zb1 ze1
      have zh1 : spec_StoreImage_L1 a_p0 v1_0 v_1 v1_1 = some zo1 := zf1
      unfold spec_StoreImage_L1 at zh1
      show WC _ _ _ _ _ [(2, .pointer (some ⟨b0_0, 0, .none⟩)), (6, .slice av_1 nv_1 cv_1), (7, .int .i64 v1_0), (8, .int .i64 v1_1)] [Chunk.box b0_0 107 [.int .i64 a_p0.W, .int .i64 a_p0.H, .slice q0_0 a_p0.Data.length k0_0], Chunk.own tInt fv_1 av_1 nv_1 cv_1 v_1]
      refine WC.seq (WC.sr ?_)
      refine mv ?_
      refine sp (OpV.fieldAddr rfl fo_107_0) ?_
      refine sp (OpV.loadBox rfl pt_3 mq0 rfl) ?_
      refine sp (OpV.lss rfl rfl) ?_
      refine WL.nil (En.next ?_)
      refine WC.cond rfl ?_ ?_
      ·
       intro hc_4
       replace zh1 := ifO_t hc_4 zh1
       refine WC.skip (En.next (WC.block (WC.sr ?_)))
       refine ag ?_
       refine WL.nil (En.next (WC.seq (WC.block ?_)))
       obtain ⟨zy2, ezy2, zh1⟩ := bnd zh1
       refine WC.cut (X := (Int) × (Unit)) (.exit 4) (fun x => zy2 = x.1) (fun x => match x with | (v_2e, ()) => [(2, .pointer (some ⟨b0_0, 0, .none⟩)), (6, .slice av_1 nv_1 cv_1), (7, .int .i64 v1_0), (8, .int .i64 v1_1), (9, .int .i64 v_2e)]) (fun x => match x with | (v_2e, ()) => [Chunk.box b0_0 107 [.int .i64 a_p0.W, .int .i64 a_p0.H, .slice q0_0 a_p0.Data.length k0_0], Chunk.own tInt fv_1 av_1 nv_1 cv_1 v_1]) ?_ ?_
       ·
        rintro ⟨v_2e, ⟨⟩⟩ hx
        replace hx : v_2e = zy2 := hx.symm
        subst hx
        show En _ _ _ _ [(2, .pointer (some ⟨b0_0, 0, .none⟩)), (6, .slice av_1 nv_1 cv_1), (7, .int .i64 v1_0), (8, .int .i64 v1_1), (9, .int .i64 v_2e)] [Chunk.box b0_0 107 [.int .i64 a_p0.W, .int .i64 a_p0.H, .slice q0_0 a_p0.Data.length k0_0], Chunk.own tInt fv_1 av_1 nv_1 cv_1 v_1]
        refine En.block_exit (En.next (WC.seq ?_))
        obtain ⟨x13_10, e13_10, zh1⟩ := bnd zh1
        obtain ⟨g13_10, o13_10, _, ha13_10, rfl, hd13_10⟩ := Rd.atIdx r0_0 e13_10
        replace hd13_10 : ∀ (j : Nat) v, ([.int .i64 x13_10] : List Value)[j]? = some v → w.cell? ⟨g13_10, o13_10 + (wr ((wr (v1_0 * a_p0.W)) + v1_1)).toNat * 1 + j, .none⟩ = some v := hd13_10
        obtain ⟨x13_13, e13_13, zh1⟩ := bnd zh1
        refine WC.region ?_
        refine mv ?_
        refine mv ?_
        refine sp (OpV.fieldAddr rfl fo_107_2) ?_
        refine sp (OpV.loadBox rfl pt_23 mq0 rfl) ?_
        refine mv ?_
        refine sp (OpV.fieldAddr rfl fo_107_0) ?_
        refine sp (OpV.loadBox rfl pt_3 mq0 rfl) ?_
        refine sp (OpV.mulR rfl rfl) ?_
        refine mv ?_
        refine sp (OpV.addR rfl rfl) ?_
        refine sp (OpV.idxA rfl rfl se_23 ha13_10 ⟨(idx_some e13_10).1, (idx_some e13_10).2.1⟩) ?_
        refine sp (OpV.load1 rfl pt_3 (fun w hs => hs.cell (hd13_10 0 _ rfl))) ?_
        refine WL.heavy rfl rfl rfl (OpH.litF (A := tInt) (xs := [v_2e, x13_10]) tInt_flat (evps.cons rfl (evps.cons rfl (evps.nil))) (bs_23_2_0_1 _ _) rfl rfl (Nat.le_of_ble_eq_true rfl) ?_)
        intro b13_12
        refine WL.heavy rfl rfl rfl (OpH.appS (F := [_, _]) (A := tInt) tInt_flat rfl rfl rfl mi_23 rfl (by decide) (fun w hs => (Ow.rd (hs.mem mq0))) e13_13 ?_)
        intro f13_13 a13_13 c13_13
        refine ag ?_
        refine WL.nil (En.next (WC.region ?_))
        refine mv ?_
        refine mv ?_
        refine sp (OpV.addR rfl rfl) ?_
        refine ag ?_
        refine WL.nil (En.block_norm ?_)
        exact En.backP zb1 zh1 (a13_13, x13_13.length, c13_13, f13_13) (sc (sc (sc (sc sn)))) (fun _ h => (((h).pm 2).pm 2).sub (.cons_cons _ (.cons_cons _ (.cons _ (.slnil)))))
       ·
        intro zK2_0
        refine WC.loopP (G := Unit) (fun s g => match s, g with | v_2, () => [(2, .pointer (some ⟨b0_0, 0, .none⟩)), (6, .slice av_1 nv_1 cv_1), (7, .int .i64 v1_0), (8, .int .i64 v1_1), (9, .int .i64 v_2)]) (fun s g => match s, g with | v_2, () => [Chunk.box b0_0 107 [.int .i64 a_p0.W, .int .i64 a_p0.H, .slice q0_0 a_p0.Data.length k0_0], Chunk.own tInt fv_1 av_1 nv_1 cv_1 v_1]) 1 () ezy2 (by exact sc (sc (sc (sc (sc sn))))) (by exact (fun _ h => h)) ?_
        rintro zm2 v_2 ⟨⟩ zo2 zf2 zb2 ze2
        have zh2 : spec_StoreImage_L2 a_p0 v1_0 v1_1 v_2 = some zo2 := zf2
        unfold spec_StoreImage_L2 at zh2
        show WC _ _ _ _ _ [(2, .pointer (some ⟨b0_0, 0, .none⟩)), (6, .slice av_1 nv_1 cv_1), (7, .int .i64 v1_0), (8, .int .i64 v1_1), (9, .int .i64 v_2)] [Chunk.box b0_0 107 [.int .i64 a_p0.W, .int .i64 a_p0.H, .slice q0_0 a_p0.Data.length k0_0], Chunk.own tInt fv_1 av_1 nv_1 cv_1 v_1]
        refine WC.seq (WC.seq ?_)
        obtain ⟨q11_30, e11_30, zh2⟩ := bnd zh2
        refine WC.drawn [(2, ?r11q27v2), (6, ?r11q27v6), (7, ?r11q27v7), (8, ?r11q27v8), (9, ?r11q27v9), (65, ?r11q27v65)] (by kernel_rfl) (by kernel_rfl) ?dH11q27 ?dK11q27
        case dH11q27 =>
         intro W hW hk
         refine hW.mv ?_
         refine hW.mv ?_
         refine hW.sp (OpV.addR rfl rfl) ?_
         refine hW.sp (OpV.fieldAddr rfl fo_107_0) ?_
         refine hW.sp (OpV.loadBox rfl pt_3 mq0 rfl) ?_
         refine hW.sp (OpV.lss rfl rfl) ?_
         refine hW.mv ?_
         refine hW.andQ 41 65 64 (p := ?pz2) (rest := ?qz2) (B := q11_30) rfl (fun hz => andO_f e11_30 hz) ?Tz2 ?Fz2 ?az2 ?bz2 ?cz2 ?dz2 ?ez2
         case Tz2 =>
          intro hcz2 hkz2
          have hqz2 := andO_t e11_30 hcz2
          obtain ⟨x11_17, e11_17, hqz2⟩ := bnd hqz2
          obtain ⟨g11_17, o11_17, _, ha11_17, rfl, hd11_17⟩ := Rd.atIdx r0_0 e11_17
          replace hd11_17 : ∀ (j : Nat) v, ([.int .i64 x11_17] : List Value)[j]? = some v → w.cell? ⟨g11_17, o11_17 + (wr ((wr ((wr (v1_0 * a_p0.W)) + v1_1)) + v_2)).toNat * 1 + j, .none⟩ = some v := hd11_17
          obtain ⟨x11_27, e11_27, hqz2⟩ := bnd hqz2
          obtain ⟨g11_27, o11_27, _, ha11_27, rfl, hd11_27⟩ := Rd.atIdx r0_0 e11_27
          replace hd11_27 : ∀ (j : Nat) v, ([.int .i64 x11_27] : List Value)[j]? = some v → w.cell? ⟨g11_27, o11_27 + (wr ((wr (v1_0 * a_p0.W)) + v1_1)).toNat * 1 + j, .none⟩ = some v := hd11_27
          obtain rfl := Option.some.inj hqz2
          refine hW.sp (OpV.fieldAddr rfl fo_107_2) ?_
          refine hW.sp (OpV.loadBox rfl pt_23 mq0 rfl) ?_
          refine hW.mv ?_
          refine hW.sp (OpV.fieldAddr rfl fo_107_0) ?_
          refine hW.sp (OpV.loadBox rfl pt_3 mq0 rfl) ?_
          refine hW.sp (OpV.mulR rfl rfl) ?_
          refine hW.mv ?_
          refine hW.sp (OpV.addR rfl rfl) ?_
          refine hW.mv ?_
          refine hW.sp (OpV.addR rfl rfl) ?_
          refine hW.sp (OpV.idxA rfl rfl se_23 ha11_17 ⟨(idx_some e11_17).1, (idx_some e11_17).2.1⟩) ?_
          refine hW.sp (OpV.load1 rfl pt_3 (fun w hs => hs.cell (hd11_17 0 _ rfl))) ?_
          refine hW.sp (OpV.fieldAddr rfl fo_107_2) ?_
          refine hW.sp (OpV.loadBox rfl pt_23 mq0 rfl) ?_
          refine hW.mv ?_
          refine hW.sp (OpV.fieldAddr rfl fo_107_0) ?_
          refine hW.sp (OpV.loadBox rfl pt_3 mq0 rfl) ?_
          refine hW.sp (OpV.mulR rfl rfl) ?_
          refine hW.mv ?_
          refine hW.sp (OpV.addR rfl rfl) ?_
          refine hW.sp (OpV.idxA rfl rfl se_23 ha11_27 ⟨(idx_some e11_27).1, (idx_some e11_27).2.1⟩) ?_
          refine hW.sp (OpV.load1 rfl pt_3 (fun w hs => hs.cell (hd11_27 0 _ rfl))) ?_
          refine hW.sp (OpV.eql rfl rfl) ?_
          refine hkz2 _ ?_ ?_
          exact rfl
          repeat (first | exact Sub.refl _ | refine Sub.skip rfl ?_)
         case Fz2 =>
          intro hcz2 hkz2
          refine hW.sk ?_
          refine hW.sk ?_
          refine hW.sk ?_
          refine hW.sk ?_
          refine hW.sk ?_
          refine hW.sk ?_
          refine hW.sk ?_
          refine hW.sk ?_
          refine hW.sk ?_
          refine hW.sk ?_
          refine hW.sk ?_
          refine hW.sk ?_
          refine hW.sk ?_
          refine hW.sk ?_
          refine hW.sk ?_
          refine hW.sk ?_
          refine hW.sk ?_
          refine hW.sk ?_
          refine hW.sk ?_
          refine hW.sk ?_
          refine hW.sk ?_
          refine hW.sk ?_
          refine hW.sk ?_
          refine hkz2 _ ?_
          repeat (first | exact Sub.refl _ | refine Sub.skip rfl ?_)
         case az2 => exact rfl
         case bz2 => exact rfl
         case cz2 => exact rfl
         case dz2 => exact rfl
         refine hk _ ?_
         refine Sub.cons ?_ (Sub.cons ?_ (Sub.cons ?_ (Sub.cons ?_ (Sub.cons ?_ (Sub.cons ?_ sn)))))
         all_goals exact rfl
        refine En.next ?_
        refine WC.cond rfl ?_ ?_
        ·
         intro hc_5
         replace zh2 := ifO_t hc_5 zh2
         refine WC.skip (En.next (WC.block (WC.region ?_)))
         refine mv ?_
         refine sp (OpV.addR rfl rfl) ?_
         refine ag ?_
         refine WL.nil (En.block_norm ?_)
         exact En.backP zb2 zh2 () (sc (sc (sc (sc (sc sn))))) (fun _ h => h)
        ·
         intro hc_5
         replace zh2 := ifO_f hc_5 zh2
         refine WC.exit (En.then_exit (En.then_exit ?_))
         have hx := exitP ze2 zh2
         exact En.wk _ _ (sc (sc (sc (sc (sc sn))))) (fun _ h => h) (zK2_0 (v_2, ()) hx.symm)
      ·
       intro hc_4
       replace zh1 := ifO_f hc_4 zh1
       refine WC.exit (En.then_exit (En.then_exit ?_))
       have hx := exitP ze1 zh1
       exact En.wk _ _ (sc (sc (sc sn))) (fun _ h => h) (zK1_0 (v_1, (av_1, nv_1, cv_1, fv_1)) hx.symm)
    ·
     intro hc_3
     replace zh0 := ifO_f hc_3 zh0
     refine WC.exit (En.then_exit (En.then_exit ?_))
     have hx := exitP ze0 zh0
     exact En.wk _ _ (sc sn) (fun _ h => ((h).pm 1).sub (.cons_cons _ (.cons _ (.slnil)))) (zK0_0 (v_0, (av_0, nv_0, cv_0, fv_0)) hx.symm)
  ·
   intro hc_2
   replace h := ifO_f hc_2 h
   refine WC.skip (En.next (WC.seq ?_))
   obtain ⟨x16_5, e16_5, h⟩ := bnd h
   obtain ⟨x16_6, e16_6, h⟩ := bnd h
   refine WC.region ?_
   refine sp (OpV.fieldAddr rfl fo_107_0) ?_
   refine sp (OpV.loadBox rfl pt_3 mq0 rfl) ?_
   refine sp (OpV.fieldAddr rfl fo_107_1) ?_
   refine sp (OpV.loadBox rfl pt_3 mq0 rfl) ?_
   refine mv ?_
   refine sp (OpV.call (ec rfl (ec rfl (ec rfl e0))) ca_134 (fun w hs => w_spec_WordCount e16_5)) ?_
   refine WL.heavy rfl rfl rfl (OpH.makeO (A := tInt) rfl rfl mi_23 (fun w => tInt_flat.ow w 0) (by decide) e16_6 ⟨Int.le_refl _, (mkO_some e16_6).1.2⟩ ?_)
   intro b16_6
   refine ag ?_
   refine WL.nil (En.next (WC.seq (WC.sr ?_)))
   refine ag ?_
   refine WL.nil (En.next (WC.block ?_))
   obtain ⟨zy3, ezy3, h⟩ := bnd h
   refine WC.cut (X := ((List Int)) × ((List Nat))) (.exit 6) (fun x => zy3 = x.1) (fun x => match x with | (v_3e, fv_3e) => [(10, .slice (some ⟨b16_6, 0, .none⟩) x16_6.length x16_5.toNat)]) (fun x => match x with | (v_3e, fv_3e) => [Chunk.own tInt fv_3e (some ⟨b16_6, 0, .none⟩) x16_6.length x16_5.toNat v_3e]) ?_ ?_
   ·
    rintro ⟨v_3e, fv_3e⟩ hx
    replace hx : v_3e = zy3 := hx.symm
    subst hx
    show En _ _ _ _ [(10, .slice (some ⟨b16_6, 0, .none⟩) x16_6.length x16_5.toNat)] [Chunk.own tInt fv_3e (some ⟨b16_6, 0, .none⟩) x16_6.length x16_5.toNat v_3e]
    refine En.block_exit (En.next (WC.sr ?_))
    refine mv ?_
    refine ag ?_
    refine ag ?_
    refine WL.nil (En.next (WC.ret ?_))
    refine En.ret2 rfl (Res.tmp rfl) (Res.tmp rfl) ?_
    obtain rfl := Option.some.inj h
    intro w' hs
    have hs := hs
    exact ⟨_, _, rfl, ⟨(some ⟨b16_6, 0, .none⟩), x16_6.length, x16_5.toNat, fv_3e, rfl, rfl⟩, hs⟩
   ·
    intro zK3_0
    refine WC.loopP (G := (List Nat)) (fun s g => match s, g with | (v_3, v1_3), fv_3 => [(1, .int .i64 a_p1), (2, .pointer (some ⟨b0_0, 0, .none⟩)), (10, .slice (some ⟨b16_6, 0, .none⟩) x16_6.length x16_5.toNat), (11, .int .i64 v1_3)]) (fun s g => match s, g with | (v_3, v1_3), fv_3 => [Chunk.box b0_0 107 [.int .i64 a_p0.W, .int .i64 a_p0.H, .slice q0_0 a_p0.Data.length k0_0], Chunk.own tInt fv_3 (some ⟨b16_6, 0, .none⟩) x16_6.length x16_5.toNat v_3]) (x16_6, 0) [b16_6] ezy3 (by exact sc (sc (sc (sc sn)))) (by exact (fun _ h => (h).pm 1)) ?_
    rintro zm3 ⟨v_3, v1_3⟩ fv_3 zo3 zf3 zb3 ze3
    have zh3 : spec_StoreImage_L3 a_p0 a_p1 v_3 v1_3 = some zo3 := zf3
    unfold spec_StoreImage_L3 at zh3
    show WC _ _ _ _ _ [(1, .int .i64 a_p1), (2, .pointer (some ⟨b0_0, 0, .none⟩)), (10, .slice (some ⟨b16_6, 0, .none⟩) x16_6.length x16_5.toNat), (11, .int .i64 v1_3)] [Chunk.box b0_0 107 [.int .i64 a_p0.W, .int .i64 a_p0.H, .slice q0_0 a_p0.Data.length k0_0], Chunk.own tInt fv_3 (some ⟨b16_6, 0, .none⟩) x16_6.length x16_5.toNat v_3]
    refine WC.seq (WC.sr ?_)
    refine mv ?_
    refine sp (OpV.fieldAddr rfl fo_107_1) ?_
    refine sp (OpV.loadBox rfl pt_3 mq0 rfl) ?_
    refine sp (OpV.lss rfl rfl) ?_
    refine WL.nil (En.next ?_)
    refine WC.cond rfl ?_ ?_
    ·
     intro hc_6
     replace zh3 := ifO_t hc_6 zh3
     refine WC.skip (En.next (WC.seq (WC.block (WC.sr ?_))))
     refine ag ?_
     refine WL.nil (En.next (WC.block ?_))
     obtain ⟨zy4, ezy4, zh3⟩ := bnd zh3
     refine WC.cut (X := ((List Int)) × ((List Nat))) (.exit 8) (fun x => zy4 = x.1) (fun x => match x with | (v_4e, fv_4e) => [(1, .int .i64 a_p1), (2, .pointer (some ⟨b0_0, 0, .none⟩)), (10, .slice (some ⟨b16_6, 0, .none⟩) x16_6.length x16_5.toNat), (11, .int .i64 v1_3)]) (fun x => match x with | (v_4e, fv_4e) => [Chunk.box b0_0 107 [.int .i64 a_p0.W, .int .i64 a_p0.H, .slice q0_0 a_p0.Data.length k0_0], Chunk.own tInt fv_4e (some ⟨b16_6, 0, .none⟩) x16_6.length x16_5.toNat v_4e]) ?_ ?_
     ·
      rintro ⟨v_4e, fv_4e⟩ hx
      replace hx : v_4e = zy4 := hx.symm
      subst hx
      show En _ _ _ _ [(1, .int .i64 a_p1), (2, .pointer (some ⟨b0_0, 0, .none⟩)), (10, .slice (some ⟨b16_6, 0, .none⟩) x16_6.length x16_5.toNat), (11, .int .i64 v1_3)] [Chunk.box b0_0 107 [.int .i64 a_p0.W, .int .i64 a_p0.H, .slice q0_0 a_p0.Data.length k0_0], Chunk.own tInt fv_4e (some ⟨b16_6, 0, .none⟩) x16_6.length x16_5.toNat v_4e]
      refine En.block_exit (En.block_norm (En.next (WC.region ?_)))
      refine mv ?_
      refine sp (OpV.addR rfl rfl) ?_
      refine ag ?_
      refine WL.nil ?_
      exact En.backP zb3 zh3 fv_4e (sc (sc (sc (sc sn)))) (fun _ h => h)
     ·
      intro zK4_0
      refine WC.loopP (G := (List Nat)) (fun s g => match s, g with | (v_4, v1_4), fv_4 => [(1, .int .i64 a_p1), (2, .pointer (some ⟨b0_0, 0, .none⟩)), (10, .slice (some ⟨b16_6, 0, .none⟩) x16_6.length x16_5.toNat), (11, .int .i64 v1_3), (12, .int .i64 v1_4)]) (fun s g => match s, g with | (v_4, v1_4), fv_4 => [Chunk.box b0_0 107 [.int .i64 a_p0.W, .int .i64 a_p0.H, .slice q0_0 a_p0.Data.length k0_0], Chunk.own tInt fv_4 (some ⟨b16_6, 0, .none⟩) x16_6.length x16_5.toNat v_4]) (v_3, 0) fv_3 ezy4 (by exact sc (sc (sc (sc (sc sn))))) (by exact (fun _ h => h)) ?_
      rintro zm4 ⟨v_4, v1_4⟩ fv_4 zo4 zf4 zb4 ze4
      have zh4 : spec_StoreImage_L4 a_p0 a_p1 v1_3 v_4 v1_4 = some zo4 := zf4
      unfold spec_StoreImage_L4 at zh4
      show WC _ _ _ _ _ [(1, .int .i64 a_p1), (2, .pointer (some ⟨b0_0, 0, .none⟩)), (10, .slice (some ⟨b16_6, 0, .none⟩) x16_6.length x16_5.toNat), (11, .int .i64 v1_3), (12, .int .i64 v1_4)] [Chunk.box b0_0 107 [.int .i64 a_p0.W, .int .i64 a_p0.H, .slice q0_0 a_p0.Data.length k0_0], Chunk.own tInt fv_4 (some ⟨b16_6, 0, .none⟩) x16_6.length x16_5.toNat v_4]
      refine WC.seq (WC.sr ?_)
      refine mv ?_
      refine sp (OpV.fieldAddr rfl fo_107_0) ?_
      refine sp (OpV.loadBox rfl pt_3 mq0 rfl) ?_
      refine sp (OpV.lss rfl rfl) ?_
      refine WL.nil (En.next ?_)
      refine WC.cond rfl ?_ ?_
      ·
       intro hc_7
       replace zh4 := ifO_t hc_7 zh4
       refine WC.skip (En.next (WC.seq (WC.block ?_)))
       refine WC.inh fun hin23 => ?_
       obtain ⟨x23_8, e23_8, zh4⟩ := bnd zh4
       obtain ⟨x23_17, e23_17, zh4⟩ := bnd zh4
       obtain ⟨g23_17, o23_17, _, ha23_17, rfl, hd23_17⟩ := Rd.atIdx r0_0 e23_17
       replace hd23_17 : ∀ (j : Nat) v, ([.int .i64 x23_17] : List Value)[j]? = some v → w.cell? ⟨g23_17, o23_17 + (wr ((wr (v1_3 * a_p0.W)) + v1_4)).toNat * 1 + j, .none⟩ = some v := hd23_17
       have hn23_19 := ownLen hin23 mq1
       obtain ⟨x23_20, e23_20, zh4⟩ := bnd zh4
       obtain ⟨g23_19, o23_19, ha23_19⟩ := ownAddrU hin23 mq1 e23_20
       refine WC.wkF (fun _ h => h.pm 1) ?_
       refine WC.drawnH [_] ([_]) (fun _ h => h) (by kernel_rfl) ?_
       refine tk 0 rfl (OpV.move rfl) ?_
       refine tk 1 rfl (OpV.fieldAddr rfl fo_107_0) ?_
       refine tk 2 rfl (OpV.loadBox rfl pt_3 mq0 rfl) ?_
       refine tk 3 rfl (OpV.fieldAddr rfl fo_107_1) ?_
       refine tk 4 rfl (OpV.loadBox rfl pt_3 mq0 rfl) ?_
       refine tk 5 rfl (OpV.move rfl) ?_
       refine tk 6 rfl (OpV.move rfl) ?_
       refine tk 7 rfl (OpV.move rfl) ?_
       refine tk 8 rfl (OpV.call (ec rfl (ec rfl (ec rfl (ec rfl (ec rfl e0))))) ca_135 (fun w hs => w_spec_WordPlace e23_8)) ?_
       refine tk 9 rfl (OpV.fieldAddr rfl fo_107_2) ?_
       refine tk 10 rfl (OpV.loadBox rfl pt_23 mq0 rfl) ?_
       refine tk 11 rfl (OpV.move rfl) ?_
       refine tk 12 rfl (OpV.fieldAddr rfl fo_107_0) ?_
       refine tk 13 rfl (OpV.loadBox rfl pt_3 mq0 rfl) ?_
       refine tk 14 rfl (OpV.mulR rfl rfl) ?_
       refine tk 15 rfl (OpV.move rfl) ?_
       refine tk 16 rfl (OpV.addR rfl rfl) ?_
       refine tk 17 rfl (OpV.idxA rfl rfl se_23 ha23_17 ⟨(idx_some e23_17).1, (idx_some e23_17).2.1⟩) ?_
       refine tk 18 rfl (OpV.load1 rfl pt_3 (fun w hs => hs.cell (hd23_17 0 _ rfl))) ?_
       refine tk 19 rfl (OpV.idxA rfl rfl se_23 ha23_19 ⟨(upd_some e23_20).1.1, by rw [hn23_19]; exact (upd_some e23_20).1.2⟩) ?_
       refine al0 20 rfl ?_
       refine OpH.wkF (fun _ h => St.elFlat tInt_flat x23_17 h) ?_
       refine OpH.setEl (A := tInt) ha23_19 rfl rfl rfl ts_3 e23_20 ?_
       intro f23_20
       refine ⟨[_], rfl, ?_⟩
       refine WAE.rebase (H := []) ?_
       refine WAE.done (by kernel_rfl) ?_ _
       refine En.block_norm (En.next (WC.region ?_))
       refine mv ?_
       refine sp (OpV.addR rfl rfl) ?_
       refine ag ?_
       refine WL.nil ?_
       exact En.backP zb4 zh4 f23_20 (sc (sc (sc (sc (sc sn))))) (fun _ h => (h).pm 1)
      ·
       intro hc_7
       replace zh4 := ifO_f hc_7 zh4
       refine WC.exit (En.then_exit (En.then_exit ?_))
       have hx := exitP ze4 zh4
       exact En.wk _ _ (sc (sc (sc (sc sn)))) (fun _ h => h) (zK4_0 (v_4, fv_4) hx.symm)
    ·
     intro hc_6
     replace zh3 := ifO_f hc_6 zh3
     refine WC.exit (En.then_exit (En.then_exit ?_))
     have hx := exitP ze3 zh3
     exact En.wk _ _ (sc sn) (fun _ h => ((h).pm 1).sub (.cons_cons _ (.cons _ (.slnil)))) (zK3_0 (v_3, fv_3) hx.symm)

theorem w_spec_l05Ints {a_p0 : List Int} {b_p1 : List Int} {r : Bool} {q0_0 : Option Addr} {l0_0 k0_0 : Nat} {q1_0 : Option Addr} {l1_0 k1_0 : Nat} (h : spec_l05Ints a_p0 b_p1 = some r) {w : World} (r0_0 : Rd tInt w q0_0 l0_0 k0_0 a_p0) (r1_0 : Rd tInt w q1_0 l1_0 k1_0 b_p1)   :
    Calls Tryz.prog 123 #[.slice q0_0 l0_0 k0_0, .slice q1_0 l1_0 k1_0] w (fun en w' => en = .returned (.bool r) ∧ Ext w w') := by
 obtain rfl := r0_0.1
 obtain rfl := r1_0.1
 unfold spec_l05Ints at h
 refine enter (vs := [_, _]) Tryz.func123 rfl rfl rfl rfl ?_
 refine WC.sr ?_
 refine ag ?_
 refine WL.nil (En.next (WC.seq (WC.sr ?_)))
 refine mv ?_
 refine sp (OpV.len rfl si_23 rfl) ?_
 refine mv ?_
 refine sp (OpV.len rfl si_23 rfl) ?_
 refine sp (OpV.neq rfl rfl) ?_
 refine WL.nil (En.next ?_)
 refine WC.cond rfl ?_ ?_
 ·
  intro hc_1
  replace h := ifO_t hc_1 h
  refine WC.sr ?_
  refine ag ?_
  refine WL.nil (En.next (WC.ret (En.then_ret ?_)))
  refine En.ret1 rfl (Res.tmp rfl) ?_
  obtain rfl := Option.some.inj h
  intro w' hs
  exact ⟨rfl, hs.below⟩
 ·
  intro hc_1
  replace h := ifO_f hc_1 h
  refine WC.skip (En.next (WC.seq (WC.sr ?_)))
  refine ag ?_
  refine WL.nil (En.next (WC.block ?_))
  obtain ⟨zy0, ezy0, h⟩ := bnd h
  refine WC.cut (X := (Unit) × (Unit)) (.exit 0) (fun x => zy0 = .inl x.1) (fun x => match x with | ((), ()) => []) (fun x => match x with | ((), ()) => []) ?_ ?_
  ·
   rintro ⟨⟨⟩, ⟨⟩⟩ hx
   replace hx : .inl () = zy0 := hx.symm
   subst hx
   replace h := fork_l h
   show En _ _ _ _ [] []
   refine En.block_exit (En.next (WC.sr ?_))
   refine ag ?_
   refine WL.nil (En.next (WC.ret ?_))
   refine En.ret1 rfl (Res.tmp rfl) ?_
   obtain rfl := Option.some.inj h
   intro w' hs
   exact ⟨rfl, hs.below⟩
  ·
   intro zK0_0
   refine WC.loopP (G := Unit) (fun s g => match s, g with | k_0, () => [(0, .slice q0_0 a_p0.length k0_0), (1, .slice q1_0 b_p1.length k1_0), (5, .int .i64 k_0)]) (fun s g => match s, g with | k_0, () => []) 0 () ezy0 (by exact sc (sc (sc sn))) (by exact (fun _ h => h)) ?_
   rintro zm0 k_0 ⟨⟩ zo0 zf0 zb0 ze0
   have zh0 : spec_l05Ints_L0 a_p0 b_p1 k_0 = some zo0 := zf0
   unfold spec_l05Ints_L0 at zh0
   show WC _ _ _ _ _ [(0, .slice q0_0 a_p0.length k0_0), (1, .slice q1_0 b_p1.length k1_0), (5, .int .i64 k_0)] []
   refine WC.seq (WC.sr ?_)
   refine mv ?_
   refine mv ?_
   refine sp (OpV.len rfl si_23 rfl) ?_
   refine sp (OpV.lss rfl rfl) ?_
   refine WL.nil (En.next ?_)
   refine WC.cond rfl ?_ ?_
   ·
    intro hc_2
    replace zh0 := ifO_t hc_2 zh0
    refine WC.skip (En.next (WC.seq (WC.block (WC.seq ?_))))
    obtain ⟨x6_2, e6_2, zh0⟩ := bnd zh0
    obtain ⟨g6_2, o6_2, _, ha6_2, rfl, hd6_2⟩ := Rd.atIdx r0_0 e6_2
    replace hd6_2 : ∀ (j : Nat) v, ([.int .i64 x6_2] : List Value)[j]? = some v → w.cell? ⟨g6_2, o6_2 + k_0.toNat * 1 + j, .none⟩ = some v := hd6_2
    obtain ⟨x6_6, e6_6, zh0⟩ := bnd zh0
    obtain ⟨g6_6, o6_6, _, ha6_6, rfl, hd6_6⟩ := Rd.atIdx r1_0 e6_6
    replace hd6_6 : ∀ (j : Nat) v, ([.int .i64 x6_6] : List Value)[j]? = some v → w.cell? ⟨g6_6, o6_6 + k_0.toNat * 1 + j, .none⟩ = some v := hd6_6
    refine WC.drawn [(0, ?r6q3v0), (1, ?r6q3v1), (5, ?r6q3v5), (25, ?r6q3v25)] (by kernel_rfl) (by kernel_rfl) ?dH6q3 ?dK6q3
    case dH6q3 =>
     intro W hW hk
     refine hW.mv ?_
     refine hW.mv ?_
     refine hW.sp (OpV.idxA rfl rfl se_23 ha6_2 ⟨(idx_some e6_2).1, (idx_some e6_2).2.1⟩) ?_
     refine hW.sp (OpV.load1 rfl pt_3 (fun w hs => hs.cell (hd6_2 0 _ rfl))) ?_
     refine hW.mv ?_
     refine hW.mv ?_
     refine hW.sp (OpV.idxA rfl rfl se_23 ha6_6 ⟨(idx_some e6_6).1, (idx_some e6_6).2.1⟩) ?_
     refine hW.sp (OpV.load1 rfl pt_3 (fun w hs => hs.cell (hd6_6 0 _ rfl))) ?_
     refine hW.sp (OpV.neq rfl rfl) ?_
     refine hk _ ?_
     refine Sub.cons ?_ (Sub.cons ?_ (Sub.cons ?_ (Sub.cons ?_ sn)))
     all_goals exact rfl
    refine En.next ?_
    refine WC.cond rfl ?_ ?_
    ·
     intro hc_3
     replace zh0 := ifO_t hc_3 zh0
     refine WC.sr ?_
     refine ag ?_
     refine WL.nil (En.next (WC.ret (En.block_ret (En.then_ret (En.then_ret (En.block_ret (En.then_ret ?_)))))))
     refine En.ret1 rfl (Res.tmp rfl) ?_
     have hx := exitP ze0 zh0
     subst hx
     replace h := fork_r h
     obtain rfl := Option.some.inj h
     intro w' hs
     exact ⟨rfl, hs.below⟩
    ·
     intro hc_3
     replace zh0 := ifO_f hc_3 zh0
     refine WC.skip (En.block_norm (En.next (WC.region ?_)))
     refine mv ?_
     refine sp (OpV.addR rfl rfl) ?_
     refine ag ?_
     refine WL.nil ?_
     exact En.backP zb0 zh0 () (sc (sc (sc sn))) (fun _ h => h)
   ·
    intro hc_2
    replace zh0 := ifO_f hc_2 zh0
    refine WC.exit (En.then_exit (En.then_exit ?_))
    have hx := exitP ze0 zh0
    exact En.wk _ _ sn (fun _ h => h) (zK0_0 ((), ()) hx.symm)

theorem w_spec_LoadImage {a_p0 : List Int} {a_p1 : Int} {a_p2 : Int} {a_p3 : Int} {r : ImageT × Bool} {q0_0 : Option Addr} {l0_0 k0_0 : Nat} (h : spec_LoadImage a_p0 a_p1 a_p2 a_p3 = some r) {w : World} (r0_0 : Rd tInt w q0_0 l0_0 k0_0 a_p0)   :
    Calls Tryz.prog 154 #[.slice q0_0 l0_0 k0_0, .int .i64 a_p1, .int .i64 a_p2, .int .i64 a_p3] w (fun en w' => ∃ rv G, en = .returned rv ∧ (∃ (a0_0 : Option Addr) (n0_0 : Nat) (c0_0 : Nat) (f0_0 : List Nat), rv = .tuple #[.agg #[.int .i64 r.1.W, .int .i64 r.1.H, .slice a0_0 n0_0 c0_0], .bool r.2] ∧ G = [Chunk.own tInt f0_0 a0_0 n0_0 c0_0 r.1.Data]) ∧ St w G w') := by
 obtain rfl := r0_0.1
 unfold spec_LoadImage at h
 refine enter (vs := [_, _, _, _]) Tryz.func154 rfl rfl rfl rfl ?_
 refine WC.sr ?_
 refine WL.heavy rfl rfl rfl (OpH.alloc zc_107 ?_)
 intro b0_0
 refine ag ?_
 refine WL.nil (En.next (WC.seq (WC.seq ?_)))
 obtain ⟨x1_1, e1_1, h⟩ := bnd h
 obtain ⟨q1_7, e1_7, h⟩ := bnd h
 refine WC.region ?_
 refine mv ?_
 refine sp (OpV.call (ec rfl (ec rfl (ec rfl e0))) ca_64 (fun w hs => w_spec_l01In e1_1)) ?_
 refine sp (OpV.not rfl) ?_
 refine mv ?_
 refine Lt.ofWL.orQ 18 22 21 (p := ?pz1) (rest := ?qz1) (B := q1_7) rfl (fun hz => orO_t e1_7 hz) ?Tz1 ?Fz1 ?az1 ?bz1 ?cz1 ?dz1 ?ez1
 case Tz1 =>
  intro hcz1 hkz1
  refine sk ?_
  refine sk ?_
  refine sk ?_
  refine hkz1 _ ?_
  repeat (first | exact Sub.refl _ | refine Sub.skip rfl ?_)
 case Fz1 =>
  intro hcz1 hkz1
  have hqz1 := orO_f e1_7 hcz1
  obtain ⟨x1_5, e1_5, hqz1⟩ := bnd hqz1
  obtain rfl := Option.some.inj hqz1
  refine mv ?_
  refine sp (OpV.call (ec rfl (ec rfl (ec rfl e0))) ca_64 (fun w hs => w_spec_l01In e1_5)) ?_
  refine sp (OpV.not rfl) ?_
  refine hkz1 _ ?_ ?_
  exact rfl
  repeat (first | exact Sub.refl _ | refine Sub.skip rfl ?_)
 case az1 => exact rfl
 case bz1 => exact rfl
 case cz1 => exact rfl
 case dz1 => exact rfl
 refine WL.nil (En.next ?_)
 refine WC.cond rfl ?_ ?_
 ·
  intro hc_1
  replace h := ifO_t hc_1 h
  refine WC.sr ?_
  refine sp (OpV.build (evps.nil) bd_107_) ?_
  refine WL.heavy0 rfl rfl (OpH.storeTo (A := []) [_, _, _] rfl rfl rfl ts_107 rfl rfl rfl ?_)
  refine ag ?_
  refine WL.nil (En.next (WC.ret (En.then_ret ?_)))
  refine En.ret2 rfl (Res.cell rfl mq0 ag_107) (Res.tmp rfl) ?_
  obtain rfl := Option.some.inj h
  intro w' hs
  have hs := ((hs).ownNil (A := tInt)).sub (.cons_cons _ (.cons _ (.slnil)))
  exact ⟨_, _, rfl, ⟨.none, 0, 0, [], rfl, rfl⟩, hs⟩
 ·
  intro hc_1
  replace h := ifO_f hc_1 h
  refine WC.skip (En.next (WC.sr ?_))
  refine mv ?_
  refine mv ?_
  refine sp (OpV.build (evps.cons rfl (evps.cons rfl (evps.nil))) (bd_107_0_1 _ _)) ?_
  refine WL.heavy rfl rfl rfl (OpH.alloc zc_107 ?_)
  intro b3_3
  refine WL.heavy0 rfl rfl (OpH.storeTo (A := []) [_, _, _] rfl rfl rfl ts_107 rfl rfl rfl ?_)
  refine WL.nil (En.next (WC.seq ?_))
  obtain ⟨zy0, ej0, h⟩ := bnd h
  refine WC.cut (X := ((List Int)) × ((Option Addr) × Nat × Nat × (List Nat))) .normal (fun x => zy0 = x.1) (fun x => match x with | (x_0j, (ax_0j, nx_0j, cx_0j, fx_0j)) => [(0, .slice q0_0 a_p0.length k0_0), (3, .int .i64 a_p3), (8, .pointer (some ⟨b0_0, 0, .none⟩)), (10, .pointer (some ⟨b3_3, 0, .none⟩))]) (fun x => match x with | (x_0j, (ax_0j, nx_0j, cx_0j, fx_0j)) => [Chunk.box b0_0 107 [.int .i64 0, .int .i64 0, .slice .none 0 0], Chunk.box b3_3 107 [.int .i64 a_p1, .int .i64 a_p2, .slice ax_0j nx_0j cx_0j], Chunk.own tInt fx_0j ax_0j nx_0j cx_0j x_0j]) ?_ ?_
  ·
   rintro ⟨x_0j, ⟨ax_0j, nx_0j, cx_0j, fx_0j⟩⟩ hx
   replace hx : x_0j = zy0 := hx.symm
   subst hx
   show En _ _ _ _ [(0, .slice q0_0 a_p0.length k0_0), (3, .int .i64 a_p3), (8, .pointer (some ⟨b0_0, 0, .none⟩)), (10, .pointer (some ⟨b3_3, 0, .none⟩))] [Chunk.box b0_0 107 [.int .i64 0, .int .i64 0, .slice .none 0 0], Chunk.box b3_3 107 [.int .i64 a_p1, .int .i64 a_p2, .slice ax_0j nx_0j cx_0j], Chunk.own tInt fx_0j ax_0j nx_0j cx_0j x_0j]
   refine En.next (WC.seq ?_)
   obtain ⟨⟨x14_2a, x14_2b⟩, e14_2, h⟩ := bnd h
   refine WC.region ?_
   refine sp (OpV.loadAll rfl mq1 ag_107) ?_
   refine mv ?_
   refine WL.heavy rfl rfl rfl (OpH.callR (ec rfl (ec rfl e0)) ca_117 (fun w hs => w_spec_StoreImage e14_2 (Ow.rd (hs.mem mq2))) ?_)
   rintro _ _ ⟨a14_200, n14_200, c14_200, f14_200, rfl, rfl⟩
   refine mv ?_
   refine sp (OpV.extract rfl rfl) ?_
   refine sp (OpV.extract rfl rfl) ?_
   refine ag ?_
   refine ag ?_
   refine WL.nil (En.next (WC.seq (WC.seq ?_)))
   obtain ⟨q15_7, e15_7, h⟩ := bnd h
   refine WC.region ?_
   refine mv ?_
   refine sp (OpV.not rfl) ?_
   refine mv ?_
   refine Lt.ofWL.orQ 76 81 80 (p := ?pz2) (rest := ?qz2) (B := q15_7) rfl (fun hz => orO_t e15_7 hz) ?Tz2 ?Fz2 ?az2 ?bz2 ?cz2 ?dz2 ?ez2
   case Tz2 =>
    intro hcz2 hkz2
    refine sk ?_
    refine sk ?_
    refine sk ?_
    refine sk ?_
    refine hkz2 _ ?_
    repeat (first | exact Sub.refl _ | refine Sub.skip rfl ?_)
   case Fz2 =>
    intro hcz2 hkz2
    have hqz2 := orO_f e15_7 hcz2
    obtain ⟨x15_5, e15_5, hqz2⟩ := bnd hqz2
    obtain rfl := Option.some.inj hqz2
    refine mv ?_
    refine mv ?_
    refine sp (OpV.call (ec rfl (ec rfl e0)) ca_123 (fun w hs => w_spec_l05Ints e15_5 (Ow.rd (hs.mem mq0)) (r0_0.ext hs.below))) ?_
    refine sp (OpV.not rfl) ?_
    refine hkz2 _ ?_ ?_
    exact rfl
    repeat (first | exact Sub.refl _ | refine Sub.skip rfl ?_)
   case az2 => exact rfl
   case bz2 => exact rfl
   case cz2 => exact rfl
   case dz2 => exact rfl
   refine WL.nil (En.next ?_)
   refine WC.cond rfl ?_ ?_
   ·
    intro hc_2
    replace h := ifO_t hc_2 h
    refine WC.sr ?_
    refine sp (OpV.build (evps.nil) bd_107_) ?_
    refine WL.heavy0 rfl rfl (OpH.storeTo (A := [_]) [_, _, _] rfl rfl rfl ts_107 rfl rfl rfl ?_)
    refine ag ?_
    refine WL.nil (En.next (WC.ret (En.then_ret ?_)))
    refine En.ret2 rfl (Res.cell rfl mq1 ag_107) (Res.tmp rfl) ?_
    obtain rfl := Option.some.inj h
    intro w' hs
    have hs := ((hs).ownNil (A := tInt)).sub (.cons_cons _ (.cons _ (.cons _ (.cons _ (.cons _ (.slnil))))))
    exact ⟨_, _, rfl, ⟨.none, 0, 0, [], rfl, rfl⟩, hs⟩
   ·
    intro hc_2
    replace h := ifO_f hc_2 h
    refine WC.skip (En.next (WC.sr ?_))
    refine sp (OpV.loadAll rfl mq2 ag_107) ?_
    refine WL.heavy0 rfl rfl (OpH.storeTo (A := [_]) [_, _, _] rfl rfl rfl ts_107 rfl rfl rfl ?_)
    refine ag ?_
    refine WL.nil (En.next (WC.ret ?_))
    refine En.ret2 rfl (Res.cell rfl mq1 ag_107) (Res.tmp rfl) ?_
    obtain rfl := Option.some.inj h
    intro w' hs
    have hs := ((hs).pm 3).sub (.cons_cons _ (.cons _ (.cons _ (.cons _ (.slnil)))))
    exact ⟨_, _, rfl, ⟨ax_0j, nx_0j, cx_0j, fx_0j, rfl, rfl⟩, hs⟩
  ·
   intro zK0
   refine WC.block (WC.sr ?_)
   refine mv ?_
   refine sp (OpV.eql rfl rfl) ?_
   refine ag ?_
   refine WL.nil (En.next ?_)
   refine WC.cond rfl ?_ ?_
   ·
    intro hc_3
    replace ej0 := ifO_t hc_3 ej0
    obtain ⟨x5_4, e5_4, ej0⟩ := bnd ej0
    refine WC.region ?_
    refine mv ?_
    refine mv ?_
    refine mv ?_
    refine sp (OpV.mulR rfl rfl) ?_
    refine WL.heavy rfl rfl rfl (OpH.callR (ec rfl (ec rfl e0)) ca_166 (fun w hs => w_spec_l15Expand e5_4 (r0_0.ext hs.below)) ?_)
    rintro _ _ ⟨a5_400, n5_400, c5_400, f5_400, rfl, rfl⟩
    refine sp (OpV.fieldAddr rfl fo_107_2) ?_
    refine WL.heavy0 rfl rfl (OpH.storeTo (A := [_]) [_, _, _] rfl rfl rfl ts_23 rfl rfl rfl ?_)
    refine WL.nil (En.block_norm ?_)
    exact En.wk _ _ (sc (sc (sc (sc sn)))) (fun _ h => ((h).pm 1).pm 2) (zK0 (x5_4, (a5_400, n5_400, c5_400, f5_400)) (Option.some.inj ej0).symm)
   ·
    intro hc_3
    replace ej0 := ifO_f hc_3 ej0
    refine WC.seq ?_
    obtain ⟨x6_3, e6_3, ej0⟩ := bnd ej0
    refine WC.region ?_
    refine mv ?_
    refine mv ?_
    refine mv ?_
    refine sp (OpV.call (ec rfl (ec rfl (ec rfl e0))) ca_134 (fun w hs => w_spec_WordCount e6_3)) ?_
    refine mv ?_
    refine sp (OpV.len rfl si_23 rfl) ?_
    refine sp (OpV.eql rfl rfl) ?_
    refine ag ?_
    refine WL.nil (En.next ?_)
    refine WC.cond rfl ?_ ?_
    ·
     intro hc_4
     replace ej0 := ifO_t hc_4 ej0
     refine WC.sr ?_
     refine ag ?_
     refine WL.nil (En.next (WC.block ?_))
     obtain ⟨zy1, ezy1, ej0⟩ := bnd ej0
     refine WC.cut (X := ((List Int)) × ((Option Addr) × Nat × Nat × (List Nat))) (.exit 1) (fun x => zy1 = x.1) (fun x => match x with | (x_1e, (ax_1e, nx_1e, cx_1e, fx_1e)) => [(0, .slice q0_0 a_p0.length k0_0), (3, .int .i64 a_p3), (8, .pointer (some ⟨b0_0, 0, .none⟩)), (10, .pointer (some ⟨b3_3, 0, .none⟩))]) (fun x => match x with | (x_1e, (ax_1e, nx_1e, cx_1e, fx_1e)) => [Chunk.box b0_0 107 [.int .i64 0, .int .i64 0, .slice .none 0 0], Chunk.box b3_3 107 [.int .i64 a_p1, .int .i64 a_p2, .slice ax_1e nx_1e cx_1e], Chunk.own tInt fx_1e ax_1e nx_1e cx_1e x_1e]) ?_ ?_
     ·
      rintro ⟨x_1e, ⟨ax_1e, nx_1e, cx_1e, fx_1e⟩⟩ hx
      replace hx : x_1e = zy1 := hx.symm
      subst hx
      show En _ _ _ _ [(0, .slice q0_0 a_p0.length k0_0), (3, .int .i64 a_p3), (8, .pointer (some ⟨b0_0, 0, .none⟩)), (10, .pointer (some ⟨b3_3, 0, .none⟩))] [Chunk.box b0_0 107 [.int .i64 0, .int .i64 0, .slice .none 0 0], Chunk.box b3_3 107 [.int .i64 a_p1, .int .i64 a_p2, .slice ax_1e nx_1e cx_1e], Chunk.own tInt fx_1e ax_1e nx_1e cx_1e x_1e]
      refine En.block_exit (En.block_norm ?_)
      exact En.wk _ _ (sc (sc (sc (sc sn)))) (fun _ h => h) (zK0 (x_1e, (ax_1e, nx_1e, cx_1e, fx_1e)) (Option.some.inj ej0).symm)
     ·
      intro zK1_0
      refine WC.loopP (G := (Option Addr) × Nat × Nat × (List Nat)) (fun s g => match s, g with | (x_1, v_1), (ax_1, nx_1, cx_1, fx_1) => [(0, .slice q0_0 a_p0.length k0_0), (1, .int .i64 a_p1), (2, .int .i64 a_p2), (3, .int .i64 a_p3), (8, .pointer (some ⟨b0_0, 0, .none⟩)), (10, .pointer (some ⟨b3_3, 0, .none⟩)), (11, .int .i64 v_1)]) (fun s g => match s, g with | (x_1, v_1), (ax_1, nx_1, cx_1, fx_1) => [Chunk.box b0_0 107 [.int .i64 0, .int .i64 0, .slice .none 0 0], Chunk.box b3_3 107 [.int .i64 a_p1, .int .i64 a_p2, .slice ax_1 nx_1 cx_1], Chunk.own tInt fx_1 ax_1 nx_1 cx_1 x_1]) ([], 0) (.none, 0, 0, []) ezy1 (by exact sc (sc (sc (sc (sc (sc (sc sn))))))) (by exact (fun _ h => (((h).ownNil (A := tInt)).pm 1).pm 2)) ?_
      rintro zm1 ⟨x_1, v_1⟩ ⟨ax_1, nx_1, cx_1, fx_1⟩ zo1 zf1 zb1 ze1
      have zh1 : spec_LoadImage_L1 a_p0 a_p1 a_p2 a_p3 x_1 v_1 = some zo1 := zf1
      unfold spec_LoadImage_L1 at zh1
      show WC _ _ _ _ _ [(0, .slice q0_0 a_p0.length k0_0), (1, .int .i64 a_p1), (2, .int .i64 a_p2), (3, .int .i64 a_p3), (8, .pointer (some ⟨b0_0, 0, .none⟩)), (10, .pointer (some ⟨b3_3, 0, .none⟩)), (11, .int .i64 v_1)] [Chunk.box b0_0 107 [.int .i64 0, .int .i64 0, .slice .none 0 0], Chunk.box b3_3 107 [.int .i64 a_p1, .int .i64 a_p2, .slice ax_1 nx_1 cx_1], Chunk.own tInt fx_1 ax_1 nx_1 cx_1 x_1]
      refine WC.seq (WC.sr ?_)
      refine mv ?_
      refine mv ?_
      refine sp (OpV.lss rfl rfl) ?_
      refine WL.nil (En.next ?_)
      refine WC.cond rfl ?_ ?_
      ·
       intro hc_5
       replace zh1 := ifO_t hc_5 zh1
       refine WC.skip (En.next (WC.seq (WC.block (WC.sr ?_))))
       refine ag ?_
       refine WL.nil (En.next (WC.block ?_))
       obtain ⟨zy2, ezy2, zh1⟩ := bnd zh1
       refine WC.cut (X := ((List Int)) × ((Option Addr) × Nat × Nat × (List Nat))) (.exit 3) (fun x => zy2 = x.1) (fun x => match x with | (x_2e, (ax_2e, nx_2e, cx_2e, fx_2e)) => [(0, .slice q0_0 a_p0.length k0_0), (1, .int .i64 a_p1), (2, .int .i64 a_p2), (3, .int .i64 a_p3), (8, .pointer (some ⟨b0_0, 0, .none⟩)), (10, .pointer (some ⟨b3_3, 0, .none⟩)), (11, .int .i64 v_1)]) (fun x => match x with | (x_2e, (ax_2e, nx_2e, cx_2e, fx_2e)) => [Chunk.box b0_0 107 [.int .i64 0, .int .i64 0, .slice .none 0 0], Chunk.box b3_3 107 [.int .i64 a_p1, .int .i64 a_p2, .slice ax_2e nx_2e cx_2e], Chunk.own tInt fx_2e ax_2e nx_2e cx_2e x_2e]) ?_ ?_
       ·
        rintro ⟨x_2e, ⟨ax_2e, nx_2e, cx_2e, fx_2e⟩⟩ hx
        replace hx : x_2e = zy2 := hx.symm
        subst hx
        show En _ _ _ _ [(0, .slice q0_0 a_p0.length k0_0), (1, .int .i64 a_p1), (2, .int .i64 a_p2), (3, .int .i64 a_p3), (8, .pointer (some ⟨b0_0, 0, .none⟩)), (10, .pointer (some ⟨b3_3, 0, .none⟩)), (11, .int .i64 v_1)] [Chunk.box b0_0 107 [.int .i64 0, .int .i64 0, .slice .none 0 0], Chunk.box b3_3 107 [.int .i64 a_p1, .int .i64 a_p2, .slice ax_2e nx_2e cx_2e], Chunk.own tInt fx_2e ax_2e nx_2e cx_2e x_2e]
        refine En.block_exit (En.block_norm (En.next (WC.region ?_)))
        refine mv ?_
        refine sp (OpV.addR rfl rfl) ?_
        refine ag ?_
        refine WL.nil ?_
        exact En.backP zb1 zh1 (ax_2e, nx_2e, cx_2e, fx_2e) (sc (sc (sc (sc (sc (sc (sc sn))))))) (fun _ h => h)
       ·
        intro zK2_0
        refine WC.loopP (G := (Option Addr) × Nat × Nat × (List Nat)) (fun s g => match s, g with | (x_2, v_2), (ax_2, nx_2, cx_2, fx_2) => [(0, .slice q0_0 a_p0.length k0_0), (1, .int .i64 a_p1), (2, .int .i64 a_p2), (3, .int .i64 a_p3), (8, .pointer (some ⟨b0_0, 0, .none⟩)), (10, .pointer (some ⟨b3_3, 0, .none⟩)), (11, .int .i64 v_1), (12, .int .i64 v_2)]) (fun s g => match s, g with | (x_2, v_2), (ax_2, nx_2, cx_2, fx_2) => [Chunk.box b0_0 107 [.int .i64 0, .int .i64 0, .slice .none 0 0], Chunk.box b3_3 107 [.int .i64 a_p1, .int .i64 a_p2, .slice ax_2 nx_2 cx_2], Chunk.own tInt fx_2 ax_2 nx_2 cx_2 x_2]) (x_1, 0) (ax_1, nx_1, cx_1, fx_1) ezy2 (by exact sc (sc (sc (sc (sc (sc (sc (sc sn)))))))) (by exact (fun _ h => h)) ?_
        rintro zm2 ⟨x_2, v_2⟩ ⟨ax_2, nx_2, cx_2, fx_2⟩ zo2 zf2 zb2 ze2
        have zh2 : spec_LoadImage_L2 a_p0 a_p1 a_p2 a_p3 v_1 x_2 v_2 = some zo2 := zf2
        unfold spec_LoadImage_L2 at zh2
        show WC _ _ _ _ _ [(0, .slice q0_0 a_p0.length k0_0), (1, .int .i64 a_p1), (2, .int .i64 a_p2), (3, .int .i64 a_p3), (8, .pointer (some ⟨b0_0, 0, .none⟩)), (10, .pointer (some ⟨b3_3, 0, .none⟩)), (11, .int .i64 v_1), (12, .int .i64 v_2)] [Chunk.box b0_0 107 [.int .i64 0, .int .i64 0, .slice .none 0 0], Chunk.box b3_3 107 [.int .i64 a_p1, .int .i64 a_p2, .slice ax_2 nx_2 cx_2], Chunk.own tInt fx_2 ax_2 nx_2 cx_2 x_2]
        refine WC.seq (WC.sr ?_)
        refine mv ?_
        refine mv ?_
        refine sp (OpV.lss rfl rfl) ?_
        refine WL.nil (En.next ?_)
        refine WC.cond rfl ?_ ?_
        ·
         intro hc_6
         replace zh2 := ifO_t hc_6 zh2
         refine WC.skip (En.next (WC.seq (WC.block ?_)))
         obtain ⟨x13_8, e13_8, zh2⟩ := bnd zh2
         obtain ⟨x13_9, e13_9, zh2⟩ := bnd zh2
         obtain ⟨g13_9, o13_9, _, ha13_9, rfl, hd13_9⟩ := Rd.atIdx r0_0 e13_9
         replace hd13_9 : ∀ (j : Nat) v, ([.int .i64 x13_9] : List Value)[j]? = some v → w.cell? ⟨g13_9, o13_9 + x13_8.toNat * 1 + j, .none⟩ = some v := hd13_9
         obtain ⟨x13_12, e13_12, zh2⟩ := bnd zh2
         refine WC.wkF (fun _ h => h.pm 2) ?_
         refine WC.wkF (fun _ h => h.pm 2) ?_
         refine WC.drawnH [_, _] ([_]) (fun _ h => h) (by kernel_rfl) ?_
         refine tk 0 rfl (OpV.fieldAddr rfl fo_107_2) ?_
         refine tk 2 rfl (OpV.move rfl) ?_
         refine tk 3 rfl (OpV.move rfl) ?_
         refine tk 4 rfl (OpV.move rfl) ?_
         refine tk 5 rfl (OpV.move rfl) ?_
         refine tk 6 rfl (OpV.move rfl) ?_
         refine tk 7 rfl (OpV.move rfl) ?_
         refine tk 8 rfl (OpV.call (ec rfl (ec rfl (ec rfl (ec rfl (ec rfl e0))))) ca_135 (fun w hs => w_spec_WordPlace e13_8)) ?_
         refine tk 9 rfl (OpV.idxA rfl rfl se_23 ha13_9 ⟨(idx_some e13_9).1, (idx_some e13_9).2.1⟩) ?_
         refine tk 10 rfl (OpV.load1 rfl pt_3 (fun w hs => hs.cell (hd13_9 0 _ rfl))) ?_
         refine WAE.all (rs := [1, 11]) (by kernel_rfl) rfl (AllR.cons rfl rfl rfl rfl ?_ (AllR.cons rfl rfl rfl rfl ?_ AllR.nil))
         ·
          refine OpH.light (OpV.loadBox rfl pt_23 mq0 rfl) ?_
          refine ⟨[_, _], rfl, ?_⟩
          refine al1 11 rfl ?_
          refine OpH.litF (A := tInt) (xs := [x13_9]) tInt_flat (evps.cons rfl (evps.nil)) (bs_23_1_0 _) rfl rfl (Nat.le_of_ble_eq_true rfl) ?_
          intro b13_11
          refine ⟨[_, _, _], rfl, ?_⟩
          refine al1 12 rfl ?_
          refine OpH.appS (F := [_, _]) (A := tInt) tInt_flat rfl rfl rfl mi_23 rfl (by decide) (fun w hs => (Ow.rd (hs.mem mq0))) e13_12 ?_
          intro f13_12 a13_12 c13_12
          refine ⟨[_, _, _], rfl, ?_⟩
          refine tk 13 rfl (OpV.fieldAddr rfl fo_107_2) ?_
          refine al0 14 rfl ?_
          refine OpH.storeTo (A := [_]) [_, _, _] rfl rfl rfl ts_23 rfl rfl rfl ?_
          refine ⟨[_, _, _], rfl, ?_⟩
          refine WAE.rebase (H := []) ?_
          refine WAE.done (by kernel_rfl) ?_ _
          refine En.block_norm (En.next (WC.region ?_))
          refine mv ?_
          refine sp (OpV.addR rfl rfl) ?_
          refine ag ?_
          refine WL.nil ?_
          exact En.backP zb2 zh2 (a13_12, x13_12.length, c13_12, f13_12) (sc (sc (sc (sc (sc (sc (sc (sc sn)))))))) (fun _ h => ((((h).pm 2).pm 2).pm 3).sub (.cons_cons _ (.cons_cons _ (.cons_cons _ (.cons _ (.slnil))))))
         ·
          refine OpH.litF (A := tInt) (xs := [x13_9]) tInt_flat (evps.cons rfl (evps.nil)) (bs_23_1_0 _) rfl rfl (Nat.le_of_ble_eq_true rfl) ?_
          intro b13_11
          refine ⟨[_, _, _], rfl, ?_⟩
          refine al1 1 rfl ?_
          refine OpH.light (OpV.loadBox rfl pt_23 mq1 rfl) ?_
          refine ⟨[_, _, _], rfl, ?_⟩
          refine al1 12 rfl ?_
          refine OpH.appS (F := [_, _]) (A := tInt) tInt_flat rfl rfl rfl mi_23 rfl (by decide) (fun w hs => (Ow.rd (hs.mem mq0))) e13_12 ?_
          intro f13_12 a13_12 c13_12
          refine ⟨[_, _, _], rfl, ?_⟩
          refine tk 13 rfl (OpV.fieldAddr rfl fo_107_2) ?_
          refine al0 14 rfl ?_
          refine OpH.storeTo (A := [_]) [_, _, _] rfl rfl rfl ts_23 rfl rfl rfl ?_
          refine ⟨[_, _, _], rfl, ?_⟩
          refine WAE.rebase (H := []) ?_
          refine WAE.done (by kernel_rfl) ?_ _
          refine En.block_norm (En.next (WC.region ?_))
          refine mv ?_
          refine sp (OpV.addR rfl rfl) ?_
          refine ag ?_
          refine WL.nil ?_
          exact En.backP zb2 zh2 (a13_12, x13_12.length, c13_12, f13_12) (sc (sc (sc (sc (sc (sc (sc (sc sn)))))))) (fun _ h => ((((h).pm 2).pm 2).pm 3).sub (.cons_cons _ (.cons_cons _ (.cons_cons _ (.cons _ (.slnil))))))
        ·
         intro hc_6
         replace zh2 := ifO_f hc_6 zh2
         refine WC.exit (En.then_exit (En.then_exit ?_))
         have hx := exitP ze2 zh2
         exact En.wk _ _ (sc (sc (sc (sc (sc (sc (sc sn))))))) (fun _ h => h) (zK2_0 (x_2, (ax_2, nx_2, cx_2, fx_2)) hx.symm)
      ·
       intro hc_5
       replace zh1 := ifO_f hc_5 zh1
       refine WC.exit (En.then_exit (En.then_exit ?_))
       have hx := exitP ze1 zh1
       exact En.wk _ _ (sc (sc (sc (sc sn)))) (fun _ h => h) (zK1_0 (x_1, (ax_1, nx_1, cx_1, fx_1)) hx.symm)
    ·
     intro hc_4
     replace ej0 := ifO_f hc_4 ej0
     refine WC.skip (En.block_norm ?_)
     exact En.wk _ _ (sc (sc (sc (sc sn)))) (fun _ h => (((h).ownNil (A := tInt)).pm 1).pm 2) (zK0 ([], (.none, 0, 0, [])) (Option.some.inj ej0).symm)

theorem w_spec_l19Loaded {p_p0 : PlaneT} {r : ImageT × Bool} {q0_0 : Option Addr} {l0_0 k0_0 : Nat} (h : spec_l19Loaded p_p0 = some r) {w : World} (r0_0 : Rd tInt w q0_0 l0_0 k0_0 p_p0.Words)   :
    Calls Tryz.prog 137 #[.agg #[.bool p_p0.On, .int .i64 p_p0.X, .int .i64 p_p0.Y, .int .i64 p_p0.W, .int .i64 p_p0.H, .int .i64 p_p0.Layout, .slice q0_0 l0_0 k0_0, .int .i64 p_p0.Alpha, .int .i64 p_p0.Orient, .int .i64 p_p0.ToW, .int .i64 p_p0.ToH]] w (fun en w' => ∃ rv G, en = .returned rv ∧ (∃ (a0_0 : Option Addr) (n0_0 : Nat) (c0_0 : Nat) (f0_0 : List Nat), rv = .tuple #[.agg #[.int .i64 r.1.W, .int .i64 r.1.H, .slice a0_0 n0_0 c0_0], .bool r.2] ∧ G = [Chunk.own tInt f0_0 a0_0 n0_0 c0_0 r.1.Data]) ∧ St w G w') := by
 obtain rfl := r0_0.1
 unfold spec_l19Loaded at h
 refine enter (vs := [_]) Tryz.func137 rfl rfl rfl rfl ?_
 refine WC.sr ?_
 refine WL.heavy rfl rfl rfl (OpH.box rfl rfl ?_)
 intro b0_0
 refine WL.heavy rfl rfl rfl (OpH.alloc zc_107 ?_)
 intro b0_1
 refine ag ?_
 refine WL.nil (En.next (WC.seq (WC.sr ?_)))
 refine sp (OpV.fieldAddr rfl fo_61_0) ?_
 refine sp (OpV.loadBox rfl pt_4 mq1 rfl) ?_
 refine sp (OpV.not rfl) ?_
 refine WL.nil (En.next ?_)
 refine WC.cond rfl ?_ ?_
 ·
  intro hc_1
  replace h := ifO_t hc_1 h
  refine WC.sr ?_
  refine sp (OpV.build (evps.nil) bd_107_) ?_
  refine WL.heavy0 rfl rfl (OpH.storeTo (A := []) [_, _, _] rfl rfl rfl ts_107 rfl rfl rfl ?_)
  refine ag ?_
  refine WL.nil (En.next (WC.ret (En.then_ret ?_)))
  refine En.ret2 rfl (Res.cell rfl mq0 ag_107) (Res.tmp rfl) ?_
  obtain rfl := Option.some.inj h
  intro w' hs
  have hs := ((hs).ownNil (A := tInt)).sub (.cons_cons _ (.cons _ (.cons _ (.slnil))))
  exact ⟨_, _, rfl, ⟨.none, 0, 0, [], rfl, rfl⟩, hs⟩
 ·
  intro hc_1
  replace h := ifO_f hc_1 h
  refine WC.skip (En.next (WC.seq ?_))
  obtain ⟨⟨x3_8a, x3_8b⟩, e3_8, h⟩ := bnd h
  refine WC.region ?_
  refine sp (OpV.fieldAddr rfl fo_61_6) ?_
  refine sp (OpV.loadBox rfl pt_23 mq1 rfl) ?_
  refine sp (OpV.fieldAddr rfl fo_61_3) ?_
  refine sp (OpV.loadBox rfl pt_3 mq1 rfl) ?_
  refine sp (OpV.fieldAddr rfl fo_61_4) ?_
  refine sp (OpV.loadBox rfl pt_3 mq1 rfl) ?_
  refine sp (OpV.fieldAddr rfl fo_61_5) ?_
  refine sp (OpV.loadBox rfl pt_3 mq1 rfl) ?_
  refine WL.heavy rfl rfl rfl (OpH.callR (ec rfl (ec rfl (ec rfl (ec rfl e0)))) ca_154 (fun w hs => w_spec_LoadImage e3_8 (r0_0.ext hs.below)) ?_)
  rintro _ _ ⟨a3_800, n3_800, c3_800, f3_800, rfl, rfl⟩
  refine mv ?_
  refine sp (OpV.extract rfl rfl) ?_
  refine sp (OpV.extract rfl rfl) ?_
  refine WL.heavy rfl rfl rfl (OpH.alloc zc_107 ?_)
  intro b3_12
  refine WL.heavy0 rfl rfl (OpH.storeTo (A := []) [_, _, _] rfl rfl rfl ts_107 rfl rfl rfl ?_)
  refine ag ?_
  refine WL.nil (En.next (WC.sr ?_))
  refine sp (OpV.loadAll rfl mq0 ag_107) ?_
  refine mv ?_
  refine WL.heavy0 rfl rfl (OpH.storeTo (A := [_, _]) [_, _, _] rfl rfl rfl ts_107 rfl rfl rfl ?_)
  refine ag ?_
  refine WL.nil (En.next (WC.ret ?_))
  refine En.ret2 rfl (Res.cell rfl mq2 ag_107) (Res.tmp rfl) ?_
  obtain rfl := Option.some.inj h
  intro w' hs
  have hs := ((hs).pm 1).sub (.cons_cons _ (.cons _ (.cons _ (.cons _ (.slnil)))))
  exact ⟨_, _, rfl, ⟨a3_800, n3_800, c3_800, f3_800, rfl, rfl⟩, hs⟩

theorem w_spec_OrientSize {w_p0 : Int} {h_p1 : Int} {o_p2 : Int} {r : Int × Int}  (h : spec_OrientSize w_p0 h_p1 o_p2 = some r) {w : World}    :
    Calls Tryz.prog 155 #[.int .i64 w_p0, .int .i64 h_p1, .int .i64 o_p2] w (fun en w' => en = .returned (.tuple #[.int .i64 r.1, .int .i64 r.2]) ∧ Ext w w') := by
 unfold spec_OrientSize at h
 refine enter (vs := [_, _, _]) Tryz.func155 rfl rfl rfl rfl ?_
 refine WC.sr ?_
 refine ag ?_
 refine ag ?_
 refine WL.nil (En.next (WC.seq (WC.seq ?_)))
 obtain ⟨x1_1, e1_1, h⟩ := bnd h
 obtain ⟨q1_7, e1_7, h⟩ := bnd h
 obtain ⟨q1_12, e1_12, h⟩ := bnd h
 refine WC.region ?_
 refine mv ?_
 refine sp (OpV.call (ec rfl (ec rfl (ec rfl e0))) ca_64 (fun w hs => w_spec_l01In e1_1)) ?_
 refine sp (OpV.not rfl) ?_
 refine mv ?_
 refine Lt.ofWL.orQ 11 15 14 (p := ?pz1) (rest := ?qz1) (B := q1_7) rfl (fun hz => orO_t e1_7 hz) ?Tz1 ?Fz1 ?az1 ?bz1 ?cz1 ?dz1 ?ez1
 case Tz1 =>
  intro hcz1 hkz1
  refine sk ?_
  refine sk ?_
  refine sk ?_
  refine hkz1 _ ?_
  repeat (first | exact Sub.refl _ | refine Sub.skip rfl ?_)
 case Fz1 =>
  intro hcz1 hkz1
  have hqz1 := orO_f e1_7 hcz1
  obtain ⟨x1_5, e1_5, hqz1⟩ := bnd hqz1
  obtain rfl := Option.some.inj hqz1
  refine mv ?_
  refine sp (OpV.call (ec rfl (ec rfl (ec rfl e0))) ca_64 (fun w hs => w_spec_l01In e1_5)) ?_
  refine sp (OpV.not rfl) ?_
  refine hkz1 _ ?_ ?_
  exact rfl
  repeat (first | exact Sub.refl _ | refine Sub.skip rfl ?_)
 case az1 => exact rfl
 case bz1 => exact rfl
 case cz1 => exact rfl
 case dz1 => exact rfl
 refine mv ?_
 refine Lt.ofWL.orQ 16 20 19 (p := ?pz2) (rest := ?qz2) (B := q1_12) rfl (fun hz => orO_t e1_12 hz) ?Tz2 ?Fz2 ?az2 ?bz2 ?cz2 ?dz2 ?ez2
 case Tz2 =>
  intro hcz2 hkz2
  refine sk ?_
  refine sk ?_
  refine sk ?_
  refine hkz2 _ ?_
  repeat (first | exact Sub.refl _ | refine Sub.skip rfl ?_)
 case Fz2 =>
  intro hcz2 hkz2
  have hqz2 := orO_f e1_12 hcz2
  obtain ⟨x1_10, e1_10, hqz2⟩ := bnd hqz2
  obtain rfl := Option.some.inj hqz2
  refine mv ?_
  refine sp (OpV.call (ec rfl (ec rfl (ec rfl e0))) ca_64 (fun w hs => w_spec_l01In e1_10)) ?_
  refine sp (OpV.not rfl) ?_
  refine hkz2 _ ?_ ?_
  exact rfl
  repeat (first | exact Sub.refl _ | refine Sub.skip rfl ?_)
 case az2 => exact rfl
 case bz2 => exact rfl
 case cz2 => exact rfl
 case dz2 => exact rfl
 refine WL.nil (En.next ?_)
 refine WC.cond rfl ?_ ?_
 ·
  intro hc_1
  replace h := ifO_t hc_1 h
  refine WC.sr ?_
  refine ag ?_
  refine ag ?_
  refine WL.nil (En.next (WC.ret (En.then_ret ?_)))
  refine En.ret2 rfl (Res.tmp rfl) (Res.tmp rfl) ?_
  obtain rfl := Option.some.inj h
  intro w' hs
  exact ⟨rfl, hs.below⟩
 ·
  intro hc_1
  replace h := ifO_f hc_1 h
  refine WC.skip (En.next (WC.seq (WC.sr ?_)))
  refine mv ?_
  refine sp (OpV.remR rfl rfl rfl) ?_
  refine sp (OpV.eql rfl rfl) ?_
  refine WL.nil (En.next ?_)
  refine WC.cond rfl ?_ ?_
  ·
   intro hc_2
   replace h := ifO_t hc_2 h
   refine WC.sr ?_
   refine mv ?_
   refine mv ?_
   refine ag ?_
   refine ag ?_
   refine WL.nil (En.next (WC.ret (En.then_ret ?_)))
   refine En.ret2 rfl (Res.tmp rfl) (Res.tmp rfl) ?_
   obtain rfl := Option.some.inj h
   intro w' hs
   exact ⟨rfl, hs.below⟩
  ·
   intro hc_2
   replace h := ifO_f hc_2 h
   refine WC.skip (En.next (WC.sr ?_))
   refine mv ?_
   refine mv ?_
   refine ag ?_
   refine ag ?_
   refine WL.nil (En.next (WC.ret ?_))
   refine En.ret2 rfl (Res.tmp rfl) (Res.tmp rfl) ?_
   obtain rfl := Option.some.inj h
   intro w' hs
   exact ⟨rfl, hs.below⟩

theorem w_spec_OrientPoint {a_p0 : Int} {a_p1 : Int} {a_p2 : Int} {a_p3 : Int} {a_p4 : Int} {r : Int × Int}  (h : spec_OrientPoint a_p0 a_p1 a_p2 a_p3 a_p4 = some r) {w : World}    :
    Calls Tryz.prog 156 #[.int .i64 a_p0, .int .i64 a_p1, .int .i64 a_p2, .int .i64 a_p3, .int .i64 a_p4] w (fun en w' => en = .returned (.tuple #[.int .i64 r.1, .int .i64 r.2]) ∧ Ext w w') := by
 unfold spec_OrientPoint at h
 refine enter (vs := [_, _, _, _, _]) Tryz.func156 rfl rfl rfl rfl ?_
 refine WC.sr ?_
 refine ag ?_
 refine ag ?_
 refine WL.nil (En.next (WC.seq (WC.seq ?_)))
 obtain ⟨x1_1, e1_1, h⟩ := bnd h
 obtain ⟨q1_7, e1_7, h⟩ := bnd h
 obtain ⟨q1_12, e1_12, h⟩ := bnd h
 obtain ⟨q1_19, e1_19, h⟩ := bnd h
 obtain ⟨q1_26, e1_26, h⟩ := bnd h
 refine WC.region ?_
 refine mv ?_
 refine sp (OpV.call (ec rfl (ec rfl (ec rfl e0))) ca_64 (fun w hs => w_spec_l01In e1_1)) ?_
 refine sp (OpV.not rfl) ?_
 refine mv ?_
 refine Lt.ofWL.orQ 18 22 21 (p := ?pz1) (rest := ?qz1) (B := q1_7) rfl (fun hz => orO_t e1_7 hz) ?Tz1 ?Fz1 ?az1 ?bz1 ?cz1 ?dz1 ?ez1
 case Tz1 =>
  intro hcz1 hkz1
  refine sk ?_
  refine sk ?_
  refine sk ?_
  refine hkz1 _ ?_
  repeat (first | exact Sub.refl _ | refine Sub.skip rfl ?_)
 case Fz1 =>
  intro hcz1 hkz1
  have hqz1 := orO_f e1_7 hcz1
  obtain ⟨x1_5, e1_5, hqz1⟩ := bnd hqz1
  obtain rfl := Option.some.inj hqz1
  refine mv ?_
  refine sp (OpV.call (ec rfl (ec rfl (ec rfl e0))) ca_64 (fun w hs => w_spec_l01In e1_5)) ?_
  refine sp (OpV.not rfl) ?_
  refine hkz1 _ ?_ ?_
  exact rfl
  repeat (first | exact Sub.refl _ | refine Sub.skip rfl ?_)
 case az1 => exact rfl
 case bz1 => exact rfl
 case cz1 => exact rfl
 case dz1 => exact rfl
 refine mv ?_
 refine Lt.ofWL.orQ 23 27 26 (p := ?pz2) (rest := ?qz2) (B := q1_12) rfl (fun hz => orO_t e1_12 hz) ?Tz2 ?Fz2 ?az2 ?bz2 ?cz2 ?dz2 ?ez2
 case Tz2 =>
  intro hcz2 hkz2
  refine sk ?_
  refine sk ?_
  refine sk ?_
  refine hkz2 _ ?_
  repeat (first | exact Sub.refl _ | refine Sub.skip rfl ?_)
 case Fz2 =>
  intro hcz2 hkz2
  have hqz2 := orO_f e1_12 hcz2
  obtain ⟨x1_10, e1_10, hqz2⟩ := bnd hqz2
  obtain rfl := Option.some.inj hqz2
  refine mv ?_
  refine sp (OpV.call (ec rfl (ec rfl (ec rfl e0))) ca_64 (fun w hs => w_spec_l01In e1_10)) ?_
  refine sp (OpV.not rfl) ?_
  refine hkz2 _ ?_ ?_
  exact rfl
  repeat (first | exact Sub.refl _ | refine Sub.skip rfl ?_)
 case az2 => exact rfl
 case bz2 => exact rfl
 case cz2 => exact rfl
 case dz2 => exact rfl
 refine mv ?_
 refine Lt.ofWL.orQ 28 34 33 (p := ?pz3) (rest := ?qz3) (B := q1_19) rfl (fun hz => orO_t e1_19 hz) ?Tz3 ?Fz3 ?az3 ?bz3 ?cz3 ?dz3 ?ez3
 case Tz3 =>
  intro hcz3 hkz3
  refine sk ?_
  refine sk ?_
  refine sk ?_
  refine sk ?_
  refine sk ?_
  refine hkz3 _ ?_
  repeat (first | exact Sub.refl _ | refine Sub.skip rfl ?_)
 case Fz3 =>
  intro hcz3 hkz3
  have hqz3 := orO_f e1_19 hcz3
  obtain ⟨x1_17, e1_17, hqz3⟩ := bnd hqz3
  obtain rfl := Option.some.inj hqz3
  refine mv ?_
  refine mv ?_
  refine sp (OpV.subR rfl rfl) ?_
  refine sp (OpV.call (ec rfl (ec rfl (ec rfl e0))) ca_64 (fun w hs => w_spec_l01In e1_17)) ?_
  refine sp (OpV.not rfl) ?_
  refine hkz3 _ ?_ ?_
  exact rfl
  repeat (first | exact Sub.refl _ | refine Sub.skip rfl ?_)
 case az3 => exact rfl
 case bz3 => exact rfl
 case cz3 => exact rfl
 case dz3 => exact rfl
 refine mv ?_
 refine Lt.ofWL.orQ 35 41 40 (p := ?pz4) (rest := ?qz4) (B := q1_26) rfl (fun hz => orO_t e1_26 hz) ?Tz4 ?Fz4 ?az4 ?bz4 ?cz4 ?dz4 ?ez4
 case Tz4 =>
  intro hcz4 hkz4
  refine sk ?_
  refine sk ?_
  refine sk ?_
  refine sk ?_
  refine sk ?_
  refine hkz4 _ ?_
  repeat (first | exact Sub.refl _ | refine Sub.skip rfl ?_)
 case Fz4 =>
  intro hcz4 hkz4
  have hqz4 := orO_f e1_26 hcz4
  obtain ⟨x1_24, e1_24, hqz4⟩ := bnd hqz4
  obtain rfl := Option.some.inj hqz4
  refine mv ?_
  refine mv ?_
  refine sp (OpV.subR rfl rfl) ?_
  refine sp (OpV.call (ec rfl (ec rfl (ec rfl e0))) ca_64 (fun w hs => w_spec_l01In e1_24)) ?_
  refine sp (OpV.not rfl) ?_
  refine hkz4 _ ?_ ?_
  exact rfl
  repeat (first | exact Sub.refl _ | refine Sub.skip rfl ?_)
 case az4 => exact rfl
 case bz4 => exact rfl
 case cz4 => exact rfl
 case dz4 => exact rfl
 refine WL.nil (En.next ?_)
 refine WC.cond rfl ?_ ?_
 ·
  intro hc_1
  replace h := ifO_t hc_1 h
  refine WC.sr ?_
  refine ag ?_
  refine ag ?_
  refine WL.nil (En.next (WC.ret (En.then_ret ?_)))
  refine En.ret2 rfl (Res.tmp rfl) (Res.tmp rfl) ?_
  obtain rfl := Option.some.inj h
  intro w' hs
  exact ⟨rfl, hs.below⟩
 ·
  intro hc_1
  replace h := ifO_f hc_1 h
  refine WC.skip (En.next (WC.seq (WC.sr ?_)))
  refine mv ?_
  refine sp (OpV.geq rfl rfl) ?_
  refine WL.nil (En.next ?_)
  refine WC.cond rfl ?_ ?_
  ·
   intro hc_2
   replace h := ifO_t hc_2 h
   refine WC.region ?_
   refine mv ?_
   refine sp (OpV.subR rfl rfl) ?_
   refine mv ?_
   refine sp (OpV.subR rfl rfl) ?_
   refine ag ?_
   refine WL.nil (En.next (WC.seq (WC.sr ?_)))
   refine ag ?_
   refine WL.nil (En.next (WC.block ?_))
   obtain ⟨zy0, ezy0, h⟩ := bnd h
   refine WC.cut (X := (Int × Int) × (Unit)) (.exit 0) (fun x => zy0 = x.1) (fun x => match x with | ((v_0e, v1_0e), ()) => [(3, .int .i64 v_0e), (4, .int .i64 v1_0e)]) (fun x => match x with | ((v_0e, v1_0e), ()) => []) ?_ ?_
   ·
    rintro ⟨⟨v_0e, v1_0e⟩, ⟨⟩⟩ hx
    replace hx : (v_0e, v1_0e) = zy0 := hx.symm
    subst hx
    show En _ _ _ _ [(3, .int .i64 v_0e), (4, .int .i64 v1_0e)] []
    refine En.block_exit (En.next (WC.sr ?_))
    refine mv ?_
    refine mv ?_
    refine ag ?_
    refine ag ?_
    refine WL.nil (En.next (WC.ret ?_))
    refine En.ret2 rfl (Res.tmp rfl) (Res.tmp rfl) ?_
    obtain rfl := Option.some.inj h
    intro w' hs
    exact ⟨rfl, hs.below⟩
   ·
    intro zK0_0
    refine WC.loopP (G := Unit) (fun s g => match s, g with | (v_0, v1_0, v2_0, v3_0, v4_0), () => [(0, .int .i64 v_0), (1, .int .i64 v1_0), (2, .int .i64 a_p2), (3, .int .i64 v2_0), (4, .int .i64 v3_0), (12, .int .i64 v4_0)]) (fun s g => match s, g with | (v_0, v1_0, v2_0, v3_0, v4_0), () => []) (a_p0, a_p1, (wr ((wr (a_p0 - 1)) - a_p3)), a_p4, 0) () ezy0 (by exact sc (sc (sc (sc (sc (sc sn)))))) (by exact (fun _ h => h)) ?_
    rintro zm0 ⟨v_0, v1_0, v2_0, v3_0, v4_0⟩ ⟨⟩ zo0 zf0 zb0 ze0
    have zh0 : spec_OrientPoint_L0 a_p2 v_0 v1_0 v2_0 v3_0 v4_0 = some zo0 := zf0
    unfold spec_OrientPoint_L0 at zh0
    show WC _ _ _ _ _ [(0, .int .i64 v_0), (1, .int .i64 v1_0), (2, .int .i64 a_p2), (3, .int .i64 v2_0), (4, .int .i64 v3_0), (12, .int .i64 v4_0)] []
    refine WC.seq (WC.sr ?_)
    refine mv ?_
    refine mv ?_
    refine sp (OpV.remR rfl rfl rfl) ?_
    refine sp (OpV.lss rfl rfl) ?_
    refine WL.nil (En.next ?_)
    refine WC.cond rfl ?_ ?_
    ·
     intro hc_3
     replace zh0 := ifO_t hc_3 zh0
     refine WC.skip (En.next (WC.seq (WC.block (WC.sr ?_))))
     refine mv ?_
     refine sp (OpV.subR rfl rfl) ?_
     refine mv ?_
     refine sp (OpV.subR rfl rfl) ?_
     refine ag ?_
     refine WL.nil (En.next (WC.sr ?_))
     refine mv ?_
     refine ag ?_
     refine WL.nil (En.next (WC.sr ?_))
     refine mv ?_
     refine ag ?_
     refine WL.nil (En.next (WC.sr ?_))
     refine mv ?_
     refine ag ?_
     refine WL.nil (En.next (WC.sr ?_))
     refine mv ?_
     refine ag ?_
     refine WL.nil (En.next (WC.region ?_))
     refine mv ?_
     refine ag ?_
     refine WL.nil (En.block_norm (En.next (WC.region ?_)))
     refine mv ?_
     refine sp (OpV.addR rfl rfl) ?_
     refine ag ?_
     refine WL.nil ?_
     exact En.backP zb0 zh0 () (sc (sc (sc (sc (sc (sc sn)))))) (fun _ h => h)
    ·
     intro hc_3
     replace zh0 := ifO_f hc_3 zh0
     refine WC.exit (En.then_exit (En.then_exit ?_))
     have hx := exitP ze0 zh0
     exact En.wk _ _ (sc (sc sn)) (fun _ h => h) (zK0_0 ((v2_0, v3_0), ()) hx.symm)
  ·
   intro hc_2
   replace h := ifO_f hc_2 h
   refine WC.skip (En.next (WC.seq (WC.sr ?_)))
   refine ag ?_
   refine WL.nil (En.next (WC.block ?_))
   obtain ⟨zy1, ezy1, h⟩ := bnd h
   refine WC.cut (X := (Int × Int) × (Unit)) (.exit 0) (fun x => zy1 = x.1) (fun x => match x with | ((v_1e, v1_1e), ()) => [(3, .int .i64 v_1e), (4, .int .i64 v1_1e)]) (fun x => match x with | ((v_1e, v1_1e), ()) => []) ?_ ?_
   ·
    rintro ⟨⟨v_1e, v1_1e⟩, ⟨⟩⟩ hx
    replace hx : (v_1e, v1_1e) = zy1 := hx.symm
    subst hx
    show En _ _ _ _ [(3, .int .i64 v_1e), (4, .int .i64 v1_1e)] []
    refine En.block_exit (En.next (WC.sr ?_))
    refine mv ?_
    refine mv ?_
    refine ag ?_
    refine ag ?_
    refine WL.nil (En.next (WC.ret ?_))
    refine En.ret2 rfl (Res.tmp rfl) (Res.tmp rfl) ?_
    obtain rfl := Option.some.inj h
    intro w' hs
    exact ⟨rfl, hs.below⟩
   ·
    intro zK1_0
    refine WC.loopP (G := Unit) (fun s g => match s, g with | (v_1, v1_1, v2_1, v3_1, v4_1), () => [(0, .int .i64 v_1), (1, .int .i64 v1_1), (2, .int .i64 a_p2), (3, .int .i64 v2_1), (4, .int .i64 v3_1), (12, .int .i64 v4_1)]) (fun s g => match s, g with | (v_1, v1_1, v2_1, v3_1, v4_1), () => []) (a_p0, a_p1, a_p3, a_p4, 0) () ezy1 (by exact sc (sc (sc (sc (sc (sc sn)))))) (by exact (fun _ h => h)) ?_
    rintro zm1 ⟨v_1, v1_1, v2_1, v3_1, v4_1⟩ ⟨⟩ zo1 zf1 zb1 ze1
    have zh1 : spec_OrientPoint_L1 a_p2 v_1 v1_1 v2_1 v3_1 v4_1 = some zo1 := zf1
    unfold spec_OrientPoint_L1 at zh1
    show WC _ _ _ _ _ [(0, .int .i64 v_1), (1, .int .i64 v1_1), (2, .int .i64 a_p2), (3, .int .i64 v2_1), (4, .int .i64 v3_1), (12, .int .i64 v4_1)] []
    refine WC.seq (WC.sr ?_)
    refine mv ?_
    refine mv ?_
    refine sp (OpV.remR rfl rfl rfl) ?_
    refine sp (OpV.lss rfl rfl) ?_
    refine WL.nil (En.next ?_)
    refine WC.cond rfl ?_ ?_
    ·
     intro hc_4
     replace zh1 := ifO_t hc_4 zh1
     refine WC.skip (En.next (WC.seq (WC.block (WC.sr ?_))))
     refine mv ?_
     refine sp (OpV.subR rfl rfl) ?_
     refine mv ?_
     refine sp (OpV.subR rfl rfl) ?_
     refine ag ?_
     refine WL.nil (En.next (WC.sr ?_))
     refine mv ?_
     refine ag ?_
     refine WL.nil (En.next (WC.sr ?_))
     refine mv ?_
     refine ag ?_
     refine WL.nil (En.next (WC.sr ?_))
     refine mv ?_
     refine ag ?_
     refine WL.nil (En.next (WC.sr ?_))
     refine mv ?_
     refine ag ?_
     refine WL.nil (En.next (WC.region ?_))
     refine mv ?_
     refine ag ?_
     refine WL.nil (En.block_norm (En.next (WC.region ?_)))
     refine mv ?_
     refine sp (OpV.addR rfl rfl) ?_
     refine ag ?_
     refine WL.nil ?_
     exact En.backP zb1 zh1 () (sc (sc (sc (sc (sc (sc sn)))))) (fun _ h => h)
    ·
     intro hc_4
     replace zh1 := ifO_f hc_4 zh1
     refine WC.exit (En.then_exit (En.then_exit ?_))
     have hx := exitP ze1 zh1
     exact En.wk _ _ (sc (sc sn)) (fun _ h => h) (zK1_0 ((v2_1, v3_1), ()) hx.symm)

theorem w_spec_Oriented {a_p0 : ImageT} {a_p1 : Int} {r : ImageT} {q0_0 : Option Addr} {l0_0 k0_0 : Nat} (h : spec_Oriented a_p0 a_p1 = some r) {w : World} (r0_0 : Rd tInt w q0_0 l0_0 k0_0 a_p0.Data)   :
    Calls Tryz.prog 138 #[.agg #[.int .i64 a_p0.W, .int .i64 a_p0.H, .slice q0_0 l0_0 k0_0], .int .i64 a_p1] w (fun en w' => ∃ rv G, en = .returned rv ∧ (∃ (a0_0 : Option Addr) (n0_0 : Nat) (c0_0 : Nat) (f0_0 : List Nat), rv = .agg #[.int .i64 r.W, .int .i64 r.H, .slice a0_0 n0_0 c0_0] ∧ G = [Chunk.own tInt f0_0 a0_0 n0_0 c0_0 r.Data]) ∧ St w G w') := by
 obtain rfl := r0_0.1
 unfold spec_Oriented at h
 refine enter (vs := [_, _]) Tryz.func138 rfl rfl rfl rfl ?_
 refine WC.sr ?_
 refine WL.heavy rfl rfl rfl (OpH.box rfl rfl ?_)
 intro b0_0
 refine WL.heavy rfl rfl rfl (OpH.alloc zc_107 ?_)
 intro b0_1
 refine WL.nil (En.next (WC.seq (WC.seq ?_)))
 obtain ⟨x1_1, e1_1, h⟩ := bnd h
 obtain ⟨q1_7, e1_7, h⟩ := bnd h
 refine WC.region ?_
 refine sp (OpV.loadAll rfl mq1 ag_107) ?_
 refine sp (OpV.call (ec rfl e0) ca_133 (fun w hs => w_spec_ImageOk e1_1 (r0_0.ext hs.below))) ?_
 refine sp (OpV.not rfl) ?_
 refine mv ?_
 refine Lt.ofWL.orQ 15 19 18 (p := ?pz1) (rest := ?qz1) (B := q1_7) rfl (fun hz => orO_t e1_7 hz) ?Tz1 ?Fz1 ?az1 ?bz1 ?cz1 ?dz1 ?ez1
 case Tz1 =>
  intro hcz1 hkz1
  refine sk ?_
  refine sk ?_
  refine sk ?_
  refine hkz1 _ ?_
  repeat (first | exact Sub.refl _ | refine Sub.skip rfl ?_)
 case Fz1 =>
  intro hcz1 hkz1
  have hqz1 := orO_f e1_7 hcz1
  obtain ⟨x1_5, e1_5, hqz1⟩ := bnd hqz1
  obtain rfl := Option.some.inj hqz1
  refine mv ?_
  refine sp (OpV.call (ec rfl (ec rfl (ec rfl e0))) ca_64 (fun w hs => w_spec_l01In e1_5)) ?_
  refine sp (OpV.not rfl) ?_
  refine hkz1 _ ?_ ?_
  exact rfl
  repeat (first | exact Sub.refl _ | refine Sub.skip rfl ?_)
 case az1 => exact rfl
 case bz1 => exact rfl
 case cz1 => exact rfl
 case dz1 => exact rfl
 refine WL.nil (En.next ?_)
 refine WC.cond rfl ?_ ?_
 ·
  intro hc_1
  replace h := ifO_t hc_1 h
  refine WC.sr ?_
  refine sp (OpV.build (evps.nil) bd_107_) ?_
  refine WL.heavy0 rfl rfl (OpH.storeTo (A := []) [_, _, _] rfl rfl rfl ts_107 rfl rfl rfl ?_)
  refine WL.nil (En.next (WC.ret (En.then_ret ?_)))
  refine En.ret1 rfl (Res.cell rfl mq0 ag_107) ?_
  obtain rfl := Option.some.inj h
  intro w' hs
  have hs := ((hs).ownNil (A := tInt)).sub (.cons_cons _ (.cons _ (.cons _ (.slnil))))
  exact ⟨_, _, rfl, ⟨.none, 0, 0, [], rfl, rfl⟩, hs⟩
 ·
  intro hc_1
  replace h := ifO_f hc_1 h
  refine WC.skip (En.next (WC.seq ?_))
  obtain ⟨⟨x3_5a, x3_5b⟩, e3_5, h⟩ := bnd h
  refine WC.region ?_
  refine sp (OpV.fieldAddr rfl fo_107_0) ?_
  refine sp (OpV.loadBox rfl pt_3 mq1 rfl) ?_
  refine sp (OpV.fieldAddr rfl fo_107_1) ?_
  refine sp (OpV.loadBox rfl pt_3 mq1 rfl) ?_
  refine mv ?_
  refine sp (OpV.call (ec rfl (ec rfl (ec rfl e0))) ca_155 (fun w hs => w_spec_OrientSize e3_5)) ?_
  refine mv ?_
  refine sp (OpV.extract rfl rfl) ?_
  refine sp (OpV.extract rfl rfl) ?_
  refine ag ?_
  refine ag ?_
  refine WL.nil (En.next (WC.seq ?_))
  obtain ⟨x4_5, e4_5, h⟩ := bnd h
  refine WC.region ?_
  refine mv ?_
  refine mv ?_
  refine mv ?_
  refine mv ?_
  refine sp (OpV.mulR rfl rfl) ?_
  refine WL.heavy rfl rfl rfl (OpH.makeO (A := tInt) rfl rfl mi_23 (fun w => tInt_flat.ow w 0) (by decide) e4_5 ⟨Int.le_refl _, (mkO_some e4_5).1.2⟩ ?_)
  intro b4_5
  refine sp (OpV.build (evps.cons rfl (evps.cons rfl (evps.cons rfl (evps.nil)))) (bd_107_0_1_2 _ _ _ _ _)) ?_
  refine WL.heavy rfl rfl rfl (OpH.alloc zc_107 ?_)
  intro b4_7
  refine WL.heavy0 rfl rfl (OpH.storeTo (A := []) [_, _, _] rfl rfl rfl ts_107 rfl rfl rfl ?_)
  refine WL.nil (En.next (WC.seq (WC.sr ?_)))
  refine ag ?_
  refine WL.nil (En.next (WC.block ?_))
  obtain ⟨zy0, ezy0, h⟩ := bnd h
  refine WC.cut (X := ((List Int)) × ((List Nat))) (.exit 0) (fun x => zy0 = x.1) (fun x => match x with | (x_0e, fx_0e) => [(4, .pointer (some ⟨b0_1, 0, .none⟩)), (7, .pointer (some ⟨b4_7, 0, .none⟩))]) (fun x => match x with | (x_0e, fx_0e) => [Chunk.box b0_1 107 [.int .i64 0, .int .i64 0, .slice .none 0 0], Chunk.box b4_7 107 [.int .i64 x3_5a, .int .i64 x3_5b, .slice (some ⟨b4_5, 0, .none⟩) x4_5.length ((wr (x3_5a * x3_5b)).toNat)], Chunk.own tInt fx_0e (some ⟨b4_5, 0, .none⟩) x4_5.length ((wr (x3_5a * x3_5b)).toNat) x_0e]) ?_ ?_
  ·
   rintro ⟨x_0e, fx_0e⟩ hx
   replace hx : x_0e = zy0 := hx.symm
   subst hx
   show En _ _ _ _ [(4, .pointer (some ⟨b0_1, 0, .none⟩)), (7, .pointer (some ⟨b4_7, 0, .none⟩))] [Chunk.box b0_1 107 [.int .i64 0, .int .i64 0, .slice .none 0 0], Chunk.box b4_7 107 [.int .i64 x3_5a, .int .i64 x3_5b, .slice (some ⟨b4_5, 0, .none⟩) x4_5.length ((wr (x3_5a * x3_5b)).toNat)], Chunk.own tInt fx_0e (some ⟨b4_5, 0, .none⟩) x4_5.length ((wr (x3_5a * x3_5b)).toNat) x_0e]
   refine En.block_exit (En.next (WC.sr ?_))
   refine sp (OpV.loadAll rfl mq1 ag_107) ?_
   refine WL.heavy0 rfl rfl (OpH.storeTo (A := []) [_, _, _] rfl rfl rfl ts_107 rfl rfl rfl ?_)
   refine WL.nil (En.next (WC.ret ?_))
   refine En.ret1 rfl (Res.cell rfl mq0 ag_107) ?_
   obtain rfl := Option.some.inj h
   intro w' hs
   have hs := ((hs).pm 2).sub (.cons_cons _ (.cons _ (.cons _ (.slnil))))
   exact ⟨_, _, rfl, ⟨(some ⟨b4_5, 0, .none⟩), x4_5.length, ((wr (x3_5a * x3_5b)).toNat), fx_0e, rfl, rfl⟩, hs⟩
  ·
   intro zK0_0
   refine WC.loopP (G := (List Nat)) (fun s g => match s, g with | (x_0, v_0), fx_0 => [(1, .int .i64 a_p1), (2, .pointer (some ⟨b0_0, 0, .none⟩)), (4, .pointer (some ⟨b0_1, 0, .none⟩)), (5, .int .i64 x3_5a), (7, .pointer (some ⟨b4_7, 0, .none⟩)), (8, .int .i64 v_0)]) (fun s g => match s, g with | (x_0, v_0), fx_0 => [Chunk.box b0_0 107 [.int .i64 a_p0.W, .int .i64 a_p0.H, .slice q0_0 a_p0.Data.length k0_0], Chunk.box b0_1 107 [.int .i64 0, .int .i64 0, .slice .none 0 0], Chunk.box b4_7 107 [.int .i64 x3_5a, .int .i64 x3_5b, .slice (some ⟨b4_5, 0, .none⟩) x4_5.length ((wr (x3_5a * x3_5b)).toNat)], Chunk.own tInt fx_0 (some ⟨b4_5, 0, .none⟩) x4_5.length ((wr (x3_5a * x3_5b)).toNat) x_0]) (x4_5, 0) [b4_5] ezy0 (by exact sc (sc (sc (sc (sc (sc sn)))))) (by exact (fun _ h => ((((h).pm 1).pm 1).pm 2).pm 3)) ?_
   rintro zm0 ⟨x_0, v_0⟩ fx_0 zo0 zf0 zb0 ze0
   have zh0 : spec_Oriented_L0 a_p0 a_p1 x3_5a x_0 v_0 = some zo0 := zf0
   unfold spec_Oriented_L0 at zh0
   show WC _ _ _ _ _ [(1, .int .i64 a_p1), (2, .pointer (some ⟨b0_0, 0, .none⟩)), (4, .pointer (some ⟨b0_1, 0, .none⟩)), (5, .int .i64 x3_5a), (7, .pointer (some ⟨b4_7, 0, .none⟩)), (8, .int .i64 v_0)] [Chunk.box b0_0 107 [.int .i64 a_p0.W, .int .i64 a_p0.H, .slice q0_0 a_p0.Data.length k0_0], Chunk.box b0_1 107 [.int .i64 0, .int .i64 0, .slice .none 0 0], Chunk.box b4_7 107 [.int .i64 x3_5a, .int .i64 x3_5b, .slice (some ⟨b4_5, 0, .none⟩) x4_5.length ((wr (x3_5a * x3_5b)).toNat)], Chunk.own tInt fx_0 (some ⟨b4_5, 0, .none⟩) x4_5.length ((wr (x3_5a * x3_5b)).toNat) x_0]
   refine WC.seq (WC.sr ?_)
   refine mv ?_
   refine sp (OpV.fieldAddr rfl fo_107_1) ?_
   refine sp (OpV.loadBox rfl pt_3 mq0 rfl) ?_
   refine sp (OpV.lss rfl rfl) ?_
   refine WL.nil (En.next ?_)
   refine WC.cond rfl ?_ ?_
   ·
    intro hc_2
    replace zh0 := ifO_t hc_2 zh0
    refine WC.skip (En.next (WC.seq (WC.block (WC.sr ?_))))
    refine ag ?_
    refine WL.nil (En.next (WC.block ?_))
    obtain ⟨zy1, ezy1, zh0⟩ := bnd zh0
    refine WC.cut (X := ((List Int)) × ((List Nat))) (.exit 2) (fun x => zy1 = x.1) (fun x => match x with | (x_1e, fx_1e) => [(1, .int .i64 a_p1), (2, .pointer (some ⟨b0_0, 0, .none⟩)), (4, .pointer (some ⟨b0_1, 0, .none⟩)), (5, .int .i64 x3_5a), (7, .pointer (some ⟨b4_7, 0, .none⟩)), (8, .int .i64 v_0)]) (fun x => match x with | (x_1e, fx_1e) => [Chunk.box b0_0 107 [.int .i64 a_p0.W, .int .i64 a_p0.H, .slice q0_0 a_p0.Data.length k0_0], Chunk.box b0_1 107 [.int .i64 0, .int .i64 0, .slice .none 0 0], Chunk.box b4_7 107 [.int .i64 x3_5a, .int .i64 x3_5b, .slice (some ⟨b4_5, 0, .none⟩) x4_5.length ((wr (x3_5a * x3_5b)).toNat)], Chunk.own tInt fx_1e (some ⟨b4_5, 0, .none⟩) x4_5.length ((wr (x3_5a * x3_5b)).toNat) x_1e]) ?_ ?_
    ·
     rintro ⟨x_1e, fx_1e⟩ hx
     replace hx : x_1e = zy1 := hx.symm
     subst hx
     show En _ _ _ _ [(1, .int .i64 a_p1), (2, .pointer (some ⟨b0_0, 0, .none⟩)), (4, .pointer (some ⟨b0_1, 0, .none⟩)), (5, .int .i64 x3_5a), (7, .pointer (some ⟨b4_7, 0, .none⟩)), (8, .int .i64 v_0)] [Chunk.box b0_0 107 [.int .i64 a_p0.W, .int .i64 a_p0.H, .slice q0_0 a_p0.Data.length k0_0], Chunk.box b0_1 107 [.int .i64 0, .int .i64 0, .slice .none 0 0], Chunk.box b4_7 107 [.int .i64 x3_5a, .int .i64 x3_5b, .slice (some ⟨b4_5, 0, .none⟩) x4_5.length ((wr (x3_5a * x3_5b)).toNat)], Chunk.own tInt fx_1e (some ⟨b4_5, 0, .none⟩) x4_5.length ((wr (x3_5a * x3_5b)).toNat) x_1e]
     refine En.block_exit (En.block_norm (En.next (WC.region ?_)))
     refine mv ?_
     refine sp (OpV.addR rfl rfl) ?_
     refine ag ?_
     refine WL.nil ?_
     exact En.backP zb0 zh0 fx_1e (sc (sc (sc (sc (sc (sc sn)))))) (fun _ h => h)
    ·
     intro zK1_0
     refine WC.loopP (G := (List Nat)) (fun s g => match s, g with | (x_1, v_1), fx_1 => [(1, .int .i64 a_p1), (2, .pointer (some ⟨b0_0, 0, .none⟩)), (4, .pointer (some ⟨b0_1, 0, .none⟩)), (5, .int .i64 x3_5a), (7, .pointer (some ⟨b4_7, 0, .none⟩)), (8, .int .i64 v_0), (9, .int .i64 v_1)]) (fun s g => match s, g with | (x_1, v_1), fx_1 => [Chunk.box b0_0 107 [.int .i64 a_p0.W, .int .i64 a_p0.H, .slice q0_0 a_p0.Data.length k0_0], Chunk.box b0_1 107 [.int .i64 0, .int .i64 0, .slice .none 0 0], Chunk.box b4_7 107 [.int .i64 x3_5a, .int .i64 x3_5b, .slice (some ⟨b4_5, 0, .none⟩) x4_5.length ((wr (x3_5a * x3_5b)).toNat)], Chunk.own tInt fx_1 (some ⟨b4_5, 0, .none⟩) x4_5.length ((wr (x3_5a * x3_5b)).toNat) x_1]) (x_0, 0) fx_0 ezy1 (by exact sc (sc (sc (sc (sc (sc (sc sn))))))) (by exact (fun _ h => h)) ?_
     rintro zm1 ⟨x_1, v_1⟩ fx_1 zo1 zf1 zb1 ze1
     have zh1 : spec_Oriented_L1 a_p0 a_p1 x3_5a v_0 x_1 v_1 = some zo1 := zf1
     unfold spec_Oriented_L1 at zh1
     show WC _ _ _ _ _ [(1, .int .i64 a_p1), (2, .pointer (some ⟨b0_0, 0, .none⟩)), (4, .pointer (some ⟨b0_1, 0, .none⟩)), (5, .int .i64 x3_5a), (7, .pointer (some ⟨b4_7, 0, .none⟩)), (8, .int .i64 v_0), (9, .int .i64 v_1)] [Chunk.box b0_0 107 [.int .i64 a_p0.W, .int .i64 a_p0.H, .slice q0_0 a_p0.Data.length k0_0], Chunk.box b0_1 107 [.int .i64 0, .int .i64 0, .slice .none 0 0], Chunk.box b4_7 107 [.int .i64 x3_5a, .int .i64 x3_5b, .slice (some ⟨b4_5, 0, .none⟩) x4_5.length ((wr (x3_5a * x3_5b)).toNat)], Chunk.own tInt fx_1 (some ⟨b4_5, 0, .none⟩) x4_5.length ((wr (x3_5a * x3_5b)).toNat) x_1]
     refine WC.seq (WC.sr ?_)
     refine mv ?_
     refine sp (OpV.fieldAddr rfl fo_107_0) ?_
     refine sp (OpV.loadBox rfl pt_3 mq0 rfl) ?_
     refine sp (OpV.lss rfl rfl) ?_
     refine WL.nil (En.next ?_)
     refine WC.cond rfl ?_ ?_
     ·
      intro hc_3
      replace zh1 := ifO_t hc_3 zh1
      refine WC.skip (En.next (WC.seq (WC.block (WC.seq ?_))))
      obtain ⟨⟨x11_7a, x11_7b⟩, e11_7, zh1⟩ := bnd zh1
      refine WC.region ?_
      refine sp (OpV.fieldAddr rfl fo_107_0) ?_
      refine sp (OpV.loadBox rfl pt_3 mq0 rfl) ?_
      refine sp (OpV.fieldAddr rfl fo_107_1) ?_
      refine sp (OpV.loadBox rfl pt_3 mq0 rfl) ?_
      refine mv ?_
      refine mv ?_
      refine mv ?_
      refine sp (OpV.call (ec rfl (ec rfl (ec rfl (ec rfl (ec rfl e0))))) ca_156 (fun w hs => w_spec_OrientPoint e11_7)) ?_
      refine mv ?_
      refine sp (OpV.extract rfl rfl) ?_
      refine sp (OpV.extract rfl rfl) ?_
      refine ag ?_
      refine ag ?_
      refine WL.nil (En.next ?_)
      refine WC.inh fun hin12 => ?_
      obtain ⟨x12_15, e12_15, zh1⟩ := bnd zh1
      obtain ⟨g12_15, o12_15, _, ha12_15, rfl, hd12_15⟩ := Rd.atIdx r0_0 e12_15
      replace hd12_15 : ∀ (j : Nat) v, ([.int .i64 x12_15] : List Value)[j]? = some v → w.cell? ⟨g12_15, o12_15 + (wr ((wr (v_0 * a_p0.W)) + v_1)).toNat * 1 + j, .none⟩ = some v := hd12_15
      have hn12_17 := ownLen hin12 mq3
      obtain ⟨x12_18, e12_18, zh1⟩ := bnd zh1
      obtain ⟨g12_17, o12_17, ha12_17⟩ := ownAddrU hin12 mq3 e12_18
      refine WC.wkF (fun _ h => h.pm 3) ?_
      refine WC.drawnH [_] ([_, _, _]) (fun _ h => h) (by kernel_rfl) ?_
      refine tk 0 rfl (OpV.fieldAddr rfl fo_107_2) ?_
      refine tk 1 rfl (OpV.loadBox rfl pt_23 mq2 rfl) ?_
      refine tk 2 rfl (OpV.move rfl) ?_
      refine tk 3 rfl (OpV.move rfl) ?_
      refine tk 4 rfl (OpV.mulR rfl rfl) ?_
      refine tk 5 rfl (OpV.move rfl) ?_
      refine tk 6 rfl (OpV.addR rfl rfl) ?_
      refine tk 7 rfl (OpV.fieldAddr rfl fo_107_2) ?_
      refine tk 8 rfl (OpV.loadBox rfl pt_23 mq0 rfl) ?_
      refine tk 9 rfl (OpV.move rfl) ?_
      refine tk 10 rfl (OpV.fieldAddr rfl fo_107_0) ?_
      refine tk 11 rfl (OpV.loadBox rfl pt_3 mq0 rfl) ?_
      refine tk 12 rfl (OpV.mulR rfl rfl) ?_
      refine tk 13 rfl (OpV.move rfl) ?_
      refine tk 14 rfl (OpV.addR rfl rfl) ?_
      refine tk 15 rfl (OpV.idxA rfl rfl se_23 ha12_15 ⟨(idx_some e12_15).1, (idx_some e12_15).2.1⟩) ?_
      refine tk 16 rfl (OpV.load1 rfl pt_3 (fun w hs => hs.cell (hd12_15 0 _ rfl))) ?_
      refine tk 17 rfl (OpV.idxA rfl rfl se_23 ha12_17 ⟨(upd_some e12_18).1.1, by rw [hn12_17]; exact (upd_some e12_18).1.2⟩) ?_
      refine al0 18 rfl ?_
      refine OpH.wkF (fun _ h => St.elFlat tInt_flat x12_15 h) ?_
      refine OpH.setEl (A := tInt) ha12_17 rfl rfl rfl ts_3 e12_18 ?_
      intro f12_18
      refine ⟨[_], rfl, ?_⟩
      refine WAE.rebase (H := []) ?_
      refine WAE.done (by kernel_rfl) ?_ _
      refine En.block_norm (En.next (WC.region ?_))
      refine mv ?_
      refine sp (OpV.addR rfl rfl) ?_
      refine ag ?_
      refine WL.nil ?_
      exact En.backP zb1 zh1 f12_18 (sc (sc (sc (sc (sc (sc (sc sn))))))) (fun _ h => (((h).pm 3).pm 3).pm 3)
     ·
      intro hc_3
      replace zh1 := ifO_f hc_3 zh1
      refine WC.exit (En.then_exit (En.then_exit ?_))
      have hx := exitP ze1 zh1
      exact En.wk _ _ (sc (sc (sc (sc (sc (sc sn)))))) (fun _ h => h) (zK1_0 (x_1, fx_1) hx.symm)
   ·
    intro hc_2
    replace zh0 := ifO_f hc_2 zh0
    refine WC.exit (En.then_exit (En.then_exit ?_))
    have hx := exitP ze0 zh0
    exact En.wk _ _ (sc (sc sn)) (fun _ h => ((((h).pm 3).pm 3).pm 3).sub (.cons_cons _ (.cons_cons _ (.cons_cons _ (.cons _ (.slnil)))))) (zK0_0 (x_0, fx_0) hx.symm)

theorem w_spec_ScalePoint {from_p0 : Int} {to_p1 : Int} {k_p2 : Int} {r : Int}  (h : spec_ScalePoint from_p0 to_p1 k_p2 = some r) {w : World}    :
    Calls Tryz.prog 157 #[.int .i64 from_p0, .int .i64 to_p1, .int .i64 k_p2] w (fun en w' => en = .returned (.int .i64 r) ∧ Ext w w') := by
 unfold spec_ScalePoint at h
 refine enter (vs := [_, _, _]) Tryz.func157 rfl rfl rfl rfl ?_
 refine WC.sr ?_
 refine ag ?_
 refine WL.nil (En.next (WC.seq (WC.seq ?_)))
 obtain ⟨x1_1, e1_1, h⟩ := bnd h
 obtain ⟨q1_7, e1_7, h⟩ := bnd h
 obtain ⟨q1_14, e1_14, h⟩ := bnd h
 refine WC.region ?_
 refine mv ?_
 refine sp (OpV.call (ec rfl (ec rfl (ec rfl e0))) ca_64 (fun w hs => w_spec_l01In e1_1)) ?_
 refine sp (OpV.not rfl) ?_
 refine mv ?_
 refine Lt.ofWL.orQ 10 14 13 (p := ?pz1) (rest := ?qz1) (B := q1_7) rfl (fun hz => orO_t e1_7 hz) ?Tz1 ?Fz1 ?az1 ?bz1 ?cz1 ?dz1 ?ez1
 case Tz1 =>
  intro hcz1 hkz1
  refine sk ?_
  refine sk ?_
  refine sk ?_
  refine hkz1 _ ?_
  repeat (first | exact Sub.refl _ | refine Sub.skip rfl ?_)
 case Fz1 =>
  intro hcz1 hkz1
  have hqz1 := orO_f e1_7 hcz1
  obtain ⟨x1_5, e1_5, hqz1⟩ := bnd hqz1
  obtain rfl := Option.some.inj hqz1
  refine mv ?_
  refine sp (OpV.call (ec rfl (ec rfl (ec rfl e0))) ca_64 (fun w hs => w_spec_l01In e1_5)) ?_
  refine sp (OpV.not rfl) ?_
  refine hkz1 _ ?_ ?_
  exact rfl
  repeat (first | exact Sub.refl _ | refine Sub.skip rfl ?_)
 case az1 => exact rfl
 case bz1 => exact rfl
 case cz1 => exact rfl
 case dz1 => exact rfl
 refine mv ?_
 refine Lt.ofWL.orQ 15 21 20 (p := ?pz2) (rest := ?qz2) (B := q1_14) rfl (fun hz => orO_t e1_14 hz) ?Tz2 ?Fz2 ?az2 ?bz2 ?cz2 ?dz2 ?ez2
 case Tz2 =>
  intro hcz2 hkz2
  refine sk ?_
  refine sk ?_
  refine sk ?_
  refine sk ?_
  refine sk ?_
  refine hkz2 _ ?_
  repeat (first | exact Sub.refl _ | refine Sub.skip rfl ?_)
 case Fz2 =>
  intro hcz2 hkz2
  have hqz2 := orO_f e1_14 hcz2
  obtain ⟨x1_12, e1_12, hqz2⟩ := bnd hqz2
  obtain rfl := Option.some.inj hqz2
  refine mv ?_
  refine mv ?_
  refine sp (OpV.subR rfl rfl) ?_
  refine sp (OpV.call (ec rfl (ec rfl (ec rfl e0))) ca_64 (fun w hs => w_spec_l01In e1_12)) ?_
  refine sp (OpV.not rfl) ?_
  refine hkz2 _ ?_ ?_
  exact rfl
  repeat (first | exact Sub.refl _ | refine Sub.skip rfl ?_)
 case az2 => exact rfl
 case bz2 => exact rfl
 case cz2 => exact rfl
 case dz2 => exact rfl
 refine WL.nil (En.next ?_)
 refine WC.cond rfl ?_ ?_
 ·
  intro hc_1
  replace h := ifO_t hc_1 h
  refine WC.sr ?_
  refine ag ?_
  refine WL.nil (En.next (WC.ret (En.then_ret ?_)))
  refine En.ret1 rfl (Res.tmp rfl) ?_
  obtain rfl := Option.some.inj h
  intro w' hs
  exact ⟨rfl, hs.below⟩
 ·
  intro hc_1
  replace h := ifO_f hc_1 h
  refine WC.skip (En.next (WC.seq ?_))
  obtain ⟨x3_4, e3_4, h⟩ := bnd h
  refine WC.region ?_
  refine mv ?_
  refine mv ?_
  refine sp (OpV.mulR rfl rfl) ?_
  refine mv ?_
  refine sp (OpV.quoR rfl rfl e3_4) ?_
  refine ag ?_
  refine WL.nil (En.next (WC.ret ?_))
  refine En.ret1 rfl (Res.tmp rfl) ?_
  obtain rfl := Option.some.inj h
  intro w' hs
  exact ⟨rfl, hs.below⟩

end Go.Proofs.YtmhalmnbgkpmnaaGreat
