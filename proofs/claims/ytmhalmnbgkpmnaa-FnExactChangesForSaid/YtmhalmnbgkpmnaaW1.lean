/- Walks: the program computes the pure functions. -/
import Derived.Test.YtmhalmnbgkpmnaaDefs
import Derived.Test.YtmhalmnbgkpmnaaFacts
import Derived.Test.YtmhalmnbgkpmnaaPlanes
namespace Go.Proofs.Ytmhalmnbgkpmnaa
open Go.RowKit K
set_option maxRecDepth 100000
set_option maxHeartbeats 4000000

theorem w_laws_szIntS {a_p0 : List Int} {left_p1 : Int} {r : Int} {q0_0 : Option Addr} {l0_0 k0_0 : Nat} (h : laws_szIntS a_p0 left_p1 = some r) {w : World} (r0_0 : Rd tInt w q0_0 l0_0 k0_0 a_p0)   :
    Calls Try.prog 53 #[.slice q0_0 l0_0 k0_0, .int .i64 left_p1] w (fun en w' => en = .returned (.int .i64 r) ∧ Ext w w') := by
 obtain rfl := r0_0.1
 unfold laws_szIntS at h
 refine enter (vs := [_, _]) Try.func53 rfl rfl rfl rfl ?_
 refine WC.sr ?_
 refine ag ?_
 refine WL.nil (En.next (WC.sr ?_))
 refine mv ?_
 refine mv ?_
 refine sp (OpV.len rfl si_23 rfl) ?_
 refine sp (OpV.subR rfl rfl) ?_
 refine ag ?_
 refine WL.nil (En.next (WC.seq (WC.sr ?_)))
 refine mv ?_
 refine sp (OpV.lss rfl rfl) ?_
 refine WL.nil (En.next ?_)
 refine WC.cond rfl ?_ ?_
 ·
  intro hc_1
  replace h := ifO_t hc_1 h
  refine WC.sr ?_
  refine ag ?_
  refine WL.nil (En.next (WC.ret (En.then_ret ?_)))
  refine En.ret1 rfl (Res.tmp rfl) ?_
  obtain rfl := Option.some.inj h
  intro w' hs
  exact ⟨rfl, hs.below⟩
 ·
  intro hc_1
  replace h := ifO_f hc_1 h
  refine WC.skip (En.next (WC.sr ?_))
  refine mv ?_
  refine ag ?_
  refine WL.nil (En.next (WC.ret ?_))
  refine En.ret1 rfl (Res.tmp rfl) ?_
  obtain rfl := Option.some.inj h
  intro w' hs
  exact ⟨rfl, hs.below⟩

theorem w_laws_szPlane {a_p0 : PlaneT} {left_p1 : Int} {r : Int} {q0_0 : Option Addr} {l0_0 k0_0 : Nat} (h : laws_szPlane a_p0 left_p1 = some r) {w : World} (r0_0 : Rd tInt w q0_0 l0_0 k0_0 a_p0.Words)   :
    Calls Try.prog 52 #[.agg #[.bool a_p0.On, .int .i64 a_p0.X, .int .i64 a_p0.Y, .int .i64 a_p0.W, .int .i64 a_p0.H, .int .i64 a_p0.Layout, .slice q0_0 l0_0 k0_0, .int .i64 a_p0.Alpha, .int .i64 a_p0.Orient, .int .i64 a_p0.ToW, .int .i64 a_p0.ToH], .int .i64 left_p1] w (fun en w' => en = .returned (.int .i64 r) ∧ Ext w w') := by
 obtain rfl := r0_0.1
 unfold laws_szPlane at h
 refine enter (vs := [_, _]) Try.func52 rfl rfl rfl rfl ?_
 refine WC.sr ?_
 refine WL.heavy rfl rfl rfl (OpH.box rfl rfl ?_)
 intro b0_0
 refine ag ?_
 refine WL.nil (En.next (WC.seq ?_))
 obtain ⟨x1_3, e1_3, h⟩ := bnd h
 refine WC.region ?_
 refine sp (OpV.fieldAddr rfl fo_99_6) ?_
 refine sp (OpV.loadBox rfl pt_23 mq0 rfl) ?_
 refine mv ?_
 refine sp (OpV.call (ec rfl (ec rfl e0)) ca_53 (fun w hs => w_laws_szIntS e1_3 (r0_0.ext hs.below))) ?_
 refine ag ?_
 refine WL.nil (En.next (WC.seq (WC.sr ?_)))
 refine mv ?_
 refine sp (OpV.lss rfl rfl) ?_
 refine WL.nil (En.next ?_)
 refine WC.cond rfl ?_ ?_
 ·
  intro hc_1
  replace h := ifO_t hc_1 h
  refine WC.sr ?_
  refine ag ?_
  refine WL.nil (En.next (WC.ret (En.then_ret ?_)))
  refine En.ret1 rfl (Res.tmp rfl) ?_
  obtain rfl := Option.some.inj h
  intro w' hs
  exact ⟨rfl, hs.below⟩
 ·
  intro hc_1
  replace h := ifO_f hc_1 h
  refine WC.skip (En.next (WC.sr ?_))
  refine mv ?_
  refine ag ?_
  refine WL.nil (En.next (WC.ret ?_))
  refine En.ret1 rfl (Res.tmp rfl) ?_
  obtain rfl := Option.some.inj h
  intro w' hs
  exact ⟨rfl, hs.below⟩

theorem w_laws_szPlaneS {a_p0 : List PlaneT} {left_p1 : Int} {r : Int} {q0_0 : Option Addr} {l0_0 k0_0 : Nat} (h : laws_szPlaneS a_p0 left_p1 = some r) {w : World} (r0_0 : Rd tPlane w q0_0 l0_0 k0_0 a_p0)   :
    Calls Try.prog 10 #[.slice q0_0 l0_0 k0_0, .int .i64 left_p1] w (fun en w' => en = .returned (.int .i64 r) ∧ Ext w w') := by
 obtain rfl := r0_0.1
 unfold laws_szPlaneS at h
 refine enter (vs := [_, _]) Try.func10 rfl rfl rfl rfl ?_
 refine WC.sr ?_
 refine ag ?_
 refine WL.nil (En.next (WC.sr ?_))
 refine mv ?_
 refine mv ?_
 refine sp (OpV.len rfl si_22 rfl) ?_
 refine sp (OpV.subR rfl rfl) ?_
 refine ag ?_
 refine WL.nil (En.next (WC.seq (WC.sr ?_)))
 refine mv ?_
 refine sp (OpV.lss rfl rfl) ?_
 refine WL.nil (En.next ?_)
 refine WC.cond rfl ?_ ?_
 ·
  intro hc_1
  replace h := ifO_t hc_1 h
  refine WC.sr ?_
  refine ag ?_
  refine WL.nil (En.next (WC.ret (En.then_ret ?_)))
  refine En.ret1 rfl (Res.tmp rfl) ?_
  obtain rfl := Option.some.inj h
  intro w' hs
  exact ⟨rfl, hs.below⟩
 ·
  intro hc_1
  replace h := ifO_f hc_1 h
  refine WC.skip (En.next (WC.seq (WC.sr ?_)))
  refine ag ?_
  refine WL.nil (En.next (WC.block ?_))
  obtain ⟨zy0, ezy0, h⟩ := bnd h
  refine WC.cut (X := (Int) × (Unit)) (.exit 0) (fun x => zy0 = .inl x.1) (fun x => match x with | (left_0e, ()) => [(1, .int .i64 left_0e)]) (fun x => match x with | (left_0e, ()) => []) ?_ ?_
  ·
   rintro ⟨left_0e, ⟨⟩⟩ hx
   replace hx : .inl left_0e = zy0 := hx.symm
   subst hx
   replace h := fork_l h
   show En _ _ _ _ [(1, .int .i64 left_0e)] []
   refine En.block_exit (En.next (WC.sr ?_))
   refine mv ?_
   refine ag ?_
   refine WL.nil (En.next (WC.ret ?_))
   refine En.ret1 rfl (Res.tmp rfl) ?_
   obtain rfl := Option.some.inj h
   intro w' hs
   exact ⟨rfl, hs.below⟩
  ·
   intro zK0_0
   refine WC.loopP (G := Unit) (fun s g => match s, g with | (left_0, i_0), () => [(0, .slice q0_0 a_p0.length k0_0), (1, .int .i64 left_0), (5, .int .i64 i_0)]) (fun s g => match s, g with | (left_0, i_0), () => []) ((wr (left_p1 - (a_p0.length : Int))), 0) () ezy0 (by exact sc (sc (sc sn))) (by exact (fun _ h => h)) ?_
   rintro zm0 ⟨left_0, i_0⟩ ⟨⟩ zo0 zf0 zb0 ze0
   have zh0 : laws_szPlaneS_L0 a_p0 left_0 i_0 = some zo0 := zf0
   unfold laws_szPlaneS_L0 at zh0
   show WC _ _ _ _ _ [(0, .slice q0_0 a_p0.length k0_0), (1, .int .i64 left_0), (5, .int .i64 i_0)] []
   refine WC.seq (WC.sr ?_)
   refine mv ?_
   refine mv ?_
   refine sp (OpV.len rfl si_22 rfl) ?_
   refine sp (OpV.lss rfl rfl) ?_
   refine WL.nil (En.next ?_)
   refine WC.cond rfl ?_ ?_
   ·
    intro hc_2
    replace zh0 := ifO_t hc_2 zh0
    refine WC.skip (En.next (WC.seq (WC.block (WC.seq ?_))))
    obtain ⟨x7_2, e7_2, zh0⟩ := bnd zh0
    obtain ⟨g7_2, o7_2, _, ha7_2, ⟨a7_2_1, c7_2_1, rfl, r7_2_1⟩, hd7_2⟩ := Rd.atIdx r0_0 e7_2
    replace hd7_2 : ∀ (j : Nat) v, ([.bool x7_2.On, .int .i64 x7_2.X, .int .i64 x7_2.Y, .int .i64 x7_2.W, .int .i64 x7_2.H, .int .i64 x7_2.Layout, .slice a7_2_1 x7_2.Words.length c7_2_1, .int .i64 x7_2.Alpha, .int .i64 x7_2.Orient, .int .i64 x7_2.ToW, .int .i64 x7_2.ToH] : List Value)[j]? = some v → w.cell? ⟨g7_2, o7_2 + i_0.toNat * 11 + j, .none⟩ = some v := hd7_2
    obtain ⟨x7_5, e7_5, zh0⟩ := bnd zh0
    refine WC.region ?_
    refine mv ?_
    refine mv ?_
    refine sp (OpV.idxA rfl rfl se_22 ha7_2 ⟨(idx_some e7_2).1, (idx_some e7_2).2.1⟩) ?_
    refine sp (OpV.loadN rfl ag_99 rfl (fun w hs => hs.cellsAt hd7_2)) ?_
    refine mv ?_
    refine sp (OpV.call (ec rfl (ec rfl e0)) ca_52 (fun w hs => w_laws_szPlane e7_5 (r7_2_1.ext hs.below))) ?_
    refine ag ?_
    refine WL.nil (En.next (WC.sr ?_))
    refine mv ?_
    refine sp (OpV.lss rfl rfl) ?_
    refine WL.nil (En.next ?_)
    refine WC.cond rfl ?_ ?_
    ·
     intro hc_3
     replace zh0 := ifO_t hc_3 zh0
     refine WC.sr ?_
     refine ag ?_
     refine WL.nil (En.next (WC.ret (En.block_ret (En.then_ret (En.then_ret (En.block_ret (En.then_ret ?_)))))))
     refine En.ret1 rfl (Res.tmp rfl) ?_
     have hx := exitP ze0 zh0
     subst hx
     replace h := fork_r h
     obtain rfl := Option.some.inj h
     intro w' hs
     exact ⟨rfl, hs.below⟩
    ·
     intro hc_3
     replace zh0 := ifO_f hc_3 zh0
     refine WC.skip (En.block_norm (En.next (WC.region ?_)))
     refine mv ?_
     refine sp (OpV.addR rfl rfl) ?_
     refine ag ?_
     refine WL.nil ?_
     exact En.backP zb0 zh0 () (sc (sc (sc sn))) (fun _ h => h)
   ·
    intro hc_2
    replace zh0 := ifO_f hc_2 zh0
    refine WC.exit (En.then_exit (En.then_exit ?_))
    have hx := exitP ze0 zh0
    exact En.wk _ _ (sc sn) (fun _ h => h) (zK0_0 (left_0, ()) hx.symm)

theorem w_laws_szColorMap {a_p0 : ColorMapT} {left_p1 : Int} {r : Int} {q0_0 : Option Addr} {l0_0 k0_0 : Nat} {q0_1 : Option Addr} {l0_1 k0_1 : Nat} (h : laws_szColorMap a_p0 left_p1 = some r) {w : World} (r0_0 : Rd tInt w q0_0 l0_0 k0_0 a_p0.Matrix) (r0_1 : Rd tInt w q0_1 l0_1 k0_1 a_p0.Curve)   :
    Calls Try.prog 11 #[.agg #[.slice q0_0 l0_0 k0_0, .slice q0_1 l0_1 k0_1], .int .i64 left_p1] w (fun en w' => en = .returned (.int .i64 r) ∧ Ext w w') := by
 obtain rfl := r0_0.1
 obtain rfl := r0_1.1
 unfold laws_szColorMap at h
 refine enter (vs := [_, _]) Try.func11 rfl rfl rfl rfl ?_
 refine WC.sr ?_
 refine WL.heavy rfl rfl rfl (OpH.box rfl rfl ?_)
 intro b0_0
 refine ag ?_
 refine WL.nil (En.next (WC.seq ?_))
 obtain ⟨x1_3, e1_3, h⟩ := bnd h
 refine WC.region ?_
 refine sp (OpV.fieldAddr rfl fo_25_0) ?_
 refine sp (OpV.loadBox rfl pt_23 mq0 rfl) ?_
 refine mv ?_
 refine sp (OpV.call (ec rfl (ec rfl e0)) ca_53 (fun w hs => w_laws_szIntS e1_3 (r0_0.ext hs.below))) ?_
 refine ag ?_
 refine WL.nil (En.next (WC.seq (WC.sr ?_)))
 refine mv ?_
 refine sp (OpV.lss rfl rfl) ?_
 refine WL.nil (En.next ?_)
 refine WC.cond rfl ?_ ?_
 ·
  intro hc_1
  replace h := ifO_t hc_1 h
  refine WC.sr ?_
  refine ag ?_
  refine WL.nil (En.next (WC.ret (En.then_ret ?_)))
  refine En.ret1 rfl (Res.tmp rfl) ?_
  obtain rfl := Option.some.inj h
  intro w' hs
  exact ⟨rfl, hs.below⟩
 ·
  intro hc_1
  replace h := ifO_f hc_1 h
  refine WC.skip (En.next (WC.seq ?_))
  obtain ⟨x4_3, e4_3, h⟩ := bnd h
  refine WC.region ?_
  refine sp (OpV.fieldAddr rfl fo_25_1) ?_
  refine sp (OpV.loadBox rfl pt_23 mq0 rfl) ?_
  refine mv ?_
  refine sp (OpV.call (ec rfl (ec rfl e0)) ca_53 (fun w hs => w_laws_szIntS e4_3 (r0_1.ext hs.below))) ?_
  refine ag ?_
  refine WL.nil (En.next (WC.seq (WC.sr ?_)))
  refine mv ?_
  refine sp (OpV.lss rfl rfl) ?_
  refine WL.nil (En.next ?_)
  refine WC.cond rfl ?_ ?_
  ·
   intro hc_2
   replace h := ifO_t hc_2 h
   refine WC.sr ?_
   refine ag ?_
   refine WL.nil (En.next (WC.ret (En.then_ret ?_)))
   refine En.ret1 rfl (Res.tmp rfl) ?_
   obtain rfl := Option.some.inj h
   intro w' hs
   exact ⟨rfl, hs.below⟩
  ·
   intro hc_2
   replace h := ifO_f hc_2 h
   refine WC.skip (En.next (WC.sr ?_))
   refine mv ?_
   refine ag ?_
   refine WL.nil (En.next (WC.ret ?_))
   refine En.ret1 rfl (Res.tmp rfl) ?_
   obtain rfl := Option.some.inj h
   intro w' hs
   exact ⟨rfl, hs.below⟩

theorem w_laws_szCrtc {a_p0 : CrtcT} {left_p1 : Int} {r : Int} {q0_0 : Option Addr} {l0_0 k0_0 : Nat} {q0_1 : Option Addr} {l0_1 k0_1 : Nat} {q0_2 : Option Addr} {l0_2 k0_2 : Nat} (h : laws_szCrtc a_p0 left_p1 = some r) {w : World} (r0_0 : Rd tPlane w q0_0 l0_0 k0_0 a_p0.Planes) (r0_1 : Rd tInt w q0_1 l0_1 k0_1 a_p0.Color.Matrix) (r0_2 : Rd tInt w q0_2 l0_2 k0_2 a_p0.Color.Curve)   :
    Calls Try.prog 9 #[.agg #[.int .i64 a_p0.W, .int .i64 a_p0.H, .slice q0_0 l0_0 k0_0, .slice q0_1 l0_1 k0_1, .slice q0_2 l0_2 k0_2], .int .i64 left_p1] w (fun en w' => en = .returned (.int .i64 r) ∧ Ext w w') := by
 obtain rfl := r0_0.1
 obtain rfl := r0_1.1
 obtain rfl := r0_2.1
 unfold laws_szCrtc at h
 refine enter (vs := [_, _]) Try.func9 rfl rfl rfl rfl ?_
 refine WC.sr ?_
 refine WL.heavy rfl rfl rfl (OpH.box rfl rfl ?_)
 intro b0_0
 refine ag ?_
 refine WL.nil (En.next (WC.seq ?_))
 obtain ⟨x1_3, e1_3, h⟩ := bnd h
 refine WC.region ?_
 refine sp (OpV.fieldAddr rfl fo_27_2) ?_
 refine sp (OpV.loadBox rfl pt_22 mq0 rfl) ?_
 refine mv ?_
 refine sp (OpV.call (ec rfl (ec rfl e0)) ca_10 (fun w hs => w_laws_szPlaneS e1_3 (r0_0.ext hs.below))) ?_
 refine ag ?_
 refine WL.nil (En.next (WC.seq (WC.sr ?_)))
 refine mv ?_
 refine sp (OpV.lss rfl rfl) ?_
 refine WL.nil (En.next ?_)
 refine WC.cond rfl ?_ ?_
 ·
  intro hc_1
  replace h := ifO_t hc_1 h
  refine WC.sr ?_
  refine ag ?_
  refine WL.nil (En.next (WC.ret (En.then_ret ?_)))
  refine En.ret1 rfl (Res.tmp rfl) ?_
  obtain rfl := Option.some.inj h
  intro w' hs
  exact ⟨rfl, hs.below⟩
 ·
  intro hc_1
  replace h := ifO_f hc_1 h
  refine WC.skip (En.next (WC.seq ?_))
  obtain ⟨x4_3, e4_3, h⟩ := bnd h
  refine WC.region ?_
  refine sp (OpV.fieldAddr rfl fo_27_3) ?_
  refine sp (OpV.loadPart rfl mq0 ag_25 rfl rfl) ?_
  refine mv ?_
  refine sp (OpV.call (ec rfl (ec rfl e0)) ca_11 (fun w hs => w_laws_szColorMap e4_3 (r0_1.ext hs.below) (r0_2.ext hs.below))) ?_
  refine ag ?_
  refine WL.nil (En.next (WC.seq (WC.sr ?_)))
  refine mv ?_
  refine sp (OpV.lss rfl rfl) ?_
  refine WL.nil (En.next ?_)
  refine WC.cond rfl ?_ ?_
  ·
   intro hc_2
   replace h := ifO_t hc_2 h
   refine WC.sr ?_
   refine ag ?_
   refine WL.nil (En.next (WC.ret (En.then_ret ?_)))
   refine En.ret1 rfl (Res.tmp rfl) ?_
   obtain rfl := Option.some.inj h
   intro w' hs
   exact ⟨rfl, hs.below⟩
  ·
   intro hc_2
   replace h := ifO_f hc_2 h
   refine WC.skip (En.next (WC.sr ?_))
   refine mv ?_
   refine ag ?_
   refine WL.nil (En.next (WC.ret ?_))
   refine En.ret1 rfl (Res.tmp rfl) ?_
   obtain rfl := Option.some.inj h
   intro w' hs
   exact ⟨rfl, hs.below⟩

theorem w_laws_toIntS {a_p0 : List Int} {r : (List Int)} {q0_0 : Option Addr} {l0_0 k0_0 : Nat} (h : laws_toIntS a_p0 = some r) {w : World} (r0_0 : Rd tInt w q0_0 l0_0 k0_0 a_p0)   :
    Calls Try.prog 59 #[.slice q0_0 l0_0 k0_0] w (fun en w' => ∃ rv G, en = .returned rv ∧ (∃ (a0_0 : Option Addr) (n0_0 : Nat) (c0_0 : Nat) (f0_0 : List Nat), rv = .slice a0_0 n0_0 c0_0 ∧ G = [Chunk.own tInt f0_0 a0_0 n0_0 c0_0 r]) ∧ St w G w') := by
 obtain rfl := r0_0.1
 unfold laws_toIntS at h
 refine enter (vs := [_]) Try.func59 rfl rfl rfl rfl ?_
 refine WC.sr ?_
 refine ag ?_
 refine WL.nil (En.next (WC.seq ?_))
 obtain ⟨x1_2, e1_2, h⟩ := bnd h
 refine WC.region ?_
 refine mv ?_
 refine sp (OpV.len rfl si_23 rfl) ?_
 refine WL.heavy rfl rfl rfl (OpH.makeO (A := tInt) rfl rfl mi_23 (fun w => tInt_flat.ow w 0) (by decide) e1_2 ⟨Int.le_refl _, (mkO_some e1_2).1.2⟩ ?_)
 intro b1_2
 refine ag ?_
 refine WL.nil (En.next (WC.seq (WC.sr ?_)))
 refine ag ?_
 refine WL.nil (En.next (WC.block ?_))
 obtain ⟨zy0, ezy0, h⟩ := bnd h
 refine WC.cut (X := ((List Int)) × ((List Nat))) (.exit 0) (fun x => zy0 = x.1) (fun x => match x with | (out_0e, fout_0e) => [(3, .slice (some ⟨b1_2, 0, .none⟩) x1_2.length ((a_p0.length : Int).toNat))]) (fun x => match x with | (out_0e, fout_0e) => [Chunk.own tInt fout_0e (some ⟨b1_2, 0, .none⟩) x1_2.length ((a_p0.length : Int).toNat) out_0e]) ?_ ?_
 ·
  rintro ⟨out_0e, fout_0e⟩ hx
  replace hx : out_0e = zy0 := hx.symm
  subst hx
  show En _ _ _ _ [(3, .slice (some ⟨b1_2, 0, .none⟩) x1_2.length ((a_p0.length : Int).toNat))] [Chunk.own tInt fout_0e (some ⟨b1_2, 0, .none⟩) x1_2.length ((a_p0.length : Int).toNat) out_0e]
  refine En.block_exit (En.next (WC.sr ?_))
  refine mv ?_
  refine ag ?_
  refine WL.nil (En.next (WC.ret ?_))
  refine En.ret1 rfl (Res.tmp rfl) ?_
  obtain rfl := Option.some.inj h
  intro w' hs
  have hs := hs
  exact ⟨_, _, rfl, ⟨(some ⟨b1_2, 0, .none⟩), x1_2.length, ((a_p0.length : Int).toNat), fout_0e, rfl, rfl⟩, hs⟩
 ·
  intro zK0_0
  refine WC.loopP (G := (List Nat)) (fun s g => match s, g with | (out_0, i_0), fout_0 => [(0, .slice q0_0 a_p0.length k0_0), (3, .slice (some ⟨b1_2, 0, .none⟩) x1_2.length ((a_p0.length : Int).toNat)), (4, .int .i64 i_0)]) (fun s g => match s, g with | (out_0, i_0), fout_0 => [Chunk.own tInt fout_0 (some ⟨b1_2, 0, .none⟩) x1_2.length ((a_p0.length : Int).toNat) out_0]) (x1_2, 0) [b1_2] ezy0 (by exact sc (sc (sc sn))) (by exact (fun _ h => h)) ?_
  rintro zm0 ⟨out_0, i_0⟩ fout_0 zo0 zf0 zb0 ze0
  have zh0 : laws_toIntS_L0 a_p0 out_0 i_0 = some zo0 := zf0
  unfold laws_toIntS_L0 at zh0
  show WC _ _ _ _ _ [(0, .slice q0_0 a_p0.length k0_0), (3, .slice (some ⟨b1_2, 0, .none⟩) x1_2.length ((a_p0.length : Int).toNat)), (4, .int .i64 i_0)] [Chunk.own tInt fout_0 (some ⟨b1_2, 0, .none⟩) x1_2.length ((a_p0.length : Int).toNat) out_0]
  refine WC.seq (WC.sr ?_)
  refine mv ?_
  refine mv ?_
  refine sp (OpV.len rfl si_23 rfl) ?_
  refine sp (OpV.lss rfl rfl) ?_
  refine WL.nil (En.next ?_)
  refine WC.cond rfl ?_ ?_
  ·
   intro hc_1
   replace zh0 := ifO_t hc_1 zh0
   refine WC.skip (En.next (WC.seq (WC.block ?_)))
   refine WC.inh fun hin5 => ?_
   obtain ⟨x5_4, e5_4, zh0⟩ := bnd zh0
   obtain ⟨g5_4, o5_4, _, ha5_4, rfl, hd5_4⟩ := Rd.atIdx r0_0 e5_4
   replace hd5_4 : ∀ (j : Nat) v, ([.int .i64 x5_4] : List Value)[j]? = some v → w.cell? ⟨g5_4, o5_4 + i_0.toNat * 1 + j, .none⟩ = some v := hd5_4
   have hn5_6 := ownLen hin5 mq0
   obtain ⟨x5_7, e5_7, zh0⟩ := bnd zh0
   obtain ⟨g5_6, o5_6, ha5_6⟩ := ownAddrU hin5 mq0 e5_7
   refine WC.region ?_
   refine mv ?_
   refine mv ?_
   refine mv ?_
   refine mv ?_
   refine sp (OpV.idxA rfl rfl se_23 ha5_4 ⟨(idx_some e5_4).1, (idx_some e5_4).2.1⟩) ?_
   refine sp (OpV.load1 rfl pt_3 (fun w hs => hs.cell (hd5_4 0 _ rfl))) ?_
   refine sp (OpV.idxA rfl rfl se_23 ha5_6 ⟨(upd_some e5_7).1.1, by rw [hn5_6]; exact (upd_some e5_7).1.2⟩) ?_
   refine WL.wkF (fun _ h => St.elFlat tInt_flat x5_4 h) ?_
   refine WL.heavy0 rfl rfl (OpH.setEl (A := tInt) ha5_6 rfl rfl rfl ts_3 e5_7 ?_)
   intro f5_7
   refine WL.nil (En.block_norm (En.next (WC.region ?_)))
   refine mv ?_
   refine sp (OpV.addR rfl rfl) ?_
   refine ag ?_
   refine WL.nil ?_
   exact En.backP zb0 zh0 f5_7 (sc (sc (sc sn))) (fun _ h => h)
  ·
   intro hc_1
   replace zh0 := ifO_f hc_1 zh0
   refine WC.exit (En.then_exit (En.then_exit ?_))
   have hx := exitP ze0 zh0
   exact En.wk _ _ (sc sn) (fun _ h => h) (zK0_0 (out_0, fout_0) hx.symm)

theorem w_laws_toPlane {a_p0 : PlaneT} {r : PlaneT} {q0_0 : Option Addr} {l0_0 k0_0 : Nat} (h : laws_toPlane a_p0 = some r) {w : World} (r0_0 : Rd tInt w q0_0 l0_0 k0_0 a_p0.Words)   :
    Calls Try.prog 58 #[.agg #[.bool a_p0.On, .int .i64 a_p0.X, .int .i64 a_p0.Y, .int .i64 a_p0.W, .int .i64 a_p0.H, .int .i64 a_p0.Layout, .slice q0_0 l0_0 k0_0, .int .i64 a_p0.Alpha, .int .i64 a_p0.Orient, .int .i64 a_p0.ToW, .int .i64 a_p0.ToH]] w (fun en w' => ∃ rv G, en = .returned rv ∧ (∃ (a0_0 : Option Addr) (n0_0 : Nat) (c0_0 : Nat) (f0_0 : List Nat), rv = .agg #[.bool r.On, .int .i64 r.X, .int .i64 r.Y, .int .i64 r.W, .int .i64 r.H, .int .i64 r.Layout, .slice a0_0 n0_0 c0_0, .int .i64 r.Alpha, .int .i64 r.Orient, .int .i64 r.ToW, .int .i64 r.ToH] ∧ G = [Chunk.own tInt f0_0 a0_0 n0_0 c0_0 r.Words]) ∧ St w G w') := by
 obtain rfl := r0_0.1
 unfold laws_toPlane at h
 refine enter (vs := [_]) Try.func58 rfl rfl rfl rfl ?_
 refine WC.sr ?_
 refine WL.heavy rfl rfl rfl (OpH.box rfl rfl ?_)
 intro b0_0
 refine WL.heavy rfl rfl rfl (OpH.alloc zc_56 ?_)
 intro b0_1
 refine WL.nil (En.next (WC.sr ?_))
 refine WL.heavy rfl rfl rfl (OpH.alloc zc_56 ?_)
 intro b1_0
 refine WL.nil (En.next (WC.sr ?_))
 refine sp (OpV.fieldAddr rfl fo_99_0) ?_
 refine sp (OpV.loadBox rfl pt_4 mq2 rfl) ?_
 refine sp (OpV.fieldAddr rfl fo_56_0) ?_
 refine WL.heavy0 rfl rfl (OpH.storeTo (A := []) [_, _, _, _, _, _, _, _, _, _, _] rfl rfl rfl ts_4 rfl rfl rfl ?_)
 refine WL.nil (En.next (WC.sr ?_))
 refine sp (OpV.fieldAddr rfl fo_99_1) ?_
 refine sp (OpV.loadBox rfl pt_3 mq2 rfl) ?_
 refine sp (OpV.fieldAddr rfl fo_56_1) ?_
 refine WL.heavy0 rfl rfl (OpH.storeTo (A := []) [_, _, _, _, _, _, _, _, _, _, _] rfl rfl rfl ts_3 rfl rfl rfl ?_)
 refine WL.nil (En.next (WC.sr ?_))
 refine sp (OpV.fieldAddr rfl fo_99_2) ?_
 refine sp (OpV.loadBox rfl pt_3 mq2 rfl) ?_
 refine sp (OpV.fieldAddr rfl fo_56_2) ?_
 refine WL.heavy0 rfl rfl (OpH.storeTo (A := []) [_, _, _, _, _, _, _, _, _, _, _] rfl rfl rfl ts_3 rfl rfl rfl ?_)
 refine WL.nil (En.next (WC.sr ?_))
 refine sp (OpV.fieldAddr rfl fo_99_3) ?_
 refine sp (OpV.loadBox rfl pt_3 mq2 rfl) ?_
 refine sp (OpV.fieldAddr rfl fo_56_3) ?_
 refine WL.heavy0 rfl rfl (OpH.storeTo (A := []) [_, _, _, _, _, _, _, _, _, _, _] rfl rfl rfl ts_3 rfl rfl rfl ?_)
 refine WL.nil (En.next (WC.sr ?_))
 refine sp (OpV.fieldAddr rfl fo_99_4) ?_
 refine sp (OpV.loadBox rfl pt_3 mq2 rfl) ?_
 refine sp (OpV.fieldAddr rfl fo_56_4) ?_
 refine WL.heavy0 rfl rfl (OpH.storeTo (A := []) [_, _, _, _, _, _, _, _, _, _, _] rfl rfl rfl ts_3 rfl rfl rfl ?_)
 refine WL.nil (En.next (WC.sr ?_))
 refine sp (OpV.fieldAddr rfl fo_99_5) ?_
 refine sp (OpV.loadBox rfl pt_3 mq2 rfl) ?_
 refine sp (OpV.fieldAddr rfl fo_56_5) ?_
 refine WL.heavy0 rfl rfl (OpH.storeTo (A := []) [_, _, _, _, _, _, _, _, _, _, _] rfl rfl rfl ts_3 rfl rfl rfl ?_)
 refine WL.nil (En.next (WC.seq ?_))
 obtain ⟨x8_2, e8_2, h⟩ := bnd h
 refine WC.region ?_
 refine sp (OpV.fieldAddr rfl fo_99_6) ?_
 refine sp (OpV.loadBox rfl pt_23 mq2 rfl) ?_
 refine WL.heavy rfl rfl rfl (OpH.callR (ec rfl e0) ca_59 (fun w hs => w_laws_toIntS e8_2 (r0_0.ext hs.below)) ?_)
 rintro _ _ ⟨a8_200, n8_200, c8_200, f8_200, rfl, rfl⟩
 refine sp (OpV.fieldAddr rfl fo_56_6) ?_
 refine WL.heavy0 rfl rfl (OpH.storeTo (A := [_]) [_, _, _, _, _, _, _, _, _, _, _] rfl rfl rfl ts_23 rfl rfl rfl ?_)
 refine WL.nil (En.next (WC.sr ?_))
 refine sp (OpV.fieldAddr rfl fo_99_7) ?_
 refine sp (OpV.loadBox rfl pt_3 mq3 rfl) ?_
 refine sp (OpV.fieldAddr rfl fo_56_7) ?_
 refine WL.heavy0 rfl rfl (OpH.storeTo (A := [_]) [_, _, _, _, _, _, _, _, _, _, _] rfl rfl rfl ts_3 rfl rfl rfl ?_)
 refine WL.nil (En.next (WC.sr ?_))
 refine sp (OpV.fieldAddr rfl fo_99_8) ?_
 refine sp (OpV.loadBox rfl pt_3 mq3 rfl) ?_
 refine sp (OpV.fieldAddr rfl fo_56_8) ?_
 refine WL.heavy0 rfl rfl (OpH.storeTo (A := [_]) [_, _, _, _, _, _, _, _, _, _, _] rfl rfl rfl ts_3 rfl rfl rfl ?_)
 refine WL.nil (En.next (WC.sr ?_))
 refine sp (OpV.fieldAddr rfl fo_99_9) ?_
 refine sp (OpV.loadBox rfl pt_3 mq3 rfl) ?_
 refine sp (OpV.fieldAddr rfl fo_56_9) ?_
 refine WL.heavy0 rfl rfl (OpH.storeTo (A := [_]) [_, _, _, _, _, _, _, _, _, _, _] rfl rfl rfl ts_3 rfl rfl rfl ?_)
 refine WL.nil (En.next (WC.sr ?_))
 refine sp (OpV.fieldAddr rfl fo_99_10) ?_
 refine sp (OpV.loadBox rfl pt_3 mq3 rfl) ?_
 refine sp (OpV.fieldAddr rfl fo_56_10) ?_
 refine WL.heavy0 rfl rfl (OpH.storeTo (A := [_]) [_, _, _, _, _, _, _, _, _, _, _] rfl rfl rfl ts_3 rfl rfl rfl ?_)
 refine WL.nil (En.next (WC.sr ?_))
 refine sp (OpV.loadAll rfl mq1 ag_56) ?_
 refine WL.heavy0 rfl rfl (OpH.storeTo (A := [_, _]) [_, _, _, _, _, _, _, _, _, _, _] rfl rfl rfl ts_56 rfl rfl rfl ?_)
 refine WL.nil (En.next (WC.ret ?_))
 refine En.ret1 rfl (Res.cell rfl mq2 ag_56) ?_
 obtain rfl := Option.some.inj h
 intro w' hs
 have hs := (hs).sub (.cons_cons _ (.cons _ (.cons _ (.cons _ (.slnil)))))
 exact ⟨_, _, rfl, ⟨a8_200, n8_200, c8_200, f8_200, rfl, rfl⟩, hs⟩

theorem w_laws_toPlaneS {a_p0 : List PlaneT} {r : (List PlaneT)} {q0_0 : Option Addr} {l0_0 k0_0 : Nat} (h : laws_toPlaneS a_p0 = some r) {w : World} (r0_0 : Rd tPlane w q0_0 l0_0 k0_0 a_p0)   :
    Calls Try.prog 14 #[.slice q0_0 l0_0 k0_0] w (fun en w' => ∃ rv G, en = .returned rv ∧ (∃ (a0_0 : Option Addr) (n0_0 : Nat) (c0_0 : Nat) (f0_0 : List Nat), rv = .slice a0_0 n0_0 c0_0 ∧ G = [Chunk.own tPlane f0_0 a0_0 n0_0 c0_0 r]) ∧ St w G w') := by
 obtain rfl := r0_0.1
 unfold laws_toPlaneS at h
 refine enter (vs := [_]) Try.func14 rfl rfl rfl rfl ?_
 refine WC.sr ?_
 refine ag ?_
 refine WL.nil (En.next (WC.seq ?_))
 obtain ⟨x1_2, e1_2, h⟩ := bnd h
 refine WC.region ?_
 refine mv ?_
 refine sp (OpV.len rfl si_22 rfl) ?_
 refine WL.heavy rfl rfl rfl (OpH.makeO (A := tPlane) rfl rfl mi_33 tPlane_zero (by decide) e1_2 ⟨Int.le_refl _, (mkO_some e1_2).1.2⟩ ?_)
 intro b1_2
 refine ag ?_
 refine WL.nil (En.next (WC.seq (WC.sr ?_)))
 refine ag ?_
 refine WL.nil (En.next (WC.block ?_))
 obtain ⟨zy0, ezy0, h⟩ := bnd h
 refine WC.cut (X := ((List PlaneT)) × ((List Nat))) (.exit 0) (fun x => zy0 = x.1) (fun x => match x with | (out_0e, fout_0e) => [(3, .slice (some ⟨b1_2, 0, .none⟩) x1_2.length ((a_p0.length : Int).toNat))]) (fun x => match x with | (out_0e, fout_0e) => [Chunk.own tPlane fout_0e (some ⟨b1_2, 0, .none⟩) x1_2.length ((a_p0.length : Int).toNat) out_0e]) ?_ ?_
 ·
  rintro ⟨out_0e, fout_0e⟩ hx
  replace hx : out_0e = zy0 := hx.symm
  subst hx
  show En _ _ _ _ [(3, .slice (some ⟨b1_2, 0, .none⟩) x1_2.length ((a_p0.length : Int).toNat))] [Chunk.own tPlane fout_0e (some ⟨b1_2, 0, .none⟩) x1_2.length ((a_p0.length : Int).toNat) out_0e]
  refine En.block_exit (En.next (WC.sr ?_))
  refine mv ?_
  refine ag ?_
  refine WL.nil (En.next (WC.ret ?_))
  refine En.ret1 rfl (Res.tmp rfl) ?_
  obtain rfl := Option.some.inj h
  intro w' hs
  have hs := hs
  exact ⟨_, _, rfl, ⟨(some ⟨b1_2, 0, .none⟩), x1_2.length, ((a_p0.length : Int).toNat), fout_0e, rfl, rfl⟩, hs⟩
 ·
  intro zK0_0
  refine WC.loopP (G := (List Nat)) (fun s g => match s, g with | (out_0, i_0), fout_0 => [(0, .slice q0_0 a_p0.length k0_0), (3, .slice (some ⟨b1_2, 0, .none⟩) x1_2.length ((a_p0.length : Int).toNat)), (4, .int .i64 i_0)]) (fun s g => match s, g with | (out_0, i_0), fout_0 => [Chunk.own tPlane fout_0 (some ⟨b1_2, 0, .none⟩) x1_2.length ((a_p0.length : Int).toNat) out_0]) (x1_2, 0) [b1_2] ezy0 (by exact sc (sc (sc sn))) (by exact (fun _ h => h)) ?_
  rintro zm0 ⟨out_0, i_0⟩ fout_0 zo0 zf0 zb0 ze0
  have zh0 : laws_toPlaneS_L0 a_p0 out_0 i_0 = some zo0 := zf0
  unfold laws_toPlaneS_L0 at zh0
  show WC _ _ _ _ _ [(0, .slice q0_0 a_p0.length k0_0), (3, .slice (some ⟨b1_2, 0, .none⟩) x1_2.length ((a_p0.length : Int).toNat)), (4, .int .i64 i_0)] [Chunk.own tPlane fout_0 (some ⟨b1_2, 0, .none⟩) x1_2.length ((a_p0.length : Int).toNat) out_0]
  refine WC.seq (WC.sr ?_)
  refine mv ?_
  refine mv ?_
  refine sp (OpV.len rfl si_22 rfl) ?_
  refine sp (OpV.lss rfl rfl) ?_
  refine WL.nil (En.next ?_)
  refine WC.cond rfl ?_ ?_
  ·
   intro hc_1
   replace zh0 := ifO_t hc_1 zh0
   refine WC.skip (En.next (WC.seq (WC.block ?_)))
   refine WC.inh fun hin5 => ?_
   obtain ⟨x5_4, e5_4, zh0⟩ := bnd zh0
   obtain ⟨g5_4, o5_4, _, ha5_4, ⟨a5_4_1, c5_4_1, rfl, r5_4_1⟩, hd5_4⟩ := Rd.atIdx r0_0 e5_4
   replace hd5_4 : ∀ (j : Nat) v, ([.bool x5_4.On, .int .i64 x5_4.X, .int .i64 x5_4.Y, .int .i64 x5_4.W, .int .i64 x5_4.H, .int .i64 x5_4.Layout, .slice a5_4_1 x5_4.Words.length c5_4_1, .int .i64 x5_4.Alpha, .int .i64 x5_4.Orient, .int .i64 x5_4.ToW, .int .i64 x5_4.ToH] : List Value)[j]? = some v → w.cell? ⟨g5_4, o5_4 + i_0.toNat * 11 + j, .none⟩ = some v := hd5_4
   obtain ⟨x5_6, e5_6, zh0⟩ := bnd zh0
   have hn5_7 := ownLen hin5 mq0
   obtain ⟨x5_8, e5_8, zh0⟩ := bnd zh0
   obtain ⟨g5_7, o5_7, ha5_7⟩ := ownAddrU hin5 mq0 e5_8
   refine WC.region ?_
   refine mv ?_
   refine mv ?_
   refine mv ?_
   refine mv ?_
   refine sp (OpV.idxA rfl rfl se_22 ha5_4 ⟨(idx_some e5_4).1, (idx_some e5_4).2.1⟩) ?_
   refine sp (OpV.loadN rfl ag_99 rfl (fun w hs => hs.cellsAt hd5_4)) ?_
   refine WL.heavy rfl rfl rfl (OpH.callR (ec rfl e0) ca_58 (fun w hs => w_laws_toPlane e5_6 (r5_4_1.ext hs.below)) ?_)
   rintro _ _ ⟨a5_600, n5_600, c5_600, f5_600, rfl, rfl⟩
   refine sp (OpV.idxA rfl rfl se_33 ha5_7 ⟨(upd_some e5_8).1.1, by rw [hn5_7]; exact (upd_some e5_8).1.2⟩) ?_
   refine WL.wkF (fun _ h => tPlane_mk x5_6.On x5_6.X x5_6.Y x5_6.W x5_6.H x5_6.Layout x5_6.Words x5_6.Alpha x5_6.Orient x5_6.ToW x5_6.ToH h) ?_
   refine WL.heavy0 rfl rfl (OpH.setEl (A := tPlane) ha5_7 rfl rfl rfl ts_56 e5_8 ?_)
   intro f5_8
   refine WL.nil (En.block_norm (En.next (WC.region ?_)))
   refine mv ?_
   refine sp (OpV.addR rfl rfl) ?_
   refine ag ?_
   refine WL.nil ?_
   exact En.backP zb0 zh0 f5_8 (sc (sc (sc sn))) (fun _ h => h)
  ·
   intro hc_1
   replace zh0 := ifO_f hc_1 zh0
   refine WC.exit (En.then_exit (En.then_exit ?_))
   have hx := exitP ze0 zh0
   exact En.wk _ _ (sc sn) (fun _ h => h) (zK0_0 (out_0, fout_0) hx.symm)

theorem w_laws_toColorMap {a_p0 : ColorMapT} {r : ColorMapT} {q0_0 : Option Addr} {l0_0 k0_0 : Nat} {q0_1 : Option Addr} {l0_1 k0_1 : Nat} (h : laws_toColorMap a_p0 = some r) {w : World} (r0_0 : Rd tInt w q0_0 l0_0 k0_0 a_p0.Matrix) (r0_1 : Rd tInt w q0_1 l0_1 k0_1 a_p0.Curve)   :
    Calls Try.prog 15 #[.agg #[.slice q0_0 l0_0 k0_0, .slice q0_1 l0_1 k0_1]] w (fun en w' => ∃ rv G, en = .returned rv ∧ (∃ (a0_0 : Option Addr) (n0_0 : Nat) (c0_0 : Nat) (f0_0 : List Nat) (a0_1 : Option Addr) (n0_1 : Nat) (c0_1 : Nat) (f0_1 : List Nat), rv = .agg #[.slice a0_0 n0_0 c0_0, .slice a0_1 n0_1 c0_1] ∧ G = [Chunk.own tInt f0_0 a0_0 n0_0 c0_0 r.Matrix, Chunk.own tInt f0_1 a0_1 n0_1 c0_1 r.Curve]) ∧ St w G w') := by
 obtain rfl := r0_0.1
 obtain rfl := r0_1.1
 unfold laws_toColorMap at h
 refine enter (vs := [_]) Try.func15 rfl rfl rfl rfl ?_
 refine WC.sr ?_
 refine WL.heavy rfl rfl rfl (OpH.box rfl rfl ?_)
 intro b0_0
 refine WL.heavy rfl rfl rfl (OpH.alloc zc_34 ?_)
 intro b0_1
 refine WL.nil (En.next (WC.sr ?_))
 refine WL.heavy rfl rfl rfl (OpH.alloc zc_34 ?_)
 intro b1_0
 refine WL.nil (En.next (WC.seq ?_))
 obtain ⟨x2_2, e2_2, h⟩ := bnd h
 refine WC.region ?_
 refine sp (OpV.fieldAddr rfl fo_25_0) ?_
 refine sp (OpV.loadBox rfl pt_23 mq2 rfl) ?_
 refine WL.heavy rfl rfl rfl (OpH.callR (ec rfl e0) ca_59 (fun w hs => w_laws_toIntS e2_2 (r0_0.ext hs.below)) ?_)
 rintro _ _ ⟨a2_200, n2_200, c2_200, f2_200, rfl, rfl⟩
 refine sp (OpV.fieldAddr rfl fo_34_0) ?_
 refine WL.heavy0 rfl rfl (OpH.storeTo (A := [_]) [_, _] rfl rfl rfl ts_23 rfl rfl rfl ?_)
 refine WL.nil (En.next (WC.seq ?_))
 obtain ⟨x3_2, e3_2, h⟩ := bnd h
 refine WC.region ?_
 refine sp (OpV.fieldAddr rfl fo_25_1) ?_
 refine sp (OpV.loadBox rfl pt_23 mq3 rfl) ?_
 refine WL.heavy rfl rfl rfl (OpH.callR (ec rfl e0) ca_59 (fun w hs => w_laws_toIntS e3_2 (r0_1.ext hs.below)) ?_)
 rintro _ _ ⟨a3_200, n3_200, c3_200, f3_200, rfl, rfl⟩
 refine sp (OpV.fieldAddr rfl fo_34_1) ?_
 refine WL.heavy0 rfl rfl (OpH.storeTo (A := [_, _]) [_, _] rfl rfl rfl ts_23 rfl rfl rfl ?_)
 refine WL.nil (En.next (WC.sr ?_))
 refine sp (OpV.loadAll rfl mq2 ag_34) ?_
 refine WL.heavy0 rfl rfl (OpH.storeTo (A := [_, _, _]) [_, _] rfl rfl rfl ts_34 rfl rfl rfl ?_)
 refine WL.nil (En.next (WC.ret ?_))
 refine En.ret1 rfl (Res.cell rfl mq3 ag_34) ?_
 obtain rfl := Option.some.inj h
 intro w' hs
 have hs := ((hs).pm 1).sub (.cons_cons _ (.cons_cons _ (.cons _ (.cons _ (.cons _ (.slnil))))))
 exact ⟨_, _, rfl, ⟨a2_200, n2_200, c2_200, f2_200, a3_200, n3_200, c3_200, f3_200, rfl, rfl⟩, hs⟩

theorem w_laws_toCrtc {a_p0 : CrtcT} {r : CrtcT} {q0_0 : Option Addr} {l0_0 k0_0 : Nat} {q0_1 : Option Addr} {l0_1 k0_1 : Nat} {q0_2 : Option Addr} {l0_2 k0_2 : Nat} (h : laws_toCrtc a_p0 = some r) {w : World} (r0_0 : Rd tPlane w q0_0 l0_0 k0_0 a_p0.Planes) (r0_1 : Rd tInt w q0_1 l0_1 k0_1 a_p0.Color.Matrix) (r0_2 : Rd tInt w q0_2 l0_2 k0_2 a_p0.Color.Curve)   :
    Calls Try.prog 13 #[.agg #[.int .i64 a_p0.W, .int .i64 a_p0.H, .slice q0_0 l0_0 k0_0, .slice q0_1 l0_1 k0_1, .slice q0_2 l0_2 k0_2]] w (fun en w' => ∃ rv G, en = .returned rv ∧ (∃ (a0_0 : Option Addr) (n0_0 : Nat) (c0_0 : Nat) (f0_0 : List Nat) (a0_1 : Option Addr) (n0_1 : Nat) (c0_1 : Nat) (f0_1 : List Nat) (a0_2 : Option Addr) (n0_2 : Nat) (c0_2 : Nat) (f0_2 : List Nat), rv = .agg #[.int .i64 r.W, .int .i64 r.H, .slice a0_0 n0_0 c0_0, .slice a0_1 n0_1 c0_1, .slice a0_2 n0_2 c0_2] ∧ G = [Chunk.own tPlane f0_0 a0_0 n0_0 c0_0 r.Planes, Chunk.own tInt f0_1 a0_1 n0_1 c0_1 r.Color.Matrix, Chunk.own tInt f0_2 a0_2 n0_2 c0_2 r.Color.Curve]) ∧ St w G w') := by
 obtain rfl := r0_0.1
 obtain rfl := r0_1.1
 obtain rfl := r0_2.1
 unfold laws_toCrtc at h
 refine enter (vs := [_]) Try.func13 rfl rfl rfl rfl ?_
 refine WC.sr ?_
 refine WL.heavy rfl rfl rfl (OpH.box rfl rfl ?_)
 intro b0_0
 refine WL.heavy rfl rfl rfl (OpH.alloc zc_36 ?_)
 intro b0_1
 refine WL.nil (En.next (WC.sr ?_))
 refine WL.heavy rfl rfl rfl (OpH.alloc zc_36 ?_)
 intro b1_0
 refine WL.nil (En.next (WC.sr ?_))
 refine sp (OpV.fieldAddr rfl fo_27_0) ?_
 refine sp (OpV.loadBox rfl pt_3 mq2 rfl) ?_
 refine sp (OpV.fieldAddr rfl fo_36_0) ?_
 refine WL.heavy0 rfl rfl (OpH.storeTo (A := []) [_, _, _, _, _] rfl rfl rfl ts_3 rfl rfl rfl ?_)
 refine WL.nil (En.next (WC.sr ?_))
 refine sp (OpV.fieldAddr rfl fo_27_1) ?_
 refine sp (OpV.loadBox rfl pt_3 mq2 rfl) ?_
 refine sp (OpV.fieldAddr rfl fo_36_1) ?_
 refine WL.heavy0 rfl rfl (OpH.storeTo (A := []) [_, _, _, _, _] rfl rfl rfl ts_3 rfl rfl rfl ?_)
 refine WL.nil (En.next (WC.seq ?_))
 obtain ⟨x4_2, e4_2, h⟩ := bnd h
 refine WC.region ?_
 refine sp (OpV.fieldAddr rfl fo_27_2) ?_
 refine sp (OpV.loadBox rfl pt_22 mq2 rfl) ?_
 refine WL.heavy rfl rfl rfl (OpH.callR (ec rfl e0) ca_14 (fun w hs => w_laws_toPlaneS e4_2 (r0_0.ext hs.below)) ?_)
 rintro _ _ ⟨a4_200, n4_200, c4_200, f4_200, rfl, rfl⟩
 refine sp (OpV.fieldAddr rfl fo_36_2) ?_
 refine WL.heavy0 rfl rfl (OpH.storeTo (A := [_]) [_, _, _, _, _] rfl rfl rfl ts_33 rfl rfl rfl ?_)
 refine WL.nil (En.next (WC.seq ?_))
 obtain ⟨x5_2, e5_2, h⟩ := bnd h
 refine WC.region ?_
 refine sp (OpV.fieldAddr rfl fo_27_3) ?_
 refine sp (OpV.loadPart rfl mq3 ag_25 rfl rfl) ?_
 refine WL.heavy rfl rfl rfl (OpH.callR (ec rfl e0) ca_15 (fun w hs => w_laws_toColorMap e5_2 (r0_1.ext hs.below) (r0_2.ext hs.below)) ?_)
 rintro _ _ ⟨a5_200, n5_200, c5_200, f5_200, a5_201, n5_201, c5_201, f5_201, rfl, rfl⟩
 refine sp (OpV.fieldAddr rfl fo_36_3) ?_
 refine WL.heavy0 rfl rfl (OpH.storeTo (A := [_, _, _]) [_, _, _, _, _] rfl rfl rfl ts_34 rfl rfl rfl ?_)
 refine WL.nil (En.next (WC.sr ?_))
 refine sp (OpV.loadAll rfl mq3 ag_36) ?_
 refine WL.heavy0 rfl rfl (OpH.storeTo (A := [_, _, _, _]) [_, _, _, _, _] rfl rfl rfl ts_36 rfl rfl rfl ?_)
 refine WL.nil (En.next (WC.ret ?_))
 refine En.ret1 rfl (Res.cell rfl mq4 ag_36) ?_
 obtain rfl := Option.some.inj h
 intro w' hs
 have hs := ((((hs).pm 1).pm 1).pm 2).sub (.cons_cons _ (.cons_cons _ (.cons_cons _ (.cons _ (.cons _ (.cons _ (.slnil)))))))
 exact ⟨_, _, rfl, ⟨a4_200, n4_200, c4_200, f4_200, a5_200, n5_200, c5_200, f5_200, a5_201, n5_201, c5_201, f5_201, rfl, rfl⟩, hs⟩

theorem w_spec_l05Ints {a_p0 : List Int} {b_p1 : List Int} {r : Bool} {q0_0 : Option Addr} {l0_0 k0_0 : Nat} {q1_0 : Option Addr} {l1_0 k1_0 : Nat} (h : spec_l05Ints a_p0 b_p1 = some r) {w : World} (r0_0 : Rd tInt w q0_0 l0_0 k0_0 a_p0) (r1_0 : Rd tInt w q1_0 l1_0 k1_0 b_p1)   :
    Calls Try.prog 108 #[.slice q0_0 l0_0 k0_0, .slice q1_0 l1_0 k1_0] w (fun en w' => en = .returned (.bool r) ∧ Ext w w') := by
 obtain rfl := r0_0.1
 obtain rfl := r1_0.1
 unfold spec_l05Ints at h
 refine enter (vs := [_, _]) Try.func108 rfl rfl rfl rfl ?_
 refine WC.sr ?_
 refine ag ?_
 refine WL.nil (En.next (WC.seq (WC.sr ?_)))
 refine mv ?_
 refine sp (OpV.len rfl si_23 rfl) ?_
 refine mv ?_
 refine sp (OpV.len rfl si_23 rfl) ?_
 refine sp (OpV.neq rfl rfl) ?_
 refine WL.nil (En.next ?_)
 refine WC.cond rfl ?_ ?_
 ·
  intro hc_1
  replace h := ifO_t hc_1 h
  refine WC.sr ?_
  refine ag ?_
  refine WL.nil (En.next (WC.ret (En.then_ret ?_)))
  refine En.ret1 rfl (Res.tmp rfl) ?_
  obtain rfl := Option.some.inj h
  intro w' hs
  exact ⟨rfl, hs.below⟩
 ·
  intro hc_1
  replace h := ifO_f hc_1 h
  refine WC.skip (En.next (WC.seq (WC.sr ?_)))
  refine ag ?_
  refine WL.nil (En.next (WC.block ?_))
  obtain ⟨zy0, ezy0, h⟩ := bnd h
  refine WC.cut (X := (Unit) × (Unit)) (.exit 0) (fun x => zy0 = .inl x.1) (fun x => match x with | ((), ()) => []) (fun x => match x with | ((), ()) => []) ?_ ?_
  ·
   rintro ⟨⟨⟩, ⟨⟩⟩ hx
   replace hx : .inl () = zy0 := hx.symm
   subst hx
   replace h := fork_l h
   show En _ _ _ _ [] []
   refine En.block_exit (En.next (WC.sr ?_))
   refine ag ?_
   refine WL.nil (En.next (WC.ret ?_))
   refine En.ret1 rfl (Res.tmp rfl) ?_
   obtain rfl := Option.some.inj h
   intro w' hs
   exact ⟨rfl, hs.below⟩
  ·
   intro zK0_0
   refine WC.loopP (G := Unit) (fun s g => match s, g with | k_0, () => [(0, .slice q0_0 a_p0.length k0_0), (1, .slice q1_0 b_p1.length k1_0), (5, .int .i64 k_0)]) (fun s g => match s, g with | k_0, () => []) 0 () ezy0 (by exact sc (sc (sc sn))) (by exact (fun _ h => h)) ?_
   rintro zm0 k_0 ⟨⟩ zo0 zf0 zb0 ze0
   have zh0 : spec_l05Ints_L0 a_p0 b_p1 k_0 = some zo0 := zf0
   unfold spec_l05Ints_L0 at zh0
   show WC _ _ _ _ _ [(0, .slice q0_0 a_p0.length k0_0), (1, .slice q1_0 b_p1.length k1_0), (5, .int .i64 k_0)] []
   refine WC.seq (WC.sr ?_)
   refine mv ?_
   refine mv ?_
   refine sp (OpV.len rfl si_23 rfl) ?_
   refine sp (OpV.lss rfl rfl) ?_
   refine WL.nil (En.next ?_)
   refine WC.cond rfl ?_ ?_
   ·
    intro hc_2
    replace zh0 := ifO_t hc_2 zh0
    refine WC.skip (En.next (WC.seq (WC.block (WC.seq ?_))))
    obtain ⟨x6_2, e6_2, zh0⟩ := bnd zh0
    obtain ⟨g6_2, o6_2, _, ha6_2, rfl, hd6_2⟩ := Rd.atIdx r0_0 e6_2
    replace hd6_2 : ∀ (j : Nat) v, ([.int .i64 x6_2] : List Value)[j]? = some v → w.cell? ⟨g6_2, o6_2 + k_0.toNat * 1 + j, .none⟩ = some v := hd6_2
    obtain ⟨x6_6, e6_6, zh0⟩ := bnd zh0
    obtain ⟨g6_6, o6_6, _, ha6_6, rfl, hd6_6⟩ := Rd.atIdx r1_0 e6_6
    replace hd6_6 : ∀ (j : Nat) v, ([.int .i64 x6_6] : List Value)[j]? = some v → w.cell? ⟨g6_6, o6_6 + k_0.toNat * 1 + j, .none⟩ = some v := hd6_6
    refine WC.drawn [(0, ?r6q3v0), (1, ?r6q3v1), (5, ?r6q3v5), (25, ?r6q3v25)] (by kernel_rfl) (by kernel_rfl) ?dH6q3 ?dK6q3
    case dH6q3 =>
     intro W hW hk
     refine hW.mv ?_
     refine hW.mv ?_
     refine hW.sp (OpV.idxA rfl rfl se_23 ha6_2 ⟨(idx_some e6_2).1, (idx_some e6_2).2.1⟩) ?_
     refine hW.sp (OpV.load1 rfl pt_3 (fun w hs => hs.cell (hd6_2 0 _ rfl))) ?_
     refine hW.mv ?_
     refine hW.mv ?_
     refine hW.sp (OpV.idxA rfl rfl se_23 ha6_6 ⟨(idx_some e6_6).1, (idx_some e6_6).2.1⟩) ?_
     refine hW.sp (OpV.load1 rfl pt_3 (fun w hs => hs.cell (hd6_6 0 _ rfl))) ?_
     refine hW.sp (OpV.neq rfl rfl) ?_
     refine hk _ ?_
     refine Sub.cons ?_ (Sub.cons ?_ (Sub.cons ?_ (Sub.cons ?_ sn)))
     all_goals exact rfl
    refine En.next ?_
    refine WC.cond rfl ?_ ?_
    ·
     intro hc_3
     replace zh0 := ifO_t hc_3 zh0
     refine WC.sr ?_
     refine ag ?_
     refine WL.nil (En.next (WC.ret (En.block_ret (En.then_ret (En.then_ret (En.block_ret (En.then_ret ?_)))))))
     refine En.ret1 rfl (Res.tmp rfl) ?_
     have hx := exitP ze0 zh0
     subst hx
     replace h := fork_r h
     obtain rfl := Option.some.inj h
     intro w' hs
     exact ⟨rfl, hs.below⟩
    ·
     intro hc_3
     replace zh0 := ifO_f hc_3 zh0
     refine WC.skip (En.block_norm (En.next (WC.region ?_)))
     refine mv ?_
     refine sp (OpV.addR rfl rfl) ?_
     refine ag ?_
     refine WL.nil ?_
     exact En.backP zb0 zh0 () (sc (sc (sc sn))) (fun _ h => h)
   ·
    intro hc_2
    replace zh0 := ifO_f hc_2 zh0
    refine WC.exit (En.then_exit (En.then_exit ?_))
    have hx := exitP ze0 zh0
    exact En.wk _ _ sn (fun _ h => h) (zK0_0 ((), ()) hx.symm)

theorem w_spec_l22SamePlane {a_p0 : PlaneT} {a_p1 : PlaneT} {r : Bool} {q0_0 : Option Addr} {l0_0 k0_0 : Nat} {q1_0 : Option Addr} {l1_0 k1_0 : Nat} (h : spec_l22SamePlane a_p0 a_p1 = some r) {w : World} (r0_0 : Rd tInt w q0_0 l0_0 k0_0 a_p0.Words) (r1_0 : Rd tInt w q1_0 l1_0 k1_0 a_p1.Words)   :
    Calls Try.prog 54 #[.agg #[.bool a_p0.On, .int .i64 a_p0.X, .int .i64 a_p0.Y, .int .i64 a_p0.W, .int .i64 a_p0.H, .int .i64 a_p0.Layout, .slice q0_0 l0_0 k0_0, .int .i64 a_p0.Alpha, .int .i64 a_p0.Orient, .int .i64 a_p0.ToW, .int .i64 a_p0.ToH], .agg #[.bool a_p1.On, .int .i64 a_p1.X, .int .i64 a_p1.Y, .int .i64 a_p1.W, .int .i64 a_p1.H, .int .i64 a_p1.Layout, .slice q1_0 l1_0 k1_0, .int .i64 a_p1.Alpha, .int .i64 a_p1.Orient, .int .i64 a_p1.ToW, .int .i64 a_p1.ToH]] w (fun en w' => en = .returned (.bool r) ∧ Ext w w') := by
 obtain rfl := r0_0.1
 obtain rfl := r1_0.1
 unfold spec_l22SamePlane at h
 refine enter (vs := [_, _]) Try.func54 rfl rfl rfl rfl ?_
 refine WC.sr ?_
 refine WL.heavy rfl rfl rfl (OpH.box rfl rfl ?_)
 intro b0_0
 refine WL.heavy rfl rfl rfl (OpH.box rfl rfl ?_)
 intro b0_1
 refine ag ?_
 refine WL.nil (En.next (WC.seq ?_))
 obtain ⟨q1_74, e1_74, h⟩ := bnd h
 refine WC.region ?_
 refine sp (OpV.fieldAddr rfl fo_56_0) ?_
 refine sp (OpV.loadBox rfl pt_4 mq1 rfl) ?_
 refine sp (OpV.fieldAddr rfl fo_56_0) ?_
 refine sp (OpV.loadBox rfl pt_4 mq0 rfl) ?_
 refine sp (OpV.beql rfl rfl ub_4) ?_
 refine mv ?_
 refine Lt.ofWL.and 10 16 15 (p := ?pz1) (rest := ?qz1) (B := ?Bz1) rfl ?Tz1 ?Fz1 ?az1 ?bz1 ?cz1 ?dz1 ?ez1
 case Tz1 =>
  intro hcz1 hkz1
  refine sp (OpV.fieldAddr rfl fo_56_1) ?_
  refine sp (OpV.loadBox rfl pt_3 mq1 rfl) ?_
  refine sp (OpV.fieldAddr rfl fo_56_1) ?_
  refine sp (OpV.loadBox rfl pt_3 mq0 rfl) ?_
  refine sp (OpV.eql rfl rfl) ?_
  refine hkz1 _ ?_ ?_
  exact rfl
  repeat (first | exact Sub.refl _ | refine Sub.skip rfl ?_)
 case Fz1 =>
  intro hcz1 hkz1
  refine sk ?_
  refine sk ?_
  refine sk ?_
  refine sk ?_
  refine sk ?_
  refine hkz1 _ ?_
  repeat (first | exact Sub.refl _ | refine Sub.skip rfl ?_)
 case az1 => exact rfl
 case bz1 => exact rfl
 case cz1 => exact rfl
 case dz1 => exact rfl
 refine mv ?_
 refine Lt.ofWL.and 17 23 22 (p := ?pz2) (rest := ?qz2) (B := ?Bz2) rfl ?Tz2 ?Fz2 ?az2 ?bz2 ?cz2 ?dz2 ?ez2
 case Tz2 =>
  intro hcz2 hkz2
  refine sp (OpV.fieldAddr rfl fo_56_2) ?_
  refine sp (OpV.loadBox rfl pt_3 mq1 rfl) ?_
  refine sp (OpV.fieldAddr rfl fo_56_2) ?_
  refine sp (OpV.loadBox rfl pt_3 mq0 rfl) ?_
  refine sp (OpV.eql rfl rfl) ?_
  refine hkz2 _ ?_ ?_
  exact rfl
  repeat (first | exact Sub.refl _ | refine Sub.skip rfl ?_)
 case Fz2 =>
  intro hcz2 hkz2
  refine sk ?_
  refine sk ?_
  refine sk ?_
  refine sk ?_
  refine sk ?_
  refine hkz2 _ ?_
  repeat (first | exact Sub.refl _ | refine Sub.skip rfl ?_)
 case az2 => exact rfl
 case bz2 => exact rfl
 case cz2 => exact rfl
 case dz2 => exact rfl
 refine mv ?_
 refine Lt.ofWL.and 24 30 29 (p := ?pz3) (rest := ?qz3) (B := ?Bz3) rfl ?Tz3 ?Fz3 ?az3 ?bz3 ?cz3 ?dz3 ?ez3
 case Tz3 =>
  intro hcz3 hkz3
  refine sp (OpV.fieldAddr rfl fo_56_3) ?_
  refine sp (OpV.loadBox rfl pt_3 mq1 rfl) ?_
  refine sp (OpV.fieldAddr rfl fo_56_3) ?_
  refine sp (OpV.loadBox rfl pt_3 mq0 rfl) ?_
  refine sp (OpV.eql rfl rfl) ?_
  refine hkz3 _ ?_ ?_
  exact rfl
  repeat (first | exact Sub.refl _ | refine Sub.skip rfl ?_)
 case Fz3 =>
  intro hcz3 hkz3
  refine sk ?_
  refine sk ?_
  refine sk ?_
  refine sk ?_
  refine sk ?_
  refine hkz3 _ ?_
  repeat (first | exact Sub.refl _ | refine Sub.skip rfl ?_)
 case az3 => exact rfl
 case bz3 => exact rfl
 case cz3 => exact rfl
 case dz3 => exact rfl
 refine mv ?_
 refine Lt.ofWL.and 31 37 36 (p := ?pz4) (rest := ?qz4) (B := ?Bz4) rfl ?Tz4 ?Fz4 ?az4 ?bz4 ?cz4 ?dz4 ?ez4
 case Tz4 =>
  intro hcz4 hkz4
  refine sp (OpV.fieldAddr rfl fo_56_4) ?_
  refine sp (OpV.loadBox rfl pt_3 mq1 rfl) ?_
  refine sp (OpV.fieldAddr rfl fo_56_4) ?_
  refine sp (OpV.loadBox rfl pt_3 mq0 rfl) ?_
  refine sp (OpV.eql rfl rfl) ?_
  refine hkz4 _ ?_ ?_
  exact rfl
  repeat (first | exact Sub.refl _ | refine Sub.skip rfl ?_)
 case Fz4 =>
  intro hcz4 hkz4
  refine sk ?_
  refine sk ?_
  refine sk ?_
  refine sk ?_
  refine sk ?_
  refine hkz4 _ ?_
  repeat (first | exact Sub.refl _ | refine Sub.skip rfl ?_)
 case az4 => exact rfl
 case bz4 => exact rfl
 case cz4 => exact rfl
 case dz4 => exact rfl
 refine mv ?_
 refine Lt.ofWL.and 38 44 43 (p := ?pz5) (rest := ?qz5) (B := ?Bz5) rfl ?Tz5 ?Fz5 ?az5 ?bz5 ?cz5 ?dz5 ?ez5
 case Tz5 =>
  intro hcz5 hkz5
  refine sp (OpV.fieldAddr rfl fo_56_5) ?_
  refine sp (OpV.loadBox rfl pt_3 mq1 rfl) ?_
  refine sp (OpV.fieldAddr rfl fo_56_5) ?_
  refine sp (OpV.loadBox rfl pt_3 mq0 rfl) ?_
  refine sp (OpV.eql rfl rfl) ?_
  refine hkz5 _ ?_ ?_
  exact rfl
  repeat (first | exact Sub.refl _ | refine Sub.skip rfl ?_)
 case Fz5 =>
  intro hcz5 hkz5
  refine sk ?_
  refine sk ?_
  refine sk ?_
  refine sk ?_
  refine sk ?_
  refine hkz5 _ ?_
  repeat (first | exact Sub.refl _ | refine Sub.skip rfl ?_)
 case az5 => exact rfl
 case bz5 => exact rfl
 case cz5 => exact rfl
 case dz5 => exact rfl
 refine mv ?_
 refine Lt.ofWL.and 45 51 50 (p := ?pz6) (rest := ?qz6) (B := ?Bz6) rfl ?Tz6 ?Fz6 ?az6 ?bz6 ?cz6 ?dz6 ?ez6
 case Tz6 =>
  intro hcz6 hkz6
  refine sp (OpV.fieldAddr rfl fo_56_7) ?_
  refine sp (OpV.loadBox rfl pt_3 mq1 rfl) ?_
  refine sp (OpV.fieldAddr rfl fo_56_7) ?_
  refine sp (OpV.loadBox rfl pt_3 mq0 rfl) ?_
  refine sp (OpV.eql rfl rfl) ?_
  refine hkz6 _ ?_ ?_
  exact rfl
  repeat (first | exact Sub.refl _ | refine Sub.skip rfl ?_)
 case Fz6 =>
  intro hcz6 hkz6
  refine sk ?_
  refine sk ?_
  refine sk ?_
  refine sk ?_
  refine sk ?_
  refine hkz6 _ ?_
  repeat (first | exact Sub.refl _ | refine Sub.skip rfl ?_)
 case az6 => exact rfl
 case bz6 => exact rfl
 case cz6 => exact rfl
 case dz6 => exact rfl
 refine mv ?_
 refine Lt.ofWL.and 52 58 57 (p := ?pz7) (rest := ?qz7) (B := ?Bz7) rfl ?Tz7 ?Fz7 ?az7 ?bz7 ?cz7 ?dz7 ?ez7
 case Tz7 =>
  intro hcz7 hkz7
  refine sp (OpV.fieldAddr rfl fo_56_8) ?_
  refine sp (OpV.loadBox rfl pt_3 mq1 rfl) ?_
  refine sp (OpV.fieldAddr rfl fo_56_8) ?_
  refine sp (OpV.loadBox rfl pt_3 mq0 rfl) ?_
  refine sp (OpV.eql rfl rfl) ?_
  refine hkz7 _ ?_ ?_
  exact rfl
  repeat (first | exact Sub.refl _ | refine Sub.skip rfl ?_)
 case Fz7 =>
  intro hcz7 hkz7
  refine sk ?_
  refine sk ?_
  refine sk ?_
  refine sk ?_
  refine sk ?_
  refine hkz7 _ ?_
  repeat (first | exact Sub.refl _ | refine Sub.skip rfl ?_)
 case az7 => exact rfl
 case bz7 => exact rfl
 case cz7 => exact rfl
 case dz7 => exact rfl
 refine mv ?_
 refine Lt.ofWL.and 59 65 64 (p := ?pz8) (rest := ?qz8) (B := ?Bz8) rfl ?Tz8 ?Fz8 ?az8 ?bz8 ?cz8 ?dz8 ?ez8
 case Tz8 =>
  intro hcz8 hkz8
  refine sp (OpV.fieldAddr rfl fo_56_9) ?_
  refine sp (OpV.loadBox rfl pt_3 mq1 rfl) ?_
  refine sp (OpV.fieldAddr rfl fo_56_9) ?_
  refine sp (OpV.loadBox rfl pt_3 mq0 rfl) ?_
  refine sp (OpV.eql rfl rfl) ?_
  refine hkz8 _ ?_ ?_
  exact rfl
  repeat (first | exact Sub.refl _ | refine Sub.skip rfl ?_)
 case Fz8 =>
  intro hcz8 hkz8
  refine sk ?_
  refine sk ?_
  refine sk ?_
  refine sk ?_
  refine sk ?_
  refine hkz8 _ ?_
  repeat (first | exact Sub.refl _ | refine Sub.skip rfl ?_)
 case az8 => exact rfl
 case bz8 => exact rfl
 case cz8 => exact rfl
 case dz8 => exact rfl
 refine mv ?_
 refine Lt.ofWL.and 66 72 71 (p := ?pz9) (rest := ?qz9) (B := ?Bz9) rfl ?Tz9 ?Fz9 ?az9 ?bz9 ?cz9 ?dz9 ?ez9
 case Tz9 =>
  intro hcz9 hkz9
  refine sp (OpV.fieldAddr rfl fo_56_10) ?_
  refine sp (OpV.loadBox rfl pt_3 mq1 rfl) ?_
  refine sp (OpV.fieldAddr rfl fo_56_10) ?_
  refine sp (OpV.loadBox rfl pt_3 mq0 rfl) ?_
  refine sp (OpV.eql rfl rfl) ?_
  refine hkz9 _ ?_ ?_
  exact rfl
  repeat (first | exact Sub.refl _ | refine Sub.skip rfl ?_)
 case Fz9 =>
  intro hcz9 hkz9
  refine sk ?_
  refine sk ?_
  refine sk ?_
  refine sk ?_
  refine sk ?_
  refine hkz9 _ ?_
  repeat (first | exact Sub.refl _ | refine Sub.skip rfl ?_)
 case az9 => exact rfl
 case bz9 => exact rfl
 case cz9 => exact rfl
 case dz9 => exact rfl
 refine mv ?_
 refine Lt.ofWL.andQ 73 79 78 (p := ?pz10) (rest := ?qz10) (B := q1_74) rfl (fun hz => andO_f e1_74 hz) ?Tz10 ?Fz10 ?az10 ?bz10 ?cz10 ?dz10 ?ez10
 case Tz10 =>
  intro hcz10 hkz10
  have hqz10 := andO_t e1_74 hcz10
  obtain ⟨x1_73, e1_73, hqz10⟩ := bnd hqz10
  obtain rfl := Option.some.inj hqz10
  refine sp (OpV.fieldAddr rfl fo_56_6) ?_
  refine sp (OpV.loadBox rfl pt_23 mq1 rfl) ?_
  refine sp (OpV.fieldAddr rfl fo_56_6) ?_
  refine sp (OpV.loadBox rfl pt_23 mq0 rfl) ?_
  refine sp (OpV.call (ec rfl (ec rfl e0)) ca_108 (fun w hs => w_spec_l05Ints e1_73 (r0_0.ext hs.below) (r1_0.ext hs.below))) ?_
  refine hkz10 _ ?_ ?_
  exact rfl
  repeat (first | exact Sub.refl _ | refine Sub.skip rfl ?_)
 case Fz10 =>
  intro hcz10 hkz10
  refine sk ?_
  refine sk ?_
  refine sk ?_
  refine sk ?_
  refine sk ?_
  refine hkz10 _ ?_
  repeat (first | exact Sub.refl _ | refine Sub.skip rfl ?_)
 case az10 => exact rfl
 case bz10 => exact rfl
 case cz10 => exact rfl
 case dz10 => exact rfl
 refine ag ?_
 refine WL.nil (En.next (WC.ret ?_))
 refine En.ret1 rfl (Res.tmp rfl) ?_
 obtain rfl := Option.some.inj h
 intro w' hs
 exact ⟨rfl, hs.below⟩

theorem w_spec_l19Copy {p_p0 : PlaneT} {r : PlaneT} {q0_0 : Option Addr} {l0_0 k0_0 : Nat} (h : spec_l19Copy p_p0 = some r) {w : World} (r0_0 : Rd tInt w q0_0 l0_0 k0_0 p_p0.Words)   :
    Calls Try.prog 55 #[.agg #[.bool p_p0.On, .int .i64 p_p0.X, .int .i64 p_p0.Y, .int .i64 p_p0.W, .int .i64 p_p0.H, .int .i64 p_p0.Layout, .slice q0_0 l0_0 k0_0, .int .i64 p_p0.Alpha, .int .i64 p_p0.Orient, .int .i64 p_p0.ToW, .int .i64 p_p0.ToH]] w (fun en w' => ∃ rv G, en = .returned rv ∧ (∃ (a0_0 : Option Addr) (n0_0 : Nat) (c0_0 : Nat) (f0_0 : List Nat), rv = .agg #[.bool r.On, .int .i64 r.X, .int .i64 r.Y, .int .i64 r.W, .int .i64 r.H, .int .i64 r.Layout, .slice a0_0 n0_0 c0_0, .int .i64 r.Alpha, .int .i64 r.Orient, .int .i64 r.ToW, .int .i64 r.ToH] ∧ G = [Chunk.own tInt f0_0 a0_0 n0_0 c0_0 r.Words]) ∧ St w G w') := by
 obtain rfl := r0_0.1
 unfold spec_l19Copy at h
 refine enter (vs := [_]) Try.func55 rfl rfl rfl rfl ?_
 refine WC.sr ?_
 refine WL.heavy rfl rfl rfl (OpH.box rfl rfl ?_)
 intro b0_0
 refine WL.heavy rfl rfl rfl (OpH.alloc zc_56 ?_)
 intro b0_1
 refine WL.nil (En.next (WC.seq ?_))
 obtain ⟨x1_3, e1_3, h⟩ := bnd h
 refine WC.region ?_
 refine WL.heavy rfl rfl rfl (OpH.lit0 (A := tInt) (evps.nil) bs_23_0_ ?_)
 intro b1_0
 refine sp (OpV.fieldAddr rfl fo_56_6) ?_
 refine sp (OpV.loadBox rfl pt_23 mq2 rfl) ?_
 refine WL.heavy rfl rfl rfl (OpH.appS (F := []) (A := tInt) tInt_flat rfl rfl rfl mi_23 rfl (by decide) (fun w hs => (r0_0.ext hs.below)) e1_3 ?_)
 intro f1_3 a1_3 c1_3
 refine sp (OpV.fieldAddr rfl fo_56_6) ?_
 refine WL.heavy0 rfl rfl (OpH.storeTo (A := [_, _]) [_, _, _, _, _, _, _, _, _, _, _] rfl rfl rfl ts_23 rfl rfl rfl ?_)
 refine WL.nil (En.next (WC.sr ?_))
 refine sp (OpV.loadAll rfl mq2 ag_56) ?_
 refine WL.heavy0 rfl rfl (OpH.storeTo (A := [_]) [_, _, _, _, _, _, _, _, _, _, _] rfl rfl rfl ts_56 rfl rfl rfl ?_)
 refine WL.nil (En.next (WC.ret ?_))
 refine En.ret1 rfl (Res.cell rfl mq1 ag_56) ?_
 obtain rfl := Option.some.inj h
 intro w' hs
 have hs := (hs).sub (.cons_cons _ (.cons _ (.cons _ (.slnil))))
 exact ⟨_, _, rfl, ⟨a1_3, x1_3.length, c1_3, f1_3, rfl, rfl⟩, hs⟩

theorem w_spec_l22SameColor {a_p0 : ColorMapT} {b_p1 : ColorMapT} {r : Bool} {q0_0 : Option Addr} {l0_0 k0_0 : Nat} {q0_1 : Option Addr} {l0_1 k0_1 : Nat} {q1_0 : Option Addr} {l1_0 k1_0 : Nat} {q1_1 : Option Addr} {l1_1 k1_1 : Nat} (h : spec_l22SameColor a_p0 b_p1 = some r) {w : World} (r0_0 : Rd tInt w q0_0 l0_0 k0_0 a_p0.Matrix) (r0_1 : Rd tInt w q0_1 l0_1 k0_1 a_p0.Curve) (r1_0 : Rd tInt w q1_0 l1_0 k1_0 b_p1.Matrix) (r1_1 : Rd tInt w q1_1 l1_1 k1_1 b_p1.Curve)   :
    Calls Try.prog 56 #[.agg #[.slice q0_0 l0_0 k0_0, .slice q0_1 l0_1 k0_1], .agg #[.slice q1_0 l1_0 k1_0, .slice q1_1 l1_1 k1_1]] w (fun en w' => en = .returned (.bool r) ∧ Ext w w') := by
 obtain rfl := r0_0.1
 obtain rfl := r0_1.1
 obtain rfl := r1_0.1
 obtain rfl := r1_1.1
 unfold spec_l22SameColor at h
 refine enter (vs := [_, _]) Try.func56 rfl rfl rfl rfl ?_
 refine WC.sr ?_
 refine WL.heavy rfl rfl rfl (OpH.box rfl rfl ?_)
 intro b0_0
 refine WL.heavy rfl rfl rfl (OpH.box rfl rfl ?_)
 intro b0_1
 refine ag ?_
 refine WL.nil (En.next (WC.seq ?_))
 obtain ⟨x1_4, e1_4, h⟩ := bnd h
 obtain ⟨q1_11, e1_11, h⟩ := bnd h
 refine WC.region ?_
 refine sp (OpV.fieldAddr rfl fo_34_0) ?_
 refine sp (OpV.loadBox rfl pt_23 mq1 rfl) ?_
 refine sp (OpV.fieldAddr rfl fo_34_0) ?_
 refine sp (OpV.loadBox rfl pt_23 mq0 rfl) ?_
 refine sp (OpV.call (ec rfl (ec rfl e0)) ca_108 (fun w hs => w_spec_l05Ints e1_4 (r0_0.ext hs.below) (r1_0.ext hs.below))) ?_
 refine mv ?_
 refine Lt.ofWL.andQ 10 16 15 (p := ?pz1) (rest := ?qz1) (B := q1_11) rfl (fun hz => andO_f e1_11 hz) ?Tz1 ?Fz1 ?az1 ?bz1 ?cz1 ?dz1 ?ez1
 case Tz1 =>
  intro hcz1 hkz1
  have hqz1 := andO_t e1_11 hcz1
  obtain ⟨x1_10, e1_10, hqz1⟩ := bnd hqz1
  obtain rfl := Option.some.inj hqz1
  refine sp (OpV.fieldAddr rfl fo_34_1) ?_
  refine sp (OpV.loadBox rfl pt_23 mq1 rfl) ?_
  refine sp (OpV.fieldAddr rfl fo_34_1) ?_
  refine sp (OpV.loadBox rfl pt_23 mq0 rfl) ?_
  refine sp (OpV.call (ec rfl (ec rfl e0)) ca_108 (fun w hs => w_spec_l05Ints e1_10 (r0_1.ext hs.below) (r1_1.ext hs.below))) ?_
  refine hkz1 _ ?_ ?_
  exact rfl
  repeat (first | exact Sub.refl _ | refine Sub.skip rfl ?_)
 case Fz1 =>
  intro hcz1 hkz1
  refine sk ?_
  refine sk ?_
  refine sk ?_
  refine sk ?_
  refine sk ?_
  refine hkz1 _ ?_
  repeat (first | exact Sub.refl _ | refine Sub.skip rfl ?_)
 case az1 => exact rfl
 case bz1 => exact rfl
 case cz1 => exact rfl
 case dz1 => exact rfl
 refine ag ?_
 refine WL.nil (En.next (WC.ret ?_))
 refine En.ret1 rfl (Res.tmp rfl) ?_
 obtain rfl := Option.some.inj h
 intro w' hs
 exact ⟨rfl, hs.below⟩

theorem w_spec_l22CopyColor {m_p0 : ColorMapT} {r : ColorMapT} {q0_0 : Option Addr} {l0_0 k0_0 : Nat} {q0_1 : Option Addr} {l0_1 k0_1 : Nat} (h : spec_l22CopyColor m_p0 = some r) {w : World} (r0_0 : Rd tInt w q0_0 l0_0 k0_0 m_p0.Matrix) (r0_1 : Rd tInt w q0_1 l0_1 k0_1 m_p0.Curve)   :
    Calls Try.prog 57 #[.agg #[.slice q0_0 l0_0 k0_0, .slice q0_1 l0_1 k0_1]] w (fun en w' => ∃ rv G, en = .returned rv ∧ (∃ (a0_0 : Option Addr) (n0_0 : Nat) (c0_0 : Nat) (f0_0 : List Nat) (a0_1 : Option Addr) (n0_1 : Nat) (c0_1 : Nat) (f0_1 : List Nat), rv = .agg #[.slice a0_0 n0_0 c0_0, .slice a0_1 n0_1 c0_1] ∧ G = [Chunk.own tInt f0_0 a0_0 n0_0 c0_0 r.Matrix, Chunk.own tInt f0_1 a0_1 n0_1 c0_1 r.Curve]) ∧ St w G w') := by
 obtain rfl := r0_0.1
 obtain rfl := r0_1.1
 unfold spec_l22CopyColor at h
 refine enter (vs := [_]) Try.func57 rfl rfl rfl rfl ?_
 refine WC.sr ?_
 refine WL.heavy rfl rfl rfl (OpH.box rfl rfl ?_)
 intro b0_0
 refine WL.heavy rfl rfl rfl (OpH.alloc zc_34 ?_)
 intro b0_1
 refine WL.nil (En.next (WC.seq ?_))
 obtain ⟨x1_3, e1_3, h⟩ := bnd h
 obtain ⟨x1_7, e1_7, h⟩ := bnd h
 refine WC.cut (X := (List Nat) × (Option Addr) × Nat × (List Nat) × (Option Addr) × Nat) .normal (fun _ => True) (fun x => match x with | (f1_7, a1_7, c1_7, f1_3, a1_3, c1_3) => [(2, .pointer (some ⟨b0_1, 0, .none⟩))]) (fun x => match x with | (f1_7, a1_7, c1_7, f1_3, a1_3, c1_3) => [Chunk.own tInt f1_7 a1_7 x1_7.length c1_7 x1_7, Chunk.own tInt f1_3 a1_3 x1_3.length c1_3 x1_3, Chunk.box b0_1 34 [.slice a1_3 x1_3.length c1_3, .slice a1_7 x1_7.length c1_7]]) ?_ ?_
 ·
  rintro ⟨f1_7, a1_7, c1_7, f1_3, a1_3, c1_3⟩ _
  show En _ _ _ _ [(2, .pointer (some ⟨b0_1, 0, .none⟩))] [Chunk.own tInt f1_7 a1_7 x1_7.length c1_7 x1_7, Chunk.own tInt f1_3 a1_3 x1_3.length c1_3 x1_3, Chunk.box b0_1 34 [.slice a1_3 x1_3.length c1_3, .slice a1_7 x1_7.length c1_7]]
  refine En.next (WC.ret ?_)
  refine En.ret1 rfl (Res.cell rfl mq2 ag_34) ?_
  obtain rfl := Option.some.inj h
  intro w' hs
  have hs := ((hs).pm 1).sub (.cons_cons _ (.cons_cons _ (.cons _ (.slnil))))
  exact ⟨_, _, rfl, ⟨a1_3, x1_3.length, c1_3, f1_3, a1_7, x1_7.length, c1_7, f1_7, rfl, rfl⟩, hs⟩
 ·
  intro KR1
  refine WC.drawnH [_] ([_]) (fun _ h => h) (by kernel_rfl) ?_
  refine tk 1 rfl (OpV.fieldAddr rfl fo_34_0) ?_
  refine tk 2 rfl (OpV.loadBox rfl pt_23 mq0 rfl) ?_
  refine tk 5 rfl (OpV.fieldAddr rfl fo_34_1) ?_
  refine tk 6 rfl (OpV.loadBox rfl pt_23 mq0 rfl) ?_
  refine WAE.all (rs := [0, 4]) (by kernel_rfl) rfl (AllR.cons rfl rfl rfl rfl ?_ (AllR.cons rfl rfl rfl rfl ?_ AllR.nil))
  ·
   refine OpH.lit0 (A := tInt) (evps.nil) bs_23_0_ ?_
   intro b1_0
   refine ⟨[_, _], rfl, ?_⟩
   refine WAE.all (rs := [3, 4]) (by kernel_rfl) rfl (AllR.cons rfl rfl rfl rfl ?_ (AllR.cons rfl rfl rfl rfl ?_ AllR.nil))
   ·
    refine OpH.appS (F := []) (A := tInt) tInt_flat rfl rfl rfl mi_23 rfl (by decide) (fun w hs => (r0_0.ext hs.below)) e1_3 ?_
    intro f1_3 a1_3 c1_3
    refine ⟨[_, _], rfl, ?_⟩
    refine al1 4 rfl ?_
    refine OpH.lit0 (A := tInt) (evps.nil) bs_23_0_ ?_
    intro b1_4
    refine ⟨[_, _, _], rfl, ?_⟩
    refine al1 7 rfl ?_
    refine OpH.appS (F := []) (A := tInt) tInt_flat rfl rfl rfl mi_23 rfl (by decide) (fun w hs => (r0_1.ext hs.below)) e1_7 ?_
    intro f1_7 a1_7 c1_7
    refine ⟨[_, _, _], rfl, ?_⟩
    refine tk 8 rfl (OpV.build (evps.cons rfl (evps.cons rfl (evps.nil))) (bd_34_0_1 _ _ _ _ _ _)) ?_
    refine al0 9 rfl ?_
    refine OpH.storeTo (A := [_, _]) [_, _] rfl rfl rfl ts_34 rfl rfl rfl ?_
    refine ⟨[_, _, _], rfl, ?_⟩
    refine WAE.rebase (H := []) ?_
    refine WAE.done (by kernel_rfl) ?_ _
    exact En.wk _ _ (sc sn) (fun _ h => (h).sub (.cons_cons _ (.cons_cons _ (.cons_cons _ (.cons _ (.slnil)))))) (KR1 (f1_7, a1_7, c1_7, f1_3, a1_3, c1_3) trivial)
   ·
    refine OpH.lit0 (A := tInt) (evps.nil) bs_23_0_ ?_
    intro b1_4
    refine ⟨[_, _, _], rfl, ?_⟩
    refine al1 3 rfl ?_
    refine OpH.appS (F := [_]) (A := tInt) tInt_flat rfl rfl rfl mi_23 rfl (by decide) (fun w hs => (r0_0.ext hs.below)) e1_3 ?_
    intro f1_3 a1_3 c1_3
    refine ⟨[_, _, _], rfl, ?_⟩
    refine al1 7 rfl ?_
    refine OpH.appS (F := []) (A := tInt) tInt_flat rfl rfl rfl mi_23 rfl (by decide) (fun w hs => (r0_1.ext hs.below)) e1_7 ?_
    intro f1_7 a1_7 c1_7
    refine ⟨[_, _, _], rfl, ?_⟩
    refine tk 8 rfl (OpV.build (evps.cons rfl (evps.cons rfl (evps.nil))) (bd_34_0_1 _ _ _ _ _ _)) ?_
    refine al0 9 rfl ?_
    refine OpH.storeTo (A := [_, _]) [_, _] rfl rfl rfl ts_34 rfl rfl rfl ?_
    refine ⟨[_, _, _], rfl, ?_⟩
    refine WAE.rebase (H := []) ?_
    refine WAE.done (by kernel_rfl) ?_ _
    exact En.wk _ _ (sc sn) (fun _ h => (h).sub (.cons_cons _ (.cons_cons _ (.cons_cons _ (.cons _ (.slnil)))))) (KR1 (f1_7, a1_7, c1_7, f1_3, a1_3, c1_3) trivial)
  ·
   refine OpH.lit0 (A := tInt) (evps.nil) bs_23_0_ ?_
   intro b1_4
   refine ⟨[_, _], rfl, ?_⟩
   refine al1 0 rfl ?_
   refine OpH.lit0 (A := tInt) (evps.nil) bs_23_0_ ?_
   intro b1_0
   refine ⟨[_, _, _], rfl, ?_⟩
   refine al1 3 rfl ?_
   refine OpH.appS (F := []) (A := tInt) tInt_flat rfl rfl rfl mi_23 rfl (by decide) (fun w hs => (r0_0.ext hs.below)) e1_3 ?_
   intro f1_3 a1_3 c1_3
   refine ⟨[_, _, _], rfl, ?_⟩
   refine al1 7 rfl ?_
   refine OpH.appS (F := [_]) (A := tInt) tInt_flat rfl rfl rfl mi_23 rfl (by decide) (fun w hs => (r0_1.ext hs.below)) e1_7 ?_
   intro f1_7 a1_7 c1_7
   refine ⟨[_, _, _], rfl, ?_⟩
   refine tk 8 rfl (OpV.build (evps.cons rfl (evps.cons rfl (evps.nil))) (bd_34_0_1 _ _ _ _ _ _)) ?_
   refine al0 9 rfl ?_
   refine OpH.storeTo (A := [_, _]) [_, _] rfl rfl rfl ts_34 rfl rfl rfl ?_
   refine ⟨[_, _, _], rfl, ?_⟩
   refine WAE.rebase (H := []) ?_
   refine WAE.done (by kernel_rfl) ?_ _
   exact En.wk _ _ (sc sn) (fun _ h => ((((h).pm 2).pm 1).pm 2).sub (.cons_cons _ (.cons_cons _ (.cons_cons _ (.cons _ (.slnil)))))) (KR1 (f1_7, a1_7, c1_7, f1_3, a1_3, c1_3) trivial)

theorem w_spec_ChangesFor {c_p0 : CrtcT} {planes_p1 : List PlaneT} {m_p2 : ColorMapT} {r : (List ChangeT)} {q0_0 : Option Addr} {l0_0 k0_0 : Nat} {q0_1 : Option Addr} {l0_1 k0_1 : Nat} {q0_2 : Option Addr} {l0_2 k0_2 : Nat} {q1_0 : Option Addr} {l1_0 k1_0 : Nat} {q2_0 : Option Addr} {l2_0 k2_0 : Nat} {q2_1 : Option Addr} {l2_1 k2_1 : Nat} (h : spec_ChangesFor c_p0 planes_p1 m_p2 = some r) {w : World} (r0_0 : Rd tPlane w q0_0 l0_0 k0_0 c_p0.Planes) (r0_1 : Rd tInt w q0_1 l0_1 k0_1 c_p0.Color.Matrix) (r0_2 : Rd tInt w q0_2 l0_2 k0_2 c_p0.Color.Curve) (r1_0 : Rd tPlane w q1_0 l1_0 k1_0 planes_p1) (r2_0 : Rd tInt w q2_0 l2_0 k2_0 m_p2.Matrix) (r2_1 : Rd tInt w q2_1 l2_1 k2_1 m_p2.Curve)   :
    Calls Try.prog 12 #[.agg #[.int .i64 c_p0.W, .int .i64 c_p0.H, .slice q0_0 l0_0 k0_0, .slice q0_1 l0_1 k0_1, .slice q0_2 l0_2 k0_2], .slice q1_0 l1_0 k1_0, .agg #[.slice q2_0 l2_0 k2_0, .slice q2_1 l2_1 k2_1]] w (fun en w' => ∃ rv G, en = .returned rv ∧ (∃ (a0_0 : Option Addr) (n0_0 : Nat) (c0_0 : Nat) (f0_0 : List Nat), rv = .slice a0_0 n0_0 c0_0 ∧ G = [Chunk.own tChange f0_0 a0_0 n0_0 c0_0 r]) ∧ St w G w') := by
 obtain rfl := r0_0.1
 obtain rfl := r0_1.1
 obtain rfl := r0_2.1
 obtain rfl := r1_0.1
 obtain rfl := r2_0.1
 obtain rfl := r2_1.1
 unfold spec_ChangesFor at h
 refine enter (vs := [_, _, _]) Try.func12 rfl rfl rfl rfl ?_
 refine WC.sr ?_
 refine WL.heavy rfl rfl rfl (OpH.box rfl rfl ?_)
 intro b0_0
 refine WL.heavy rfl rfl rfl (OpH.box rfl rfl ?_)
 intro b0_1
 refine ag ?_
 refine WL.nil (En.next (WC.sr ?_))
 refine WL.heavy rfl rfl rfl (OpH.lit0 (A := tChange) (evps.nil) bs_31_0_ ?_)
 intro b1_0
 refine ag ?_
 refine WL.nil (En.next (WC.seq (WC.sr ?_)))
 refine ag ?_
 refine WL.nil (En.next (WC.block ?_))
 obtain ⟨zy0, ezy0, h⟩ := bnd h
 refine WC.cut (X := ((List ChangeT)) × ((Option Addr) × Nat × Nat × (List Nat))) (.exit 0) (fun x => zy0 = x.1) (fun x => match x with | (out_0e, (aout_0e, nout_0e, cout_0e, fout_0e)) => [(3, .pointer (some ⟨b0_0, 0, .none⟩)), (5, .pointer (some ⟨b0_1, 0, .none⟩)), (7, .slice aout_0e nout_0e cout_0e)]) (fun x => match x with | (out_0e, (aout_0e, nout_0e, cout_0e, fout_0e)) => [Chunk.box b0_0 36 [.int .i64 c_p0.W, .int .i64 c_p0.H, .slice q0_0 c_p0.Planes.length k0_0, .slice q0_1 c_p0.Color.Matrix.length k0_1, .slice q0_2 c_p0.Color.Curve.length k0_2], Chunk.box b0_1 34 [.slice q2_0 m_p2.Matrix.length k2_0, .slice q2_1 m_p2.Curve.length k2_1], Chunk.own tChange fout_0e aout_0e nout_0e cout_0e out_0e]) ?_ ?_
 ·
  rintro ⟨out_0e, ⟨aout_0e, nout_0e, cout_0e, fout_0e⟩⟩ hx
  replace hx : out_0e = zy0 := hx.symm
  subst hx
  show En _ _ _ _ [(3, .pointer (some ⟨b0_0, 0, .none⟩)), (5, .pointer (some ⟨b0_1, 0, .none⟩)), (7, .slice aout_0e nout_0e cout_0e)] [Chunk.box b0_0 36 [.int .i64 c_p0.W, .int .i64 c_p0.H, .slice q0_0 c_p0.Planes.length k0_0, .slice q0_1 c_p0.Color.Matrix.length k0_1, .slice q0_2 c_p0.Color.Curve.length k0_2], Chunk.box b0_1 34 [.slice q2_0 m_p2.Matrix.length k2_0, .slice q2_1 m_p2.Curve.length k2_1], Chunk.own tChange fout_0e aout_0e nout_0e cout_0e out_0e]
  refine En.block_exit (En.next (WC.seq (WC.seq ?_)))
  obtain ⟨x7_3, e7_3, h⟩ := bnd h
  refine WC.region ?_
  refine sp (OpV.fieldAddr rfl fo_36_3) ?_
  refine sp (OpV.loadPart rfl mq0 ag_34 rfl rfl) ?_
  refine sp (OpV.loadAll rfl mq1 ag_34) ?_
  refine sp (OpV.call (ec rfl (ec rfl e0)) ca_56 (fun w hs => w_spec_l22SameColor e7_3 (r0_1.ext hs.below) (r0_2.ext hs.below) (r2_0.ext hs.below) (r2_1.ext hs.below))) ?_
  refine sp (OpV.not rfl) ?_
  refine WL.nil (En.next ?_)
  refine WC.cond rfl ?_ ?_
  ·
   intro hc_1
   replace h := ifO_t hc_1 h
   obtain ⟨x8_2, e8_2, h⟩ := bnd h
   obtain ⟨x8_5, e8_5, h⟩ := bnd h
   refine WC.region ?_
   refine mv ?_
   refine sp (OpV.loadAll rfl mq1 ag_34) ?_
   refine WL.heavy rfl rfl rfl (OpH.callR (ec rfl e0) ca_57 (fun w hs => w_spec_l22CopyColor e8_2 (r2_0.ext hs.below) (r2_1.ext hs.below)) ?_)
   rintro _ _ ⟨a8_200, n8_200, c8_200, f8_200, a8_201, n8_201, c8_201, f8_201, rfl, rfl⟩
   refine sp (OpV.build (evps.cons rfl (evps.cons rfl (evps.nil))) (bd_58_0_2 _ _ _ _ _ _ _)) ?_
   refine WL.heavy rfl rfl rfl (OpH.buildSlice (evps.cons rfl (evps.nil)) (bs_31_1_0 _ _ _ _ _ _ _ _ _ _ _ _ _ _ _ _ _ _ _ _) ?_)
   intro b8_4
   refine WL.wkF (fun _ h => h.ownNil (A := tInt)) ?_
   refine WL.wkF (fun _ h => h.pm 3) ?_
   refine WL.wkF (fun _ h => h.pm 3) ?_
   refine WL.wkF (fun _ h => h.pm 2) ?_
   refine WL.wkF (fun _ h => tChange_mk (-1) (PlaneT.mk false 0 0 0 0 0 [] 0 0 0 0) x8_2 h) ?_
   refine WL.wkF (fun _ h => h.pm 4) ?_
   refine WL.wkF (fun _ h => h.pm 1) ?_
   refine WL.heavy rfl rfl rfl (OpH.push (A := tChange) rfl rfl rfl mi_31 rfl (by decide) mq0 e8_5 ?_)
   intro f8_5 a8_5 c8_5
   refine ag ?_
   refine WL.nil (En.next (WC.sr ?_))
   refine mv ?_
   refine ag ?_
   refine WL.nil (En.next (WC.ret ?_))
   refine En.ret1 rfl (Res.tmp rfl) ?_
   obtain rfl := Option.some.inj h
   intro w' hs
   have hs := (hs).sub (.cons_cons _ (.cons _ (.cons _ (.cons _ (.slnil)))))
   exact ⟨_, _, rfl, ⟨a8_5, x8_5.length, c8_5, f8_5, rfl, rfl⟩, hs⟩
  ·
   intro hc_1
   replace h := ifO_f hc_1 h
   refine WC.skip (En.next (WC.sr ?_))
   refine mv ?_
   refine ag ?_
   refine WL.nil (En.next (WC.ret ?_))
   refine En.ret1 rfl (Res.tmp rfl) ?_
   obtain rfl := Option.some.inj h
   intro w' hs
   have hs := ((hs).pm 2).sub (.cons_cons _ (.cons _ (.cons _ (.slnil))))
   exact ⟨_, _, rfl, ⟨aout_0e, nout_0e, cout_0e, fout_0e, rfl, rfl⟩, hs⟩
 ·
  intro zK0_0
  refine WC.loopP (G := (Option Addr) × Nat × Nat × (List Nat)) (fun s g => match s, g with | (out_0, k_0), (aout_0, nout_0, cout_0, fout_0) => [(1, .slice q1_0 planes_p1.length k1_0), (3, .pointer (some ⟨b0_0, 0, .none⟩)), (5, .pointer (some ⟨b0_1, 0, .none⟩)), (7, .slice aout_0 nout_0 cout_0), (8, .int .i64 k_0)]) (fun s g => match s, g with | (out_0, k_0), (aout_0, nout_0, cout_0, fout_0) => [Chunk.box b0_0 36 [.int .i64 c_p0.W, .int .i64 c_p0.H, .slice q0_0 c_p0.Planes.length k0_0, .slice q0_1 c_p0.Color.Matrix.length k0_1, .slice q0_2 c_p0.Color.Curve.length k0_2], Chunk.box b0_1 34 [.slice q2_0 m_p2.Matrix.length k2_0, .slice q2_1 m_p2.Curve.length k2_1], Chunk.own tChange fout_0 aout_0 nout_0 cout_0 out_0]) (([] : List ChangeT), 0) ((some ⟨b1_0, 0, .none⟩), 0, 0, [b1_0]) ezy0 (by exact sc (sc (sc (sc (sc sn))))) (by exact (fun _ h => ((h).pm 1).pm 2)) ?_
  rintro zm0 ⟨out_0, k_0⟩ ⟨aout_0, nout_0, cout_0, fout_0⟩ zo0 zf0 zb0 ze0
  have zh0 : spec_ChangesFor_L0 c_p0 planes_p1 out_0 k_0 = some zo0 := zf0
  unfold spec_ChangesFor_L0 at zh0
  show WC _ _ _ _ _ [(1, .slice q1_0 planes_p1.length k1_0), (3, .pointer (some ⟨b0_0, 0, .none⟩)), (5, .pointer (some ⟨b0_1, 0, .none⟩)), (7, .slice aout_0 nout_0 cout_0), (8, .int .i64 k_0)] [Chunk.box b0_0 36 [.int .i64 c_p0.W, .int .i64 c_p0.H, .slice q0_0 c_p0.Planes.length k0_0, .slice q0_1 c_p0.Color.Matrix.length k0_1, .slice q0_2 c_p0.Color.Curve.length k0_2], Chunk.box b0_1 34 [.slice q2_0 m_p2.Matrix.length k2_0, .slice q2_1 m_p2.Curve.length k2_1], Chunk.own tChange fout_0 aout_0 nout_0 cout_0 out_0]
  refine WC.seq (WC.sr ?_)
  refine mv ?_
  refine sp (OpV.fieldAddr rfl fo_36_2) ?_
  refine sp (OpV.loadBox rfl pt_33 mq0 rfl) ?_
  refine sp (OpV.len rfl si_33 rfl) ?_
  refine sp (OpV.lss rfl rfl) ?_
  refine mv ?_
  refine Lt.ofWL.and 15 20 19 (p := ?pz1) (rest := ?qz1) (B := ?Bz1) rfl ?Tz1 ?Fz1 ?az1 ?bz1 ?cz1 ?dz1 ?ez1
  case Tz1 =>
   intro hcz1 hkz1
   refine mv ?_
   refine mv ?_
   refine sp (OpV.len rfl si_33 rfl) ?_
   refine sp (OpV.lss rfl rfl) ?_
   refine hkz1 _ ?_ ?_
   exact rfl
   repeat (first | exact Sub.refl _ | refine Sub.skip rfl ?_)
  case Fz1 =>
   intro hcz1 hkz1
   refine sk ?_
   refine sk ?_
   refine sk ?_
   refine sk ?_
   refine hkz1 _ ?_
   repeat (first | exact Sub.refl _ | refine Sub.skip rfl ?_)
  case az1 => exact rfl
  case bz1 => exact rfl
  case cz1 => exact rfl
  case dz1 => exact rfl
  refine WL.nil (En.next ?_)
  refine WC.cond rfl ?_ ?_
  ·
   intro hc_2
   replace zh0 := ifO_t hc_2 zh0
   refine WC.skip (En.next (WC.seq ?_))
   obtain ⟨zy1, ej1, zh0⟩ := bnd zh0
   refine WC.cut (X := ((List ChangeT)) × ((Option Addr) × Nat × Nat × (List Nat))) .normal (fun x => zy1 = x.1) (fun x => match x with | (out_1j, (aout_1j, nout_1j, cout_1j, fout_1j)) => [(1, .slice q1_0 planes_p1.length k1_0), (3, .pointer (some ⟨b0_0, 0, .none⟩)), (5, .pointer (some ⟨b0_1, 0, .none⟩)), (7, .slice aout_1j nout_1j cout_1j), (8, .int .i64 k_0)]) (fun x => match x with | (out_1j, (aout_1j, nout_1j, cout_1j, fout_1j)) => [Chunk.box b0_0 36 [.int .i64 c_p0.W, .int .i64 c_p0.H, .slice q0_0 c_p0.Planes.length k0_0, .slice q0_1 c_p0.Color.Matrix.length k0_1, .slice q0_2 c_p0.Color.Curve.length k0_2], Chunk.box b0_1 34 [.slice q2_0 m_p2.Matrix.length k2_0, .slice q2_1 m_p2.Curve.length k2_1], Chunk.own tChange fout_1j aout_1j nout_1j cout_1j out_1j]) ?_ ?_
   ·
    rintro ⟨out_1j, ⟨aout_1j, nout_1j, cout_1j, fout_1j⟩⟩ hx
    replace hx : out_1j = zy1 := hx.symm
    subst hx
    show En _ _ _ _ [(1, .slice q1_0 planes_p1.length k1_0), (3, .pointer (some ⟨b0_0, 0, .none⟩)), (5, .pointer (some ⟨b0_1, 0, .none⟩)), (7, .slice aout_1j nout_1j cout_1j), (8, .int .i64 k_0)] [Chunk.box b0_0 36 [.int .i64 c_p0.W, .int .i64 c_p0.H, .slice q0_0 c_p0.Planes.length k0_0, .slice q0_1 c_p0.Color.Matrix.length k0_1, .slice q0_2 c_p0.Color.Curve.length k0_2], Chunk.box b0_1 34 [.slice q2_0 m_p2.Matrix.length k2_0, .slice q2_1 m_p2.Curve.length k2_1], Chunk.own tChange fout_1j aout_1j nout_1j cout_1j out_1j]
    refine En.next (WC.region ?_)
    refine mv ?_
    refine sp (OpV.addR rfl rfl) ?_
    refine ag ?_
    refine WL.nil ?_
    exact En.backP zb0 zh0 (aout_1j, nout_1j, cout_1j, fout_1j) (sc (sc (sc (sc (sc sn))))) (fun _ h => h)
   ·
    intro zK1
    refine WC.block (WC.seq ?_)
    obtain ⟨x5_3, e5_3, ej1⟩ := bnd ej1
    obtain ⟨g5_3, o5_3, _, ha5_3, ⟨a5_3_1, c5_3_1, rfl, r5_3_1⟩, hd5_3⟩ := Rd.atIdx r0_0 e5_3
    replace hd5_3 : ∀ (j : Nat) v, ([.bool x5_3.On, .int .i64 x5_3.X, .int .i64 x5_3.Y, .int .i64 x5_3.W, .int .i64 x5_3.H, .int .i64 x5_3.Layout, .slice a5_3_1 x5_3.Words.length c5_3_1, .int .i64 x5_3.Alpha, .int .i64 x5_3.Orient, .int .i64 x5_3.ToW, .int .i64 x5_3.ToH] : List Value)[j]? = some v → w.cell? ⟨g5_3, o5_3 + k_0.toNat * 11 + j, .none⟩ = some v := hd5_3
    obtain ⟨x5_7, e5_7, ej1⟩ := bnd ej1
    obtain ⟨g5_7, o5_7, _, ha5_7, ⟨a5_7_1, c5_7_1, rfl, r5_7_1⟩, hd5_7⟩ := Rd.atIdx r1_0 e5_7
    replace hd5_7 : ∀ (j : Nat) v, ([.bool x5_7.On, .int .i64 x5_7.X, .int .i64 x5_7.Y, .int .i64 x5_7.W, .int .i64 x5_7.H, .int .i64 x5_7.Layout, .slice a5_7_1 x5_7.Words.length c5_7_1, .int .i64 x5_7.Alpha, .int .i64 x5_7.Orient, .int .i64 x5_7.ToW, .int .i64 x5_7.ToH] : List Value)[j]? = some v → w.cell? ⟨g5_7, o5_7 + k_0.toNat * 11 + j, .none⟩ = some v := hd5_7
    obtain ⟨x5_9, e5_9, ej1⟩ := bnd ej1
    refine WC.drawn [(1, ?r5q6v1), (3, ?r5q6v3), (5, ?r5q6v5), (7, ?r5q6v7), (8, ?r5q6v8), (33, ?r5q6v33)] (by kernel_rfl) (by kernel_rfl) ?dH5q6 ?dK5q6
    case dH5q6 =>
     intro W hW hk
     refine hW.sp (OpV.fieldAddr rfl fo_36_2) ?_
     refine hW.sp (OpV.loadBox rfl pt_33 mq0 rfl) ?_
     refine hW.mv ?_
     refine hW.sp (OpV.idxA rfl rfl se_33 ha5_3 ⟨(idx_some e5_3).1, (idx_some e5_3).2.1⟩) ?_
     refine hW.sp (OpV.loadN rfl ag_56 rfl (fun w hs => hs.cellsAt hd5_3)) ?_
     refine hW.mv ?_
     refine hW.mv ?_
     refine hW.sp (OpV.idxA rfl rfl se_33 ha5_7 ⟨(idx_some e5_7).1, (idx_some e5_7).2.1⟩) ?_
     refine hW.sp (OpV.loadN rfl ag_56 rfl (fun w hs => hs.cellsAt hd5_7)) ?_
     refine hW.sp (OpV.call (ec rfl (ec rfl e0)) ca_54 (fun w hs => w_spec_l22SamePlane e5_9 (r5_3_1.ext hs.below) (r5_7_1.ext hs.below))) ?_
     refine hW.sp (OpV.not rfl) ?_
     refine hk _ ?_
     refine Sub.cons ?_ (Sub.cons ?_ (Sub.cons ?_ (Sub.cons ?_ (Sub.cons ?_ (Sub.cons ?_ sn)))))
     all_goals exact rfl
    refine En.next ?_
    refine WC.cond rfl ?_ ?_
    ·
     intro hc_3
     replace ej1 := ifO_t hc_3 ej1
     obtain ⟨x6_4, e6_4, ej1⟩ := bnd ej1
     obtain ⟨g6_4, o6_4, _, ha6_4, ⟨a6_4_1, c6_4_1, rfl, r6_4_1⟩, hd6_4⟩ := Rd.atIdx r1_0 e6_4
     replace hd6_4 : ∀ (j : Nat) v, ([.bool x6_4.On, .int .i64 x6_4.X, .int .i64 x6_4.Y, .int .i64 x6_4.W, .int .i64 x6_4.H, .int .i64 x6_4.Layout, .slice a6_4_1 x6_4.Words.length c6_4_1, .int .i64 x6_4.Alpha, .int .i64 x6_4.Orient, .int .i64 x6_4.ToW, .int .i64 x6_4.ToH] : List Value)[j]? = some v → w.cell? ⟨g6_4, o6_4 + k_0.toNat * 11 + j, .none⟩ = some v := hd6_4
     obtain ⟨x6_6, e6_6, ej1⟩ := bnd ej1
     obtain ⟨x6_9, e6_9, ej1⟩ := bnd ej1
     refine WC.region ?_
     refine mv ?_
     refine mv ?_
     refine mv ?_
     refine mv ?_
     refine sp (OpV.idxA rfl rfl se_33 ha6_4 ⟨(idx_some e6_4).1, (idx_some e6_4).2.1⟩) ?_
     refine sp (OpV.loadN rfl ag_56 rfl (fun w hs => hs.cellsAt hd6_4)) ?_
     refine WL.heavy rfl rfl rfl (OpH.callR (ec rfl e0) ca_55 (fun w hs => w_spec_l19Copy e6_6 (r6_4_1.ext hs.below)) ?_)
     rintro _ _ ⟨a6_600, n6_600, c6_600, f6_600, rfl, rfl⟩
     refine sp (OpV.build (evps.cons rfl (evps.cons rfl (evps.nil))) (bd_58_0_1 _ _ _ _ _ _ _ _ _ _ _ _ _ _)) ?_
     refine WL.heavy rfl rfl rfl (OpH.buildSlice (evps.cons rfl (evps.nil)) (bs_31_1_0 _ _ _ _ _ _ _ _ _ _ _ _ _ _ _ _ _ _ _ _) ?_)
     intro b6_8
     refine WL.wkF (fun _ h => h.ownNil (A := tInt)) ?_
     refine WL.wkF (fun _ h => h.ownNil (A := tInt)) ?_
     refine WL.wkF (fun _ h => h.pm 1) ?_
     refine WL.wkF (fun _ h => h.pm 3) ?_
     refine WL.wkF (fun _ h => tChange_mk k_0 x6_6 (ColorMapT.mk [] []) h) ?_
     refine WL.wkF (fun _ h => h.pm 4) ?_
     refine WL.wkF (fun _ h => h.pm 1) ?_
     refine WL.heavy rfl rfl rfl (OpH.push (A := tChange) rfl rfl rfl mi_31 rfl (by decide) mq0 e6_9 ?_)
     intro f6_9 a6_9 c6_9
     refine ag ?_
     refine WL.nil (En.block_norm ?_)
     exact En.wk _ _ (sc (sc (sc (sc (sc sn))))) (fun _ h => (((h).pm 3).pm 3).sub (.cons_cons _ (.cons_cons _ (.cons_cons _ (.cons _ (.slnil)))))) (zK1 (x6_9, (a6_9, x6_9.length, c6_9, f6_9)) (Option.some.inj ej1).symm)
    ·
     intro hc_3
     replace ej1 := ifO_f hc_3 ej1
     refine WC.skip (En.block_norm ?_)
     exact En.wk _ _ (sc (sc (sc (sc (sc sn))))) (fun _ h => h) (zK1 (out_0, (aout_0, nout_0, cout_0, fout_0)) (Option.some.inj ej1).symm)
  ·
   intro hc_2
   replace zh0 := ifO_f hc_2 zh0
   refine WC.exit (En.then_exit (En.then_exit ?_))
   have hx := exitP ze0 zh0
   exact En.wk _ _ (sc (sc (sc sn))) (fun _ h => h) (zK0_0 (out_0, (aout_0, nout_0, cout_0, fout_0)) hx.symm)

theorem w_slices_Clone_S_int_int {s_p0 : List Int} {r : List Int} {q0_0 : Option Addr} {n0_0 k0_0 : Nat} (h : slices_Clone_S_int_int s_p0 = some r) {w : World} (r0_0 : Rd tInt w q0_0 n0_0 k0_0 s_p0) :
    Calls Try.prog 110 #[.slice q0_0 n0_0 k0_0] w (fun en w' => ∃ rv G, en = .returned rv ∧ (∃ (a0_0 : Option Addr) (n0_0 : Nat) (c0_0 : Nat) (f0_0 : List Nat), rv = .slice a0_0 n0_0 c0_0 ∧ G = [Chunk.own tInt f0_0 a0_0 n0_0 c0_0 r]) ∧ St w G w') := by
  obtain rfl := r0_0.1
  obtain ⟨hn, h⟩ := need_some h
  obtain rfl := Option.some.inj h
  refine enter (vs := [_]) Try.func110 rfl rfl rfl rfl ?_
  refine WC.sr ?_
  refine ag ?_
  refine WL.nil (En.next (WC.seq (WC.sr ?_)))
  refine mv ?_
  refine sp (OpV.eqNil rfl si_23) ?_
  refine WL.nil (En.next ?_)
  refine WC.cond rfl ?_ ?_
  · intro hc
    have hnil := Rd.isNil r0_0 hc
    refine WC.sr ?_
    refine ag ?_
    refine WL.nil (En.next (WC.ret (En.then_ret ?_)))
    refine En.ret1 rfl (Res.tmp rfl) ?_
    intro w' hs
    refine ⟨_, _, rfl, ⟨.none, 0, 0, [], rfl, rfl⟩, ?_⟩
    rw [hnil]; exact hs.ownNil
  · intro hc
    refine WC.skip (En.next (WC.sr ?_))
    refine WL.heavy rfl rfl rfl (OpH.lit0 (A := tInt) evps.nil bs_23_0_ ?_)
    intro b
    refine mv ?_
    refine WL.heavy rfl rfl rfl (OpH.appS (F := []) (A := tInt) tInt_flat rfl rfl rfl mi_23 rfl (by decide) (fun w hs => r0_0.ext hs.below) (app_nil hn) ?_)
    intro fp a c
    refine ag ?_
    refine WL.nil (En.next (WC.ret ?_))
    refine En.ret1 rfl (Res.tmp rfl) ?_
    intro w' hs
    exact ⟨_, _, rfl, ⟨_, _, _, _, rfl, rfl⟩, hs⟩

theorem w_impl_copyPlanes {list_p0 : List PlaneT} {r : List PlaneT} {q0_0 : Option Addr} {n0_0 k0_0 : Nat} (h : impl_copyPlanes list_p0 = some r) {w : World} (r0_0 : Rd tPlane w q0_0 n0_0 k0_0 list_p0) :
    Calls Try.prog 60 #[.slice q0_0 n0_0 k0_0] w (fun en w' => ∃ rv G, en = .returned rv ∧ (∃ (a0_0 : Option Addr) (n0_0 : Nat) (c0_0 : Nat) (f0_0 : List Nat), rv = .slice a0_0 n0_0 c0_0 ∧ G = [Chunk.own tPlane f0_0 a0_0 n0_0 c0_0 r]) ∧ St w G w') := by
 unfold impl_copyPlanes at h
 obtain ⟨⟨h1, h2⟩, h⟩ := need_some h
 obtain rfl := Option.some.inj h
 exact w_copyPlanesO h1 h2 r0_0 (fun s q n k w hs hr => w_slices_Clone_S_int_int (show slices_Clone_S_int_int s = some s from need_t hs _) hr)

theorem w_slices_Equal_S_int_int {s1_p0 : List Int} {s2_p1 : List Int} {r : Bool} {q0_0 : Option Addr} {l0_0 k0_0 : Nat} {q1_0 : Option Addr} {l1_0 k1_0 : Nat} (h : slices_Equal_S_int_int s1_p0 s2_p1 = some r) {w : World} (r0_0 : Rd tInt w q0_0 l0_0 k0_0 s1_p0) (r1_0 : Rd tInt w q1_0 l1_0 k1_0 s2_p1)   :
    Calls Try.prog 111 #[.slice q0_0 l0_0 k0_0, .slice q1_0 l1_0 k1_0] w (fun en w' => en = .returned (.bool r) ∧ Ext w w') := by
 obtain rfl := r0_0.1
 obtain rfl := r1_0.1
 unfold slices_Equal_S_int_int at h
 refine enter (vs := [_, _]) Try.func111 rfl rfl rfl rfl ?_
 refine WC.sr ?_
 refine ag ?_
 refine WL.nil (En.next (WC.seq (WC.sr ?_)))
 refine mv ?_
 refine sp (OpV.len rfl si_23 rfl) ?_
 refine mv ?_
 refine sp (OpV.len rfl si_23 rfl) ?_
 refine sp (OpV.neq rfl rfl) ?_
 refine WL.nil (En.next ?_)
 refine WC.cond rfl ?_ ?_
 ·
  intro hc_1
  replace h := ifO_t hc_1 h
  refine WC.sr ?_
  refine ag ?_
  refine WL.nil (En.next (WC.ret (En.then_ret ?_)))
  refine En.ret1 rfl (Res.tmp rfl) ?_
  obtain rfl := Option.some.inj h
  intro w' hs
  exact ⟨rfl, hs.below⟩
 ·
  intro hc_1
  replace h := ifO_f hc_1 h
  refine WC.skip (En.next (WC.seq (WC.sr ?_)))
  refine mv ?_
  refine sp (OpV.len rfl si_23 rfl) ?_
  refine mv ?_
  refine WL.nil (En.next (WC.block ?_))
  obtain ⟨zy0, ezy0, h⟩ := bnd h
  refine WC.cut (X := (Unit) × (Unit)) (.exit 0) (fun x => zy0 = .inl x.1) (fun x => match x with | ((), ()) => []) (fun x => match x with | ((), ()) => []) ?_ ?_
  ·
   rintro ⟨⟨⟩, ⟨⟩⟩ hx
   replace hx : .inl () = zy0 := hx.symm
   subst hx
   replace h := fork_l h
   show En _ _ _ _ [] []
   refine En.block_exit (En.next (WC.sr ?_))
   refine ag ?_
   refine WL.nil (En.next (WC.ret ?_))
   refine En.ret1 rfl (Res.tmp rfl) ?_
   obtain rfl := Option.some.inj h
   intro w' hs
   exact ⟨rfl, hs.below⟩
  ·
   intro zK0_0
   refine WC.loopP (G := Unit) (fun s g => match s, g with | v_0, () => [(0, .slice q0_0 s1_p0.length k0_0), (1, .slice q1_0 s2_p1.length k1_0), (12, .int .i64 (s1_p0.length : Int)), (13, .int .i64 v_0)]) (fun s g => match s, g with | v_0, () => []) 0 () ezy0 (by exact sc (sc (sc (sc sn)))) (by exact (fun _ h => h)) ?_
   rintro zm0 v_0 ⟨⟩ zo0 zf0 zb0 ze0
   have zh0 : slices_Equal_S_int_int_L0 s1_p0 s2_p1 v_0 = some zo0 := zf0
   unfold slices_Equal_S_int_int_L0 at zh0
   show WC _ _ _ _ _ [(0, .slice q0_0 s1_p0.length k0_0), (1, .slice q1_0 s2_p1.length k1_0), (12, .int .i64 (s1_p0.length : Int)), (13, .int .i64 v_0)] []
   refine WC.sr ?_
   refine sp (OpV.lss rfl rfl) ?_
   refine WL.nil (En.next (WC.seq ?_))
   refine WC.cond rfl ?_ ?_
   ·
    intro hc_2
    replace zh0 := ifO_t hc_2 zh0
    refine WC.skip (En.next (WC.seq (WC.block (WC.sr ?_))))
    refine mv ?_
    refine ag ?_
    refine WL.nil (En.next (WC.seq ?_))
    obtain ⟨x6_2, e6_2, zh0⟩ := bnd zh0
    obtain ⟨g6_2, o6_2, _, ha6_2, rfl, hd6_2⟩ := Rd.atIdx r0_0 e6_2
    replace hd6_2 : ∀ (j : Nat) v, ([.int .i64 x6_2] : List Value)[j]? = some v → w.cell? ⟨g6_2, o6_2 + v_0.toNat * 1 + j, .none⟩ = some v := hd6_2
    obtain ⟨x6_6, e6_6, zh0⟩ := bnd zh0
    obtain ⟨g6_6, o6_6, _, ha6_6, rfl, hd6_6⟩ := Rd.atIdx r1_0 e6_6
    replace hd6_6 : ∀ (j : Nat) v, ([.int .i64 x6_6] : List Value)[j]? = some v → w.cell? ⟨g6_6, o6_6 + v_0.toNat * 1 + j, .none⟩ = some v := hd6_6
    refine WC.drawn [(0, ?r6q3v0), (1, ?r6q3v1), (12, ?r6q3v12), (13, ?r6q3v13), (24, ?r6q3v24)] (by kernel_rfl) (by kernel_rfl) ?dH6q3 ?dK6q3
    case dH6q3 =>
     intro W hW hk
     refine hW.mv ?_
     refine hW.mv ?_
     refine hW.sp (OpV.idxA rfl rfl se_23 ha6_2 ⟨(idx_some e6_2).1, (idx_some e6_2).2.1⟩) ?_
     refine hW.sp (OpV.load1 rfl pt_3 (fun w hs => hs.cell (hd6_2 0 _ rfl))) ?_
     refine hW.mv ?_
     refine hW.mv ?_
     refine hW.sp (OpV.idxA rfl rfl se_23 ha6_6 ⟨(idx_some e6_6).1, (idx_some e6_6).2.1⟩) ?_
     refine hW.sp (OpV.load1 rfl pt_3 (fun w hs => hs.cell (hd6_6 0 _ rfl))) ?_
     refine hW.sp (OpV.neq rfl rfl) ?_
     refine hk _ ?_
     refine Sub.cons ?_ (Sub.cons ?_ (Sub.cons ?_ (Sub.cons ?_ (Sub.cons ?_ sn))))
     all_goals exact rfl
    refine En.next ?_
    refine WC.cond rfl ?_ ?_
    ·
     intro hc_3
     replace zh0 := ifO_t hc_3 zh0
     refine WC.sr ?_
     refine ag ?_
     refine WL.nil (En.next (WC.ret (En.block_ret (En.then_ret (En.then_ret (En.block_ret (En.then_ret ?_)))))))
     refine En.ret1 rfl (Res.tmp rfl) ?_
     have hx := exitP ze0 zh0
     subst hx
     replace h := fork_r h
     obtain rfl := Option.some.inj h
     intro w' hs
     exact ⟨rfl, hs.below⟩
    ·
     intro hc_3
     replace zh0 := ifO_f hc_3 zh0
     refine WC.skip (En.block_norm (En.next (WC.region ?_)))
     refine sp (OpV.addR rfl rfl) ?_
     refine mv ?_
     refine WL.nil ?_
     exact En.backP zb0 zh0 () (sc (sc (sc (sc sn)))) (fun _ h => h)
   ·
    intro hc_2
    replace zh0 := ifO_f hc_2 zh0
    refine WC.exit (En.then_exit (En.then_exit ?_))
    have hx := exitP ze0 zh0
    exact En.wk _ _ sn (fun _ h => h) (zK0_0 ((), ()) hx.symm)

theorem w_impl_samePlane {a_p0 : PlaneT} {a_p1 : PlaneT} {r : Bool} {q0_0 : Option Addr} {l0_0 k0_0 : Nat} {q1_0 : Option Addr} {l1_0 k1_0 : Nat} (h : impl_samePlane a_p0 a_p1 = some r) {w : World} (r0_0 : Rd tInt w q0_0 l0_0 k0_0 a_p0.Words) (r1_0 : Rd tInt w q1_0 l1_0 k1_0 a_p1.Words)   :
    Calls Try.prog 61 #[.agg #[.bool a_p0.On, .int .i64 a_p0.X, .int .i64 a_p0.Y, .int .i64 a_p0.W, .int .i64 a_p0.H, .int .i64 a_p0.Layout, .slice q0_0 l0_0 k0_0, .int .i64 a_p0.Alpha, .int .i64 a_p0.Orient, .int .i64 a_p0.ToW, .int .i64 a_p0.ToH], .agg #[.bool a_p1.On, .int .i64 a_p1.X, .int .i64 a_p1.Y, .int .i64 a_p1.W, .int .i64 a_p1.H, .int .i64 a_p1.Layout, .slice q1_0 l1_0 k1_0, .int .i64 a_p1.Alpha, .int .i64 a_p1.Orient, .int .i64 a_p1.ToW, .int .i64 a_p1.ToH]] w (fun en w' => en = .returned (.bool r) ∧ Ext w w') := by
 obtain rfl := r0_0.1
 obtain rfl := r1_0.1
 unfold impl_samePlane at h
 refine enter (vs := [_, _]) Try.func61 rfl rfl rfl rfl ?_
 refine WC.sr ?_
 refine WL.heavy rfl rfl rfl (OpH.box rfl rfl ?_)
 intro b0_0
 refine WL.heavy rfl rfl rfl (OpH.box rfl rfl ?_)
 intro b0_1
 refine ag ?_
 refine WL.nil (En.next (WC.seq ?_))
 obtain ⟨q1_74, e1_74, h⟩ := bnd h
 refine WC.region ?_
 refine sp (OpV.fieldAddr rfl fo_56_0) ?_
 refine sp (OpV.loadBox rfl pt_4 mq1 rfl) ?_
 refine sp (OpV.fieldAddr rfl fo_56_0) ?_
 refine sp (OpV.loadBox rfl pt_4 mq0 rfl) ?_
 refine sp (OpV.beql rfl rfl ub_4) ?_
 refine mv ?_
 refine Lt.ofWL.and 10 16 15 (p := ?pz1) (rest := ?qz1) (B := ?Bz1) rfl ?Tz1 ?Fz1 ?az1 ?bz1 ?cz1 ?dz1 ?ez1
 case Tz1 =>
  intro hcz1 hkz1
  refine sp (OpV.fieldAddr rfl fo_56_1) ?_
  refine sp (OpV.loadBox rfl pt_3 mq1 rfl) ?_
  refine sp (OpV.fieldAddr rfl fo_56_1) ?_
  refine sp (OpV.loadBox rfl pt_3 mq0 rfl) ?_
  refine sp (OpV.eql rfl rfl) ?_
  refine hkz1 _ ?_ ?_
  exact rfl
  repeat (first | exact Sub.refl _ | refine Sub.skip rfl ?_)
 case Fz1 =>
  intro hcz1 hkz1
  refine sk ?_
  refine sk ?_
  refine sk ?_
  refine sk ?_
  refine sk ?_
  refine hkz1 _ ?_
  repeat (first | exact Sub.refl _ | refine Sub.skip rfl ?_)
 case az1 => exact rfl
 case bz1 => exact rfl
 case cz1 => exact rfl
 case dz1 => exact rfl
 refine mv ?_
 refine Lt.ofWL.and 17 23 22 (p := ?pz2) (rest := ?qz2) (B := ?Bz2) rfl ?Tz2 ?Fz2 ?az2 ?bz2 ?cz2 ?dz2 ?ez2
 case Tz2 =>
  intro hcz2 hkz2
  refine sp (OpV.fieldAddr rfl fo_56_2) ?_
  refine sp (OpV.loadBox rfl pt_3 mq1 rfl) ?_
  refine sp (OpV.fieldAddr rfl fo_56_2) ?_
  refine sp (OpV.loadBox rfl pt_3 mq0 rfl) ?_
  refine sp (OpV.eql rfl rfl) ?_
  refine hkz2 _ ?_ ?_
  exact rfl
  repeat (first | exact Sub.refl _ | refine Sub.skip rfl ?_)
 case Fz2 =>
  intro hcz2 hkz2
  refine sk ?_
  refine sk ?_
  refine sk ?_
  refine sk ?_
  refine sk ?_
  refine hkz2 _ ?_
  repeat (first | exact Sub.refl _ | refine Sub.skip rfl ?_)
 case az2 => exact rfl
 case bz2 => exact rfl
 case cz2 => exact rfl
 case dz2 => exact rfl
 refine mv ?_
 refine Lt.ofWL.and 24 30 29 (p := ?pz3) (rest := ?qz3) (B := ?Bz3) rfl ?Tz3 ?Fz3 ?az3 ?bz3 ?cz3 ?dz3 ?ez3
 case Tz3 =>
  intro hcz3 hkz3
  refine sp (OpV.fieldAddr rfl fo_56_3) ?_
  refine sp (OpV.loadBox rfl pt_3 mq1 rfl) ?_
  refine sp (OpV.fieldAddr rfl fo_56_3) ?_
  refine sp (OpV.loadBox rfl pt_3 mq0 rfl) ?_
  refine sp (OpV.eql rfl rfl) ?_
  refine hkz3 _ ?_ ?_
  exact rfl
  repeat (first | exact Sub.refl _ | refine Sub.skip rfl ?_)
 case Fz3 =>
  intro hcz3 hkz3
  refine sk ?_
  refine sk ?_
  refine sk ?_
  refine sk ?_
  refine sk ?_
  refine hkz3 _ ?_
  repeat (first | exact Sub.refl _ | refine Sub.skip rfl ?_)
 case az3 => exact rfl
 case bz3 => exact rfl
 case cz3 => exact rfl
 case dz3 => exact rfl
 refine mv ?_
 refine Lt.ofWL.and 31 37 36 (p := ?pz4) (rest := ?qz4) (B := ?Bz4) rfl ?Tz4 ?Fz4 ?az4 ?bz4 ?cz4 ?dz4 ?ez4
 case Tz4 =>
  intro hcz4 hkz4
  refine sp (OpV.fieldAddr rfl fo_56_4) ?_
  refine sp (OpV.loadBox rfl pt_3 mq1 rfl) ?_
  refine sp (OpV.fieldAddr rfl fo_56_4) ?_
  refine sp (OpV.loadBox rfl pt_3 mq0 rfl) ?_
  refine sp (OpV.eql rfl rfl) ?_
  refine hkz4 _ ?_ ?_
  exact rfl
  repeat (first | exact Sub.refl _ | refine Sub.skip rfl ?_)
 case Fz4 =>
  intro hcz4 hkz4
  refine sk ?_
  refine sk ?_
  refine sk ?_
  refine sk ?_
  refine sk ?_
  refine hkz4 _ ?_
  repeat (first | exact Sub.refl _ | refine Sub.skip rfl ?_)
 case az4 => exact rfl
 case bz4 => exact rfl
 case cz4 => exact rfl
 case dz4 => exact rfl
 refine mv ?_
 refine Lt.ofWL.and 38 44 43 (p := ?pz5) (rest := ?qz5) (B := ?Bz5) rfl ?Tz5 ?Fz5 ?az5 ?bz5 ?cz5 ?dz5 ?ez5
 case Tz5 =>
  intro hcz5 hkz5
  refine sp (OpV.fieldAddr rfl fo_56_5) ?_
  refine sp (OpV.loadBox rfl pt_3 mq1 rfl) ?_
  refine sp (OpV.fieldAddr rfl fo_56_5) ?_
  refine sp (OpV.loadBox rfl pt_3 mq0 rfl) ?_
  refine sp (OpV.eql rfl rfl) ?_
  refine hkz5 _ ?_ ?_
  exact rfl
  repeat (first | exact Sub.refl _ | refine Sub.skip rfl ?_)
 case Fz5 =>
  intro hcz5 hkz5
  refine sk ?_
  refine sk ?_
  refine sk ?_
  refine sk ?_
  refine sk ?_
  refine hkz5 _ ?_
  repeat (first | exact Sub.refl _ | refine Sub.skip rfl ?_)
 case az5 => exact rfl
 case bz5 => exact rfl
 case cz5 => exact rfl
 case dz5 => exact rfl
 refine mv ?_
 refine Lt.ofWL.and 45 51 50 (p := ?pz6) (rest := ?qz6) (B := ?Bz6) rfl ?Tz6 ?Fz6 ?az6 ?bz6 ?cz6 ?dz6 ?ez6
 case Tz6 =>
  intro hcz6 hkz6
  refine sp (OpV.fieldAddr rfl fo_56_7) ?_
  refine sp (OpV.loadBox rfl pt_3 mq1 rfl) ?_
  refine sp (OpV.fieldAddr rfl fo_56_7) ?_
  refine sp (OpV.loadBox rfl pt_3 mq0 rfl) ?_
  refine sp (OpV.eql rfl rfl) ?_
  refine hkz6 _ ?_ ?_
  exact rfl
  repeat (first | exact Sub.refl _ | refine Sub.skip rfl ?_)
 case Fz6 =>
  intro hcz6 hkz6
  refine sk ?_
  refine sk ?_
  refine sk ?_
  refine sk ?_
  refine sk ?_
  refine hkz6 _ ?_
  repeat (first | exact Sub.refl _ | refine Sub.skip rfl ?_)
 case az6 => exact rfl
 case bz6 => exact rfl
 case cz6 => exact rfl
 case dz6 => exact rfl
 refine mv ?_
 refine Lt.ofWL.and 52 58 57 (p := ?pz7) (rest := ?qz7) (B := ?Bz7) rfl ?Tz7 ?Fz7 ?az7 ?bz7 ?cz7 ?dz7 ?ez7
 case Tz7 =>
  intro hcz7 hkz7
  refine sp (OpV.fieldAddr rfl fo_56_8) ?_
  refine sp (OpV.loadBox rfl pt_3 mq1 rfl) ?_
  refine sp (OpV.fieldAddr rfl fo_56_8) ?_
  refine sp (OpV.loadBox rfl pt_3 mq0 rfl) ?_
  refine sp (OpV.eql rfl rfl) ?_
  refine hkz7 _ ?_ ?_
  exact rfl
  repeat (first | exact Sub.refl _ | refine Sub.skip rfl ?_)
 case Fz7 =>
  intro hcz7 hkz7
  refine sk ?_
  refine sk ?_
  refine sk ?_
  refine sk ?_
  refine sk ?_
  refine hkz7 _ ?_
  repeat (first | exact Sub.refl _ | refine Sub.skip rfl ?_)
 case az7 => exact rfl
 case bz7 => exact rfl
 case cz7 => exact rfl
 case dz7 => exact rfl
 refine mv ?_
 refine Lt.ofWL.and 59 65 64 (p := ?pz8) (rest := ?qz8) (B := ?Bz8) rfl ?Tz8 ?Fz8 ?az8 ?bz8 ?cz8 ?dz8 ?ez8
 case Tz8 =>
  intro hcz8 hkz8
  refine sp (OpV.fieldAddr rfl fo_56_9) ?_
  refine sp (OpV.loadBox rfl pt_3 mq1 rfl) ?_
  refine sp (OpV.fieldAddr rfl fo_56_9) ?_
  refine sp (OpV.loadBox rfl pt_3 mq0 rfl) ?_
  refine sp (OpV.eql rfl rfl) ?_
  refine hkz8 _ ?_ ?_
  exact rfl
  repeat (first | exact Sub.refl _ | refine Sub.skip rfl ?_)
 case Fz8 =>
  intro hcz8 hkz8
  refine sk ?_
  refine sk ?_
  refine sk ?_
  refine sk ?_
  refine sk ?_
  refine hkz8 _ ?_
  repeat (first | exact Sub.refl _ | refine Sub.skip rfl ?_)
 case az8 => exact rfl
 case bz8 => exact rfl
 case cz8 => exact rfl
 case dz8 => exact rfl
 refine mv ?_
 refine Lt.ofWL.and 66 72 71 (p := ?pz9) (rest := ?qz9) (B := ?Bz9) rfl ?Tz9 ?Fz9 ?az9 ?bz9 ?cz9 ?dz9 ?ez9
 case Tz9 =>
  intro hcz9 hkz9
  refine sp (OpV.fieldAddr rfl fo_56_10) ?_
  refine sp (OpV.loadBox rfl pt_3 mq1 rfl) ?_
  refine sp (OpV.fieldAddr rfl fo_56_10) ?_
  refine sp (OpV.loadBox rfl pt_3 mq0 rfl) ?_
  refine sp (OpV.eql rfl rfl) ?_
  refine hkz9 _ ?_ ?_
  exact rfl
  repeat (first | exact Sub.refl _ | refine Sub.skip rfl ?_)
 case Fz9 =>
  intro hcz9 hkz9
  refine sk ?_
  refine sk ?_
  refine sk ?_
  refine sk ?_
  refine sk ?_
  refine hkz9 _ ?_
  repeat (first | exact Sub.refl _ | refine Sub.skip rfl ?_)
 case az9 => exact rfl
 case bz9 => exact rfl
 case cz9 => exact rfl
 case dz9 => exact rfl
 refine mv ?_
 refine Lt.ofWL.andQ 73 79 78 (p := ?pz10) (rest := ?qz10) (B := q1_74) rfl (fun hz => andO_f e1_74 hz) ?Tz10 ?Fz10 ?az10 ?bz10 ?cz10 ?dz10 ?ez10
 case Tz10 =>
  intro hcz10 hkz10
  have hqz10 := andO_t e1_74 hcz10
  obtain ⟨x1_73, e1_73, hqz10⟩ := bnd hqz10
  obtain rfl := Option.some.inj hqz10
  refine sp (OpV.fieldAddr rfl fo_56_6) ?_
  refine sp (OpV.loadBox rfl pt_23 mq1 rfl) ?_
  refine sp (OpV.fieldAddr rfl fo_56_6) ?_
  refine sp (OpV.loadBox rfl pt_23 mq0 rfl) ?_
  refine sp (OpV.call (ec rfl (ec rfl e0)) ca_111 (fun w hs => w_slices_Equal_S_int_int e1_73 (r0_0.ext hs.below) (r1_0.ext hs.below))) ?_
  refine hkz10 _ ?_ ?_
  exact rfl
  repeat (first | exact Sub.refl _ | refine Sub.skip rfl ?_)
 case Fz10 =>
  intro hcz10 hkz10
  refine sk ?_
  refine sk ?_
  refine sk ?_
  refine sk ?_
  refine sk ?_
  refine hkz10 _ ?_
  repeat (first | exact Sub.refl _ | refine Sub.skip rfl ?_)
 case az10 => exact rfl
 case bz10 => exact rfl
 case cz10 => exact rfl
 case dz10 => exact rfl
 refine ag ?_
 refine WL.nil (En.next (WC.ret ?_))
 refine En.ret1 rfl (Res.tmp rfl) ?_
 obtain rfl := Option.some.inj h
 intro w' hs
 exact ⟨rfl, hs.below⟩

theorem w_impl_sameColor {a_p0 : ColorMapT} {b_p1 : ColorMapT} {r : Bool} {q0_0 : Option Addr} {l0_0 k0_0 : Nat} {q0_1 : Option Addr} {l0_1 k0_1 : Nat} {q1_0 : Option Addr} {l1_0 k1_0 : Nat} {q1_1 : Option Addr} {l1_1 k1_1 : Nat} (h : impl_sameColor a_p0 b_p1 = some r) {w : World} (r0_0 : Rd tInt w q0_0 l0_0 k0_0 a_p0.Matrix) (r0_1 : Rd tInt w q0_1 l0_1 k0_1 a_p0.Curve) (r1_0 : Rd tInt w q1_0 l1_0 k1_0 b_p1.Matrix) (r1_1 : Rd tInt w q1_1 l1_1 k1_1 b_p1.Curve)   :
    Calls Try.prog 62 #[.agg #[.slice q0_0 l0_0 k0_0, .slice q0_1 l0_1 k0_1], .agg #[.slice q1_0 l1_0 k1_0, .slice q1_1 l1_1 k1_1]] w (fun en w' => en = .returned (.bool r) ∧ Ext w w') := by
 obtain rfl := r0_0.1
 obtain rfl := r0_1.1
 obtain rfl := r1_0.1
 obtain rfl := r1_1.1
 unfold impl_sameColor at h
 refine enter (vs := [_, _]) Try.func62 rfl rfl rfl rfl ?_
 refine WC.sr ?_
 refine WL.heavy rfl rfl rfl (OpH.box rfl rfl ?_)
 intro b0_0
 refine WL.heavy rfl rfl rfl (OpH.box rfl rfl ?_)
 intro b0_1
 refine ag ?_
 refine WL.nil (En.next (WC.seq ?_))
 obtain ⟨x1_4, e1_4, h⟩ := bnd h
 obtain ⟨q1_11, e1_11, h⟩ := bnd h
 refine WC.region ?_
 refine sp (OpV.fieldAddr rfl fo_34_0) ?_
 refine sp (OpV.loadBox rfl pt_23 mq1 rfl) ?_
 refine sp (OpV.fieldAddr rfl fo_34_0) ?_
 refine sp (OpV.loadBox rfl pt_23 mq0 rfl) ?_
 refine sp (OpV.call (ec rfl (ec rfl e0)) ca_111 (fun w hs => w_slices_Equal_S_int_int e1_4 (r0_0.ext hs.below) (r1_0.ext hs.below))) ?_
 refine mv ?_
 refine Lt.ofWL.andQ 10 16 15 (p := ?pz1) (rest := ?qz1) (B := q1_11) rfl (fun hz => andO_f e1_11 hz) ?Tz1 ?Fz1 ?az1 ?bz1 ?cz1 ?dz1 ?ez1
 case Tz1 =>
  intro hcz1 hkz1
  have hqz1 := andO_t e1_11 hcz1
  obtain ⟨x1_10, e1_10, hqz1⟩ := bnd hqz1
  obtain rfl := Option.some.inj hqz1
  refine sp (OpV.fieldAddr rfl fo_34_1) ?_
  refine sp (OpV.loadBox rfl pt_23 mq1 rfl) ?_
  refine sp (OpV.fieldAddr rfl fo_34_1) ?_
  refine sp (OpV.loadBox rfl pt_23 mq0 rfl) ?_
  refine sp (OpV.call (ec rfl (ec rfl e0)) ca_111 (fun w hs => w_slices_Equal_S_int_int e1_10 (r0_1.ext hs.below) (r1_1.ext hs.below))) ?_
  refine hkz1 _ ?_ ?_
  exact rfl
  repeat (first | exact Sub.refl _ | refine Sub.skip rfl ?_)
 case Fz1 =>
  intro hcz1 hkz1
  refine sk ?_
  refine sk ?_
  refine sk ?_
  refine sk ?_
  refine sk ?_
  refine hkz1 _ ?_
  repeat (first | exact Sub.refl _ | refine Sub.skip rfl ?_)
 case az1 => exact rfl
 case bz1 => exact rfl
 case cz1 => exact rfl
 case dz1 => exact rfl
 refine ag ?_
 refine WL.nil (En.next (WC.ret ?_))
 refine En.ret1 rfl (Res.tmp rfl) ?_
 obtain rfl := Option.some.inj h
 intro w' hs
 exact ⟨rfl, hs.below⟩

theorem w_impl_copyColor {m_p0 : ColorMapT} {r : ColorMapT} {q0_0 : Option Addr} {l0_0 k0_0 : Nat} {q0_1 : Option Addr} {l0_1 k0_1 : Nat} (h : impl_copyColor m_p0 = some r) {w : World} (r0_0 : Rd tInt w q0_0 l0_0 k0_0 m_p0.Matrix) (r0_1 : Rd tInt w q0_1 l0_1 k0_1 m_p0.Curve)   :
    Calls Try.prog 63 #[.agg #[.slice q0_0 l0_0 k0_0, .slice q0_1 l0_1 k0_1]] w (fun en w' => ∃ rv G, en = .returned rv ∧ (∃ (a0_0 : Option Addr) (n0_0 : Nat) (c0_0 : Nat) (f0_0 : List Nat) (a0_1 : Option Addr) (n0_1 : Nat) (c0_1 : Nat) (f0_1 : List Nat), rv = .agg #[.slice a0_0 n0_0 c0_0, .slice a0_1 n0_1 c0_1] ∧ G = [Chunk.own tInt f0_0 a0_0 n0_0 c0_0 r.Matrix, Chunk.own tInt f0_1 a0_1 n0_1 c0_1 r.Curve]) ∧ St w G w') := by
 obtain rfl := r0_0.1
 obtain rfl := r0_1.1
 unfold impl_copyColor at h
 refine enter (vs := [_]) Try.func63 rfl rfl rfl rfl ?_
 refine WC.sr ?_
 refine WL.heavy rfl rfl rfl (OpH.box rfl rfl ?_)
 intro b0_0
 refine WL.heavy rfl rfl rfl (OpH.alloc zc_34 ?_)
 intro b0_1
 refine WL.nil (En.next (WC.seq ?_))
 obtain ⟨x1_2, e1_2, h⟩ := bnd h
 obtain ⟨x1_5, e1_5, h⟩ := bnd h
 refine WC.drawnH [_] ([_]) (fun _ h => h) (by kernel_rfl) ?_
 refine tk 0 rfl (OpV.fieldAddr rfl fo_34_0) ?_
 refine tk 1 rfl (OpV.loadBox rfl pt_23 mq0 rfl) ?_
 refine tk 3 rfl (OpV.fieldAddr rfl fo_34_1) ?_
 refine tk 4 rfl (OpV.loadBox rfl pt_23 mq0 rfl) ?_
 refine al1 2 rfl ?_
 refine OpH.callR (ec rfl e0) ca_110 (fun w hs => w_slices_Clone_S_int_int e1_2 (r0_0.ext hs.below)) ?_
 rintro _ _ ⟨a1_200, n1_200, c1_200, f1_200, rfl, rfl⟩
 refine ⟨[_, _], rfl, ?_⟩
 refine al1 5 rfl ?_
 refine OpH.callR (ec rfl e0) ca_110 (fun w hs => w_slices_Clone_S_int_int e1_5 (r0_1.ext hs.below)) ?_
 rintro _ _ ⟨a1_500, n1_500, c1_500, f1_500, rfl, rfl⟩
 refine ⟨[_, _, _], rfl, ?_⟩
 refine tk 6 rfl (OpV.build (evps.cons rfl (evps.cons rfl (evps.nil))) (bd_34_0_1 _ _ _ _ _ _)) ?_
 refine al0 7 rfl ?_
 refine OpH.storeTo (A := [_, _]) [_, _] rfl rfl rfl ts_34 rfl rfl rfl ?_
 refine ⟨[_, _, _], rfl, ?_⟩
 refine WAE.rebase (H := []) ?_
 refine WAE.done (by kernel_rfl) ?_ _
 refine En.next (WC.ret ?_)
 refine En.ret1 rfl (Res.cell rfl mq2 ag_34) ?_
 obtain rfl := Option.some.inj h
 intro w' hs
 have hs := ((hs).pm 1).sub (.cons_cons _ (.cons_cons _ (.cons _ (.cons _ (.slnil)))))
 exact ⟨_, _, rfl, ⟨a1_200, n1_200, c1_200, f1_200, a1_500, n1_500, c1_500, f1_500, rfl, rfl⟩, hs⟩

theorem w_impl_ChangesFor {c_p0 : CrtcT} {planes_p1 : List PlaneT} {m_p2 : ColorMapT} {r : (List ChangeT)} {q0_0 : Option Addr} {l0_0 k0_0 : Nat} {q0_1 : Option Addr} {l0_1 k0_1 : Nat} {q0_2 : Option Addr} {l0_2 k0_2 : Nat} {q1_0 : Option Addr} {l1_0 k1_0 : Nat} {q2_0 : Option Addr} {l2_0 k2_0 : Nat} {q2_1 : Option Addr} {l2_1 k2_1 : Nat} (h : impl_ChangesFor c_p0 planes_p1 m_p2 = some r) {w : World} (r0_0 : Rd tPlane w q0_0 l0_0 k0_0 c_p0.Planes) (r0_1 : Rd tInt w q0_1 l0_1 k0_1 c_p0.Color.Matrix) (r0_2 : Rd tInt w q0_2 l0_2 k0_2 c_p0.Color.Curve) (r1_0 : Rd tPlane w q1_0 l1_0 k1_0 planes_p1) (r2_0 : Rd tInt w q2_0 l2_0 k2_0 m_p2.Matrix) (r2_1 : Rd tInt w q2_1 l2_1 k2_1 m_p2.Curve)   :
    Calls Try.prog 16 #[.agg #[.int .i64 c_p0.W, .int .i64 c_p0.H, .slice q0_0 l0_0 k0_0, .slice q0_1 l0_1 k0_1, .slice q0_2 l0_2 k0_2], .slice q1_0 l1_0 k1_0, .agg #[.slice q2_0 l2_0 k2_0, .slice q2_1 l2_1 k2_1]] w (fun en w' => ∃ rv G, en = .returned rv ∧ (∃ (a0_0 : Option Addr) (n0_0 : Nat) (c0_0 : Nat) (f0_0 : List Nat), rv = .slice a0_0 n0_0 c0_0 ∧ G = [Chunk.own tChange f0_0 a0_0 n0_0 c0_0 r]) ∧ St w G w') := by
 obtain rfl := r0_0.1
 obtain rfl := r0_1.1
 obtain rfl := r0_2.1
 obtain rfl := r1_0.1
 obtain rfl := r2_0.1
 obtain rfl := r2_1.1
 unfold impl_ChangesFor at h
 refine enter (vs := [_, _, _]) Try.func16 rfl rfl rfl rfl ?_
 refine WC.sr ?_
 refine WL.heavy rfl rfl rfl (OpH.box rfl rfl ?_)
 intro b0_0
 refine WL.heavy rfl rfl rfl (OpH.box rfl rfl ?_)
 intro b0_1
 refine ag ?_
 refine WL.nil (En.next (WC.sr ?_))
 refine WL.heavy rfl rfl rfl (OpH.lit0 (A := tChange) (evps.nil) bs_31_0_ ?_)
 intro b1_0
 refine ag ?_
 refine WL.nil (En.next (WC.seq (WC.seq ?_)))
 obtain ⟨x2_1, e2_1, h⟩ := bnd h
 refine WC.region ?_
 refine mv ?_
 refine WL.heavy rfl rfl rfl (OpH.callR (ec rfl e0) ca_60 (fun w hs => w_impl_copyPlanes e2_1 (r1_0.ext hs.below)) ?_)
 rintro _ _ ⟨a2_100, n2_100, c2_100, f2_100, rfl, rfl⟩
 refine sp (OpV.inhF fun hin => OpV.lenO (xs := x2_1) rfl si_33 rfl (ownLen hin mq0)) ?_
 refine mv ?_
 refine WL.nil (En.next (WC.block ?_))
 refine WC.wkF (fun _ h => St.toS (F := []) h) ?_
 obtain ⟨zy0, ezy0, h⟩ := bnd h
 refine WC.cut (X := ((List ChangeT)) × ((Option Addr) × Nat × Nat × (List Nat))) (.exit 0) (fun x => zy0 = x.1) (fun x => match x with | (out_0e, (aout_0e, nout_0e, cout_0e, fout_0e)) => [(3, .pointer (some ⟨b0_0, 0, .none⟩)), (5, .pointer (some ⟨b0_1, 0, .none⟩)), (7, .slice aout_0e nout_0e cout_0e)]) (fun x => match x with | (out_0e, (aout_0e, nout_0e, cout_0e, fout_0e)) => [Chunk.box b0_0 36 [.int .i64 c_p0.W, .int .i64 c_p0.H, .slice q0_0 c_p0.Planes.length k0_0, .slice q0_1 c_p0.Color.Matrix.length k0_1, .slice q0_2 c_p0.Color.Curve.length k0_2], Chunk.box b0_1 34 [.slice q2_0 m_p2.Matrix.length k2_0, .slice q2_1 m_p2.Curve.length k2_1], Chunk.own tChange fout_0e aout_0e nout_0e cout_0e out_0e]) ?_ ?_
 ·
  rintro ⟨out_0e, ⟨aout_0e, nout_0e, cout_0e, fout_0e⟩⟩ hx
  replace hx : out_0e = zy0 := hx.symm
  subst hx
  show En _ _ _ _ [(3, .pointer (some ⟨b0_0, 0, .none⟩)), (5, .pointer (some ⟨b0_1, 0, .none⟩)), (7, .slice aout_0e nout_0e cout_0e)] [Chunk.box b0_0 36 [.int .i64 c_p0.W, .int .i64 c_p0.H, .slice q0_0 c_p0.Planes.length k0_0, .slice q0_1 c_p0.Color.Matrix.length k0_1, .slice q0_2 c_p0.Color.Curve.length k0_2], Chunk.box b0_1 34 [.slice q2_0 m_p2.Matrix.length k2_0, .slice q2_1 m_p2.Curve.length k2_1], Chunk.own tChange fout_0e aout_0e nout_0e cout_0e out_0e]
  refine En.block_exit (En.next (WC.seq (WC.seq ?_)))
  obtain ⟨x8_3, e8_3, h⟩ := bnd h
  refine WC.region ?_
  refine sp (OpV.fieldAddr rfl fo_36_3) ?_
  refine sp (OpV.loadPart rfl mq0 ag_34 rfl rfl) ?_
  refine sp (OpV.loadAll rfl mq1 ag_34) ?_
  refine sp (OpV.call (ec rfl (ec rfl e0)) ca_62 (fun w hs => w_impl_sameColor e8_3 (r0_1.ext hs.below) (r0_2.ext hs.below) (r2_0.ext hs.below) (r2_1.ext hs.below))) ?_
  refine sp (OpV.not rfl) ?_
  refine WL.nil (En.next ?_)
  refine WC.cond rfl ?_ ?_
  ·
   intro hc_1
   replace h := ifO_t hc_1 h
   obtain ⟨x9_2, e9_2, h⟩ := bnd h
   obtain ⟨x9_5, e9_5, h⟩ := bnd h
   refine WC.region ?_
   refine mv ?_
   refine sp (OpV.loadAll rfl mq1 ag_34) ?_
   refine WL.heavy rfl rfl rfl (OpH.callR (ec rfl e0) ca_63 (fun w hs => w_impl_copyColor e9_2 (r2_0.ext hs.below) (r2_1.ext hs.below)) ?_)
   rintro _ _ ⟨a9_200, n9_200, c9_200, f9_200, a9_201, n9_201, c9_201, f9_201, rfl, rfl⟩
   refine sp (OpV.build (evps.cons rfl (evps.cons rfl (evps.nil))) (bd_58_0_2 _ _ _ _ _ _ _)) ?_
   refine WL.heavy rfl rfl rfl (OpH.buildSlice (evps.cons rfl (evps.nil)) (bs_31_1_0 _ _ _ _ _ _ _ _ _ _ _ _ _ _ _ _ _ _ _ _) ?_)
   intro b9_4
   refine WL.wkF (fun _ h => h.ownNil (A := tInt)) ?_
   refine WL.wkF (fun _ h => h.pm 3) ?_
   refine WL.wkF (fun _ h => h.pm 3) ?_
   refine WL.wkF (fun _ h => h.pm 2) ?_
   refine WL.wkF (fun _ h => tChange_mk (-1) (PlaneT.mk false 0 0 0 0 0 [] 0 0 0 0) x9_2 h) ?_
   refine WL.wkF (fun _ h => h.pm 4) ?_
   refine WL.wkF (fun _ h => h.pm 1) ?_
   refine WL.heavy rfl rfl rfl (OpH.push (A := tChange) rfl rfl rfl mi_31 rfl (by decide) mq0 e9_5 ?_)
   intro f9_5 a9_5 c9_5
   refine ag ?_
   refine WL.nil (En.next (WC.sr ?_))
   refine mv ?_
   refine ag ?_
   refine WL.nil (En.next (WC.ret ?_))
   refine En.ret1 rfl (Res.tmp rfl) ?_
   obtain rfl := Option.some.inj h
   intro w' hs
   have hs := (hs).sub (.cons_cons _ (.cons _ (.cons _ (.cons _ (.slnil)))))
   exact ⟨_, _, rfl, ⟨a9_5, x9_5.length, c9_5, f9_5, rfl, rfl⟩, hs⟩
  ·
   intro hc_1
   replace h := ifO_f hc_1 h
   refine WC.skip (En.next (WC.sr ?_))
   refine mv ?_
   refine ag ?_
   refine WL.nil (En.next (WC.ret ?_))
   refine En.ret1 rfl (Res.tmp rfl) ?_
   obtain rfl := Option.some.inj h
   intro w' hs
   have hs := ((hs).pm 2).sub (.cons_cons _ (.cons _ (.cons _ (.slnil))))
   exact ⟨_, _, rfl, ⟨aout_0e, nout_0e, cout_0e, fout_0e, rfl, rfl⟩, hs⟩
 ·
  intro zK0_0
  refine WC.loopP (G := (Option Addr) × Nat × Nat × (List Nat) × (List Nat)) (fun s g => match s, g with | (out_0, v_0), (aout_0, nout_0, cout_0, fout_0, fv_0) => [(3, .pointer (some ⟨b0_0, 0, .none⟩)), (5, .pointer (some ⟨b0_1, 0, .none⟩)), (7, .slice aout_0 nout_0 cout_0), (12, .slice a2_100 n2_100 c2_100), (13, .int .i64 (x2_1.length : Int)), (14, .int .i64 v_0)]) (fun s g => match s, g with | (out_0, v_0), (aout_0, nout_0, cout_0, fout_0, fv_0) => [Chunk.box b0_0 36 [.int .i64 c_p0.W, .int .i64 c_p0.H, .slice q0_0 c_p0.Planes.length k0_0, .slice q0_1 c_p0.Color.Matrix.length k0_1, .slice q0_2 c_p0.Color.Curve.length k0_2], Chunk.box b0_1 34 [.slice q2_0 m_p2.Matrix.length k2_0, .slice q2_1 m_p2.Curve.length k2_1], Chunk.own tChange fout_0 aout_0 nout_0 cout_0 out_0, Chunk.ownS tPlane v_0.toNat fv_0 a2_100 n2_100 c2_100 x2_1]) (([] : List ChangeT), 0) ((some ⟨b1_0, 0, .none⟩), 0, 0, [b1_0], f2_100) ezy0 (by exact sc (sc (sc (sc (sc (sc sn)))))) (by exact (fun _ h => (((h).pm 1).pm 2).pm 3)) ?_
  rintro zm0 ⟨out_0, v_0⟩ ⟨aout_0, nout_0, cout_0, fout_0, fv_0⟩ zo0 zf0 zb0 ze0
  have zh0 : impl_ChangesFor_L0 c_p0 x2_1 out_0 v_0 = some zo0 := zf0
  unfold impl_ChangesFor_L0 at zh0
  show WC _ _ _ _ _ [(3, .pointer (some ⟨b0_0, 0, .none⟩)), (5, .pointer (some ⟨b0_1, 0, .none⟩)), (7, .slice aout_0 nout_0 cout_0), (12, .slice a2_100 n2_100 c2_100), (13, .int .i64 (x2_1.length : Int)), (14, .int .i64 v_0)] [Chunk.box b0_0 36 [.int .i64 c_p0.W, .int .i64 c_p0.H, .slice q0_0 c_p0.Planes.length k0_0, .slice q0_1 c_p0.Color.Matrix.length k0_1, .slice q0_2 c_p0.Color.Curve.length k0_2], Chunk.box b0_1 34 [.slice q2_0 m_p2.Matrix.length k2_0, .slice q2_1 m_p2.Curve.length k2_1], Chunk.own tChange fout_0 aout_0 nout_0 cout_0 out_0, Chunk.ownS tPlane v_0.toNat fv_0 a2_100 n2_100 c2_100 x2_1]
  refine WC.sr ?_
  refine sp (OpV.lss rfl rfl) ?_
  refine WL.nil (En.next (WC.seq ?_))
  refine WC.cond rfl ?_ ?_
  ·
   intro hc_2
   replace zh0 := ifO_t hc_2 zh0
   refine WC.skip (En.next (WC.seq ?_))
   obtain ⟨zy1, ej1, zh0⟩ := bnd zh0
   refine WC.cut (X := ((List ChangeT)) × ((Option Addr) × Nat × Nat × (List Nat) × (List Nat))) .normal (fun x => zy1 = x.1) (fun x => match x with | (out_1j, (aout_1j, nout_1j, cout_1j, fout_1j, fv_1j)) => [(3, .pointer (some ⟨b0_0, 0, .none⟩)), (5, .pointer (some ⟨b0_1, 0, .none⟩)), (7, .slice aout_1j nout_1j cout_1j), (12, .slice a2_100 n2_100 c2_100), (13, .int .i64 (x2_1.length : Int)), (14, .int .i64 v_0)]) (fun x => match x with | (out_1j, (aout_1j, nout_1j, cout_1j, fout_1j, fv_1j)) => [Chunk.box b0_0 36 [.int .i64 c_p0.W, .int .i64 c_p0.H, .slice q0_0 c_p0.Planes.length k0_0, .slice q0_1 c_p0.Color.Matrix.length k0_1, .slice q0_2 c_p0.Color.Curve.length k0_2], Chunk.box b0_1 34 [.slice q2_0 m_p2.Matrix.length k2_0, .slice q2_1 m_p2.Curve.length k2_1], Chunk.own tChange fout_1j aout_1j nout_1j cout_1j out_1j, Chunk.ownS tPlane ((wr (v_0 + 1)).toNat) fv_1j a2_100 n2_100 c2_100 x2_1]) ?_ ?_
   ·
    rintro ⟨out_1j, ⟨aout_1j, nout_1j, cout_1j, fout_1j, fv_1j⟩⟩ hx
    replace hx : out_1j = zy1 := hx.symm
    subst hx
    show En _ _ _ _ [(3, .pointer (some ⟨b0_0, 0, .none⟩)), (5, .pointer (some ⟨b0_1, 0, .none⟩)), (7, .slice aout_1j nout_1j cout_1j), (12, .slice a2_100 n2_100 c2_100), (13, .int .i64 (x2_1.length : Int)), (14, .int .i64 v_0)] [Chunk.box b0_0 36 [.int .i64 c_p0.W, .int .i64 c_p0.H, .slice q0_0 c_p0.Planes.length k0_0, .slice q0_1 c_p0.Color.Matrix.length k0_1, .slice q0_2 c_p0.Color.Curve.length k0_2], Chunk.box b0_1 34 [.slice q2_0 m_p2.Matrix.length k2_0, .slice q2_1 m_p2.Curve.length k2_1], Chunk.own tChange fout_1j aout_1j nout_1j cout_1j out_1j, Chunk.ownS tPlane ((wr (v_0 + 1)).toNat) fv_1j a2_100 n2_100 c2_100 x2_1]
    refine En.next (WC.region ?_)
    refine sp (OpV.addR rfl rfl) ?_
    refine mv ?_
    refine WL.nil ?_
    exact En.backP zb0 zh0 (aout_1j, nout_1j, cout_1j, fout_1j, fv_1j) (sc (sc (sc (sc (sc (sc sn)))))) (fun _ h => h)
   ·
    intro zK1
    refine WC.block (WC.seq ?_)
    refine WC.inh fun hin4 => ?_
    obtain ⟨x4_1, e4_1, ej1⟩ := bnd ej1
    obtain ⟨g4_1, o4_1, ha4_1⟩ := ownAddrS hin4 mq3 e4_1
    have hn4_1 := ownLenS hin4 mq3
    refine WC.region ?_
    refine mv ?_
    refine sp (OpV.idxA rfl rfl se_33 ha4_1 ⟨(idx_some e4_1).1, by rw [hn4_1]; exact (idx_some e4_1).2.1⟩) ?_
    refine WL.exF (fun w h => St.takeS (F := [_, _, _]) e4_1 (Nat.le_refl _) h) ?_
    rintro ⟨css4_1, fps4_1, cs4_1, fz4_1⟩ ⟨hcs4_1, hk4_1⟩
    refine WL.exF (X := (Option Addr) × Nat × (List Nat)) (Pre := fun x => match x with | (a4_1_0, c4_1_0, f4_1_0) => cs4_1 = [.bool x4_1.On, .int .i64 x4_1.X, .int .i64 x4_1.Y, .int .i64 x4_1.W, .int .i64 x4_1.H, .int .i64 x4_1.Layout, .slice a4_1_0 x4_1.Words.length c4_1_0, .int .i64 x4_1.Alpha, .int .i64 x4_1.Orient, .int .i64 x4_1.ToW, .int .i64 x4_1.ToH]) (F' := fun x => match x with | (a4_1_0, c4_1_0, f4_1_0) => [Chunk.box b0_0 36 [.int .i64 c_p0.W, .int .i64 c_p0.H, .slice q0_0 c_p0.Planes.length k0_0, .slice q0_1 c_p0.Color.Matrix.length k0_1, .slice q0_2 c_p0.Color.Curve.length k0_2], Chunk.box b0_1 34 [.slice q2_0 m_p2.Matrix.length k2_0, .slice q2_1 m_p2.Curve.length k2_1], Chunk.own tChange fout_0 aout_0 nout_0 cout_0 out_0, Chunk.own tInt f4_1_0 a4_1_0 x4_1.Words.length c4_1_0 x4_1.Words, Chunk.row tPlane.T tPlane.k a2_100 x2_1.length c2_100 css4_1.flatten, Chunk.inS tPlane css4_1 fps4_1 x2_1 (v_0.toNat + 1)]) (fun w h => let ⟨a4_1_0, c4_1_0, f4_1_0, e, hs⟩ := tPlane_open (F := [_, _, _]) h; ⟨(a4_1_0, c4_1_0, f4_1_0), e, hs⟩) ?_
    rintro ⟨a4_1_0, c4_1_0, f4_1_0⟩ hz4_1
    replace hz4_1 : cs4_1 = [.bool x4_1.On, .int .i64 x4_1.X, .int .i64 x4_1.Y, .int .i64 x4_1.W, .int .i64 x4_1.H, .int .i64 x4_1.Layout, .slice a4_1_0 x4_1.Words.length c4_1_0, .int .i64 x4_1.Alpha, .int .i64 x4_1.Orient, .int .i64 x4_1.ToW, .int .i64 x4_1.ToH] := hz4_1
    subst hz4_1
    show WL _ _ _ _ _ _ _ [Chunk.box b0_0 36 [.int .i64 c_p0.W, .int .i64 c_p0.H, .slice q0_0 c_p0.Planes.length k0_0, .slice q0_1 c_p0.Color.Matrix.length k0_1, .slice q0_2 c_p0.Color.Curve.length k0_2], Chunk.box b0_1 34 [.slice q2_0 m_p2.Matrix.length k2_0, .slice q2_1 m_p2.Curve.length k2_1], Chunk.own tChange fout_0 aout_0 nout_0 cout_0 out_0, Chunk.own tInt f4_1_0 a4_1_0 x4_1.Words.length c4_1_0 x4_1.Words, Chunk.row tPlane.T tPlane.k a2_100 x2_1.length c2_100 css4_1.flatten, Chunk.inS tPlane css4_1 fps4_1 x2_1 (v_0.toNat + 1)]
    refine sp (OpV.loadN (l := [.bool x4_1.On, .int .i64 x4_1.X, .int .i64 x4_1.Y, .int .i64 x4_1.W, .int .i64 x4_1.H, .int .i64 x4_1.Layout, .slice a4_1_0 x4_1.Words.length c4_1_0, .int .i64 x4_1.Alpha, .int .i64 x4_1.Orient, .int .i64 x4_1.ToW, .int .i64 x4_1.ToH]) rfl ag_56 rfl (fun w hs j v hj => by rw [Addr.add_lit]; exact focCell (hs.mem mq4) hk4_1 hcs4_1 ha4_1 hj)) ?_
    refine WL.exF (fun w h => St.backS (F := [_, _, _, _]) hn4_1 e4_1 hk4_1 h) ?_
    rintro fb4_1 _
    refine WL.heavy rfl rfl rfl (OpH.alloc zc_56 ?_)
    intro b4_3
    refine ag ?_
    refine WL.heavy0 rfl rfl (OpH.storeTo (A := []) [_, _, _, _, _, _, _, _, _, _, _] rfl rfl rfl ts_56 rfl rfl rfl ?_)
    refine WL.nil (En.next (WC.seq ?_))
    obtain ⟨q5_14, e5_14, ej1⟩ := bnd ej1
    refine WC.drawn [(3, ?r5q6v3), (5, ?r5q6v5), (7, ?r5q6v7), (8, ?r5q6v8), (9, ?r5q6v9), (12, ?r5q6v12), (13, ?r5q6v13), (14, ?r5q6v14), (33, ?r5q6v33)] (by kernel_rfl) (by kernel_rfl) ?dH5q6 ?dK5q6
    case dH5q6 =>
     intro W hW hk
     refine hW.mv ?_
     refine hW.sp (OpV.fieldAddr rfl fo_36_2) ?_
     refine hW.sp (OpV.loadBox rfl pt_33 mq1 rfl) ?_
     refine hW.sp (OpV.len rfl si_33 rfl) ?_
     refine hW.sp (OpV.lss rfl rfl) ?_
     refine hW.mv ?_
     refine hW.andQ 24 33 32 (p := ?pz1) (rest := ?qz1) (B := q5_14) rfl (fun hz => andO_f e5_14 hz) ?Tz1 ?Fz1 ?az1 ?bz1 ?cz1 ?dz1 ?ez1
     case Tz1 =>
      intro hcz1 hkz1
      have hqz1 := andO_t e5_14 hcz1
      obtain ⟨x5_10, e5_10, hqz1⟩ := bnd hqz1
      obtain ⟨g5_10, o5_10, _, ha5_10, ⟨a5_10_1, c5_10_1, rfl, r5_10_1⟩, hd5_10⟩ := Rd.atIdx r0_0 e5_10
      replace hd5_10 : ∀ (j : Nat) v, ([.bool x5_10.On, .int .i64 x5_10.X, .int .i64 x5_10.Y, .int .i64 x5_10.W, .int .i64 x5_10.H, .int .i64 x5_10.Layout, .slice a5_10_1 x5_10.Words.length c5_10_1, .int .i64 x5_10.Alpha, .int .i64 x5_10.Orient, .int .i64 x5_10.ToW, .int .i64 x5_10.ToH] : List Value)[j]? = some v → w.cell? ⟨g5_10, o5_10 + v_0.toNat * 11 + j, .none⟩ = some v := hd5_10
      obtain ⟨x5_12, e5_12, hqz1⟩ := bnd hqz1
      obtain rfl := Option.some.inj hqz1
      refine hW.sp (OpV.loadAll rfl mq0 ag_56) ?_
      refine hW.sp (OpV.fieldAddr rfl fo_36_2) ?_
      refine hW.sp (OpV.loadBox rfl pt_33 mq1 rfl) ?_
      refine hW.mv ?_
      refine hW.sp (OpV.idxA rfl rfl se_33 ha5_10 ⟨(idx_some e5_10).1, (idx_some e5_10).2.1⟩) ?_
      refine hW.sp (OpV.loadN rfl ag_56 rfl (fun w hs => hs.cellsAt hd5_10)) ?_
      refine hW.sp (OpV.call (ec rfl (ec rfl e0)) ca_61 (fun w hs => w_impl_samePlane e5_12 (Ow.rd (hs.mem mq4)) (r5_10_1.ext hs.below))) ?_
      refine hW.sp (OpV.not rfl) ?_
      refine hkz1 _ ?_ ?_
      exact rfl
      repeat (first | exact Sub.refl _ | refine Sub.skip rfl ?_)
     case Fz1 =>
      intro hcz1 hkz1
      refine hW.sk ?_
      refine hW.sk ?_
      refine hW.sk ?_
      refine hW.sk ?_
      refine hW.sk ?_
      refine hW.sk ?_
      refine hW.sk ?_
      refine hW.sk ?_
      refine hkz1 _ ?_
      repeat (first | exact Sub.refl _ | refine Sub.skip rfl ?_)
     case az1 => exact rfl
     case bz1 => exact rfl
     case cz1 => exact rfl
     case dz1 => exact rfl
     refine hk _ ?_
     refine Sub.cons ?_ (Sub.cons ?_ (Sub.cons ?_ (Sub.cons ?_ (Sub.cons ?_ (Sub.cons ?_ (Sub.cons ?_ (Sub.cons ?_ (Sub.cons ?_ sn))))))))
     all_goals exact rfl
    refine En.next ?_
    refine WC.cond rfl ?_ ?_
    ·
     intro hc_3
     replace ej1 := ifO_t hc_3 ej1
     obtain ⟨x6_5, e6_5, ej1⟩ := bnd ej1
     refine WC.region ?_
     refine mv ?_
     refine mv ?_
     refine sp (OpV.loadAll rfl mq0 ag_56) ?_
     refine sp (OpV.build (evps.cons rfl (evps.cons rfl (evps.nil))) (bd_58_0_1 _ _ _ _ _ _ _ _ _ _ _ _ _ _)) ?_
     refine WL.heavy rfl rfl rfl (OpH.buildSlice (evps.cons rfl (evps.nil)) (bs_31_1_0 _ _ _ _ _ _ _ _ _ _ _ _ _ _ _ _ _ _ _ _) ?_)
     intro b6_4
     refine WL.wkF (fun _ h => h.ownNil (A := tInt)) ?_
     refine WL.wkF (fun _ h => h.ownNil (A := tInt)) ?_
     refine WL.wkF (fun _ h => h.pm 1) ?_
     refine WL.wkF (fun _ h => h.pm 7) ?_
     refine WL.wkF (fun _ h => tChange_mk v_0 x4_1 (ColorMapT.mk [] []) h) ?_
     refine WL.wkF (fun _ h => h.pm 5) ?_
     refine WL.wkF (fun _ h => h.pm 1) ?_
     refine WL.heavy rfl rfl rfl (OpH.push (A := tChange) rfl rfl rfl mi_31 rfl (by decide) mq0 e6_5 ?_)
     intro f6_5 a6_5 c6_5
     refine ag ?_
     refine WL.nil (En.block_norm ?_)
     exact En.wk _ _ (sc (sc (sc (sc (sc (sc sn)))))) (fun _ h => (((((h).pm 5).pm 1).pm 5).pm 5).sub (.cons_cons _ (.cons_cons _ (.cons_cons _ (.cons_cons _ (.cons _ (.cons _ (.slnil)))))))) (zK1 (x6_5, (a6_5, x6_5.length, c6_5, f6_5, fb4_1)) (Option.some.inj ej1).symm)
    ·
     intro hc_3
     replace ej1 := ifO_f hc_3 ej1
     refine WC.skip (En.block_norm ?_)
     exact En.wk _ _ (sc (sc (sc (sc (sc (sc sn)))))) (fun _ h => (((((h).pm 5).pm 4).pm 4).pm 4).sub (.cons_cons _ (.cons_cons _ (.cons_cons _ (.cons_cons _ (.cons _ (.cons _ (.slnil)))))))) (zK1 (out_0, (aout_0, nout_0, cout_0, fout_0, fb4_1)) (Option.some.inj ej1).symm)
  ·
   intro hc_2
   replace zh0 := ifO_f hc_2 zh0
   refine WC.exit (En.then_exit (En.then_exit ?_))
   have hx := exitP ze0 zh0
   exact En.wk _ _ (sc (sc (sc sn))) (fun _ h => (h).sub (.cons_cons _ (.cons_cons _ (.cons_cons _ (.cons _ (.slnil)))))) (zK0_0 (out_0, (aout_0, nout_0, cout_0, fout_0)) hx.symm)

theorem w_laws_eqIntS {a_p0 : List Int} {b_p1 : List Int} {r : Bool} {q0_0 : Option Addr} {l0_0 k0_0 : Nat} {q1_0 : Option Addr} {l1_0 k1_0 : Nat} (h : laws_eqIntS a_p0 b_p1 = some r) {w : World} (r0_0 : Rd tInt w q0_0 l0_0 k0_0 a_p0) (r1_0 : Rd tInt w q1_0 l1_0 k1_0 b_p1)   :
    Calls Try.prog 66 #[.slice q0_0 l0_0 k0_0, .slice q1_0 l1_0 k1_0] w (fun en w' => en = .returned (.bool r) ∧ Ext w w') := by
 obtain rfl := r0_0.1
 obtain rfl := r1_0.1
 unfold laws_eqIntS at h
 refine enter (vs := [_, _]) Try.func66 rfl rfl rfl rfl ?_
 refine WC.sr ?_
 refine ag ?_
 refine WL.nil (En.next (WC.seq (WC.sr ?_)))
 refine mv ?_
 refine sp (OpV.len rfl si_23 rfl) ?_
 refine mv ?_
 refine sp (OpV.len rfl si_23 rfl) ?_
 refine sp (OpV.neq rfl rfl) ?_
 refine WL.nil (En.next ?_)
 refine WC.cond rfl ?_ ?_
 ·
  intro hc_1
  replace h := ifO_t hc_1 h
  refine WC.sr ?_
  refine ag ?_
  refine WL.nil (En.next (WC.ret (En.then_ret ?_)))
  refine En.ret1 rfl (Res.tmp rfl) ?_
  obtain rfl := Option.some.inj h
  intro w' hs
  exact ⟨rfl, hs.below⟩
 ·
  intro hc_1
  replace h := ifO_f hc_1 h
  refine WC.skip (En.next (WC.seq (WC.sr ?_)))
  refine ag ?_
  refine WL.nil (En.next (WC.block ?_))
  obtain ⟨zy0, ezy0, h⟩ := bnd h
  refine WC.cut (X := (Unit) × (Unit)) (.exit 0) (fun x => zy0 = .inl x.1) (fun x => match x with | ((), ()) => []) (fun x => match x with | ((), ()) => []) ?_ ?_
  ·
   rintro ⟨⟨⟩, ⟨⟩⟩ hx
   replace hx : .inl () = zy0 := hx.symm
   subst hx
   replace h := fork_l h
   show En _ _ _ _ [] []
   refine En.block_exit (En.next (WC.sr ?_))
   refine ag ?_
   refine WL.nil (En.next (WC.ret ?_))
   refine En.ret1 rfl (Res.tmp rfl) ?_
   obtain rfl := Option.some.inj h
   intro w' hs
   exact ⟨rfl, hs.below⟩
  ·
   intro zK0_0
   refine WC.loopP (G := Unit) (fun s g => match s, g with | i_0, () => [(0, .slice q0_0 a_p0.length k0_0), (1, .slice q1_0 b_p1.length k1_0), (5, .int .i64 i_0)]) (fun s g => match s, g with | i_0, () => []) 0 () ezy0 (by exact sc (sc (sc sn))) (by exact (fun _ h => h)) ?_
   rintro zm0 i_0 ⟨⟩ zo0 zf0 zb0 ze0
   have zh0 : laws_eqIntS_L0 a_p0 b_p1 i_0 = some zo0 := zf0
   unfold laws_eqIntS_L0 at zh0
   show WC _ _ _ _ _ [(0, .slice q0_0 a_p0.length k0_0), (1, .slice q1_0 b_p1.length k1_0), (5, .int .i64 i_0)] []
   refine WC.seq (WC.sr ?_)
   refine mv ?_
   refine mv ?_
   refine sp (OpV.len rfl si_23 rfl) ?_
   refine sp (OpV.lss rfl rfl) ?_
   refine WL.nil (En.next ?_)
   refine WC.cond rfl ?_ ?_
   ·
    intro hc_2
    replace zh0 := ifO_t hc_2 zh0
    refine WC.skip (En.next (WC.seq (WC.block (WC.seq ?_))))
    obtain ⟨x6_2, e6_2, zh0⟩ := bnd zh0
    obtain ⟨g6_2, o6_2, _, ha6_2, rfl, hd6_2⟩ := Rd.atIdx r0_0 e6_2
    replace hd6_2 : ∀ (j : Nat) v, ([.int .i64 x6_2] : List Value)[j]? = some v → w.cell? ⟨g6_2, o6_2 + i_0.toNat * 1 + j, .none⟩ = some v := hd6_2
    obtain ⟨x6_6, e6_6, zh0⟩ := bnd zh0
    obtain ⟨g6_6, o6_6, _, ha6_6, rfl, hd6_6⟩ := Rd.atIdx r1_0 e6_6
    replace hd6_6 : ∀ (j : Nat) v, ([.int .i64 x6_6] : List Value)[j]? = some v → w.cell? ⟨g6_6, o6_6 + i_0.toNat * 1 + j, .none⟩ = some v := hd6_6
    refine WC.drawn [(0, ?r6q3v0), (1, ?r6q3v1), (5, ?r6q3v5), (25, ?r6q3v25)] (by kernel_rfl) (by kernel_rfl) ?dH6q3 ?dK6q3
    case dH6q3 =>
     intro W hW hk
     refine hW.mv ?_
     refine hW.mv ?_
     refine hW.sp (OpV.idxA rfl rfl se_23 ha6_2 ⟨(idx_some e6_2).1, (idx_some e6_2).2.1⟩) ?_
     refine hW.sp (OpV.load1 rfl pt_3 (fun w hs => hs.cell (hd6_2 0 _ rfl))) ?_
     refine hW.mv ?_
     refine hW.mv ?_
     refine hW.sp (OpV.idxA rfl rfl se_23 ha6_6 ⟨(idx_some e6_6).1, (idx_some e6_6).2.1⟩) ?_
     refine hW.sp (OpV.load1 rfl pt_3 (fun w hs => hs.cell (hd6_6 0 _ rfl))) ?_
     refine hW.sp (OpV.neq rfl rfl) ?_
     refine hk _ ?_
     refine Sub.cons ?_ (Sub.cons ?_ (Sub.cons ?_ (Sub.cons ?_ sn)))
     all_goals exact rfl
    refine En.next ?_
    refine WC.cond rfl ?_ ?_
    ·
     intro hc_3
     replace zh0 := ifO_t hc_3 zh0
     refine WC.sr ?_
     refine ag ?_
     refine WL.nil (En.next (WC.ret (En.block_ret (En.then_ret (En.then_ret (En.block_ret (En.then_ret ?_)))))))
     refine En.ret1 rfl (Res.tmp rfl) ?_
     have hx := exitP ze0 zh0
     subst hx
     replace h := fork_r h
     obtain rfl := Option.some.inj h
     intro w' hs
     exact ⟨rfl, hs.below⟩
    ·
     intro hc_3
     replace zh0 := ifO_f hc_3 zh0
     refine WC.skip (En.block_norm (En.next (WC.region ?_)))
     refine mv ?_
     refine sp (OpV.addR rfl rfl) ?_
     refine ag ?_
     refine WL.nil ?_
     exact En.backP zb0 zh0 () (sc (sc (sc sn))) (fun _ h => h)
   ·
    intro hc_2
    replace zh0 := ifO_f hc_2 zh0
    refine WC.exit (En.then_exit (En.then_exit ?_))
    have hx := exitP ze0 zh0
    exact En.wk _ _ sn (fun _ h => h) (zK0_0 ((), ()) hx.symm)

theorem w_laws_eqPlane {a_p0 : PlaneT} {b_p1 : PlaneT} {r : Bool} {q0_0 : Option Addr} {l0_0 k0_0 : Nat} {q1_0 : Option Addr} {l1_0 k1_0 : Nat} (h : laws_eqPlane a_p0 b_p1 = some r) {w : World} (r0_0 : Rd tInt w q0_0 l0_0 k0_0 a_p0.Words) (r1_0 : Rd tInt w q1_0 l1_0 k1_0 b_p1.Words)   :
    Calls Try.prog 65 #[.agg #[.bool a_p0.On, .int .i64 a_p0.X, .int .i64 a_p0.Y, .int .i64 a_p0.W, .int .i64 a_p0.H, .int .i64 a_p0.Layout, .slice q0_0 l0_0 k0_0, .int .i64 a_p0.Alpha, .int .i64 a_p0.Orient, .int .i64 a_p0.ToW, .int .i64 a_p0.ToH], .agg #[.bool b_p1.On, .int .i64 b_p1.X, .int .i64 b_p1.Y, .int .i64 b_p1.W, .int .i64 b_p1.H, .int .i64 b_p1.Layout, .slice q1_0 l1_0 k1_0, .int .i64 b_p1.Alpha, .int .i64 b_p1.Orient, .int .i64 b_p1.ToW, .int .i64 b_p1.ToH]] w (fun en w' => en = .returned (.bool r) ∧ Ext w w') := by
 obtain rfl := r0_0.1
 obtain rfl := r1_0.1
 unfold laws_eqPlane at h
 refine enter (vs := [_, _]) Try.func65 rfl rfl rfl rfl ?_
 refine WC.sr ?_
 refine WL.heavy rfl rfl rfl (OpH.box rfl rfl ?_)
 intro b0_0
 refine WL.heavy rfl rfl rfl (OpH.box rfl rfl ?_)
 intro b0_1
 refine ag ?_
 refine WL.nil (En.next (WC.seq (WC.sr ?_)))
 refine sp (OpV.fieldAddr rfl fo_56_0) ?_
 refine sp (OpV.loadBox rfl pt_4 mq1 rfl) ?_
 refine sp (OpV.fieldAddr rfl fo_56_0) ?_
 refine sp (OpV.loadBox rfl pt_4 mq0 rfl) ?_
 refine sp (OpV.bneq rfl rfl ub_4) ?_
 refine WL.nil (En.next ?_)
 refine WC.cond rfl ?_ ?_
 ·
  intro hc_1
  replace h := ifO_t hc_1 h
  refine WC.sr ?_
  refine ag ?_
  refine WL.nil (En.next (WC.ret (En.then_ret ?_)))
  refine En.ret1 rfl (Res.tmp rfl) ?_
  obtain rfl := Option.some.inj h
  intro w' hs
  exact ⟨rfl, hs.below⟩
 ·
  intro hc_1
  replace h := ifO_f hc_1 h
  refine WC.skip (En.next (WC.seq (WC.sr ?_)))
  refine sp (OpV.fieldAddr rfl fo_56_1) ?_
  refine sp (OpV.loadBox rfl pt_3 mq1 rfl) ?_
  refine sp (OpV.fieldAddr rfl fo_56_1) ?_
  refine sp (OpV.loadBox rfl pt_3 mq0 rfl) ?_
  refine sp (OpV.neq rfl rfl) ?_
  refine WL.nil (En.next ?_)
  refine WC.cond rfl ?_ ?_
  ·
   intro hc_2
   replace h := ifO_t hc_2 h
   refine WC.sr ?_
   refine ag ?_
   refine WL.nil (En.next (WC.ret (En.then_ret ?_)))
   refine En.ret1 rfl (Res.tmp rfl) ?_
   obtain rfl := Option.some.inj h
   intro w' hs
   exact ⟨rfl, hs.below⟩
  ·
   intro hc_2
   replace h := ifO_f hc_2 h
   refine WC.skip (En.next (WC.seq (WC.sr ?_)))
   refine sp (OpV.fieldAddr rfl fo_56_2) ?_
   refine sp (OpV.loadBox rfl pt_3 mq1 rfl) ?_
   refine sp (OpV.fieldAddr rfl fo_56_2) ?_
   refine sp (OpV.loadBox rfl pt_3 mq0 rfl) ?_
   refine sp (OpV.neq rfl rfl) ?_
   refine WL.nil (En.next ?_)
   refine WC.cond rfl ?_ ?_
   ·
    intro hc_3
    replace h := ifO_t hc_3 h
    refine WC.sr ?_
    refine ag ?_
    refine WL.nil (En.next (WC.ret (En.then_ret ?_)))
    refine En.ret1 rfl (Res.tmp rfl) ?_
    obtain rfl := Option.some.inj h
    intro w' hs
    exact ⟨rfl, hs.below⟩
   ·
    intro hc_3
    replace h := ifO_f hc_3 h
    refine WC.skip (En.next (WC.seq (WC.sr ?_)))
    refine sp (OpV.fieldAddr rfl fo_56_3) ?_
    refine sp (OpV.loadBox rfl pt_3 mq1 rfl) ?_
    refine sp (OpV.fieldAddr rfl fo_56_3) ?_
    refine sp (OpV.loadBox rfl pt_3 mq0 rfl) ?_
    refine sp (OpV.neq rfl rfl) ?_
    refine WL.nil (En.next ?_)
    refine WC.cond rfl ?_ ?_
    ·
     intro hc_4
     replace h := ifO_t hc_4 h
     refine WC.sr ?_
     refine ag ?_
     refine WL.nil (En.next (WC.ret (En.then_ret ?_)))
     refine En.ret1 rfl (Res.tmp rfl) ?_
     obtain rfl := Option.some.inj h
     intro w' hs
     exact ⟨rfl, hs.below⟩
    ·
     intro hc_4
     replace h := ifO_f hc_4 h
     refine WC.skip (En.next (WC.seq (WC.sr ?_)))
     refine sp (OpV.fieldAddr rfl fo_56_4) ?_
     refine sp (OpV.loadBox rfl pt_3 mq1 rfl) ?_
     refine sp (OpV.fieldAddr rfl fo_56_4) ?_
     refine sp (OpV.loadBox rfl pt_3 mq0 rfl) ?_
     refine sp (OpV.neq rfl rfl) ?_
     refine WL.nil (En.next ?_)
     refine WC.cond rfl ?_ ?_
     ·
      intro hc_5
      replace h := ifO_t hc_5 h
      refine WC.sr ?_
      refine ag ?_
      refine WL.nil (En.next (WC.ret (En.then_ret ?_)))
      refine En.ret1 rfl (Res.tmp rfl) ?_
      obtain rfl := Option.some.inj h
      intro w' hs
      exact ⟨rfl, hs.below⟩
     ·
      intro hc_5
      replace h := ifO_f hc_5 h
      refine WC.skip (En.next (WC.seq (WC.sr ?_)))
      refine sp (OpV.fieldAddr rfl fo_56_5) ?_
      refine sp (OpV.loadBox rfl pt_3 mq1 rfl) ?_
      refine sp (OpV.fieldAddr rfl fo_56_5) ?_
      refine sp (OpV.loadBox rfl pt_3 mq0 rfl) ?_
      refine sp (OpV.neq rfl rfl) ?_
      refine WL.nil (En.next ?_)
      refine WC.cond rfl ?_ ?_
      ·
       intro hc_6
       replace h := ifO_t hc_6 h
       refine WC.sr ?_
       refine ag ?_
       refine WL.nil (En.next (WC.ret (En.then_ret ?_)))
       refine En.ret1 rfl (Res.tmp rfl) ?_
       obtain rfl := Option.some.inj h
       intro w' hs
       exact ⟨rfl, hs.below⟩
      ·
       intro hc_6
       replace h := ifO_f hc_6 h
       refine WC.skip (En.next (WC.seq (WC.seq ?_)))
       obtain ⟨x13_4, e13_4, h⟩ := bnd h
       refine WC.region ?_
       refine sp (OpV.fieldAddr rfl fo_56_6) ?_
       refine sp (OpV.loadBox rfl pt_23 mq1 rfl) ?_
       refine sp (OpV.fieldAddr rfl fo_56_6) ?_
       refine sp (OpV.loadBox rfl pt_23 mq0 rfl) ?_
       refine sp (OpV.call (ec rfl (ec rfl e0)) ca_66 (fun w hs => w_laws_eqIntS e13_4 (r0_0.ext hs.below) (r1_0.ext hs.below))) ?_
       refine sp (OpV.not rfl) ?_
       refine WL.nil (En.next ?_)
       refine WC.cond rfl ?_ ?_
       ·
        intro hc_7
        replace h := ifO_t hc_7 h
        refine WC.sr ?_
        refine ag ?_
        refine WL.nil (En.next (WC.ret (En.then_ret ?_)))
        refine En.ret1 rfl (Res.tmp rfl) ?_
        obtain rfl := Option.some.inj h
        intro w' hs
        exact ⟨rfl, hs.below⟩
       ·
        intro hc_7
        replace h := ifO_f hc_7 h
        refine WC.skip (En.next (WC.seq (WC.sr ?_)))
        refine sp (OpV.fieldAddr rfl fo_56_7) ?_
        refine sp (OpV.loadBox rfl pt_3 mq1 rfl) ?_
        refine sp (OpV.fieldAddr rfl fo_56_7) ?_
        refine sp (OpV.loadBox rfl pt_3 mq0 rfl) ?_
        refine sp (OpV.neq rfl rfl) ?_
        refine WL.nil (En.next ?_)
        refine WC.cond rfl ?_ ?_
        ·
         intro hc_8
         replace h := ifO_t hc_8 h
         refine WC.sr ?_
         refine ag ?_
         refine WL.nil (En.next (WC.ret (En.then_ret ?_)))
         refine En.ret1 rfl (Res.tmp rfl) ?_
         obtain rfl := Option.some.inj h
         intro w' hs
         exact ⟨rfl, hs.below⟩
        ·
         intro hc_8
         replace h := ifO_f hc_8 h
         refine WC.skip (En.next (WC.seq (WC.sr ?_)))
         refine sp (OpV.fieldAddr rfl fo_56_8) ?_
         refine sp (OpV.loadBox rfl pt_3 mq1 rfl) ?_
         refine sp (OpV.fieldAddr rfl fo_56_8) ?_
         refine sp (OpV.loadBox rfl pt_3 mq0 rfl) ?_
         refine sp (OpV.neq rfl rfl) ?_
         refine WL.nil (En.next ?_)
         refine WC.cond rfl ?_ ?_
         ·
          intro hc_9
          replace h := ifO_t hc_9 h
          refine WC.sr ?_
          refine ag ?_
          refine WL.nil (En.next (WC.ret (En.then_ret ?_)))
          refine En.ret1 rfl (Res.tmp rfl) ?_
          obtain rfl := Option.some.inj h
          intro w' hs
          exact ⟨rfl, hs.below⟩
         ·
          intro hc_9
          replace h := ifO_f hc_9 h
          refine WC.skip (En.next (WC.seq (WC.sr ?_)))
          refine sp (OpV.fieldAddr rfl fo_56_9) ?_
          refine sp (OpV.loadBox rfl pt_3 mq1 rfl) ?_
          refine sp (OpV.fieldAddr rfl fo_56_9) ?_
          refine sp (OpV.loadBox rfl pt_3 mq0 rfl) ?_
          refine sp (OpV.neq rfl rfl) ?_
          refine WL.nil (En.next ?_)
          refine WC.cond rfl ?_ ?_
          ·
           intro hc_10
           replace h := ifO_t hc_10 h
           refine WC.sr ?_
           refine ag ?_
           refine WL.nil (En.next (WC.ret (En.then_ret ?_)))
           refine En.ret1 rfl (Res.tmp rfl) ?_
           obtain rfl := Option.some.inj h
           intro w' hs
           exact ⟨rfl, hs.below⟩
          ·
           intro hc_10
           replace h := ifO_f hc_10 h
           refine WC.skip (En.next (WC.seq (WC.sr ?_)))
           refine sp (OpV.fieldAddr rfl fo_56_10) ?_
           refine sp (OpV.loadBox rfl pt_3 mq1 rfl) ?_
           refine sp (OpV.fieldAddr rfl fo_56_10) ?_
           refine sp (OpV.loadBox rfl pt_3 mq0 rfl) ?_
           refine sp (OpV.neq rfl rfl) ?_
           refine WL.nil (En.next ?_)
           refine WC.cond rfl ?_ ?_
           ·
            intro hc_11
            replace h := ifO_t hc_11 h
            refine WC.sr ?_
            refine ag ?_
            refine WL.nil (En.next (WC.ret (En.then_ret ?_)))
            refine En.ret1 rfl (Res.tmp rfl) ?_
            obtain rfl := Option.some.inj h
            intro w' hs
            exact ⟨rfl, hs.below⟩
           ·
            intro hc_11
            replace h := ifO_f hc_11 h
            refine WC.skip (En.next (WC.sr ?_))
            refine ag ?_
            refine WL.nil (En.next (WC.ret ?_))
            refine En.ret1 rfl (Res.tmp rfl) ?_
            obtain rfl := Option.some.inj h
            intro w' hs
            exact ⟨rfl, hs.below⟩

theorem w_laws_eqColorMap {a_p0 : ColorMapT} {b_p1 : ColorMapT} {r : Bool} {q0_0 : Option Addr} {l0_0 k0_0 : Nat} {q0_1 : Option Addr} {l0_1 k0_1 : Nat} {q1_0 : Option Addr} {l1_0 k1_0 : Nat} {q1_1 : Option Addr} {l1_1 k1_1 : Nat} (h : laws_eqColorMap a_p0 b_p1 = some r) {w : World} (r0_0 : Rd tInt w q0_0 l0_0 k0_0 a_p0.Matrix) (r0_1 : Rd tInt w q0_1 l0_1 k0_1 a_p0.Curve) (r1_0 : Rd tInt w q1_0 l1_0 k1_0 b_p1.Matrix) (r1_1 : Rd tInt w q1_1 l1_1 k1_1 b_p1.Curve)   :
    Calls Try.prog 20 #[.agg #[.slice q0_0 l0_0 k0_0, .slice q0_1 l0_1 k0_1], .agg #[.slice q1_0 l1_0 k1_0, .slice q1_1 l1_1 k1_1]] w (fun en w' => en = .returned (.bool r) ∧ Ext w w') := by
 obtain rfl := r0_0.1
 obtain rfl := r0_1.1
 obtain rfl := r1_0.1
 obtain rfl := r1_1.1
 unfold laws_eqColorMap at h
 refine enter (vs := [_, _]) Try.func20 rfl rfl rfl rfl ?_
 refine WC.sr ?_
 refine WL.heavy rfl rfl rfl (OpH.box rfl rfl ?_)
 intro b0_0
 refine WL.heavy rfl rfl rfl (OpH.box rfl rfl ?_)
 intro b0_1
 refine ag ?_
 refine WL.nil (En.next (WC.seq (WC.seq ?_)))
 obtain ⟨x1_4, e1_4, h⟩ := bnd h
 refine WC.region ?_
 refine sp (OpV.fieldAddr rfl fo_34_0) ?_
 refine sp (OpV.loadBox rfl pt_23 mq1 rfl) ?_
 refine sp (OpV.fieldAddr rfl fo_34_0) ?_
 refine sp (OpV.loadBox rfl pt_23 mq0 rfl) ?_
 refine sp (OpV.call (ec rfl (ec rfl e0)) ca_66 (fun w hs => w_laws_eqIntS e1_4 (r0_0.ext hs.below) (r1_0.ext hs.below))) ?_
 refine sp (OpV.not rfl) ?_
 refine WL.nil (En.next ?_)
 refine WC.cond rfl ?_ ?_
 ·
  intro hc_1
  replace h := ifO_t hc_1 h
  refine WC.sr ?_
  refine ag ?_
  refine WL.nil (En.next (WC.ret (En.then_ret ?_)))
  refine En.ret1 rfl (Res.tmp rfl) ?_
  obtain rfl := Option.some.inj h
  intro w' hs
  exact ⟨rfl, hs.below⟩
 ·
  intro hc_1
  replace h := ifO_f hc_1 h
  refine WC.skip (En.next (WC.seq (WC.seq ?_)))
  obtain ⟨x3_4, e3_4, h⟩ := bnd h
  refine WC.region ?_
  refine sp (OpV.fieldAddr rfl fo_34_1) ?_
  refine sp (OpV.loadBox rfl pt_23 mq1 rfl) ?_
  refine sp (OpV.fieldAddr rfl fo_34_1) ?_
  refine sp (OpV.loadBox rfl pt_23 mq0 rfl) ?_
  refine sp (OpV.call (ec rfl (ec rfl e0)) ca_66 (fun w hs => w_laws_eqIntS e3_4 (r0_1.ext hs.below) (r1_1.ext hs.below))) ?_
  refine sp (OpV.not rfl) ?_
  refine WL.nil (En.next ?_)
  refine WC.cond rfl ?_ ?_
  ·
   intro hc_2
   replace h := ifO_t hc_2 h
   refine WC.sr ?_
   refine ag ?_
   refine WL.nil (En.next (WC.ret (En.then_ret ?_)))
   refine En.ret1 rfl (Res.tmp rfl) ?_
   obtain rfl := Option.some.inj h
   intro w' hs
   exact ⟨rfl, hs.below⟩
  ·
   intro hc_2
   replace h := ifO_f hc_2 h
   refine WC.skip (En.next (WC.sr ?_))
   refine ag ?_
   refine WL.nil (En.next (WC.ret ?_))
   refine En.ret1 rfl (Res.tmp rfl) ?_
   obtain rfl := Option.some.inj h
   intro w' hs
   exact ⟨rfl, hs.below⟩

theorem w_laws_eqChange {a_p0 : ChangeT} {b_p1 : ChangeT} {r : Bool} {q0_0 : Option Addr} {l0_0 k0_0 : Nat} {q0_1 : Option Addr} {l0_1 k0_1 : Nat} {q0_2 : Option Addr} {l0_2 k0_2 : Nat} {q1_0 : Option Addr} {l1_0 k1_0 : Nat} {q1_1 : Option Addr} {l1_1 k1_1 : Nat} {q1_2 : Option Addr} {l1_2 k1_2 : Nat} (h : laws_eqChange a_p0 b_p1 = some r) {w : World} (r0_0 : Rd tInt w q0_0 l0_0 k0_0 a_p0.Value.Words) (r0_1 : Rd tInt w q0_1 l0_1 k0_1 a_p0.Color.Matrix) (r0_2 : Rd tInt w q0_2 l0_2 k0_2 a_p0.Color.Curve) (r1_0 : Rd tInt w q1_0 l1_0 k1_0 b_p1.Value.Words) (r1_1 : Rd tInt w q1_1 l1_1 k1_1 b_p1.Color.Matrix) (r1_2 : Rd tInt w q1_2 l1_2 k1_2 b_p1.Color.Curve)   :
    Calls Try.prog 64 #[.agg #[.int .i64 a_p0.Plane, .bool a_p0.Value.On, .int .i64 a_p0.Value.X, .int .i64 a_p0.Value.Y, .int .i64 a_p0.Value.W, .int .i64 a_p0.Value.H, .int .i64 a_p0.Value.Layout, .slice q0_0 l0_0 k0_0, .int .i64 a_p0.Value.Alpha, .int .i64 a_p0.Value.Orient, .int .i64 a_p0.Value.ToW, .int .i64 a_p0.Value.ToH, .slice q0_1 l0_1 k0_1, .slice q0_2 l0_2 k0_2], .agg #[.int .i64 b_p1.Plane, .bool b_p1.Value.On, .int .i64 b_p1.Value.X, .int .i64 b_p1.Value.Y, .int .i64 b_p1.Value.W, .int .i64 b_p1.Value.H, .int .i64 b_p1.Value.Layout, .slice q1_0 l1_0 k1_0, .int .i64 b_p1.Value.Alpha, .int .i64 b_p1.Value.Orient, .int .i64 b_p1.Value.ToW, .int .i64 b_p1.Value.ToH, .slice q1_1 l1_1 k1_1, .slice q1_2 l1_2 k1_2]] w (fun en w' => en = .returned (.bool r) ∧ Ext w w') := by
 obtain rfl := r0_0.1
 obtain rfl := r0_1.1
 obtain rfl := r0_2.1
 obtain rfl := r1_0.1
 obtain rfl := r1_1.1
 obtain rfl := r1_2.1
 unfold laws_eqChange at h
 refine enter (vs := [_, _]) Try.func64 rfl rfl rfl rfl ?_
 refine WC.sr ?_
 refine WL.heavy rfl rfl rfl (OpH.box rfl rfl ?_)
 intro b0_0
 refine WL.heavy rfl rfl rfl (OpH.box rfl rfl ?_)
 intro b0_1
 refine ag ?_
 refine WL.nil (En.next (WC.seq (WC.sr ?_)))
 refine sp (OpV.fieldAddr rfl fo_58_0) ?_
 refine sp (OpV.loadBox rfl pt_3 mq1 rfl) ?_
 refine sp (OpV.fieldAddr rfl fo_58_0) ?_
 refine sp (OpV.loadBox rfl pt_3 mq0 rfl) ?_
 refine sp (OpV.neq rfl rfl) ?_
 refine WL.nil (En.next ?_)
 refine WC.cond rfl ?_ ?_
 ·
  intro hc_1
  replace h := ifO_t hc_1 h
  refine WC.sr ?_
  refine ag ?_
  refine WL.nil (En.next (WC.ret (En.then_ret ?_)))
  refine En.ret1 rfl (Res.tmp rfl) ?_
  obtain rfl := Option.some.inj h
  intro w' hs
  exact ⟨rfl, hs.below⟩
 ·
  intro hc_1
  replace h := ifO_f hc_1 h
  refine WC.skip (En.next (WC.seq (WC.seq ?_)))
  obtain ⟨x3_4, e3_4, h⟩ := bnd h
  refine WC.region ?_
  refine sp (OpV.fieldAddr rfl fo_58_1) ?_
  refine sp (OpV.loadPart rfl mq1 ag_56 rfl rfl) ?_
  refine sp (OpV.fieldAddr rfl fo_58_1) ?_
  refine sp (OpV.loadPart rfl mq0 ag_56 rfl rfl) ?_
  refine sp (OpV.call (ec rfl (ec rfl e0)) ca_65 (fun w hs => w_laws_eqPlane e3_4 (r0_0.ext hs.below) (r1_0.ext hs.below))) ?_
  refine sp (OpV.not rfl) ?_
  refine WL.nil (En.next ?_)
  refine WC.cond rfl ?_ ?_
  ·
   intro hc_2
   replace h := ifO_t hc_2 h
   refine WC.sr ?_
   refine ag ?_
   refine WL.nil (En.next (WC.ret (En.then_ret ?_)))
   refine En.ret1 rfl (Res.tmp rfl) ?_
   obtain rfl := Option.some.inj h
   intro w' hs
   exact ⟨rfl, hs.below⟩
  ·
   intro hc_2
   replace h := ifO_f hc_2 h
   refine WC.skip (En.next (WC.seq (WC.seq ?_)))
   obtain ⟨x5_4, e5_4, h⟩ := bnd h
   refine WC.region ?_
   refine sp (OpV.fieldAddr rfl fo_58_2) ?_
   refine sp (OpV.loadPart rfl mq1 ag_34 rfl rfl) ?_
   refine sp (OpV.fieldAddr rfl fo_58_2) ?_
   refine sp (OpV.loadPart rfl mq0 ag_34 rfl rfl) ?_
   refine sp (OpV.call (ec rfl (ec rfl e0)) ca_20 (fun w hs => w_laws_eqColorMap e5_4 (r0_1.ext hs.below) (r0_2.ext hs.below) (r1_1.ext hs.below) (r1_2.ext hs.below))) ?_
   refine sp (OpV.not rfl) ?_
   refine WL.nil (En.next ?_)
   refine WC.cond rfl ?_ ?_
   ·
    intro hc_3
    replace h := ifO_t hc_3 h
    refine WC.sr ?_
    refine ag ?_
    refine WL.nil (En.next (WC.ret (En.then_ret ?_)))
    refine En.ret1 rfl (Res.tmp rfl) ?_
    obtain rfl := Option.some.inj h
    intro w' hs
    exact ⟨rfl, hs.below⟩
   ·
    intro hc_3
    replace h := ifO_f hc_3 h
    refine WC.skip (En.next (WC.sr ?_))
    refine ag ?_
    refine WL.nil (En.next (WC.ret ?_))
    refine En.ret1 rfl (Res.tmp rfl) ?_
    obtain rfl := Option.some.inj h
    intro w' hs
    exact ⟨rfl, hs.below⟩

theorem w_laws_eqChangeS {a_p0 : List ChangeT} {b_p1 : List ChangeT} {r : Bool} {q0_0 : Option Addr} {l0_0 k0_0 : Nat} {q1_0 : Option Addr} {l1_0 k1_0 : Nat} (h : laws_eqChangeS a_p0 b_p1 = some r) {w : World} (r0_0 : Rd tChange w q0_0 l0_0 k0_0 a_p0) (r1_0 : Rd tChange w q1_0 l1_0 k1_0 b_p1)   :
    Calls Try.prog 17 #[.slice q0_0 l0_0 k0_0, .slice q1_0 l1_0 k1_0] w (fun en w' => en = .returned (.bool r) ∧ Ext w w') := by
 obtain rfl := r0_0.1
 obtain rfl := r1_0.1
 unfold laws_eqChangeS at h
 refine enter (vs := [_, _]) Try.func17 rfl rfl rfl rfl ?_
 refine WC.sr ?_
 refine ag ?_
 refine WL.nil (En.next (WC.seq (WC.sr ?_)))
 refine mv ?_
 refine sp (OpV.len rfl si_31 rfl) ?_
 refine mv ?_
 refine sp (OpV.len rfl si_31 rfl) ?_
 refine sp (OpV.neq rfl rfl) ?_
 refine WL.nil (En.next ?_)
 refine WC.cond rfl ?_ ?_
 ·
  intro hc_1
  replace h := ifO_t hc_1 h
  refine WC.sr ?_
  refine ag ?_
  refine WL.nil (En.next (WC.ret (En.then_ret ?_)))
  refine En.ret1 rfl (Res.tmp rfl) ?_
  obtain rfl := Option.some.inj h
  intro w' hs
  exact ⟨rfl, hs.below⟩
 ·
  intro hc_1
  replace h := ifO_f hc_1 h
  refine WC.skip (En.next (WC.seq (WC.sr ?_)))
  refine ag ?_
  refine WL.nil (En.next (WC.block ?_))
  obtain ⟨zy0, ezy0, h⟩ := bnd h
  refine WC.cut (X := (Unit) × (Unit)) (.exit 0) (fun x => zy0 = .inl x.1) (fun x => match x with | ((), ()) => []) (fun x => match x with | ((), ()) => []) ?_ ?_
  ·
   rintro ⟨⟨⟩, ⟨⟩⟩ hx
   replace hx : .inl () = zy0 := hx.symm
   subst hx
   replace h := fork_l h
   show En _ _ _ _ [] []
   refine En.block_exit (En.next (WC.sr ?_))
   refine ag ?_
   refine WL.nil (En.next (WC.ret ?_))
   refine En.ret1 rfl (Res.tmp rfl) ?_
   obtain rfl := Option.some.inj h
   intro w' hs
   exact ⟨rfl, hs.below⟩
  ·
   intro zK0_0
   refine WC.loopP (G := Unit) (fun s g => match s, g with | i_0, () => [(0, .slice q0_0 a_p0.length k0_0), (1, .slice q1_0 b_p1.length k1_0), (5, .int .i64 i_0)]) (fun s g => match s, g with | i_0, () => []) 0 () ezy0 (by exact sc (sc (sc sn))) (by exact (fun _ h => h)) ?_
   rintro zm0 i_0 ⟨⟩ zo0 zf0 zb0 ze0
   have zh0 : laws_eqChangeS_L0 a_p0 b_p1 i_0 = some zo0 := zf0
   unfold laws_eqChangeS_L0 at zh0
   show WC _ _ _ _ _ [(0, .slice q0_0 a_p0.length k0_0), (1, .slice q1_0 b_p1.length k1_0), (5, .int .i64 i_0)] []
   refine WC.seq (WC.sr ?_)
   refine mv ?_
   refine mv ?_
   refine sp (OpV.len rfl si_31 rfl) ?_
   refine sp (OpV.lss rfl rfl) ?_
   refine WL.nil (En.next ?_)
   refine WC.cond rfl ?_ ?_
   ·
    intro hc_2
    replace zh0 := ifO_t hc_2 zh0
    refine WC.skip (En.next (WC.seq (WC.block (WC.seq ?_))))
    obtain ⟨x6_2, e6_2, zh0⟩ := bnd zh0
    obtain ⟨g6_2, o6_2, _, ha6_2, ⟨a6_2_1, c6_2_1, a6_2_2, c6_2_2, a6_2_3, c6_2_3, rfl, r6_2_1, r6_2_2, r6_2_3⟩, hd6_2⟩ := Rd.atIdx r0_0 e6_2
    replace hd6_2 : ∀ (j : Nat) v, ([.int .i64 x6_2.Plane, .bool x6_2.Value.On, .int .i64 x6_2.Value.X, .int .i64 x6_2.Value.Y, .int .i64 x6_2.Value.W, .int .i64 x6_2.Value.H, .int .i64 x6_2.Value.Layout, .slice a6_2_1 x6_2.Value.Words.length c6_2_1, .int .i64 x6_2.Value.Alpha, .int .i64 x6_2.Value.Orient, .int .i64 x6_2.Value.ToW, .int .i64 x6_2.Value.ToH, .slice a6_2_2 x6_2.Color.Matrix.length c6_2_2, .slice a6_2_3 x6_2.Color.Curve.length c6_2_3] : List Value)[j]? = some v → w.cell? ⟨g6_2, o6_2 + i_0.toNat * 14 + j, .none⟩ = some v := hd6_2
    obtain ⟨x6_6, e6_6, zh0⟩ := bnd zh0
    obtain ⟨g6_6, o6_6, _, ha6_6, ⟨a6_6_1, c6_6_1, a6_6_2, c6_6_2, a6_6_3, c6_6_3, rfl, r6_6_1, r6_6_2, r6_6_3⟩, hd6_6⟩ := Rd.atIdx r1_0 e6_6
    replace hd6_6 : ∀ (j : Nat) v, ([.int .i64 x6_6.Plane, .bool x6_6.Value.On, .int .i64 x6_6.Value.X, .int .i64 x6_6.Value.Y, .int .i64 x6_6.Value.W, .int .i64 x6_6.Value.H, .int .i64 x6_6.Value.Layout, .slice a6_6_1 x6_6.Value.Words.length c6_6_1, .int .i64 x6_6.Value.Alpha, .int .i64 x6_6.Value.Orient, .int .i64 x6_6.Value.ToW, .int .i64 x6_6.Value.ToH, .slice a6_6_2 x6_6.Color.Matrix.length c6_6_2, .slice a6_6_3 x6_6.Color.Curve.length c6_6_3] : List Value)[j]? = some v → w.cell? ⟨g6_6, o6_6 + i_0.toNat * 14 + j, .none⟩ = some v := hd6_6
    obtain ⟨x6_8, e6_8, zh0⟩ := bnd zh0
    refine WC.drawn [(0, ?r6q3v0), (1, ?r6q3v1), (5, ?r6q3v5), (26, ?r6q3v26)] (by kernel_rfl) (by kernel_rfl) ?dH6q3 ?dK6q3
    case dH6q3 =>
     intro W hW hk
     refine hW.mv ?_
     refine hW.mv ?_
     refine hW.sp (OpV.idxA rfl rfl se_31 ha6_2 ⟨(idx_some e6_2).1, (idx_some e6_2).2.1⟩) ?_
     refine hW.sp (OpV.loadN rfl ag_58 rfl (fun w hs => hs.cellsAt hd6_2)) ?_
     refine hW.mv ?_
     refine hW.mv ?_
     refine hW.sp (OpV.idxA rfl rfl se_31 ha6_6 ⟨(idx_some e6_6).1, (idx_some e6_6).2.1⟩) ?_
     refine hW.sp (OpV.loadN rfl ag_58 rfl (fun w hs => hs.cellsAt hd6_6)) ?_
     refine hW.sp (OpV.call (ec rfl (ec rfl e0)) ca_64 (fun w hs => w_laws_eqChange e6_8 (r6_2_1.ext hs.below) (r6_2_2.ext hs.below) (r6_2_3.ext hs.below) (r6_6_1.ext hs.below) (r6_6_2.ext hs.below) (r6_6_3.ext hs.below))) ?_
     refine hW.sp (OpV.not rfl) ?_
     refine hk _ ?_
     refine Sub.cons ?_ (Sub.cons ?_ (Sub.cons ?_ (Sub.cons ?_ sn)))
     all_goals exact rfl
    refine En.next ?_
    refine WC.cond rfl ?_ ?_
    ·
     intro hc_3
     replace zh0 := ifO_t hc_3 zh0
     refine WC.sr ?_
     refine ag ?_
     refine WL.nil (En.next (WC.ret (En.block_ret (En.then_ret (En.then_ret (En.block_ret (En.then_ret ?_)))))))
     refine En.ret1 rfl (Res.tmp rfl) ?_
     have hx := exitP ze0 zh0
     subst hx
     replace h := fork_r h
     obtain rfl := Option.some.inj h
     intro w' hs
     exact ⟨rfl, hs.below⟩
    ·
     intro hc_3
     replace zh0 := ifO_f hc_3 zh0
     refine WC.skip (En.block_norm (En.next (WC.region ?_)))
     refine mv ?_
     refine sp (OpV.addR rfl rfl) ?_
     refine ag ?_
     refine WL.nil ?_
     exact En.backP zb0 zh0 () (sc (sc (sc sn))) (fun _ h => h)
   ·
    intro hc_2
    replace zh0 := ifO_f hc_2 zh0
    refine WC.exit (En.then_exit (En.then_exit ?_))
    have hx := exitP ze0 zh0
    exact En.wk _ _ sn (fun _ h => h) (zK0_0 ((), ()) hx.symm)

theorem w_laws_eqPlaneS {a_p0 : List PlaneT} {b_p1 : List PlaneT} {r : Bool} {q0_0 : Option Addr} {l0_0 k0_0 : Nat} {q1_0 : Option Addr} {l1_0 k1_0 : Nat} (h : laws_eqPlaneS a_p0 b_p1 = some r) {w : World} (r0_0 : Rd tPlane w q0_0 l0_0 k0_0 a_p0) (r1_0 : Rd tPlane w q1_0 l1_0 k1_0 b_p1)   :
    Calls Try.prog 19 #[.slice q0_0 l0_0 k0_0, .slice q1_0 l1_0 k1_0] w (fun en w' => en = .returned (.bool r) ∧ Ext w w') := by
 obtain rfl := r0_0.1
 obtain rfl := r1_0.1
 unfold laws_eqPlaneS at h
 refine enter (vs := [_, _]) Try.func19 rfl rfl rfl rfl ?_
 refine WC.sr ?_
 refine ag ?_
 refine WL.nil (En.next (WC.seq (WC.sr ?_)))
 refine mv ?_
 refine sp (OpV.len rfl si_33 rfl) ?_
 refine mv ?_
 refine sp (OpV.len rfl si_33 rfl) ?_
 refine sp (OpV.neq rfl rfl) ?_
 refine WL.nil (En.next ?_)
 refine WC.cond rfl ?_ ?_
 ·
  intro hc_1
  replace h := ifO_t hc_1 h
  refine WC.sr ?_
  refine ag ?_
  refine WL.nil (En.next (WC.ret (En.then_ret ?_)))
  refine En.ret1 rfl (Res.tmp rfl) ?_
  obtain rfl := Option.some.inj h
  intro w' hs
  exact ⟨rfl, hs.below⟩
 ·
  intro hc_1
  replace h := ifO_f hc_1 h
  refine WC.skip (En.next (WC.seq (WC.sr ?_)))
  refine ag ?_
  refine WL.nil (En.next (WC.block ?_))
  obtain ⟨zy0, ezy0, h⟩ := bnd h
  refine WC.cut (X := (Unit) × (Unit)) (.exit 0) (fun x => zy0 = .inl x.1) (fun x => match x with | ((), ()) => []) (fun x => match x with | ((), ()) => []) ?_ ?_
  ·
   rintro ⟨⟨⟩, ⟨⟩⟩ hx
   replace hx : .inl () = zy0 := hx.symm
   subst hx
   replace h := fork_l h
   show En _ _ _ _ [] []
   refine En.block_exit (En.next (WC.sr ?_))
   refine ag ?_
   refine WL.nil (En.next (WC.ret ?_))
   refine En.ret1 rfl (Res.tmp rfl) ?_
   obtain rfl := Option.some.inj h
   intro w' hs
   exact ⟨rfl, hs.below⟩
  ·
   intro zK0_0
   refine WC.loopP (G := Unit) (fun s g => match s, g with | i_0, () => [(0, .slice q0_0 a_p0.length k0_0), (1, .slice q1_0 b_p1.length k1_0), (5, .int .i64 i_0)]) (fun s g => match s, g with | i_0, () => []) 0 () ezy0 (by exact sc (sc (sc sn))) (by exact (fun _ h => h)) ?_
   rintro zm0 i_0 ⟨⟩ zo0 zf0 zb0 ze0
   have zh0 : laws_eqPlaneS_L0 a_p0 b_p1 i_0 = some zo0 := zf0
   unfold laws_eqPlaneS_L0 at zh0
   show WC _ _ _ _ _ [(0, .slice q0_0 a_p0.length k0_0), (1, .slice q1_0 b_p1.length k1_0), (5, .int .i64 i_0)] []
   refine WC.seq (WC.sr ?_)
   refine mv ?_
   refine mv ?_
   refine sp (OpV.len rfl si_33 rfl) ?_
   refine sp (OpV.lss rfl rfl) ?_
   refine WL.nil (En.next ?_)
   refine WC.cond rfl ?_ ?_
   ·
    intro hc_2
    replace zh0 := ifO_t hc_2 zh0
    refine WC.skip (En.next (WC.seq (WC.block (WC.seq ?_))))
    obtain ⟨x6_2, e6_2, zh0⟩ := bnd zh0
    obtain ⟨g6_2, o6_2, _, ha6_2, ⟨a6_2_1, c6_2_1, rfl, r6_2_1⟩, hd6_2⟩ := Rd.atIdx r0_0 e6_2
    replace hd6_2 : ∀ (j : Nat) v, ([.bool x6_2.On, .int .i64 x6_2.X, .int .i64 x6_2.Y, .int .i64 x6_2.W, .int .i64 x6_2.H, .int .i64 x6_2.Layout, .slice a6_2_1 x6_2.Words.length c6_2_1, .int .i64 x6_2.Alpha, .int .i64 x6_2.Orient, .int .i64 x6_2.ToW, .int .i64 x6_2.ToH] : List Value)[j]? = some v → w.cell? ⟨g6_2, o6_2 + i_0.toNat * 11 + j, .none⟩ = some v := hd6_2
    obtain ⟨x6_6, e6_6, zh0⟩ := bnd zh0
    obtain ⟨g6_6, o6_6, _, ha6_6, ⟨a6_6_1, c6_6_1, rfl, r6_6_1⟩, hd6_6⟩ := Rd.atIdx r1_0 e6_6
    replace hd6_6 : ∀ (j : Nat) v, ([.bool x6_6.On, .int .i64 x6_6.X, .int .i64 x6_6.Y, .int .i64 x6_6.W, .int .i64 x6_6.H, .int .i64 x6_6.Layout, .slice a6_6_1 x6_6.Words.length c6_6_1, .int .i64 x6_6.Alpha, .int .i64 x6_6.Orient, .int .i64 x6_6.ToW, .int .i64 x6_6.ToH] : List Value)[j]? = some v → w.cell? ⟨g6_6, o6_6 + i_0.toNat * 11 + j, .none⟩ = some v := hd6_6
    obtain ⟨x6_8, e6_8, zh0⟩ := bnd zh0
    refine WC.drawn [(0, ?r6q3v0), (1, ?r6q3v1), (5, ?r6q3v5), (26, ?r6q3v26)] (by kernel_rfl) (by kernel_rfl) ?dH6q3 ?dK6q3
    case dH6q3 =>
     intro W hW hk
     refine hW.mv ?_
     refine hW.mv ?_
     refine hW.sp (OpV.idxA rfl rfl se_33 ha6_2 ⟨(idx_some e6_2).1, (idx_some e6_2).2.1⟩) ?_
     refine hW.sp (OpV.loadN rfl ag_56 rfl (fun w hs => hs.cellsAt hd6_2)) ?_
     refine hW.mv ?_
     refine hW.mv ?_
     refine hW.sp (OpV.idxA rfl rfl se_33 ha6_6 ⟨(idx_some e6_6).1, (idx_some e6_6).2.1⟩) ?_
     refine hW.sp (OpV.loadN rfl ag_56 rfl (fun w hs => hs.cellsAt hd6_6)) ?_
     refine hW.sp (OpV.call (ec rfl (ec rfl e0)) ca_65 (fun w hs => w_laws_eqPlane e6_8 (r6_2_1.ext hs.below) (r6_6_1.ext hs.below))) ?_
     refine hW.sp (OpV.not rfl) ?_
     refine hk _ ?_
     refine Sub.cons ?_ (Sub.cons ?_ (Sub.cons ?_ (Sub.cons ?_ sn)))
     all_goals exact rfl
    refine En.next ?_
    refine WC.cond rfl ?_ ?_
    ·
     intro hc_3
     replace zh0 := ifO_t hc_3 zh0
     refine WC.sr ?_
     refine ag ?_
     refine WL.nil (En.next (WC.ret (En.block_ret (En.then_ret (En.then_ret (En.block_ret (En.then_ret ?_)))))))
     refine En.ret1 rfl (Res.tmp rfl) ?_
     have hx := exitP ze0 zh0
     subst hx
     replace h := fork_r h
     obtain rfl := Option.some.inj h
     intro w' hs
     exact ⟨rfl, hs.below⟩
    ·
     intro hc_3
     replace zh0 := ifO_f hc_3 zh0
     refine WC.skip (En.block_norm (En.next (WC.region ?_)))
     refine mv ?_
     refine sp (OpV.addR rfl rfl) ?_
     refine ag ?_
     refine WL.nil ?_
     exact En.backP zb0 zh0 () (sc (sc (sc sn))) (fun _ h => h)
   ·
    intro hc_2
    replace zh0 := ifO_f hc_2 zh0
    refine WC.exit (En.then_exit (En.then_exit ?_))
    have hx := exitP ze0 zh0
    exact En.wk _ _ sn (fun _ h => h) (zK0_0 ((), ()) hx.symm)

theorem w_laws_eqCrtc {a_p0 : CrtcT} {b_p1 : CrtcT} {r : Bool} {q0_0 : Option Addr} {l0_0 k0_0 : Nat} {q0_1 : Option Addr} {l0_1 k0_1 : Nat} {q0_2 : Option Addr} {l0_2 k0_2 : Nat} {q1_0 : Option Addr} {l1_0 k1_0 : Nat} {q1_1 : Option Addr} {l1_1 k1_1 : Nat} {q1_2 : Option Addr} {l1_2 k1_2 : Nat} (h : laws_eqCrtc a_p0 b_p1 = some r) {w : World} (r0_0 : Rd tPlane w q0_0 l0_0 k0_0 a_p0.Planes) (r0_1 : Rd tInt w q0_1 l0_1 k0_1 a_p0.Color.Matrix) (r0_2 : Rd tInt w q0_2 l0_2 k0_2 a_p0.Color.Curve) (r1_0 : Rd tPlane w q1_0 l1_0 k1_0 b_p1.Planes) (r1_1 : Rd tInt w q1_1 l1_1 k1_1 b_p1.Color.Matrix) (r1_2 : Rd tInt w q1_2 l1_2 k1_2 b_p1.Color.Curve)   :
    Calls Try.prog 18 #[.agg #[.int .i64 a_p0.W, .int .i64 a_p0.H, .slice q0_0 l0_0 k0_0, .slice q0_1 l0_1 k0_1, .slice q0_2 l0_2 k0_2], .agg #[.int .i64 b_p1.W, .int .i64 b_p1.H, .slice q1_0 l1_0 k1_0, .slice q1_1 l1_1 k1_1, .slice q1_2 l1_2 k1_2]] w (fun en w' => en = .returned (.bool r) ∧ Ext w w') := by
 obtain rfl := r0_0.1
 obtain rfl := r0_1.1
 obtain rfl := r0_2.1
 obtain rfl := r1_0.1
 obtain rfl := r1_1.1
 obtain rfl := r1_2.1
 unfold laws_eqCrtc at h
 refine enter (vs := [_, _]) Try.func18 rfl rfl rfl rfl ?_
 refine WC.sr ?_
 refine WL.heavy rfl rfl rfl (OpH.box rfl rfl ?_)
 intro b0_0
 refine WL.heavy rfl rfl rfl (OpH.box rfl rfl ?_)
 intro b0_1
 refine ag ?_
 refine WL.nil (En.next (WC.seq (WC.sr ?_)))
 refine sp (OpV.fieldAddr rfl fo_36_0) ?_
 refine sp (OpV.loadBox rfl pt_3 mq1 rfl) ?_
 refine sp (OpV.fieldAddr rfl fo_36_0) ?_
 refine sp (OpV.loadBox rfl pt_3 mq0 rfl) ?_
 refine sp (OpV.neq rfl rfl) ?_
 refine WL.nil (En.next ?_)
 refine WC.cond rfl ?_ ?_
 ·
  intro hc_1
  replace h := ifO_t hc_1 h
  refine WC.sr ?_
  refine ag ?_
  refine WL.nil (En.next (WC.ret (En.then_ret ?_)))
  refine En.ret1 rfl (Res.tmp rfl) ?_
  obtain rfl := Option.some.inj h
  intro w' hs
  exact ⟨rfl, hs.below⟩
 ·
  intro hc_1
  replace h := ifO_f hc_1 h
  refine WC.skip (En.next (WC.seq (WC.sr ?_)))
  refine sp (OpV.fieldAddr rfl fo_36_1) ?_
  refine sp (OpV.loadBox rfl pt_3 mq1 rfl) ?_
  refine sp (OpV.fieldAddr rfl fo_36_1) ?_
  refine sp (OpV.loadBox rfl pt_3 mq0 rfl) ?_
  refine sp (OpV.neq rfl rfl) ?_
  refine WL.nil (En.next ?_)
  refine WC.cond rfl ?_ ?_
  ·
   intro hc_2
   replace h := ifO_t hc_2 h
   refine WC.sr ?_
   refine ag ?_
   refine WL.nil (En.next (WC.ret (En.then_ret ?_)))
   refine En.ret1 rfl (Res.tmp rfl) ?_
   obtain rfl := Option.some.inj h
   intro w' hs
   exact ⟨rfl, hs.below⟩
  ·
   intro hc_2
   replace h := ifO_f hc_2 h
   refine WC.skip (En.next (WC.seq (WC.seq ?_)))
   obtain ⟨x5_4, e5_4, h⟩ := bnd h
   refine WC.region ?_
   refine sp (OpV.fieldAddr rfl fo_36_2) ?_
   refine sp (OpV.loadBox rfl pt_33 mq1 rfl) ?_
   refine sp (OpV.fieldAddr rfl fo_36_2) ?_
   refine sp (OpV.loadBox rfl pt_33 mq0 rfl) ?_
   refine sp (OpV.call (ec rfl (ec rfl e0)) ca_19 (fun w hs => w_laws_eqPlaneS e5_4 (r0_0.ext hs.below) (r1_0.ext hs.below))) ?_
   refine sp (OpV.not rfl) ?_
   refine WL.nil (En.next ?_)
   refine WC.cond rfl ?_ ?_
   ·
    intro hc_3
    replace h := ifO_t hc_3 h
    refine WC.sr ?_
    refine ag ?_
    refine WL.nil (En.next (WC.ret (En.then_ret ?_)))
    refine En.ret1 rfl (Res.tmp rfl) ?_
    obtain rfl := Option.some.inj h
    intro w' hs
    exact ⟨rfl, hs.below⟩
   ·
    intro hc_3
    replace h := ifO_f hc_3 h
    refine WC.skip (En.next (WC.seq (WC.seq ?_)))
    obtain ⟨x7_4, e7_4, h⟩ := bnd h
    refine WC.region ?_
    refine sp (OpV.fieldAddr rfl fo_36_3) ?_
    refine sp (OpV.loadPart rfl mq1 ag_34 rfl rfl) ?_
    refine sp (OpV.fieldAddr rfl fo_36_3) ?_
    refine sp (OpV.loadPart rfl mq0 ag_34 rfl rfl) ?_
    refine sp (OpV.call (ec rfl (ec rfl e0)) ca_20 (fun w hs => w_laws_eqColorMap e7_4 (r0_1.ext hs.below) (r0_2.ext hs.below) (r1_1.ext hs.below) (r1_2.ext hs.below))) ?_
    refine sp (OpV.not rfl) ?_
    refine WL.nil (En.next ?_)
    refine WC.cond rfl ?_ ?_
    ·
     intro hc_4
     replace h := ifO_t hc_4 h
     refine WC.sr ?_
     refine ag ?_
     refine WL.nil (En.next (WC.ret (En.then_ret ?_)))
     refine En.ret1 rfl (Res.tmp rfl) ?_
     obtain rfl := Option.some.inj h
     intro w' hs
     exact ⟨rfl, hs.below⟩
    ·
     intro hc_4
     replace h := ifO_f hc_4 h
     refine WC.skip (En.next (WC.sr ?_))
     refine ag ?_
     refine WL.nil (En.next (WC.ret ?_))
     refine En.ret1 rfl (Res.tmp rfl) ?_
     obtain rfl := Option.some.inj h
     intro w' hs
     exact ⟨rfl, hs.below⟩

theorem w_laws_markIntS {a_p0 : List Int} {k_p1 : Int} {r : Int × (List Int)} {q0_0 : Option Addr} {l0_0 k0_0 : Nat} {f0_0 : List Nat} (h : laws_markIntS a_p0 k_p1 = some r) {w0 w : World} {C : List Chunk} (hs0 : St w0 (Chunk.own tInt f0_0 q0_0 l0_0 k0_0 a_p0 :: C) w)  :
    Calls Try.prog 67 #[.slice q0_0 l0_0 k0_0, .int .i64 k_p1] w (fun en w' => ∃ rv G, en = .returned rv ∧ (∃ (g0_0 : List Nat), rv = .int .i64 r.1 ∧ G = Chunk.own tInt g0_0 q0_0 l0_0 k0_0 r.2 :: C) ∧ St w0 G w') := by
 unfold laws_markIntS at h
 refine enterF hs0 (vs := [_, _]) Try.func67 rfl rfl rfl rfl ?_
 refine WC.sr ?_
 refine ag ?_
 refine WL.nil (En.next (WC.seq (WC.sr ?_)))
 refine ag ?_
 refine WL.nil (En.next (WC.block ?_))
 obtain ⟨zy0, ezy0, h⟩ := bnd h
 refine WC.cut (X := (Int × (List Int)) × ((List Nat))) (.exit 0) (fun x => zy0 = x.1) (fun x => match x with | ((k_0e, p_0e), fp_0e) => [(1, .int .i64 k_0e)]) (fun x => match x with | ((k_0e, p_0e), fp_0e) => (Chunk.own tInt fp_0e q0_0 l0_0 k0_0 p_0e :: C)) ?_ ?_
 ·
  rintro ⟨⟨k_0e, p_0e⟩, fp_0e⟩ hx
  replace hx : (k_0e, p_0e) = zy0 := hx.symm
  subst hx
  show En _ _ _ _ [(1, .int .i64 k_0e)] (Chunk.own tInt fp_0e q0_0 l0_0 k0_0 p_0e :: C)
  refine En.block_exit (En.next (WC.sr ?_))
  refine mv ?_
  refine ag ?_
  refine WL.nil (En.next (WC.ret ?_))
  refine En.ret1 rfl (Res.tmp rfl) ?_
  obtain rfl := Option.some.inj h
  intro w' hs
  have hs := hs
  exact ⟨_, _, rfl, ⟨fp_0e, rfl, rfl⟩, hs⟩
 ·
  intro zK0_0
  refine WC.loopP (G := (List Nat)) (fun s g => match s, g with | (a_0, k_0, i_0), fa_0 => [(0, .slice q0_0 l0_0 k0_0), (1, .int .i64 k_0), (5, .int .i64 i_0)]) (fun s g => match s, g with | (a_0, k_0, i_0), fa_0 => (Chunk.own tInt fa_0 q0_0 l0_0 k0_0 a_0 :: C)) (a_p0, k_p1, 0) f0_0 ezy0 (by exact sc (sc (sc sn))) (by exact (fun _ h => h)) ?_
  rintro zm0 ⟨a_0, k_0, i_0⟩ fa_0 zo0 zf0 zb0 ze0
  have zh0 : laws_markIntS_L0 a_0 k_0 i_0 = some zo0 := zf0
  unfold laws_markIntS_L0 at zh0
  show WC _ _ _ _ _ [(0, .slice q0_0 l0_0 k0_0), (1, .int .i64 k_0), (5, .int .i64 i_0)] (Chunk.own tInt fa_0 q0_0 l0_0 k0_0 a_0 :: C)
  refine WC.seq (WC.sr ?_)
  refine mv ?_
  refine mv ?_
  refine sp (OpV.inhF fun hin => OpV.lenO (xs := a_0) rfl si_23 rfl (ownLen hin mq0)) ?_
  refine sp (OpV.lss rfl rfl) ?_
  refine WL.nil (En.next ?_)
  refine WC.cond rfl ?_ ?_
  ·
   intro hc_1
   replace zh0 := ifO_t hc_1 zh0
   refine WC.skip (En.next (WC.seq (WC.block (WC.seq ?_))))
   refine WC.inh fun hin4 => ?_
   have hn4_3 := ownLen hin4 mq0
   obtain ⟨x4_4, e4_4, zh0⟩ := bnd zh0
   obtain ⟨g4_3, o4_3, ha4_3⟩ := ownAddrU hin4 mq0 e4_4
   refine WC.region ?_
   refine mv ?_
   refine mv ?_
   refine mv ?_
   refine sp (OpV.idxA rfl rfl se_23 ha4_3 ⟨(upd_some e4_4).1.1, by rw [hn4_3]; exact (upd_some e4_4).1.2⟩) ?_
   refine WL.wkF (fun _ h => St.elFlat tInt_flat k_0 h) ?_
   refine WL.heavy0 rfl rfl (OpH.setEl (A := tInt) ha4_3 rfl rfl rfl ts_3 e4_4 ?_)
   intro f4_4
   refine WL.nil (En.next (WC.region ?_))
   refine mv ?_
   refine sp (OpV.addR rfl rfl) ?_
   refine ag ?_
   refine WL.nil (En.block_norm (En.next (WC.region ?_)))
   refine mv ?_
   refine sp (OpV.addR rfl rfl) ?_
   refine ag ?_
   refine WL.nil ?_
   exact En.backP zb0 zh0 f4_4 (sc (sc (sc sn))) (fun _ h => h)
  ·
   intro hc_1
   replace zh0 := ifO_f hc_1 zh0
   refine WC.exit (En.then_exit (En.then_exit ?_))
   have hx := exitP ze0 zh0
   exact En.wk _ _ (sc sn) (fun _ h => h) (zK0_0 ((k_0, a_0), fa_0) hx.symm)

theorem w_laws_markPlaneS {a_p0 : List PlaneT} {a_p1 : Int} {r : Int × (List PlaneT)} {q0_0 : Option Addr} {l0_0 k0_0 : Nat} {f0_0 : List Nat} (h : laws_markPlaneS a_p0 a_p1 = some r) {w0 w : World} {C : List Chunk} (hs0 : St w0 (Chunk.own tPlane f0_0 q0_0 l0_0 k0_0 a_p0 :: C) w)  :
    Calls Try.prog 22 #[.slice q0_0 l0_0 k0_0, .int .i64 a_p1] w (fun en w' => ∃ rv G, en = .returned rv ∧ (∃ (g0_0 : List Nat), rv = .int .i64 r.1 ∧ G = Chunk.own tPlane g0_0 q0_0 l0_0 k0_0 r.2 :: C) ∧ St w0 G w') := by
 unfold laws_markPlaneS at h
 refine enterF hs0 (vs := [_, _]) Try.func22 rfl rfl rfl rfl ?_
 refine WC.sr ?_
 refine ag ?_
 refine WL.nil (En.next (WC.seq (WC.sr ?_)))
 refine ag ?_
 refine WL.nil (En.next (WC.block ?_))
 obtain ⟨zy0, ezy0, h⟩ := bnd h
 refine WC.cut (X := (Int × (List PlaneT)) × ((List Nat))) (.exit 0) (fun x => zy0 = x.1) (fun x => match x with | ((v_0e, p_0e), fp_0e) => [(1, .int .i64 v_0e)]) (fun x => match x with | ((v_0e, p_0e), fp_0e) => (Chunk.own tPlane fp_0e q0_0 l0_0 k0_0 p_0e :: C)) ?_ ?_
 ·
  rintro ⟨⟨v_0e, p_0e⟩, fp_0e⟩ hx
  replace hx : (v_0e, p_0e) = zy0 := hx.symm
  subst hx
  show En _ _ _ _ [(1, .int .i64 v_0e)] (Chunk.own tPlane fp_0e q0_0 l0_0 k0_0 p_0e :: C)
  refine En.block_exit (En.next (WC.sr ?_))
  refine mv ?_
  refine ag ?_
  refine WL.nil (En.next (WC.ret ?_))
  refine En.ret1 rfl (Res.tmp rfl) ?_
  obtain rfl := Option.some.inj h
  intro w' hs
  have hs := hs
  exact ⟨_, _, rfl, ⟨fp_0e, rfl, rfl⟩, hs⟩
 ·
  intro zK0_0
  refine WC.loopP (G := (List Nat)) (fun s g => match s, g with | (v_0, v1_0, v2_0), fv_0 => [(0, .slice q0_0 l0_0 k0_0), (1, .int .i64 v1_0), (5, .int .i64 v2_0)]) (fun s g => match s, g with | (v_0, v1_0, v2_0), fv_0 => (Chunk.own tPlane fv_0 q0_0 l0_0 k0_0 v_0 :: C)) (a_p0, a_p1, 0) f0_0 ezy0 (by exact sc (sc (sc sn))) (by exact (fun _ h => h)) ?_
  rintro zm0 ⟨v_0, v1_0, v2_0⟩ fv_0 zo0 zf0 zb0 ze0
  have zh0 : laws_markPlaneS_L0 v_0 v1_0 v2_0 = some zo0 := zf0
  unfold laws_markPlaneS_L0 at zh0
  show WC _ _ _ _ _ [(0, .slice q0_0 l0_0 k0_0), (1, .int .i64 v1_0), (5, .int .i64 v2_0)] (Chunk.own tPlane fv_0 q0_0 l0_0 k0_0 v_0 :: C)
  refine WC.seq (WC.sr ?_)
  refine mv ?_
  refine mv ?_
  refine sp (OpV.inhF fun hin => OpV.lenO (xs := v_0) rfl si_33 rfl (ownLen hin mq0)) ?_
  refine sp (OpV.lss rfl rfl) ?_
  refine WL.nil (En.next ?_)
  refine WC.cond rfl ?_ ?_
  ·
   intro hc_1
   replace zh0 := ifO_t hc_1 zh0
   refine WC.skip (En.next (WC.seq (WC.block (WC.seq ?_))))
   refine WC.inh fun hin4 => ?_
   obtain ⟨x4_5, e4_5, zh0⟩ := bnd zh0
   obtain ⟨g4_5, o4_5, ha4_5⟩ := ownAddr hin4 mq0 e4_5
   have hn4_5 := ownLen hin4 mq0
   obtain ⟨x4_7, e4_7, zh0⟩ := bnd zh0
   refine WC.region ?_
   refine mv ?_
   refine mv ?_
   refine mv ?_
   refine sp (OpV.remR rfl rfl rfl) ?_
   refine sp (OpV.eql rfl rfl) ?_
   refine sp (OpV.idxA rfl rfl se_33 ha4_5 ⟨(idx_some e4_5).1, by rw [hn4_5]; exact (idx_some e4_5).2.1⟩) ?_
   refine sp (OpV.fieldAddr rfl fo_56_0) ?_
   refine WL.heavy0 rfl rfl (OpH.setFld (F := []) (A := tPlane) (off := 0) (i := v2_0) (v' := (PlaneT.mk (decide ((Int.tmod v1_0 3) = 0)) x4_5.X x4_5.Y x4_5.W x4_5.H x4_5.Layout x4_5.Words x4_5.Alpha x4_5.Orient x4_5.ToW x4_5.ToH)) ha4_5 rfl rfl rfl ts_4 rfl rfl e4_5 (fun _ _ _ ⟨_, _, _, hp, he, h0⟩ => ⟨_, _, _, hp, by rw [he]; rfl, h0⟩) e4_7 ?_)
   refine WL.nil (En.next (WC.sr ?_))
   refine mv ?_
   refine sp (OpV.addR rfl rfl) ?_
   refine ag ?_
   refine WL.nil (En.next (WC.seq ?_))
   refine WC.inh fun hin6 => ?_
   obtain ⟨x6_3, e6_3, zh0⟩ := bnd zh0
   obtain ⟨g6_3, o6_3, ha6_3⟩ := ownAddr hin6 mq0 e6_3
   have hn6_3 := ownLen hin6 mq0
   obtain ⟨x6_5, e6_5, zh0⟩ := bnd zh0
   refine WC.region ?_
   refine mv ?_
   refine mv ?_
   refine mv ?_
   refine sp (OpV.idxA rfl rfl se_33 ha6_3 ⟨(idx_some e6_3).1, by rw [hn6_3]; exact (idx_some e6_3).2.1⟩) ?_
   refine sp (OpV.fieldAddr rfl fo_56_1) ?_
   refine WL.heavy0 rfl rfl (OpH.setFld (F := []) (A := tPlane) (off := 1) (i := v2_0) (v' := (PlaneT.mk x6_3.On (wr (v1_0 + 1)) x6_3.Y x6_3.W x6_3.H x6_3.Layout x6_3.Words x6_3.Alpha x6_3.Orient x6_3.ToW x6_3.ToH)) ha6_3 rfl rfl rfl ts_3 rfl rfl e6_3 (fun _ _ _ ⟨_, _, _, hp, he, h0⟩ => ⟨_, _, _, hp, by rw [he]; rfl, h0⟩) e6_5 ?_)
   refine WL.nil (En.next (WC.sr ?_))
   refine mv ?_
   refine sp (OpV.addR rfl rfl) ?_
   refine ag ?_
   refine WL.nil (En.next (WC.seq ?_))
   refine WC.inh fun hin8 => ?_
   obtain ⟨x8_3, e8_3, zh0⟩ := bnd zh0
   obtain ⟨g8_3, o8_3, ha8_3⟩ := ownAddr hin8 mq0 e8_3
   have hn8_3 := ownLen hin8 mq0
   obtain ⟨x8_5, e8_5, zh0⟩ := bnd zh0
   refine WC.region ?_
   refine mv ?_
   refine mv ?_
   refine mv ?_
   refine sp (OpV.idxA rfl rfl se_33 ha8_3 ⟨(idx_some e8_3).1, by rw [hn8_3]; exact (idx_some e8_3).2.1⟩) ?_
   refine sp (OpV.fieldAddr rfl fo_56_2) ?_
   refine WL.heavy0 rfl rfl (OpH.setFld (F := []) (A := tPlane) (off := 2) (i := v2_0) (v' := (PlaneT.mk x8_3.On x8_3.X (wr ((wr (v1_0 + 1)) + 1)) x8_3.W x8_3.H x8_3.Layout x8_3.Words x8_3.Alpha x8_3.Orient x8_3.ToW x8_3.ToH)) ha8_3 rfl rfl rfl ts_3 rfl rfl e8_3 (fun _ _ _ ⟨_, _, _, hp, he, h0⟩ => ⟨_, _, _, hp, by rw [he]; rfl, h0⟩) e8_5 ?_)
   refine WL.nil (En.next (WC.sr ?_))
   refine mv ?_
   refine sp (OpV.addR rfl rfl) ?_
   refine ag ?_
   refine WL.nil (En.next (WC.seq ?_))
   refine WC.inh fun hin10 => ?_
   obtain ⟨x10_3, e10_3, zh0⟩ := bnd zh0
   obtain ⟨g10_3, o10_3, ha10_3⟩ := ownAddr hin10 mq0 e10_3
   have hn10_3 := ownLen hin10 mq0
   obtain ⟨x10_5, e10_5, zh0⟩ := bnd zh0
   refine WC.region ?_
   refine mv ?_
   refine mv ?_
   refine mv ?_
   refine sp (OpV.idxA rfl rfl se_33 ha10_3 ⟨(idx_some e10_3).1, by rw [hn10_3]; exact (idx_some e10_3).2.1⟩) ?_
   refine sp (OpV.fieldAddr rfl fo_56_3) ?_
   refine WL.heavy0 rfl rfl (OpH.setFld (F := []) (A := tPlane) (off := 3) (i := v2_0) (v' := (PlaneT.mk x10_3.On x10_3.X x10_3.Y (wr ((wr ((wr (v1_0 + 1)) + 1)) + 1)) x10_3.H x10_3.Layout x10_3.Words x10_3.Alpha x10_3.Orient x10_3.ToW x10_3.ToH)) ha10_3 rfl rfl rfl ts_3 rfl rfl e10_3 (fun _ _ _ ⟨_, _, _, hp, he, h0⟩ => ⟨_, _, _, hp, by rw [he]; rfl, h0⟩) e10_5 ?_)
   refine WL.nil (En.next (WC.sr ?_))
   refine mv ?_
   refine sp (OpV.addR rfl rfl) ?_
   refine ag ?_
   refine WL.nil (En.next (WC.seq ?_))
   refine WC.inh fun hin12 => ?_
   obtain ⟨x12_3, e12_3, zh0⟩ := bnd zh0
   obtain ⟨g12_3, o12_3, ha12_3⟩ := ownAddr hin12 mq0 e12_3
   have hn12_3 := ownLen hin12 mq0
   obtain ⟨x12_5, e12_5, zh0⟩ := bnd zh0
   refine WC.region ?_
   refine mv ?_
   refine mv ?_
   refine mv ?_
   refine sp (OpV.idxA rfl rfl se_33 ha12_3 ⟨(idx_some e12_3).1, by rw [hn12_3]; exact (idx_some e12_3).2.1⟩) ?_
   refine sp (OpV.fieldAddr rfl fo_56_4) ?_
   refine WL.heavy0 rfl rfl (OpH.setFld (F := []) (A := tPlane) (off := 4) (i := v2_0) (v' := (PlaneT.mk x12_3.On x12_3.X x12_3.Y x12_3.W (wr ((wr ((wr ((wr (v1_0 + 1)) + 1)) + 1)) + 1)) x12_3.Layout x12_3.Words x12_3.Alpha x12_3.Orient x12_3.ToW x12_3.ToH)) ha12_3 rfl rfl rfl ts_3 rfl rfl e12_3 (fun _ _ _ ⟨_, _, _, hp, he, h0⟩ => ⟨_, _, _, hp, by rw [he]; rfl, h0⟩) e12_5 ?_)
   refine WL.nil (En.next (WC.sr ?_))
   refine mv ?_
   refine sp (OpV.addR rfl rfl) ?_
   refine ag ?_
   refine WL.nil (En.next (WC.seq ?_))
   refine WC.inh fun hin14 => ?_
   obtain ⟨x14_3, e14_3, zh0⟩ := bnd zh0
   obtain ⟨g14_3, o14_3, ha14_3⟩ := ownAddr hin14 mq0 e14_3
   have hn14_3 := ownLen hin14 mq0
   obtain ⟨x14_5, e14_5, zh0⟩ := bnd zh0
   refine WC.region ?_
   refine mv ?_
   refine mv ?_
   refine mv ?_
   refine sp (OpV.idxA rfl rfl se_33 ha14_3 ⟨(idx_some e14_3).1, by rw [hn14_3]; exact (idx_some e14_3).2.1⟩) ?_
   refine sp (OpV.fieldAddr rfl fo_56_5) ?_
   refine WL.heavy0 rfl rfl (OpH.setFld (F := []) (A := tPlane) (off := 5) (i := v2_0) (v' := (PlaneT.mk x14_3.On x14_3.X x14_3.Y x14_3.W x14_3.H (wr ((wr ((wr ((wr ((wr (v1_0 + 1)) + 1)) + 1)) + 1)) + 1)) x14_3.Words x14_3.Alpha x14_3.Orient x14_3.ToW x14_3.ToH)) ha14_3 rfl rfl rfl ts_3 rfl rfl e14_3 (fun _ _ _ ⟨_, _, _, hp, he, h0⟩ => ⟨_, _, _, hp, by rw [he]; rfl, h0⟩) e14_5 ?_)
   refine WL.nil (En.next (WC.sr ?_))
   refine mv ?_
   refine sp (OpV.addR rfl rfl) ?_
   refine ag ?_
   refine WL.nil (En.next (WC.seq ?_))
   refine WC.inh fun hin16 => ?_
   obtain ⟨x16_2, e16_2, zh0⟩ := bnd zh0
   obtain ⟨g16_2, o16_2, ha16_2⟩ := ownAddr hin16 mq0 e16_2
   have hn16_2 := ownLen hin16 mq0
   obtain ⟨⟨x16_6a, x16_6b⟩, e16_6, zh0⟩ := bnd zh0
   obtain ⟨x16_u, e16_u, zh0⟩ := bnd zh0
   refine WC.exF (fun w h => St.focus (F := []) e16_2 h) ?_
   rintro ⟨css16_2, fps16_2, cs16_2, fz16_2⟩ ⟨hcs16_2, hk16_2⟩
   refine WC.exF (X := (Option Addr) × Nat × (List Nat)) (Pre := fun x => match x with | (a16_2_0, c16_2_0, f16_2_0) => cs16_2 = [.bool x16_2.On, .int .i64 x16_2.X, .int .i64 x16_2.Y, .int .i64 x16_2.W, .int .i64 x16_2.H, .int .i64 x16_2.Layout, .slice a16_2_0 x16_2.Words.length c16_2_0, .int .i64 x16_2.Alpha, .int .i64 x16_2.Orient, .int .i64 x16_2.ToW, .int .i64 x16_2.ToH]) (F' := fun x => match x with | (a16_2_0, c16_2_0, f16_2_0) => (Chunk.own tInt f16_2_0 a16_2_0 x16_2.Words.length c16_2_0 x16_2.Words :: Chunk.row tPlane.T tPlane.k q0_0 x14_5.length k0_0 css16_2.flatten :: Chunk.inX tPlane css16_2 fps16_2 x14_5 v2_0.toNat :: C)) (fun w h => let ⟨a16_2_0, c16_2_0, f16_2_0, e, hs⟩ := tPlane_open (F := []) h; ⟨(a16_2_0, c16_2_0, f16_2_0), e, hs⟩) ?_
   rintro ⟨a16_2_0, c16_2_0, f16_2_0⟩ hz16_2
   replace hz16_2 : cs16_2 = [.bool x16_2.On, .int .i64 x16_2.X, .int .i64 x16_2.Y, .int .i64 x16_2.W, .int .i64 x16_2.H, .int .i64 x16_2.Layout, .slice a16_2_0 x16_2.Words.length c16_2_0, .int .i64 x16_2.Alpha, .int .i64 x16_2.Orient, .int .i64 x16_2.ToW, .int .i64 x16_2.ToH] := hz16_2
   subst hz16_2
   show WC _ _ _ _ _ _ (Chunk.own tInt f16_2_0 a16_2_0 x16_2.Words.length c16_2_0 x16_2.Words :: Chunk.row tPlane.T tPlane.k q0_0 x14_5.length k0_0 css16_2.flatten :: Chunk.inX tPlane css16_2 fps16_2 x14_5 v2_0.toNat :: C)
   refine WC.region ?_
   refine mv ?_
   refine mv ?_
   refine sp (OpV.idxA rfl rfl se_33 ha16_2 ⟨(idx_some e16_2).1, by rw [hn16_2]; exact (idx_some e16_2).2.1⟩) ?_
   refine sp (OpV.fieldAddr rfl fo_56_6) ?_
   refine sp (OpV.load1 rfl pt_23 (fun w hs => focCell (j := 6) (hs.mem mq1) hk16_2 hcs16_2 ha16_2 rfl)) ?_
   refine mv ?_
   refine WL.heavy rfl rfl rfl (OpH.callX (ec rfl (ec rfl e0)) ca_67 (fun w hs => w_laws_markIntS e16_6 hs) ?_)
   rintro _ _ ⟨g16_600, rfl, rfl⟩
   refine ag ?_
   refine WL.nil ?_
   refine En.exF (fun w h => St.unfocus (F := []) hcs16_2 hn16_2 e16_u (tPlane_mk x16_2.On x16_2.X x16_2.Y x16_2.W x16_2.H x16_2.Layout x16_6b x16_2.Alpha x16_2.Orient x16_2.ToW x16_2.ToH h)) ?_
   rintro fp16_u _
   refine En.next (WC.seq ?_)
   refine WC.inh fun hin17 => ?_
   obtain ⟨x17_3, e17_3, zh0⟩ := bnd zh0
   obtain ⟨g17_3, o17_3, ha17_3⟩ := ownAddr hin17 mq0 e17_3
   have hn17_3 := ownLen hin17 mq0
   obtain ⟨x17_5, e17_5, zh0⟩ := bnd zh0
   refine WC.region ?_
   refine mv ?_
   refine mv ?_
   refine mv ?_
   refine sp (OpV.idxA rfl rfl se_33 ha17_3 ⟨(idx_some e17_3).1, by rw [hn17_3]; exact (idx_some e17_3).2.1⟩) ?_
   refine sp (OpV.fieldAddr rfl fo_56_7) ?_
   refine WL.heavy0 rfl rfl (OpH.setFld (F := []) (A := tPlane) (off := 7) (i := v2_0) (v' := (PlaneT.mk x17_3.On x17_3.X x17_3.Y x17_3.W x17_3.H x17_3.Layout x17_3.Words x16_6a x17_3.Orient x17_3.ToW x17_3.ToH)) ha17_3 rfl rfl rfl ts_3 rfl rfl e17_3 (fun _ _ _ ⟨_, _, _, hp, he, h0⟩ => ⟨_, _, _, hp, by rw [he]; rfl, h0⟩) e17_5 ?_)
   refine WL.nil (En.next (WC.sr ?_))
   refine mv ?_
   refine sp (OpV.addR rfl rfl) ?_
   refine ag ?_
   refine WL.nil (En.next (WC.seq ?_))
   refine WC.inh fun hin19 => ?_
   obtain ⟨x19_3, e19_3, zh0⟩ := bnd zh0
   obtain ⟨g19_3, o19_3, ha19_3⟩ := ownAddr hin19 mq0 e19_3
   have hn19_3 := ownLen hin19 mq0
   obtain ⟨x19_5, e19_5, zh0⟩ := bnd zh0
   refine WC.region ?_
   refine mv ?_
   refine mv ?_
   refine mv ?_
   refine sp (OpV.idxA rfl rfl se_33 ha19_3 ⟨(idx_some e19_3).1, by rw [hn19_3]; exact (idx_some e19_3).2.1⟩) ?_
   refine sp (OpV.fieldAddr rfl fo_56_8) ?_
   refine WL.heavy0 rfl rfl (OpH.setFld (F := []) (A := tPlane) (off := 8) (i := v2_0) (v' := (PlaneT.mk x19_3.On x19_3.X x19_3.Y x19_3.W x19_3.H x19_3.Layout x19_3.Words x19_3.Alpha (wr (x16_6a + 1)) x19_3.ToW x19_3.ToH)) ha19_3 rfl rfl rfl ts_3 rfl rfl e19_3 (fun _ _ _ ⟨_, _, _, hp, he, h0⟩ => ⟨_, _, _, hp, by rw [he]; rfl, h0⟩) e19_5 ?_)
   refine WL.nil (En.next (WC.sr ?_))
   refine mv ?_
   refine sp (OpV.addR rfl rfl) ?_
   refine ag ?_
   refine WL.nil (En.next (WC.seq ?_))
   refine WC.inh fun hin21 => ?_
   obtain ⟨x21_3, e21_3, zh0⟩ := bnd zh0
   obtain ⟨g21_3, o21_3, ha21_3⟩ := ownAddr hin21 mq0 e21_3
   have hn21_3 := ownLen hin21 mq0
   obtain ⟨x21_5, e21_5, zh0⟩ := bnd zh0
   refine WC.region ?_
   refine mv ?_
   refine mv ?_
   refine mv ?_
   refine sp (OpV.idxA rfl rfl se_33 ha21_3 ⟨(idx_some e21_3).1, by rw [hn21_3]; exact (idx_some e21_3).2.1⟩) ?_
   refine sp (OpV.fieldAddr rfl fo_56_9) ?_
   refine WL.heavy0 rfl rfl (OpH.setFld (F := []) (A := tPlane) (off := 9) (i := v2_0) (v' := (PlaneT.mk x21_3.On x21_3.X x21_3.Y x21_3.W x21_3.H x21_3.Layout x21_3.Words x21_3.Alpha x21_3.Orient (wr ((wr (x16_6a + 1)) + 1)) x21_3.ToH)) ha21_3 rfl rfl rfl ts_3 rfl rfl e21_3 (fun _ _ _ ⟨_, _, _, hp, he, h0⟩ => ⟨_, _, _, hp, by rw [he]; rfl, h0⟩) e21_5 ?_)
   refine WL.nil (En.next (WC.sr ?_))
   refine mv ?_
   refine sp (OpV.addR rfl rfl) ?_
   refine ag ?_
   refine WL.nil (En.next (WC.seq ?_))
   refine WC.inh fun hin23 => ?_
   obtain ⟨x23_3, e23_3, zh0⟩ := bnd zh0
   obtain ⟨g23_3, o23_3, ha23_3⟩ := ownAddr hin23 mq0 e23_3
   have hn23_3 := ownLen hin23 mq0
   obtain ⟨x23_5, e23_5, zh0⟩ := bnd zh0
   refine WC.region ?_
   refine mv ?_
   refine mv ?_
   refine mv ?_
   refine sp (OpV.idxA rfl rfl se_33 ha23_3 ⟨(idx_some e23_3).1, by rw [hn23_3]; exact (idx_some e23_3).2.1⟩) ?_
   refine sp (OpV.fieldAddr rfl fo_56_10) ?_
   refine WL.heavy0 rfl rfl (OpH.setFld (F := []) (A := tPlane) (off := 10) (i := v2_0) (v' := (PlaneT.mk x23_3.On x23_3.X x23_3.Y x23_3.W x23_3.H x23_3.Layout x23_3.Words x23_3.Alpha x23_3.Orient x23_3.ToW (wr ((wr ((wr (x16_6a + 1)) + 1)) + 1)))) ha23_3 rfl rfl rfl ts_3 rfl rfl e23_3 (fun _ _ _ ⟨_, _, _, hp, he, h0⟩ => ⟨_, _, _, hp, by rw [he]; rfl, h0⟩) e23_5 ?_)
   refine WL.nil (En.next (WC.region ?_))
   refine mv ?_
   refine sp (OpV.addR rfl rfl) ?_
   refine ag ?_
   refine WL.nil (En.block_norm (En.next (WC.region ?_)))
   refine mv ?_
   refine sp (OpV.addR rfl rfl) ?_
   refine ag ?_
   refine WL.nil ?_
   exact En.backP zb0 zh0 fp16_u (sc (sc (sc sn))) (fun _ h => h)
  ·
   intro hc_1
   replace zh0 := ifO_f hc_1 zh0
   refine WC.exit (En.then_exit (En.then_exit ?_))
   have hx := exitP ze0 zh0
   exact En.wk _ _ (sc sn) (fun _ h => h) (zK0_0 ((v1_0, v_0), fv_0) hx.symm)

theorem w_laws_markColorMap {a_p0 : ColorMapT} {k_p1 : Int} {r : Int × (List Int) × (List Int)} {q0_0 : Option Addr} {l0_0 k0_0 : Nat} {f0_0 : List Nat} {q0_1 : Option Addr} {l0_1 k0_1 : Nat} {f0_1 : List Nat} (h : laws_markColorMap a_p0 k_p1 = some r) {w0 w : World} {C : List Chunk} (hs0 : St w0 (Chunk.own tInt f0_0 q0_0 l0_0 k0_0 a_p0.Matrix :: Chunk.own tInt f0_1 q0_1 l0_1 k0_1 a_p0.Curve :: C) w)  :
    Calls Try.prog 23 #[.agg #[.slice q0_0 l0_0 k0_0, .slice q0_1 l0_1 k0_1], .int .i64 k_p1] w (fun en w' => ∃ rv G, en = .returned rv ∧ (∃ (g0_0 : List Nat) (g0_1 : List Nat), rv = .int .i64 r.1 ∧ G = Chunk.own tInt g0_0 q0_0 l0_0 k0_0 r.2.1 :: Chunk.own tInt g0_1 q0_1 l0_1 k0_1 r.2.2 :: C) ∧ St w0 G w') := by
 unfold laws_markColorMap at h
 refine enterF hs0 (vs := [_, _]) Try.func23 rfl rfl rfl rfl ?_
 refine WC.sr ?_
 refine WL.heavy rfl rfl rfl (OpH.box rfl rfl ?_)
 intro b0_0
 refine ag ?_
 refine WL.nil (En.next (WC.seq ?_))
 obtain ⟨⟨x1_3a, x1_3b⟩, e1_3, h⟩ := bnd h
 refine WC.region ?_
 refine sp (OpV.fieldAddr rfl fo_34_0) ?_
 refine sp (OpV.loadBox rfl pt_23 mq0 rfl) ?_
 refine mv ?_
 refine WL.wkF (fun _ h => h.pm 1) ?_
 refine WL.heavy rfl rfl rfl (OpH.callX (ec rfl (ec rfl e0)) ca_67 (fun w hs => w_laws_markIntS e1_3 hs) ?_)
 rintro _ _ ⟨g1_300, rfl, rfl⟩
 refine ag ?_
 refine WL.nil (En.next (WC.seq ?_))
 obtain ⟨⟨x2_3a, x2_3b⟩, e2_3, h⟩ := bnd h
 refine WC.region ?_
 refine sp (OpV.fieldAddr rfl fo_34_1) ?_
 refine sp (OpV.loadBox rfl pt_23 mq1 rfl) ?_
 refine mv ?_
 refine WL.wkF (fun _ h => h.pm 2) ?_
 refine WL.heavy rfl rfl rfl (OpH.callX (ec rfl (ec rfl e0)) ca_67 (fun w hs => w_laws_markIntS e2_3 hs) ?_)
 rintro _ _ ⟨g2_300, rfl, rfl⟩
 refine ag ?_
 refine WL.nil (En.next (WC.sr ?_))
 refine mv ?_
 refine ag ?_
 refine WL.nil (En.next (WC.ret ?_))
 refine En.ret1 rfl (Res.tmp rfl) ?_
 obtain rfl := Option.some.inj h
 intro w' hs
 have hs := ((hs).pm 1).sub (.cons_cons _ (.cons_cons _ (.cons _ (List.Sublist.refl _))))
 exact ⟨_, _, rfl, ⟨g1_300, g2_300, rfl, rfl⟩, hs⟩

theorem w_laws_markCrtc {a_p0 : CrtcT} {k_p1 : Int} {r : Int × (List PlaneT) × (List Int) × (List Int)} {q0_0 : Option Addr} {l0_0 k0_0 : Nat} {f0_0 : List Nat} {q0_1 : Option Addr} {l0_1 k0_1 : Nat} {f0_1 : List Nat} {q0_2 : Option Addr} {l0_2 k0_2 : Nat} {f0_2 : List Nat} (h : laws_markCrtc a_p0 k_p1 = some r) {w0 w : World} {C : List Chunk} (hs0 : St w0 (Chunk.own tPlane f0_0 q0_0 l0_0 k0_0 a_p0.Planes :: Chunk.own tInt f0_1 q0_1 l0_1 k0_1 a_p0.Color.Matrix :: Chunk.own tInt f0_2 q0_2 l0_2 k0_2 a_p0.Color.Curve :: C) w)  :
    Calls Try.prog 21 #[.agg #[.int .i64 a_p0.W, .int .i64 a_p0.H, .slice q0_0 l0_0 k0_0, .slice q0_1 l0_1 k0_1, .slice q0_2 l0_2 k0_2], .int .i64 k_p1] w (fun en w' => ∃ rv G, en = .returned rv ∧ (∃ (g0_0 : List Nat) (g0_1 : List Nat) (g0_2 : List Nat), rv = .int .i64 r.1 ∧ G = Chunk.own tPlane g0_0 q0_0 l0_0 k0_0 r.2.1 :: Chunk.own tInt g0_1 q0_1 l0_1 k0_1 r.2.2.1 :: Chunk.own tInt g0_2 q0_2 l0_2 k0_2 r.2.2.2 :: C) ∧ St w0 G w') := by
 unfold laws_markCrtc at h
 refine enterF hs0 (vs := [_, _]) Try.func21 rfl rfl rfl rfl ?_
 refine WC.sr ?_
 refine WL.heavy rfl rfl rfl (OpH.box rfl rfl ?_)
 intro b0_0
 refine ag ?_
 refine WL.nil (En.next (WC.seq ?_))
 obtain ⟨⟨x1_3a, x1_3b⟩, e1_3, h⟩ := bnd h
 refine WC.region ?_
 refine sp (OpV.fieldAddr rfl fo_36_2) ?_
 refine sp (OpV.loadBox rfl pt_33 mq0 rfl) ?_
 refine mv ?_
 refine WL.wkF (fun _ h => h.pm 1) ?_
 refine WL.heavy rfl rfl rfl (OpH.callX (ec rfl (ec rfl e0)) ca_22 (fun w hs => w_laws_markPlaneS e1_3 hs) ?_)
 rintro _ _ ⟨g1_300, rfl, rfl⟩
 refine ag ?_
 refine WL.nil (En.next (WC.seq ?_))
 obtain ⟨⟨x2_3a, x2_3b, x2_3c⟩, e2_3, h⟩ := bnd h
 refine WC.region ?_
 refine sp (OpV.fieldAddr rfl fo_36_3) ?_
 refine sp (OpV.loadPart rfl mq1 ag_34 rfl rfl) ?_
 refine mv ?_
 refine WL.wkF (fun _ h => h.pm 3) ?_
 refine WL.wkF (fun _ h => h.pm 3) ?_
 refine WL.heavy rfl rfl rfl (OpH.callX (ec rfl (ec rfl e0)) ca_23 (fun w hs => w_laws_markColorMap e2_3 hs) ?_)
 rintro _ _ ⟨g2_300, g2_301, rfl, rfl⟩
 refine ag ?_
 refine WL.nil (En.next (WC.sr ?_))
 refine mv ?_
 refine ag ?_
 refine WL.nil (En.next (WC.ret ?_))
 refine En.ret1 rfl (Res.tmp rfl) ?_
 obtain rfl := Option.some.inj h
 intro w' hs
 have hs := ((((hs).pm 1).pm 1).pm 2).sub (.cons_cons _ (.cons_cons _ (.cons_cons _ (.cons _ (List.Sublist.refl _)))))
 exact ⟨_, _, rfl, ⟨g1_300, g2_300, g2_301, rfl, rfl⟩, hs⟩

theorem w_laws_markChangeS {a_p0 : List ChangeT} {a_p1 : Int} {r : Int × (List ChangeT)} {q0_0 : Option Addr} {l0_0 k0_0 : Nat} {f0_0 : List Nat} (h : laws_markChangeS a_p0 a_p1 = some r) {w0 w : World} {C : List Chunk} (hs0 : St w0 (Chunk.own tChange f0_0 q0_0 l0_0 k0_0 a_p0 :: C) w)  :
    Calls Try.prog 24 #[.slice q0_0 l0_0 k0_0, .int .i64 a_p1] w (fun en w' => ∃ rv G, en = .returned rv ∧ (∃ (g0_0 : List Nat), rv = .int .i64 r.1 ∧ G = Chunk.own tChange g0_0 q0_0 l0_0 k0_0 r.2 :: C) ∧ St w0 G w') := by
 unfold laws_markChangeS at h
 refine enterF hs0 (vs := [_, _]) Try.func24 rfl rfl rfl rfl ?_
 refine WC.sr ?_
 refine ag ?_
 refine WL.nil (En.next (WC.seq (WC.sr ?_)))
 refine ag ?_
 refine WL.nil (En.next (WC.block ?_))
 obtain ⟨zy0, ezy0, h⟩ := bnd h
 refine WC.cut (X := (Int × (List ChangeT)) × ((List Nat))) (.exit 0) (fun x => zy0 = x.1) (fun x => match x with | ((v_0e, p_0e), fp_0e) => [(1, .int .i64 v_0e)]) (fun x => match x with | ((v_0e, p_0e), fp_0e) => (Chunk.own tChange fp_0e q0_0 l0_0 k0_0 p_0e :: C)) ?_ ?_
 ·
  rintro ⟨⟨v_0e, p_0e⟩, fp_0e⟩ hx
  replace hx : (v_0e, p_0e) = zy0 := hx.symm
  subst hx
  show En _ _ _ _ [(1, .int .i64 v_0e)] (Chunk.own tChange fp_0e q0_0 l0_0 k0_0 p_0e :: C)
  refine En.block_exit (En.next (WC.sr ?_))
  refine mv ?_
  refine ag ?_
  refine WL.nil (En.next (WC.ret ?_))
  refine En.ret1 rfl (Res.tmp rfl) ?_
  obtain rfl := Option.some.inj h
  intro w' hs
  have hs := hs
  exact ⟨_, _, rfl, ⟨fp_0e, rfl, rfl⟩, hs⟩
 ·
  intro zK0_0
  refine WC.loopP (G := (List Nat)) (fun s g => match s, g with | (v_0, v1_0, v2_0), fv_0 => [(0, .slice q0_0 l0_0 k0_0), (1, .int .i64 v1_0), (5, .int .i64 v2_0)]) (fun s g => match s, g with | (v_0, v1_0, v2_0), fv_0 => (Chunk.own tChange fv_0 q0_0 l0_0 k0_0 v_0 :: C)) (a_p0, a_p1, 0) f0_0 ezy0 (by exact sc (sc (sc sn))) (by exact (fun _ h => h)) ?_
  rintro zm0 ⟨v_0, v1_0, v2_0⟩ fv_0 zo0 zf0 zb0 ze0
  have zh0 : laws_markChangeS_L0 v_0 v1_0 v2_0 = some zo0 := zf0
  unfold laws_markChangeS_L0 at zh0
  show WC _ _ _ _ _ [(0, .slice q0_0 l0_0 k0_0), (1, .int .i64 v1_0), (5, .int .i64 v2_0)] (Chunk.own tChange fv_0 q0_0 l0_0 k0_0 v_0 :: C)
  refine WC.seq (WC.sr ?_)
  refine mv ?_
  refine mv ?_
  refine sp (OpV.inhF fun hin => OpV.lenO (xs := v_0) rfl si_31 rfl (ownLen hin mq0)) ?_
  refine sp (OpV.lss rfl rfl) ?_
  refine WL.nil (En.next ?_)
  refine WC.cond rfl ?_ ?_
  ·
   intro hc_1
   replace zh0 := ifO_t hc_1 zh0
   refine WC.skip (En.next (WC.seq (WC.block (WC.seq ?_))))
   refine WC.inh fun hin4 => ?_
   obtain ⟨x4_3, e4_3, zh0⟩ := bnd zh0
   obtain ⟨g4_3, o4_3, ha4_3⟩ := ownAddr hin4 mq0 e4_3
   have hn4_3 := ownLen hin4 mq0
   obtain ⟨x4_5, e4_5, zh0⟩ := bnd zh0
   refine WC.region ?_
   refine mv ?_
   refine mv ?_
   refine mv ?_
   refine sp (OpV.idxA rfl rfl se_31 ha4_3 ⟨(idx_some e4_3).1, by rw [hn4_3]; exact (idx_some e4_3).2.1⟩) ?_
   refine sp (OpV.fieldAddr rfl fo_58_0) ?_
   refine WL.heavy0 rfl rfl (OpH.setFld (F := []) (A := tChange) (off := 0) (i := v2_0) (v' := (ChangeT.mk v1_0 x4_3.Value x4_3.Color)) ha4_3 rfl rfl rfl ts_3 rfl rfl e4_3 (fun _ _ _ ⟨_, _, _, _, _, _, _, _, _, hp, he, h0, h1, h2⟩ => ⟨_, _, _, _, _, _, _, _, _, hp, by rw [he]; rfl, h0, h1, h2⟩) e4_5 ?_)
   refine WL.nil (En.next (WC.sr ?_))
   refine mv ?_
   refine sp (OpV.addR rfl rfl) ?_
   refine ag ?_
   refine WL.nil (En.next (WC.seq ?_))
   refine WC.inh fun hin6 => ?_
   obtain ⟨x6_5, e6_5, zh0⟩ := bnd zh0
   obtain ⟨g6_5, o6_5, ha6_5⟩ := ownAddr hin6 mq0 e6_5
   have hn6_5 := ownLen hin6 mq0
   obtain ⟨x6_8, e6_8, zh0⟩ := bnd zh0
   refine WC.region ?_
   refine mv ?_
   refine mv ?_
   refine mv ?_
   refine sp (OpV.remR rfl rfl rfl) ?_
   refine sp (OpV.eql rfl rfl) ?_
   refine sp (OpV.idxA rfl rfl se_31 ha6_5 ⟨(idx_some e6_5).1, by rw [hn6_5]; exact (idx_some e6_5).2.1⟩) ?_
   refine sp (OpV.fieldAddr rfl fo_58_1) ?_
   refine sp (OpV.fieldAddr rfl fo_56_0) ?_
   refine WL.heavy0 rfl rfl (OpH.setFld (F := []) (A := tChange) (off := 1) (i := v2_0) (v' := (ChangeT.mk x6_5.Plane (PlaneT.mk (decide ((Int.tmod (wr (v1_0 + 1)) 3) = 0)) x6_5.Value.X x6_5.Value.Y x6_5.Value.W x6_5.Value.H x6_5.Value.Layout x6_5.Value.Words x6_5.Value.Alpha x6_5.Value.Orient x6_5.Value.ToW x6_5.Value.ToH) x6_5.Color)) ha6_5 rfl rfl rfl ts_4 rfl rfl e6_5 (fun _ _ _ ⟨_, _, _, _, _, _, _, _, _, hp, he, h0, h1, h2⟩ => ⟨_, _, _, _, _, _, _, _, _, hp, by rw [he]; rfl, h0, h1, h2⟩) e6_8 ?_)
   refine WL.nil (En.next (WC.sr ?_))
   refine mv ?_
   refine sp (OpV.addR rfl rfl) ?_
   refine ag ?_
   refine WL.nil (En.next (WC.seq ?_))
   refine WC.inh fun hin8 => ?_
   obtain ⟨x8_3, e8_3, zh0⟩ := bnd zh0
   obtain ⟨g8_3, o8_3, ha8_3⟩ := ownAddr hin8 mq0 e8_3
   have hn8_3 := ownLen hin8 mq0
   obtain ⟨x8_6, e8_6, zh0⟩ := bnd zh0
   refine WC.region ?_
   refine mv ?_
   refine mv ?_
   refine mv ?_
   refine sp (OpV.idxA rfl rfl se_31 ha8_3 ⟨(idx_some e8_3).1, by rw [hn8_3]; exact (idx_some e8_3).2.1⟩) ?_
   refine sp (OpV.fieldAddr rfl fo_58_1) ?_
   refine sp (OpV.fieldAddr rfl fo_56_1) ?_
   refine WL.heavy0 rfl rfl (OpH.setFld (F := []) (A := tChange) (off := 2) (i := v2_0) (v' := (ChangeT.mk x8_3.Plane (PlaneT.mk x8_3.Value.On (wr ((wr (v1_0 + 1)) + 1)) x8_3.Value.Y x8_3.Value.W x8_3.Value.H x8_3.Value.Layout x8_3.Value.Words x8_3.Value.Alpha x8_3.Value.Orient x8_3.Value.ToW x8_3.Value.ToH) x8_3.Color)) ha8_3 rfl rfl rfl ts_3 rfl rfl e8_3 (fun _ _ _ ⟨_, _, _, _, _, _, _, _, _, hp, he, h0, h1, h2⟩ => ⟨_, _, _, _, _, _, _, _, _, hp, by rw [he]; rfl, h0, h1, h2⟩) e8_6 ?_)
   refine WL.nil (En.next (WC.sr ?_))
   refine mv ?_
   refine sp (OpV.addR rfl rfl) ?_
   refine ag ?_
   refine WL.nil (En.next (WC.seq ?_))
   refine WC.inh fun hin10 => ?_
   obtain ⟨x10_3, e10_3, zh0⟩ := bnd zh0
   obtain ⟨g10_3, o10_3, ha10_3⟩ := ownAddr hin10 mq0 e10_3
   have hn10_3 := ownLen hin10 mq0
   obtain ⟨x10_6, e10_6, zh0⟩ := bnd zh0
   refine WC.region ?_
   refine mv ?_
   refine mv ?_
   refine mv ?_
   refine sp (OpV.idxA rfl rfl se_31 ha10_3 ⟨(idx_some e10_3).1, by rw [hn10_3]; exact (idx_some e10_3).2.1⟩) ?_
   refine sp (OpV.fieldAddr rfl fo_58_1) ?_
   refine sp (OpV.fieldAddr rfl fo_56_2) ?_
   refine WL.heavy0 rfl rfl (OpH.setFld (F := []) (A := tChange) (off := 3) (i := v2_0) (v' := (ChangeT.mk x10_3.Plane (PlaneT.mk x10_3.Value.On x10_3.Value.X (wr ((wr ((wr (v1_0 + 1)) + 1)) + 1)) x10_3.Value.W x10_3.Value.H x10_3.Value.Layout x10_3.Value.Words x10_3.Value.Alpha x10_3.Value.Orient x10_3.Value.ToW x10_3.Value.ToH) x10_3.Color)) ha10_3 rfl rfl rfl ts_3 rfl rfl e10_3 (fun _ _ _ ⟨_, _, _, _, _, _, _, _, _, hp, he, h0, h1, h2⟩ => ⟨_, _, _, _, _, _, _, _, _, hp, by rw [he]; rfl, h0, h1, h2⟩) e10_6 ?_)
   refine WL.nil (En.next (WC.sr ?_))
   refine mv ?_
   refine sp (OpV.addR rfl rfl) ?_
   refine ag ?_
   refine WL.nil (En.next (WC.seq ?_))
   refine WC.inh fun hin12 => ?_
   obtain ⟨x12_3, e12_3, zh0⟩ := bnd zh0
   obtain ⟨g12_3, o12_3, ha12_3⟩ := ownAddr hin12 mq0 e12_3
   have hn12_3 := ownLen hin12 mq0
   obtain ⟨x12_6, e12_6, zh0⟩ := bnd zh0
   refine WC.region ?_
   refine mv ?_
   refine mv ?_
   refine mv ?_
   refine sp (OpV.idxA rfl rfl se_31 ha12_3 ⟨(idx_some e12_3).1, by rw [hn12_3]; exact (idx_some e12_3).2.1⟩) ?_
   refine sp (OpV.fieldAddr rfl fo_58_1) ?_
   refine sp (OpV.fieldAddr rfl fo_56_3) ?_
   refine WL.heavy0 rfl rfl (OpH.setFld (F := []) (A := tChange) (off := 4) (i := v2_0) (v' := (ChangeT.mk x12_3.Plane (PlaneT.mk x12_3.Value.On x12_3.Value.X x12_3.Value.Y (wr ((wr ((wr ((wr (v1_0 + 1)) + 1)) + 1)) + 1)) x12_3.Value.H x12_3.Value.Layout x12_3.Value.Words x12_3.Value.Alpha x12_3.Value.Orient x12_3.Value.ToW x12_3.Value.ToH) x12_3.Color)) ha12_3 rfl rfl rfl ts_3 rfl rfl e12_3 (fun _ _ _ ⟨_, _, _, _, _, _, _, _, _, hp, he, h0, h1, h2⟩ => ⟨_, _, _, _, _, _, _, _, _, hp, by rw [he]; rfl, h0, h1, h2⟩) e12_6 ?_)
   refine WL.nil (En.next (WC.sr ?_))
   refine mv ?_
   refine sp (OpV.addR rfl rfl) ?_
   refine ag ?_
   refine WL.nil (En.next (WC.seq ?_))
   refine WC.inh fun hin14 => ?_
   obtain ⟨x14_3, e14_3, zh0⟩ := bnd zh0
   obtain ⟨g14_3, o14_3, ha14_3⟩ := ownAddr hin14 mq0 e14_3
   have hn14_3 := ownLen hin14 mq0
   obtain ⟨x14_6, e14_6, zh0⟩ := bnd zh0
   refine WC.region ?_
   refine mv ?_
   refine mv ?_
   refine mv ?_
   refine sp (OpV.idxA rfl rfl se_31 ha14_3 ⟨(idx_some e14_3).1, by rw [hn14_3]; exact (idx_some e14_3).2.1⟩) ?_
   refine sp (OpV.fieldAddr rfl fo_58_1) ?_
   refine sp (OpV.fieldAddr rfl fo_56_4) ?_
   refine WL.heavy0 rfl rfl (OpH.setFld (F := []) (A := tChange) (off := 5) (i := v2_0) (v' := (ChangeT.mk x14_3.Plane (PlaneT.mk x14_3.Value.On x14_3.Value.X x14_3.Value.Y x14_3.Value.W (wr ((wr ((wr ((wr ((wr (v1_0 + 1)) + 1)) + 1)) + 1)) + 1)) x14_3.Value.Layout x14_3.Value.Words x14_3.Value.Alpha x14_3.Value.Orient x14_3.Value.ToW x14_3.Value.ToH) x14_3.Color)) ha14_3 rfl rfl rfl ts_3 rfl rfl e14_3 (fun _ _ _ ⟨_, _, _, _, _, _, _, _, _, hp, he, h0, h1, h2⟩ => ⟨_, _, _, _, _, _, _, _, _, hp, by rw [he]; rfl, h0, h1, h2⟩) e14_6 ?_)
   refine WL.nil (En.next (WC.sr ?_))
   refine mv ?_
   refine sp (OpV.addR rfl rfl) ?_
   refine ag ?_
   refine WL.nil (En.next (WC.seq ?_))
   refine WC.inh fun hin16 => ?_
   obtain ⟨x16_3, e16_3, zh0⟩ := bnd zh0
   obtain ⟨g16_3, o16_3, ha16_3⟩ := ownAddr hin16 mq0 e16_3
   have hn16_3 := ownLen hin16 mq0
   obtain ⟨x16_6, e16_6, zh0⟩ := bnd zh0
   refine WC.region ?_
   refine mv ?_
   refine mv ?_
   refine mv ?_
   refine sp (OpV.idxA rfl rfl se_31 ha16_3 ⟨(idx_some e16_3).1, by rw [hn16_3]; exact (idx_some e16_3).2.1⟩) ?_
   refine sp (OpV.fieldAddr rfl fo_58_1) ?_
   refine sp (OpV.fieldAddr rfl fo_56_5) ?_
   refine WL.heavy0 rfl rfl (OpH.setFld (F := []) (A := tChange) (off := 6) (i := v2_0) (v' := (ChangeT.mk x16_3.Plane (PlaneT.mk x16_3.Value.On x16_3.Value.X x16_3.Value.Y x16_3.Value.W x16_3.Value.H (wr ((wr ((wr ((wr ((wr ((wr (v1_0 + 1)) + 1)) + 1)) + 1)) + 1)) + 1)) x16_3.Value.Words x16_3.Value.Alpha x16_3.Value.Orient x16_3.Value.ToW x16_3.Value.ToH) x16_3.Color)) ha16_3 rfl rfl rfl ts_3 rfl rfl e16_3 (fun _ _ _ ⟨_, _, _, _, _, _, _, _, _, hp, he, h0, h1, h2⟩ => ⟨_, _, _, _, _, _, _, _, _, hp, by rw [he]; rfl, h0, h1, h2⟩) e16_6 ?_)
   refine WL.nil (En.next (WC.sr ?_))
   refine mv ?_
   refine sp (OpV.addR rfl rfl) ?_
   refine ag ?_
   refine WL.nil (En.next (WC.seq ?_))
   refine WC.inh fun hin18 => ?_
   obtain ⟨x18_2, e18_2, zh0⟩ := bnd zh0
   obtain ⟨g18_2, o18_2, ha18_2⟩ := ownAddr hin18 mq0 e18_2
   have hn18_2 := ownLen hin18 mq0
   obtain ⟨⟨x18_7a, x18_7b⟩, e18_7, zh0⟩ := bnd zh0
   obtain ⟨x18_u, e18_u, zh0⟩ := bnd zh0
   refine WC.exF (fun w h => St.focus (F := []) e18_2 h) ?_
   rintro ⟨css18_2, fps18_2, cs18_2, fz18_2⟩ ⟨hcs18_2, hk18_2⟩
   refine WC.exF (X := (Option Addr) × Nat × (List Nat) × (Option Addr) × Nat × (List Nat) × (Option Addr) × Nat × (List Nat)) (Pre := fun x => match x with | (a18_2_0, c18_2_0, f18_2_0, a18_2_1, c18_2_1, f18_2_1, a18_2_2, c18_2_2, f18_2_2) => cs18_2 = [.int .i64 x18_2.Plane, .bool x18_2.Value.On, .int .i64 x18_2.Value.X, .int .i64 x18_2.Value.Y, .int .i64 x18_2.Value.W, .int .i64 x18_2.Value.H, .int .i64 x18_2.Value.Layout, .slice a18_2_0 x18_2.Value.Words.length c18_2_0, .int .i64 x18_2.Value.Alpha, .int .i64 x18_2.Value.Orient, .int .i64 x18_2.Value.ToW, .int .i64 x18_2.Value.ToH, .slice a18_2_1 x18_2.Color.Matrix.length c18_2_1, .slice a18_2_2 x18_2.Color.Curve.length c18_2_2]) (F' := fun x => match x with | (a18_2_0, c18_2_0, f18_2_0, a18_2_1, c18_2_1, f18_2_1, a18_2_2, c18_2_2, f18_2_2) => (Chunk.own tInt f18_2_0 a18_2_0 x18_2.Value.Words.length c18_2_0 x18_2.Value.Words :: Chunk.own tInt f18_2_1 a18_2_1 x18_2.Color.Matrix.length c18_2_1 x18_2.Color.Matrix :: Chunk.own tInt f18_2_2 a18_2_2 x18_2.Color.Curve.length c18_2_2 x18_2.Color.Curve :: Chunk.row tChange.T tChange.k q0_0 x16_6.length k0_0 css18_2.flatten :: Chunk.inX tChange css18_2 fps18_2 x16_6 v2_0.toNat :: C)) (fun w h => let ⟨a18_2_0, c18_2_0, f18_2_0, a18_2_1, c18_2_1, f18_2_1, a18_2_2, c18_2_2, f18_2_2, e, hs⟩ := tChange_open (F := []) h; ⟨(a18_2_0, c18_2_0, f18_2_0, a18_2_1, c18_2_1, f18_2_1, a18_2_2, c18_2_2, f18_2_2), e, hs⟩) ?_
   rintro ⟨a18_2_0, c18_2_0, f18_2_0, a18_2_1, c18_2_1, f18_2_1, a18_2_2, c18_2_2, f18_2_2⟩ hz18_2
   replace hz18_2 : cs18_2 = [.int .i64 x18_2.Plane, .bool x18_2.Value.On, .int .i64 x18_2.Value.X, .int .i64 x18_2.Value.Y, .int .i64 x18_2.Value.W, .int .i64 x18_2.Value.H, .int .i64 x18_2.Value.Layout, .slice a18_2_0 x18_2.Value.Words.length c18_2_0, .int .i64 x18_2.Value.Alpha, .int .i64 x18_2.Value.Orient, .int .i64 x18_2.Value.ToW, .int .i64 x18_2.Value.ToH, .slice a18_2_1 x18_2.Color.Matrix.length c18_2_1, .slice a18_2_2 x18_2.Color.Curve.length c18_2_2] := hz18_2
   subst hz18_2
   show WC _ _ _ _ _ _ (Chunk.own tInt f18_2_0 a18_2_0 x18_2.Value.Words.length c18_2_0 x18_2.Value.Words :: Chunk.own tInt f18_2_1 a18_2_1 x18_2.Color.Matrix.length c18_2_1 x18_2.Color.Matrix :: Chunk.own tInt f18_2_2 a18_2_2 x18_2.Color.Curve.length c18_2_2 x18_2.Color.Curve :: Chunk.row tChange.T tChange.k q0_0 x16_6.length k0_0 css18_2.flatten :: Chunk.inX tChange css18_2 fps18_2 x16_6 v2_0.toNat :: C)
   refine WC.region ?_
   refine mv ?_
   refine mv ?_
   refine sp (OpV.idxA rfl rfl se_31 ha18_2 ⟨(idx_some e18_2).1, by rw [hn18_2]; exact (idx_some e18_2).2.1⟩) ?_
   refine sp (OpV.fieldAddr rfl fo_58_1) ?_
   refine sp (OpV.fieldAddr rfl fo_56_6) ?_
   refine sp (OpV.load1 rfl pt_23 (fun w hs => focCell (j := 7) (hs.mem mq3) hk18_2 hcs18_2 ha18_2 rfl)) ?_
   refine mv ?_
   refine WL.heavy rfl rfl rfl (OpH.callX (ec rfl (ec rfl e0)) ca_67 (fun w hs => w_laws_markIntS e18_7 hs) ?_)
   rintro _ _ ⟨g18_700, rfl, rfl⟩
   refine ag ?_
   refine WL.nil ?_
   refine En.exF (fun w h => St.unfocus (F := []) hcs18_2 hn18_2 e18_u (tChange_mk x18_2.Plane (PlaneT.mk x18_2.Value.On x18_2.Value.X x18_2.Value.Y x18_2.Value.W x18_2.Value.H x18_2.Value.Layout x18_7b x18_2.Value.Alpha x18_2.Value.Orient x18_2.Value.ToW x18_2.Value.ToH) x18_2.Color h)) ?_
   rintro fp18_u _
   refine En.next (WC.seq ?_)
   refine WC.inh fun hin19 => ?_
   obtain ⟨x19_3, e19_3, zh0⟩ := bnd zh0
   obtain ⟨g19_3, o19_3, ha19_3⟩ := ownAddr hin19 mq0 e19_3
   have hn19_3 := ownLen hin19 mq0
   obtain ⟨x19_6, e19_6, zh0⟩ := bnd zh0
   refine WC.region ?_
   refine mv ?_
   refine mv ?_
   refine mv ?_
   refine sp (OpV.idxA rfl rfl se_31 ha19_3 ⟨(idx_some e19_3).1, by rw [hn19_3]; exact (idx_some e19_3).2.1⟩) ?_
   refine sp (OpV.fieldAddr rfl fo_58_1) ?_
   refine sp (OpV.fieldAddr rfl fo_56_7) ?_
   refine WL.heavy0 rfl rfl (OpH.setFld (F := []) (A := tChange) (off := 8) (i := v2_0) (v' := (ChangeT.mk x19_3.Plane (PlaneT.mk x19_3.Value.On x19_3.Value.X x19_3.Value.Y x19_3.Value.W x19_3.Value.H x19_3.Value.Layout x19_3.Value.Words x18_7a x19_3.Value.Orient x19_3.Value.ToW x19_3.Value.ToH) x19_3.Color)) ha19_3 rfl rfl rfl ts_3 rfl rfl e19_3 (fun _ _ _ ⟨_, _, _, _, _, _, _, _, _, hp, he, h0, h1, h2⟩ => ⟨_, _, _, _, _, _, _, _, _, hp, by rw [he]; rfl, h0, h1, h2⟩) e19_6 ?_)
   refine WL.nil (En.next (WC.sr ?_))
   refine mv ?_
   refine sp (OpV.addR rfl rfl) ?_
   refine ag ?_
   refine WL.nil (En.next (WC.seq ?_))
   refine WC.inh fun hin21 => ?_
   obtain ⟨x21_3, e21_3, zh0⟩ := bnd zh0
   obtain ⟨g21_3, o21_3, ha21_3⟩ := ownAddr hin21 mq0 e21_3
   have hn21_3 := ownLen hin21 mq0
   obtain ⟨x21_6, e21_6, zh0⟩ := bnd zh0
   refine WC.region ?_
   refine mv ?_
   refine mv ?_
   refine mv ?_
   refine sp (OpV.idxA rfl rfl se_31 ha21_3 ⟨(idx_some e21_3).1, by rw [hn21_3]; exact (idx_some e21_3).2.1⟩) ?_
   refine sp (OpV.fieldAddr rfl fo_58_1) ?_
   refine sp (OpV.fieldAddr rfl fo_56_8) ?_
   refine WL.heavy0 rfl rfl (OpH.setFld (F := []) (A := tChange) (off := 9) (i := v2_0) (v' := (ChangeT.mk x21_3.Plane (PlaneT.mk x21_3.Value.On x21_3.Value.X x21_3.Value.Y x21_3.Value.W x21_3.Value.H x21_3.Value.Layout x21_3.Value.Words x21_3.Value.Alpha (wr (x18_7a + 1)) x21_3.Value.ToW x21_3.Value.ToH) x21_3.Color)) ha21_3 rfl rfl rfl ts_3 rfl rfl e21_3 (fun _ _ _ ⟨_, _, _, _, _, _, _, _, _, hp, he, h0, h1, h2⟩ => ⟨_, _, _, _, _, _, _, _, _, hp, by rw [he]; rfl, h0, h1, h2⟩) e21_6 ?_)
   refine WL.nil (En.next (WC.sr ?_))
   refine mv ?_
   refine sp (OpV.addR rfl rfl) ?_
   refine ag ?_
   refine WL.nil (En.next (WC.seq ?_))
   refine WC.inh fun hin23 => ?_
   obtain ⟨x23_3, e23_3, zh0⟩ := bnd zh0
   obtain ⟨g23_3, o23_3, ha23_3⟩ := ownAddr hin23 mq0 e23_3
   have hn23_3 := ownLen hin23 mq0
   obtain ⟨x23_6, e23_6, zh0⟩ := bnd zh0
   refine WC.region ?_
   refine mv ?_
   refine mv ?_
   refine mv ?_
   refine sp (OpV.idxA rfl rfl se_31 ha23_3 ⟨(idx_some e23_3).1, by rw [hn23_3]; exact (idx_some e23_3).2.1⟩) ?_
   refine sp (OpV.fieldAddr rfl fo_58_1) ?_
   refine sp (OpV.fieldAddr rfl fo_56_9) ?_
   refine WL.heavy0 rfl rfl (OpH.setFld (F := []) (A := tChange) (off := 10) (i := v2_0) (v' := (ChangeT.mk x23_3.Plane (PlaneT.mk x23_3.Value.On x23_3.Value.X x23_3.Value.Y x23_3.Value.W x23_3.Value.H x23_3.Value.Layout x23_3.Value.Words x23_3.Value.Alpha x23_3.Value.Orient (wr ((wr (x18_7a + 1)) + 1)) x23_3.Value.ToH) x23_3.Color)) ha23_3 rfl rfl rfl ts_3 rfl rfl e23_3 (fun _ _ _ ⟨_, _, _, _, _, _, _, _, _, hp, he, h0, h1, h2⟩ => ⟨_, _, _, _, _, _, _, _, _, hp, by rw [he]; rfl, h0, h1, h2⟩) e23_6 ?_)
   refine WL.nil (En.next (WC.sr ?_))
   refine mv ?_
   refine sp (OpV.addR rfl rfl) ?_
   refine ag ?_
   refine WL.nil (En.next (WC.seq ?_))
   refine WC.inh fun hin25 => ?_
   obtain ⟨x25_3, e25_3, zh0⟩ := bnd zh0
   obtain ⟨g25_3, o25_3, ha25_3⟩ := ownAddr hin25 mq0 e25_3
   have hn25_3 := ownLen hin25 mq0
   obtain ⟨x25_6, e25_6, zh0⟩ := bnd zh0
   refine WC.region ?_
   refine mv ?_
   refine mv ?_
   refine mv ?_
   refine sp (OpV.idxA rfl rfl se_31 ha25_3 ⟨(idx_some e25_3).1, by rw [hn25_3]; exact (idx_some e25_3).2.1⟩) ?_
   refine sp (OpV.fieldAddr rfl fo_58_1) ?_
   refine sp (OpV.fieldAddr rfl fo_56_10) ?_
   refine WL.heavy0 rfl rfl (OpH.setFld (F := []) (A := tChange) (off := 11) (i := v2_0) (v' := (ChangeT.mk x25_3.Plane (PlaneT.mk x25_3.Value.On x25_3.Value.X x25_3.Value.Y x25_3.Value.W x25_3.Value.H x25_3.Value.Layout x25_3.Value.Words x25_3.Value.Alpha x25_3.Value.Orient x25_3.Value.ToW (wr ((wr ((wr (x18_7a + 1)) + 1)) + 1))) x25_3.Color)) ha25_3 rfl rfl rfl ts_3 rfl rfl e25_3 (fun _ _ _ ⟨_, _, _, _, _, _, _, _, _, hp, he, h0, h1, h2⟩ => ⟨_, _, _, _, _, _, _, _, _, hp, by rw [he]; rfl, h0, h1, h2⟩) e25_6 ?_)
   refine WL.nil (En.next (WC.sr ?_))
   refine mv ?_
   refine sp (OpV.addR rfl rfl) ?_
   refine ag ?_
   refine WL.nil (En.next (WC.seq ?_))
   refine WC.inh fun hin27 => ?_
   obtain ⟨x27_2, e27_2, zh0⟩ := bnd zh0
   obtain ⟨g27_2, o27_2, ha27_2⟩ := ownAddr hin27 mq0 e27_2
   have hn27_2 := ownLen hin27 mq0
   obtain ⟨⟨x27_7a, x27_7b⟩, e27_7, zh0⟩ := bnd zh0
   obtain ⟨x27_u, e27_u, zh0⟩ := bnd zh0
   refine WC.exF (fun w h => St.focus (F := []) e27_2 h) ?_
   rintro ⟨css27_2, fps27_2, cs27_2, fz27_2⟩ ⟨hcs27_2, hk27_2⟩
   refine WC.exF (X := (Option Addr) × Nat × (List Nat) × (Option Addr) × Nat × (List Nat) × (Option Addr) × Nat × (List Nat)) (Pre := fun x => match x with | (a27_2_0, c27_2_0, f27_2_0, a27_2_1, c27_2_1, f27_2_1, a27_2_2, c27_2_2, f27_2_2) => cs27_2 = [.int .i64 x27_2.Plane, .bool x27_2.Value.On, .int .i64 x27_2.Value.X, .int .i64 x27_2.Value.Y, .int .i64 x27_2.Value.W, .int .i64 x27_2.Value.H, .int .i64 x27_2.Value.Layout, .slice a27_2_0 x27_2.Value.Words.length c27_2_0, .int .i64 x27_2.Value.Alpha, .int .i64 x27_2.Value.Orient, .int .i64 x27_2.Value.ToW, .int .i64 x27_2.Value.ToH, .slice a27_2_1 x27_2.Color.Matrix.length c27_2_1, .slice a27_2_2 x27_2.Color.Curve.length c27_2_2]) (F' := fun x => match x with | (a27_2_0, c27_2_0, f27_2_0, a27_2_1, c27_2_1, f27_2_1, a27_2_2, c27_2_2, f27_2_2) => (Chunk.own tInt f27_2_0 a27_2_0 x27_2.Value.Words.length c27_2_0 x27_2.Value.Words :: Chunk.own tInt f27_2_1 a27_2_1 x27_2.Color.Matrix.length c27_2_1 x27_2.Color.Matrix :: Chunk.own tInt f27_2_2 a27_2_2 x27_2.Color.Curve.length c27_2_2 x27_2.Color.Curve :: Chunk.row tChange.T tChange.k q0_0 x25_6.length k0_0 css27_2.flatten :: Chunk.inX tChange css27_2 fps27_2 x25_6 v2_0.toNat :: C)) (fun w h => let ⟨a27_2_0, c27_2_0, f27_2_0, a27_2_1, c27_2_1, f27_2_1, a27_2_2, c27_2_2, f27_2_2, e, hs⟩ := tChange_open (F := []) h; ⟨(a27_2_0, c27_2_0, f27_2_0, a27_2_1, c27_2_1, f27_2_1, a27_2_2, c27_2_2, f27_2_2), e, hs⟩) ?_
   rintro ⟨a27_2_0, c27_2_0, f27_2_0, a27_2_1, c27_2_1, f27_2_1, a27_2_2, c27_2_2, f27_2_2⟩ hz27_2
   replace hz27_2 : cs27_2 = [.int .i64 x27_2.Plane, .bool x27_2.Value.On, .int .i64 x27_2.Value.X, .int .i64 x27_2.Value.Y, .int .i64 x27_2.Value.W, .int .i64 x27_2.Value.H, .int .i64 x27_2.Value.Layout, .slice a27_2_0 x27_2.Value.Words.length c27_2_0, .int .i64 x27_2.Value.Alpha, .int .i64 x27_2.Value.Orient, .int .i64 x27_2.Value.ToW, .int .i64 x27_2.Value.ToH, .slice a27_2_1 x27_2.Color.Matrix.length c27_2_1, .slice a27_2_2 x27_2.Color.Curve.length c27_2_2] := hz27_2
   subst hz27_2
   show WC _ _ _ _ _ _ (Chunk.own tInt f27_2_0 a27_2_0 x27_2.Value.Words.length c27_2_0 x27_2.Value.Words :: Chunk.own tInt f27_2_1 a27_2_1 x27_2.Color.Matrix.length c27_2_1 x27_2.Color.Matrix :: Chunk.own tInt f27_2_2 a27_2_2 x27_2.Color.Curve.length c27_2_2 x27_2.Color.Curve :: Chunk.row tChange.T tChange.k q0_0 x25_6.length k0_0 css27_2.flatten :: Chunk.inX tChange css27_2 fps27_2 x25_6 v2_0.toNat :: C)
   refine WC.region ?_
   refine mv ?_
   refine mv ?_
   refine sp (OpV.idxA rfl rfl se_31 ha27_2 ⟨(idx_some e27_2).1, by rw [hn27_2]; exact (idx_some e27_2).2.1⟩) ?_
   refine sp (OpV.fieldAddr rfl fo_58_2) ?_
   refine sp (OpV.fieldAddr rfl fo_34_0) ?_
   refine sp (OpV.load1 rfl pt_23 (fun w hs => focCell (j := 12) (hs.mem mq3) hk27_2 hcs27_2 ha27_2 rfl)) ?_
   refine mv ?_
   refine WL.wkF (fun _ h => h.pm 1) ?_
   refine WL.heavy rfl rfl rfl (OpH.callX (ec rfl (ec rfl e0)) ca_67 (fun w hs => w_laws_markIntS e27_7 hs) ?_)
   rintro _ _ ⟨g27_700, rfl, rfl⟩
   refine ag ?_
   refine WL.nil ?_
   refine En.wk _ _ (Sub.refl _) (fun _ h => (((((h).pm 4).pm 4).pm 4).pm 3).pm 4) ?_
   refine En.exF (fun w h => St.unfocus (F := []) hcs27_2 hn27_2 e27_u (tChange_mk x27_2.Plane x27_2.Value (ColorMapT.mk x27_7b x27_2.Color.Curve) h)) ?_
   rintro fp27_u _
   refine En.next ?_
   refine WC.inh fun hin28 => ?_
   obtain ⟨x28_2, e28_2, zh0⟩ := bnd zh0
   obtain ⟨g28_2, o28_2, ha28_2⟩ := ownAddr hin28 mq0 e28_2
   have hn28_2 := ownLen hin28 mq0
   obtain ⟨⟨x28_7a, x28_7b⟩, e28_7, zh0⟩ := bnd zh0
   obtain ⟨x28_u, e28_u, zh0⟩ := bnd zh0
   refine WC.exF (fun w h => St.focus (F := []) e28_2 h) ?_
   rintro ⟨css28_2, fps28_2, cs28_2, fz28_2⟩ ⟨hcs28_2, hk28_2⟩
   refine WC.exF (X := (Option Addr) × Nat × (List Nat) × (Option Addr) × Nat × (List Nat) × (Option Addr) × Nat × (List Nat)) (Pre := fun x => match x with | (a28_2_0, c28_2_0, f28_2_0, a28_2_1, c28_2_1, f28_2_1, a28_2_2, c28_2_2, f28_2_2) => cs28_2 = [.int .i64 x28_2.Plane, .bool x28_2.Value.On, .int .i64 x28_2.Value.X, .int .i64 x28_2.Value.Y, .int .i64 x28_2.Value.W, .int .i64 x28_2.Value.H, .int .i64 x28_2.Value.Layout, .slice a28_2_0 x28_2.Value.Words.length c28_2_0, .int .i64 x28_2.Value.Alpha, .int .i64 x28_2.Value.Orient, .int .i64 x28_2.Value.ToW, .int .i64 x28_2.Value.ToH, .slice a28_2_1 x28_2.Color.Matrix.length c28_2_1, .slice a28_2_2 x28_2.Color.Curve.length c28_2_2]) (F' := fun x => match x with | (a28_2_0, c28_2_0, f28_2_0, a28_2_1, c28_2_1, f28_2_1, a28_2_2, c28_2_2, f28_2_2) => (Chunk.own tInt f28_2_0 a28_2_0 x28_2.Value.Words.length c28_2_0 x28_2.Value.Words :: Chunk.own tInt f28_2_1 a28_2_1 x28_2.Color.Matrix.length c28_2_1 x28_2.Color.Matrix :: Chunk.own tInt f28_2_2 a28_2_2 x28_2.Color.Curve.length c28_2_2 x28_2.Color.Curve :: Chunk.row tChange.T tChange.k q0_0 x27_u.length k0_0 css28_2.flatten :: Chunk.inX tChange css28_2 fps28_2 x27_u v2_0.toNat :: C)) (fun w h => let ⟨a28_2_0, c28_2_0, f28_2_0, a28_2_1, c28_2_1, f28_2_1, a28_2_2, c28_2_2, f28_2_2, e, hs⟩ := tChange_open (F := []) h; ⟨(a28_2_0, c28_2_0, f28_2_0, a28_2_1, c28_2_1, f28_2_1, a28_2_2, c28_2_2, f28_2_2), e, hs⟩) ?_
   rintro ⟨a28_2_0, c28_2_0, f28_2_0, a28_2_1, c28_2_1, f28_2_1, a28_2_2, c28_2_2, f28_2_2⟩ hz28_2
   replace hz28_2 : cs28_2 = [.int .i64 x28_2.Plane, .bool x28_2.Value.On, .int .i64 x28_2.Value.X, .int .i64 x28_2.Value.Y, .int .i64 x28_2.Value.W, .int .i64 x28_2.Value.H, .int .i64 x28_2.Value.Layout, .slice a28_2_0 x28_2.Value.Words.length c28_2_0, .int .i64 x28_2.Value.Alpha, .int .i64 x28_2.Value.Orient, .int .i64 x28_2.Value.ToW, .int .i64 x28_2.Value.ToH, .slice a28_2_1 x28_2.Color.Matrix.length c28_2_1, .slice a28_2_2 x28_2.Color.Curve.length c28_2_2] := hz28_2
   subst hz28_2
   show WC _ _ _ _ _ _ (Chunk.own tInt f28_2_0 a28_2_0 x28_2.Value.Words.length c28_2_0 x28_2.Value.Words :: Chunk.own tInt f28_2_1 a28_2_1 x28_2.Color.Matrix.length c28_2_1 x28_2.Color.Matrix :: Chunk.own tInt f28_2_2 a28_2_2 x28_2.Color.Curve.length c28_2_2 x28_2.Color.Curve :: Chunk.row tChange.T tChange.k q0_0 x27_u.length k0_0 css28_2.flatten :: Chunk.inX tChange css28_2 fps28_2 x27_u v2_0.toNat :: C)
   refine WC.region ?_
   refine mv ?_
   refine mv ?_
   refine sp (OpV.idxA rfl rfl se_31 ha28_2 ⟨(idx_some e28_2).1, by rw [hn28_2]; exact (idx_some e28_2).2.1⟩) ?_
   refine sp (OpV.fieldAddr rfl fo_58_2) ?_
   refine sp (OpV.fieldAddr rfl fo_34_1) ?_
   refine sp (OpV.load1 rfl pt_23 (fun w hs => focCell (j := 13) (hs.mem mq3) hk28_2 hcs28_2 ha28_2 rfl)) ?_
   refine mv ?_
   refine WL.wkF (fun _ h => h.pm 2) ?_
   refine WL.heavy rfl rfl rfl (OpH.callX (ec rfl (ec rfl e0)) ca_67 (fun w hs => w_laws_markIntS e28_7 hs) ?_)
   rintro _ _ ⟨g28_700, rfl, rfl⟩
   refine ag ?_
   refine WL.nil ?_
   refine En.wk _ _ (Sub.refl _) (fun _ h => (((((h).pm 4).pm 4).pm 2).pm 4).pm 4) ?_
   refine En.exF (fun w h => St.unfocus (F := []) hcs28_2 hn28_2 e28_u (tChange_mk x28_2.Plane x28_2.Value (ColorMapT.mk x28_2.Color.Matrix x28_7b) h)) ?_
   rintro fp28_u _
   refine En.block_norm (En.next (WC.region ?_))
   refine mv ?_
   refine sp (OpV.addR rfl rfl) ?_
   refine ag ?_
   refine WL.nil ?_
   exact En.backP zb0 zh0 fp28_u (sc (sc (sc sn))) (fun _ h => h)
  ·
   intro hc_1
   replace zh0 := ifO_f hc_1 zh0
   refine WC.exit (En.then_exit (En.then_exit ?_))
   have hx := exitP ze0 zh0
   exact En.wk _ _ (sc sn) (fun _ h => h) (zK0_0 ((v1_0, v_0), fv_0) hx.symm)

theorem w_laws_heldIntS {a_p0 : List Int} {k_p1 : Int} {r : Int} {q0_0 : Option Addr} {l0_0 k0_0 : Nat} (h : laws_heldIntS a_p0 k_p1 = some r) {w : World} (r0_0 : Rd tInt w q0_0 l0_0 k0_0 a_p0)   :
    Calls Try.prog 68 #[.slice q0_0 l0_0 k0_0, .int .i64 k_p1] w (fun en w' => en = .returned (.int .i64 r) ∧ Ext w w') := by
 obtain rfl := r0_0.1
 unfold laws_heldIntS at h
 refine enter (vs := [_, _]) Try.func68 rfl rfl rfl rfl ?_
 refine WC.sr ?_
 refine ag ?_
 refine WL.nil (En.next (WC.seq (WC.sr ?_)))
 refine ag ?_
 refine WL.nil (En.next (WC.block ?_))
 obtain ⟨zy0, ezy0, h⟩ := bnd h
 refine WC.cut (X := (Int) × (Unit)) (.exit 0) (fun x => zy0 = .inl x.1) (fun x => match x with | (k_0e, ()) => [(1, .int .i64 k_0e)]) (fun x => match x with | (k_0e, ()) => []) ?_ ?_
 ·
  rintro ⟨k_0e, ⟨⟩⟩ hx
  replace hx : .inl k_0e = zy0 := hx.symm
  subst hx
  replace h := fork_l h
  show En _ _ _ _ [(1, .int .i64 k_0e)] []
  refine En.block_exit (En.next (WC.sr ?_))
  refine mv ?_
  refine ag ?_
  refine WL.nil (En.next (WC.ret ?_))
  refine En.ret1 rfl (Res.tmp rfl) ?_
  obtain rfl := Option.some.inj h
  intro w' hs
  exact ⟨rfl, hs.below⟩
 ·
  intro zK0_0
  refine WC.loopP (G := Unit) (fun s g => match s, g with | (k_0, i_0), () => [(0, .slice q0_0 a_p0.length k0_0), (1, .int .i64 k_0), (5, .int .i64 i_0)]) (fun s g => match s, g with | (k_0, i_0), () => []) (k_p1, 0) () ezy0 (by exact sc (sc (sc sn))) (by exact (fun _ h => h)) ?_
  rintro zm0 ⟨k_0, i_0⟩ ⟨⟩ zo0 zf0 zb0 ze0
  have zh0 : laws_heldIntS_L0 a_p0 k_0 i_0 = some zo0 := zf0
  unfold laws_heldIntS_L0 at zh0
  show WC _ _ _ _ _ [(0, .slice q0_0 a_p0.length k0_0), (1, .int .i64 k_0), (5, .int .i64 i_0)] []
  refine WC.seq (WC.sr ?_)
  refine mv ?_
  refine mv ?_
  refine sp (OpV.len rfl si_23 rfl) ?_
  refine sp (OpV.lss rfl rfl) ?_
  refine WL.nil (En.next ?_)
  refine WC.cond rfl ?_ ?_
  ·
   intro hc_1
   replace zh0 := ifO_t hc_1 zh0
   refine WC.skip (En.next (WC.seq (WC.block (WC.seq (WC.seq ?_)))))
   obtain ⟨x4_2, e4_2, zh0⟩ := bnd zh0
   obtain ⟨g4_2, o4_2, _, ha4_2, rfl, hd4_2⟩ := Rd.atIdx r0_0 e4_2
   replace hd4_2 : ∀ (j : Nat) v, ([.int .i64 x4_2] : List Value)[j]? = some v → w.cell? ⟨g4_2, o4_2 + i_0.toNat * 1 + j, .none⟩ = some v := hd4_2
   refine WC.region ?_
   refine mv ?_
   refine mv ?_
   refine sp (OpV.idxA rfl rfl se_23 ha4_2 ⟨(idx_some e4_2).1, (idx_some e4_2).2.1⟩) ?_
   refine sp (OpV.load1 rfl pt_3 (fun w hs => hs.cell (hd4_2 0 _ rfl))) ?_
   refine mv ?_
   refine sp (OpV.neq rfl rfl) ?_
   refine WL.nil (En.next ?_)
   refine WC.cond rfl ?_ ?_
   ·
    intro hc_2
    replace zh0 := ifO_t hc_2 zh0
    refine WC.sr ?_
    refine ag ?_
    refine WL.nil (En.next (WC.ret (En.then_ret (En.block_ret (En.then_ret (En.then_ret (En.block_ret (En.then_ret ?_))))))))
    refine En.ret1 rfl (Res.tmp rfl) ?_
    have hx := exitP ze0 zh0
    subst hx
    replace h := fork_r h
    obtain rfl := Option.some.inj h
    intro w' hs
    exact ⟨rfl, hs.below⟩
   ·
    intro hc_2
    replace zh0 := ifO_f hc_2 zh0
    refine WC.skip (En.next (WC.region ?_))
    refine mv ?_
    refine sp (OpV.addR rfl rfl) ?_
    refine ag ?_
    refine WL.nil (En.block_norm (En.next (WC.region ?_)))
    refine mv ?_
    refine sp (OpV.addR rfl rfl) ?_
    refine ag ?_
    refine WL.nil ?_
    exact En.backP zb0 zh0 () (sc (sc (sc sn))) (fun _ h => h)
  ·
   intro hc_1
   replace zh0 := ifO_f hc_1 zh0
   refine WC.exit (En.then_exit (En.then_exit ?_))
   have hx := exitP ze0 zh0
   exact En.wk _ _ (sc sn) (fun _ h => h) (zK0_0 (k_0, ()) hx.symm)

end Go.Proofs.Ytmhalmnbgkpmnaa
